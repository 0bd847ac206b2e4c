import Derived.Test.YtbbicpheoakeeaaGreatDoorX6
import Derived.Lib.Bytealg
import Derived.Lib.MakeNoZero
set_option linter.all false
set_option maxRecDepth 100000
set_option maxHeartbeats 4000000
namespace Go.Sx
variable {m m' m1 m2:Mem}{c:Cls}{r:Option (Nat×AB)}{rs:List Rec}{op:OpC}{fn:Func}{vs' vs2:C8}
section
open Go
variable [Ora]
def A1A(ops:Array Oper)(X:Nat->Qs)(i:Nat)(o:Oper):Bool:=FZ o.op i ((X6 ops.toList []).getD i []) ((X6 ops.toList []).drop (i+1)) (ops.toList.drop (i+1)) (X i)
structure Rg (P:Program) (base gl nt:Nat) (call:N9) (ops:Array Oper) (F:Nat->Fr) (M:Nat->Mem) (V:Nat->Value) (R:Nat->List Rec) (X:Nat->Qs) (B:Nat->Bool):Prop where
 st:∀ i o,ops[i]? = some o->EP P nt gl call ops.toList ((X6 ops.toList []).getD i []) (R i) (B i) o (F i) (F (i+1)) (M i) (M (i+1)) (V i)
 rc:∀ i o,ops[i]? = some o->(R (i+1)=R i/\∃ lg,M (i+1)=(M i).wLg lg)∨(B i=true/\R (i+1)=[])∨R (i+1)=⟨i,(M i).n,(M (i+1)).n⟩::R i
 qs:∀ i o,ops[i]? = some o->QsN (B i) i nt ops.toList (V3 P call o) ((X6 ops.toList []).getD i []) (R i) (F i) o (M i) (M (i+1)) (V i) (X i) (X (i+1))
 sb:∀ i o,ops[i]? = some o->B i=true->A1A ops X i o=true
 x0:X 0=[]
 ok:HD ops.toList (X6 ops.toList []) ops.toList 0=true
structure Ph (ops:Array Oper) (B:Nat->Bool) (M:Nat->Mem) (lo up:Nat):Prop where
 le:lo<=up
 sz:up<=ops.size
 nh:(M lo).n<=(M lo).hi
 mx:∀ i o,lo<=i->i<up->ops[i]? = some o->B i=false
section
variable {P:Program} {base gl nt:Nat} {call:N9} {ops:Array Oper} {F:Nat->Fr} {M:Nat->Mem} {V:Nat->Value} {R:Nat->List Rec} {X:Nat->Qs} {B:Nat->Bool} {lo up:Nat}
def O7{i:Nat}(h:i<ops.size):∃ o,ops[i]? = some o:=⟨ops[i],by simp[h]⟩
def Rg.one(g:Rg P base gl nt call ops F M V R X B){i:Nat}{o:Oper}(k:ops[i]? = some o)(d:B i=false)(b:(M i).n<=(M i).hi):(M i).n<=(M (i+1)).n/\(M i).hi<=(M (i+1)).hi/\(M (i+1)).n<=(M (i+1)).hi/\(M (i+1)).W=(M i).W /\
  ∀ id,id<=H3->(id<(M i).n∨(M (i+1)).n<=id)->Hp.get (M (i+1)).H id=Hp.get (M i).H id:=by
 obtain⟨_,_,_,h⟩:=g.st i o k;rcases h with⟨_,lg,_,_,h⟩|⟨_,lg,f,_,_,h⟩|⟨h,_⟩|⟨_,_,lg,_,mv,m',_,_,_,a,hm⟩
 .rw[h];exact⟨A6 _,A6 _,b,rfl,fun _ _ _=>rfl⟩
 .rw[h];exact⟨A6 _,A6 _,b,rfl,fun _ _ _=>rfl⟩
 .rw[d]at h;cases h
 .obtain⟨h1,e,h3,l,_,_,_,j⟩:=HJ hm b a;exact⟨h1,e,h3,l,fun id hid hh=>by rw[j id hid,A7 (by show ¬ ((M i).n<=id/\_);omega)];rfl⟩
def Rg.allD(g:Rg P base gl nt call ops F M V R X B)(a:Ph ops B M lo up):∀ d,lo+d<=up->(M lo).n<=(M (lo+d)).n/\(M lo).hi<=(M (lo+d)).hi/\(M (lo+d)).n<=(M (lo+d)).hi/\(M (lo+d)).W=(M lo).W /\
  ∀ id,id<=H3->(id<(M lo).n∨(M (lo+d)).n<=id)->Hp.get (M (lo+d)).H id=Hp.get (M lo).H id
 | 0,_=>⟨A6 _,A6 _,a.nh,rfl,fun _ _ _=>rfl⟩
 | d+1,h=>by
   obtain⟨h1,f,h3,s,l⟩:=g.allD a d A2;obtain⟨o,b⟩:=O7 (ops:=ops) (i:=lo+d) (by have:=a.sz;omega);obtain⟨q,e,j,p,k⟩:=g.one b (a.mx _ o A2 A2 b) h3;exact⟨B9 h1 q,B9 f e,j,p.trans s,fun id hid hh=>by
    rw[show lo+(d+1)=lo+d+1 by omega]at hh ⊢;rw[k id hid A2,l id hid A2]⟩
def Rg.all(g:Rg P base gl nt call ops F M V R X B)(a:Ph ops B M lo up){i:Nat}(h0:lo<=i)(h:i<=up):(M lo).n<=(M i).n/\(M lo).hi<=(M i).hi/\(M i).n<=(M i).hi/\(M i).W=(M lo).W /\
  ∀ id,id<=H3->(id<(M lo).n∨(M i).n<=id)->Hp.get (M i).H id=Hp.get (M lo).H id:=by
 have:=g.allD a (i-lo) A2
 rwa[show lo+(i-lo)=i by omega]at this
def Rg.mono(g:Rg P base gl nt call ops F M V R X B)(a:Ph ops B M lo up){i:Nat}(h0:lo<=i):∀ d,i+d<=up->(M i).n<=(M (i+d)).n/\(M i).hi<=(M (i+d)).hi/\∀ id,id<=H3->id<(M i).n->Hp.get (M (i+d)).H id=Hp.get (M i).H id
 | 0,_=>⟨A6 _,A6 _,fun _ _ _=>rfl⟩
 | d+1,h=>by
   obtain⟨h1,f,k⟩:=g.mono a h0 d A2;obtain⟨o,b⟩:=O7 (ops:=ops) (i:=i+d) (by have:=a.sz;omega);obtain⟨l,e,p,q,j⟩:=g.one b (a.mx _ o A2 A2 b) (g.all a (i:=i+d) A2 A2).2.2.1;exact⟨B9 h1 l,B9 f e,fun id hid hh=>by rw[show i+(d+1)=i+d+1 by omega,j id hid A2,k id hid hh]⟩
def Rg.le(g:Rg P base gl nt call ops F M V R X B)(a:Ph ops B M lo up){i j:Nat}(h0:lo<=i)(h:i<=j)(b:j<=up):(M i).n<=(M j).n/\(M i).hi<=(M j).hi/\∀ id,id<=H3->id<(M i).n->Hp.get (M j).H id=Hp.get (M i).H id:=by
 have:=g.mono a h0 (j-i) A2
 rwa[show i+(j-i)=j by omega]at this
def NG{mv:Mem}{us:List Rec}(h:zF m c us=some mv):mv.lg=m.lg:=by
 obtain⟨H,n,W,hi,lg⟩:=m;unfold zF at h;simp only at h;cases c with
 | free=>cases h;rfl
 | one b =>
   simp only at h;cases a:o9 (Y1 us) b || !(Nat.ble b H3)with
   | true=>rw[a]at h;cases h
   | false=>rw[a,dR]at h;cases h;rfl
 | all =>
   simp only at h;obtain⟨d,h⟩:=A3 h;cases h;rfl
def HK(h:kE m m'=some m2):m2.lg=m'.lg:=by
 unfold kE at h;cases a:Nat.ble m'.hi m.n with
 | true=>rw[a]at h;cases h;rfl
 | false =>
   rw[a]at h;obtain⟨_,h⟩:=A3 h;simp only[E1,dE]at h;cases h;rfl
def lQ{a b:Addr}(h:CH a b=true):a=b:=by
 unfold CH at h;split at h
 .obtain⟨h1,d⟩:=B4 h;rw[A0 h1,A0 d]
 .cases h
def RK{a b:Fn}(h:LA a b=true):a=b:=by
 unfold LA at h;split at h
 .rw[A0 h]
 .rw[A0 h]
 .cases h
def oO{s:Value->Value->Bool}(d:∀ a b,s a b=true->a=b):∀ {l r:C8},zO s l r=true->l=r
 | [],[],_=>rfl
 | [],_::_,h=>by cases h
 | _::_,[],h=>by cases h
 | a::l,b::r,h=>by
   obtain⟨h1,e⟩:=B4 (show(s a b && zO s l r)=true from h);rw[d a b h1,oO d e]
def A7s{a b:U9}(h:a.toList=b.toList):a=b:=by cases a;cases b;cases h;rfl
def UI:∀ (d:Nat) (v w:Value),vK d v w=true->v=w:=by
 intro d;induction d with
 | zero =>
   intro v w h;unfold vK at h;split at h
   .rw[eq_of_beq h]
   .obtain⟨h1,e⟩:=B4 h;rw[bJ]at e;rw[fW h1,eq_of_beq e]
   .obtain⟨h1,e⟩:=B4 h;rw[A0 h1,A0 e]
   .obtain⟨h1,e⟩:=B4 h;rw[A0 h1,A0 e]
   .rename_i s t;have h1:=I7 h;cases s with|mk s=>cases t with|mk t=>cases s;cases t;cases h1;rfl
   .rfl
   .rw[lQ h]
   .obtain⟨h1,e⟩:=B4 h;rw[A0 h1,A0 e]
   .obtain⟨h0,h⟩:=B4 h;obtain⟨h1,e⟩:=B4 h;rw[lQ h0,A0 h1,A0 e]
   .rfl
   .rw[A0 h]
   .rfl
   .rfl
   all_goals first|cases h|(rename_i hh;cases hh)
 | succ d i =>
   intro v w h;unfold vK at h;split at h
   .rw[eq_of_beq h]
   .obtain⟨h1,e⟩:=B4 h;rw[bJ]at e;rw[fW h1,eq_of_beq e]
   .obtain⟨h1,e⟩:=B4 h;rw[A0 h1,A0 e]
   .obtain⟨h1,e⟩:=B4 h;rw[A0 h1,A0 e]
   .rename_i s t;have h1:=I7 h;cases s with|mk s=>cases t with|mk t=>cases s;cases t;cases h1;rfl
   .rfl
   .rw[lQ h]
   .obtain⟨h1,e⟩:=B4 h;rw[A0 h1,A0 e]
   .obtain⟨h0,h⟩:=B4 h;obtain⟨h1,e⟩:=B4 h;rw[lQ h0,A0 h1,A0 e]
   .rfl
   .rw[A0 h]
   .rfl
   .rfl
   .rename_i j f a b g a' b' he;cases he;obtain⟨h0,h⟩:=B4 h;obtain⟨h1,e⟩:=B4 h;rw[RK h0,A7s (oO i h1),A7s (oO i e)]
   .rename_i j t v u w he;cases he;obtain⟨h1,e⟩:=B4 h;rw[A0 h1,i _ _ e]
   .cases h
def UM{a b:AB}(h:UN a b=true):a=b:=by
 unfold UN at h;split at h
 .rfl
 .obtain⟨h0,h⟩:=B4 h;obtain⟨h1,d⟩:=B4 h;rw[oO (UI 6) h0,A0 h1,eq_of_beq d]
 .cases h
def wU{H:Hp AB}{b:Nat}{ab:AB}(h:wV H b ab=true):Hp.get H b=some ab/\b<=H3:=by
 unfold wV at h;split at h
 .rename_i x a;obtain⟨h1,d⟩:=B4 h;exact⟨by rw[a,UM d],A1 h1⟩
 .cases h
def qU{mv:Mem}{us:List Rec}(h:CO m r us=some mv):mv.n=qN/\mv.hi=qN/\mv.W=[]/\mv.lg=m.lg/\(∀ id,id<=H3->∀ ab,Hp.get mv.H id=some ab->r=some (id,ab))/\∀ b ab,r=some (b,ab)->wV m.H b ab=true/\b ∉ Y1 us:=by
 obtain⟨H,n,W,hi,lg⟩:=m;unfold CO at h;simp only at h;cases r with
 | none =>
   cases h;exact⟨rfl,rfl,rfl,rfl,fun id _ ab a=>(by rw[pW]at a;cases a),fun b ab i=>by cases i⟩
 | some p =>
   obtain⟨b,f⟩:=p;simp only at h;cases d:o9 (Y1 us) b || !(wV H b f)with
   | true=>rw[d]at h;cases h
   | false =>
     rw[d,dR]at h;cases h;simp only[Y3,Bool.not_eq_false']at d;have i:=(wU d.2).2;refine⟨rfl,rfl,rfl,rfl,fun id hid ab a=>?_,fun b' ab' g=>?_⟩
     .have a:Hp.get (Hp.set hp0 b (some f)) id=some ab:=a;rw[E6 _ _ _ _ i hid]at a;by_cases e:id=b
      .subst e;rw[A9 rfl]at a;cases a;rfl
      .rw[A7 e,pW]at a;cases a
     .cases g;exact⟨d.2,fun hm=>by rw[U8.2 hm]at d;exact absurd d.1 (by simp)⟩
def jW{fr:Fr}{o:Oper}{b:G5}{v:Value}{lg:Lg}(h:jX fr m o b rs op=some (v,lg)):∃ mv m',CO m (IK m.H fr o.op) (AE b rs)=some mv/\op.run fr mv=some (v,m')/\m'.W=[]/\m'.hi=qN/\m'.lg=lg:=by
 unfold jX at h;split at h
 .rename_i mv hv;split at h
  .rename_i v' H n hi a hr;obtain⟨h1,d⟩:=A3 h;cases d;exact⟨mv,_,hv,hr,rfl,A0 h1,rfl⟩
  .cases h
 .cases h
def zJ{all:List Oper}{b:G5}{e:Bool}{o:Oper}{fr a:Fr}{v:Value}(d:U2 P base gl call)(h:EP P nt gl call all b rs e o fr a m m2 v):m.lg.le m2.lg:=by
 obtain⟨_,_,_,h⟩:=h;rcases h with⟨_,lg,hw,_,h⟩|⟨_,lg,f,hw,i,h⟩|⟨_,lg,hw,hr,_⟩|⟨_,_,lg,hw,mv,m',hv,hr,_,g,hm⟩
 .rw[h];exact fQ hw
 .obtain⟨mv,m',hv,hr,_,_,j⟩:=jW i;have h1:=s5 d hr;rw[(qU hv).2.2.2.1,j]at h1;rw[h];exact(fQ hw).trans h1
 .have h1:=s5 d hr;rw[Z2]at h1;exact(fQ hw).trans h1
 .rw[HK hm];have h1:=s5 d hr;rw[NG hv]at h1;exact(fQ hw).trans h1
def Rg.lgs(g:Rg P base gl nt call ops F M V R X B)(a:U2 P base gl call){i:Nat}:∀ d,i+d<=ops.size->(M i).lg.le (M (i+d)).lg
 | 0,_=>.refl _
 | d+1,h=>by
   obtain⟨o,b⟩:=O7 (ops:=ops) (i:=i+d) A2;exact(g.lgs a d A2).trans (zJ a (g.st (i+d) o b))
def Rg.who(g:Rg P base gl nt call ops F M V R X B)(i:Ph ops B M lo up):∀ d,lo+d<=up->∀ b,(M lo).n<=b->b<(M (lo+d)).n->∃ k,lo<=k/\k<lo+d/\(M k).n<=b/\b<(M (k+1)).n
 | 0,_,b,h1,a=>by have a:b<(M lo).n:=a;omega
 | d+1,h,b,h1,a=>by
   rcases F4 b (M (lo+d)).n with h3|h3
   .obtain⟨k,f,j,e⟩:=g.who i d A2 b h1 h3;exact⟨k,f,A2,e⟩
   .exact⟨lo+d,A2,A2,h3,a⟩
def wC:∀ {rs:List Rec} {b:Nat},b ∈ Y1 rs↔∃ r ∈ rs,r.lo<=b/\b<r.hi
 | [],b=>by simp[Y1]
 | r::rs,b=>by
   simp only[Y1,B7,kF,wC (rs:=rs),B3];constructor
   .rintro(h|⟨a,h1,d⟩)
    .exact⟨r,.inl rfl,A2⟩
    .exact⟨a,.inr h1,d⟩
   .rintro⟨a,rfl|h1,d⟩
    .exact .inl A2
    .exact .inr ⟨a,h1,d⟩
def Rg.recs(g:Rg P base gl nt call ops F M V R X B)(l:Ph ops B M lo up):∀ d,lo+d<=up->∀ k,lo<=k->k<lo+d->∀ b,(M k).n<=b->b<(M (k+1)).n->⟨k,(M k).n,(M (k+1)).n⟩ ∈ R (lo+d)
 | 0,_,k,_,h,_,_,_=>by omega
 | d+1,hi,k,hk,h,b,h1,f=>by
   obtain⟨o,j⟩:=O7 (ops:=ops) (i:=lo+d) (by have:=l.sz;omega);have a:=l.mx _ o A2 A2 j;show _ ∈ R (lo+d+1);by_cases e:k=lo+d
   .subst e;rcases g.rc (lo+d) o j with⟨_,lg,h3⟩|⟨h3,_⟩|h3
    .rw[h3]at f;have f:b<(M (lo+d)).n:=f;omega
    .rw[a]at h3;cases h3
    .rw[h3];exact B2
   .have:=g.recs l d A2 k hk A2 b h1 f;rcases g.rc (lo+d) o j with⟨h3,_⟩|⟨h3,_⟩|h3
    .rw[h3];exact this
    .rw[a]at h3;cases h3
    .rw[h3];exact B8 _ this
def A01{mv:Mem}{us:List Rec}(h:zF m c us=some mv):mv.n=m.n/\mv.hi=m.hi/\mv.W=[]/\mv.lg=m.lg/\∀ id,id<=H3->∀ ab,Hp.get mv.H id=some ab->Hp.get m.H id=some ab/\id ∉ Y1 us:=by
 obtain⟨H,n,W,hi,lg⟩:=m;unfold zF at h;simp only at h;cases c with
 | free =>
   cases h;exact⟨rfl,rfl,rfl,rfl,fun id _ ab a=>by rw[pW]at a;cases a⟩
 | one b =>
   simp only at h;cases d:o9 (Y1 us) b || !(Nat.ble b H3)with
   | true=>rw[d]at h;cases h
   | false =>
     rw[d,dR]at h;cases h;simp only[Y3,Bool.not_eq_false']at d;have f:=A1 d.2;refine⟨rfl,rfl,rfl,rfl,fun id hid ab a=>?_⟩;have a:Hp.get (Hp.set hp0 b (Hp.get H b)) id=some ab:=a;rw[E6 _ _ _ _ f hid]at a;by_cases e:id=b
     .subst e;rw[A9 rfl]at a;exact⟨a,fun hm=>by rw[U8.2 hm]at d;exact absurd d.1 (by simp)⟩
     .rw[A7 e,pW]at a;cases a
 | all =>
   simp only at h;obtain⟨f,h⟩:=A3 h;cases h;refine⟨rfl,rfl,rfl,rfl,fun id hid ab a=>?_⟩;have a:Hp.get (AQ H (Y1 us)) id=some ab:=a;rw[AP _ _ (sC f) id hid]at a;by_cases e:id ∈ Y1 us
   .rw[A9 e]at a;cases a
   .rw[A7 e]at a;exact⟨a,e⟩
def fI(M:Nat->Mem)(D:Nat->Bool)(b:Nat):Nat->Bool
 | 0=>false
 | n+1=>(D n && Nat.ble (M n).n b && Nat.blt b (M (n+1)).n) || fI M D b n
def S8{D:Nat->Bool}{b:Nat}:∀ n,fI M D b n=true↔∃ k,k<n/\D k=true/\(M k).n<=b/\b<(M (k+1)).n
 | 0=>by simp[fI]
 | n+1=>by
   simp only[fI,I1,G4,S8 n];constructor
   .rintro(⟨⟨h1,a⟩,h3⟩|⟨k,h1,a⟩)
    .exact⟨n,A2,h1,A1 a,A1 h3⟩
    .exact⟨k,A2,a⟩
   .rintro⟨k,h1,a,h3,d⟩
    by_cases e:k=n
    .subst e;exact .inl ⟨⟨a,C4 h3⟩,C4 d⟩
    .exact .inr ⟨k,A2,a,h3,d⟩
def Dr(lo:Nat)(D:Nat->Bool)(k:Nat):Bool:=Nat.ble lo k && D k
def X1{lo:Nat}{D:Nat->Bool}{k:Nat}:Dr lo D k=true↔lo<=k/\D k=true:=by
 unfold Dr;rw[G4];exact⟨fun h=>⟨A1 h.1,h.2⟩,fun h=>⟨C4 h.1,h.2⟩⟩
def GD(M:Nat->Mem)(lo N:Nat)(D:Nat->Bool)(b:Nat):Option AB:=bif fI M (Dr lo D) b N then Hp.get (M N).H b else Hp.get (M lo).H b
structure Inv (z:Zn) (P:Program) (base gl nt:Nat) (ops:Array Oper) (F:Nat->Fr) (M:Nat->Mem) (V:Nat->Value) (lo up:Nat) (ρ0:Ren) (w0:World) (D:Nat->Bool) (ρ:Ren) (a:Act) (w:World):Prop where
 ext:∀ b l,ρ0 b=some l->ρ b=some l
 new:∀ b l,ρ b=some l->ρ0 b=none->fI M (Dr lo D) b up=true/\(l.on=true->w0.heap.size<=l.blk)
 hr:HRf P base ρ (GD M lo up D) w
 keep:∀ k,k<w0.heap.size->w.heap[k]? = w0.heap[k]?
 size:w0.heap.size<=w.heap.size
 os:w.os=w0.os/\w.tape=w0.tape/\w.output=w0.output
 tch:∀ k,Ff ρ (GD M lo up D) k->w0.heap.size<=k∨Fp ρ0 (M lo).H k
 tsz:a.tmps.size=nt
 dfr:ZR z ρ nt (F 0) a.defers
 frm:∀ t,t<nt->VR ρ (v8 D (fun k=>(ops[k]?).bind (·.dst)) V (F 0).get t ops.size) (a.tmps.getD t undef)
def R3{i:Nat}{o:Oper}(h:ops[i]? = some o):ops.toList[i]? = some o:=by simpa using h
def gA{ops:List Oper}{a:List G5}:∀ (r:List Oper) (i:Nat),HD ops a r i=true->∀ j o,r[j]? = some o->mH (i+j) o.after.toList=true/\qT a (i+j) (U4 ops o) ops 0=true
 | [],i,h,j,o,hj=>by simp at hj
 | x::r,i,h,j,o,hj=>by
   obtain⟨h1,b⟩:=B4 (show(mH i x.after.toList && (qT a i (U4 ops x) ops 0 && HD ops a r (i+1)))=true from h);obtain⟨b,h3⟩:=B4 b;cases j with
   | zero=>simp at hj;subst hj;exact⟨h1,b⟩
   | succ j =>
     have:=gA r (i+1) h3 j o (by simpa using hj)
     rwa[show i+1+j=i+(j+1) by omega]at this
def eE:∀ {es:List Edge} {i:Nat},mH i es=true->∀ e ∈ es,Region.binds .any e=true->e.on<i
 | [],i,h,e,he,_=>by cases he
 | x::r,i,h,e,he,hb=>by
   obtain⟨h1,a⟩:=B4 (show((!(Region.binds .any x) || Nat.blt x.on i) && mH i r)=true from h);rcases B3.1 he with rfl|he
   .rw[hb]at h1;have h1:Nat.blt e.on i=true:=by simpa only [P1,P2]using h1
    exact A1 h1
   .exact eE a e he hb
def zL{b:List G5}{i:Nat}{d:List Tmp}:∀ (r:List Oper) (a:Nat),qT b i d r a=true->∀ j p t,r[j]? = some p->a+j≠i->p.dst=some t->t ∈ d->A1U b i (a+j)=true
 | [],a,h,j,p,t,hj,_,_,_=>by simp at hj
 | x::r,a,h,j,p,t,hj,hne,hd,ht=>by
   obtain⟨h1,g⟩:=B4 (show((Nat.beq a i || (match x.dst with|none=>true|some t=>!(o9 d t) || A1U b i a)) && qT b i d r (a+1))=true from h);cases j with
   | zero =>
     simp at hj;subst hj;have e:Nat.beq a i=false:=by
      cases f:Nat.beq a i with
      | false=>rfl
      | true=>exact absurd (A0 f) hne
     rw[e,hd,P2]at h1;simp only[U8.2 ht,P1,P2]at h1;exact h1
   | succ j =>
     have:=zL r (a+1) g j p t (by simpa using hj) A2 hd ht
     rwa[show a+1+j=a+(j+1) by omega]at this
def Rg.slot(g:Rg P base gl nt call ops F M V R X B){D:Nat->Bool}(j:lI ops.toList fun k=>D k=true)(x:∀ k,D k=true->k<ops.size){i:Nat}{o:Oper}(f:ops[i]? = some o)(hi:D i=false)
  (hr:∀ e ∈ o.after.toList,Region.binds .any e=true->D e.on=true) {t:Tmp} (v:t ∈ U4 ops.toList o):∀ k p,ops[k]? = some p->k≠i->p.dst=some t->(D k=true↔k<i):=fun k p hp q w=>by
 have s:∀ (i:Nat) (o:Oper),ops.toList[i]? = some o->∀ e ∈ o.after.toList,Region.binds .any e=true->e.on<i:=fun i o f=>by
  have:=(gA _ 0 g.ok i o f).1;rw[E9]at this;exact eE this
 have h1:=(gA _ 0 g.ok i o (R3 f)).2;have a:=zL _ 0 h1 k p t (R3 hp) A2 w v;rw[E9,E9]at a;unfold A1U at a;rcases Nat.lt_trichotomy k i with b|heq|n
 .have d:Nat.blt i k=false:=by
   cases d:Nat.blt i k with
   | false=>rfl
   | true=>have:i<k:=A1 d;omega
  rw[d]at a;have hm:=U8.1 (by simpa using a);exact⟨fun _=>b,fun _=>yD j s (i+1) i k o (I5 i) (R3 f) hr hm⟩
 .exact absurd heq q
 .have d:Nat.blt i k=true:=C4 n;rw[d]at a;have hm:=U8.1 (by simpa using a);refine⟨fun u=>?_,fun h=>by omega⟩
  have:=yD j s (k+1) k i p (I5 k) (R3 hp) (fun e he l=>j k p (R3 hp) u e he l) hm;rw[hi]at this;cases this
def Rg.frame(g:Rg P base gl nt call ops F M V R X B)(a:nt<=512){t:Tmp}(j:t<nt):∀ i,i<=ops.size->(F i).get t=v8 (fun k=>Nat.blt k i) (fun k=>(ops[k]?).bind (·.dst)) V (F 0).get t i
 | 0,_=>rfl
 | i+1,h=>by
   obtain⟨o,f⟩:=O7 (ops:=ops) (i:=i) A2;obtain⟨h1,_,h3,_⟩:=g.st i o f;have n:=g.frame a j i A2;have q:v8 (fun k=>Nat.blt k (i+1)) (fun k=>(ops[k]?).bind (·.dst)) V (F 0).get t i=v8 (fun k=>Nat.blt k i) (fun k=>(ops[k]?).bind (·.dst)) V (F 0).get t i:=eC i fun k p _=>by
    rw[show Nat.blt k (i+1)=true from C4 A2,show Nat.blt k i=true from C4 p]
   have l:Nat.blt i (i+1)=true:=C4 (A6 _);rw[h3];unfold v8;rw[q,<- n];simp only[l,f,J2,true_and];cases s:o.dst with
   | none=>simp[tV]
   | some d =>
     rw[s]at h1;have b:d<nt:=A1 h1;simp only[tV,C9];rw[K9 _ _ _ _ (D1 b a) (D1 j a)];by_cases e:t=d
     .subst e;simp
     .rw[A7 e,A7 (fun h=>e h.symm)]
def Rg.look(g:Rg P base gl nt call ops F M V R X B)(a:nt<=512){D:Nat->Bool}(q:lI ops.toList fun k=>D k=true)(j:∀ k,D k=true->k<ops.size){i:Nat}{o:Oper}(l:ops[i]? = some o)(hi:D i=false)
  (hr:∀ e ∈ o.after.toList,Region.binds .any e=true->D e.on=true) {t:Tmp} (y:t ∈ U4 ops.toList o) (b:t<nt):v8 D (fun k=>(ops[k]?).bind (·.dst)) V (F 0).get t ops.size=(F i).get t:=by
 have z:i<ops.size:=(C5.1 l).1;rw[g.frame a b i A2];have n:=g.slot q j l hi hr y;have x:v8 D (fun k=>(ops[k]?).bind (·.dst)) V (F 0).get t ops.size=v8 (fun k=>Nat.blt k i) (fun k=>(ops[k]?).bind (·.dst)) V (F 0).get t ops.size:=eC _ fun k w f=>by
  obtain⟨p,hp⟩:=O7 (ops:=ops) w;rw[hp]at f;by_cases e:k=i
  .subst e;rw[hi];symm;cases v:Nat.blt k k with
   | false=>rfl
   | true=>have:k<k:=A1 v;omega
  .have:=n k p hp e f;rw[J3,this];exact⟨fun h=>C4 h,fun h=>A1 h⟩
 rw[x];have s:∀ d,i+d<=ops.size->v8 (fun k=>Nat.blt k i) (fun k=>(ops[k]?).bind (·.dst)) V (F 0).get t (i+d)=v8 (fun k=>Nat.blt k i) (fun k=>(ops[k]?).bind (·.dst)) V (F 0).get t i:=by
  intro d;induction d with
  | zero=>intro _;rfl
  | succ d u =>
    intro f;rw[show i+(d+1)=(i+d)+1 by omega];rw[v8,A7 (fun hh=>by have:i+d<i:=A1 hh.1;omega)];exact u A2
 have:=s (ops.size-i) A2
 rwa[show i+(ops.size-i)=ops.size by omega]at this
def uV{o:Oper}{x:Operand}{t:Tmp}(hx:x ∈ o.op.operands.toList)(a:x=.tmp t):t ∈ U4 ops.toList o:=by
 unfold U4;refine B7.2 (.inr (B7.2 (.inl (List.mem_flatMap.2 ⟨x,hx,?_⟩))));subst a;simp[oG]
def Rg.see{z:Zn}(g:Rg P base gl nt call ops F M V R X B)(b:Ph ops B M lo up){v ρ:Ren}{w0 w:World}{D:Nat->Bool}{a:Act}{i:Nat}{o:Oper}
  (f:At P base gl v (M lo) (M up).hi w0) (I:lI ops.toList fun k=>D k=true) (p:lo<=i) (A:i<up) (h:ops[i]? = some o)
  (hr:∀ e ∈ o.after.toList,Region.binds .any e=true->D e.on=true):∀ id,id<=H3->∀ ab,Hp.get (M i).H id=some ab->id ∉ Y1 (AE ((X6 ops.toList []).getD i []) (R i))->GD M lo up D id=some ab:=fun id hid ab h1 J=>by
 unfold GD;by_cases d:(M lo).n<=id/\id<(M i).n
 .obtain⟨k,u,N,s,t⟩:∃ k,lo<=k/\k<i/\(M k).n<=id/\id<(M (k+1)).n:=by
   have:=g.who b (i-lo) A2 id d.1 (by rw[show lo+(i-lo)=i by omega];exact d.2)
   rwa[show lo+(i-lo)=i by omega]at this
  have x:D k=true:=by
   have q:(⟨k,(M k).n,(M (k+1)).n⟩:Rec) ∈ R i:=by
    have:=g.recs b (i-lo) A2 k u A2 id s t
    rwa[show lo+(i-lo)=i by omega]at this
   by_cases C:k ∈ (X6 ops.toList []).getD i []
   .exact yD I (fun i o h=>by
     have:=(gA _ 0 g.ok i o h).1;rw[E9]at this;exact eE this) (i+1) i k o (I5 i) (R3 h) hr C
   .exfalso;refine J (wC.2 ⟨_,O4.2 ⟨q,?_⟩,s,t⟩);cases y:o9 ((X6 ops.toList []).getD i []) k with
    | false=>rfl
    | true=>exact absurd (U8.1 y) C
  have hu:fI M (Dr lo D) id up=true:=(S8 _).2 ⟨k,A2,X1.2 ⟨u,x⟩,s,t⟩;rw[hu];simp only[D7];rw[(g.le b (i:=i) (j:=up) p A2 (A6 _)).2.2 id hid d.2];exact h1
 .have L:=(g.all b p A2).2.2.2.2 id hid A2;rw[L]at h1;have hu:fI M (Dr lo D) id up=false:=by
   cases y:fI M (Dr lo D) id up with
   | false=>rfl
   | true =>
     exfalso;obtain⟨k,N,K,s,t⟩:=(S8 _).1 y;have u:=(X1.1 K).1;obtain⟨l,E,_⟩:=f.hr.at_ id hid ab h1;have O:=g.le b (i:=lo) (j:=k) (A6 _) u A2;have G:=g.le b (i:=k+1) (j:=up) A2 A2 (A6 _);have Q:=(g.all b b.le (A6 _)).2.2.1;rw[f.fr id A2 A2]at E;cases E
  rw[hu];exact h1
def Rg.quiet{z:Zn}(g:Rg P base gl nt call ops F M V R X B)(G:U2 P base gl call){L ρ:Ren}{w0 w:World}{D D':Nat->Bool}{a:Act}{i:Nat}{o:Oper}{Q:Exit->Act->World->Prop}{K:Act->World->Prop}
  (u:At P base gl L (M lo) (M up).hi w0) (hS:Sat (M (i+1)).lg) (aq:nt<=512) (inv:Inv z P base gl nt ops F M V lo up L w0 D ρ a w) (hc:lI ops.toList fun k=>D k=true) (ar:∀ k,D k=true->k<ops.size) (W:ops[i]? = some o) (hi:D i=false)
  (hr:∀ e ∈ o.after.toList,Region.binds .any e=true->D e.on=true) (hD:∀ k,k≠i->D' k=D k) (ak:D' i=true)
  (aw:cX nt ops.toList (V3 P call o) ((X6 ops.toList []).getD i []) (R i) (F i) o (M i) (M (i+1)) (V i) r) (af:∀ b ab,r=some (b,ab)->GD M lo up D b=some ab)
  (hK:∀ q a' w',Inv z P base gl nt ops F M V lo up L w0 D' q a' w'->K a' w'):fP P z.rd ops Q i K a w:=by
 have al:i<ops.size:=(C5.1 W).1;obtain⟨bx,ao,hF,_⟩:=g.st i o W;have E:∀ t,t ∈ U4 ops.toList o->t<nt->VR ρ ((F i).get t) (a.tmps.getD t undef):=fun t ht ay=>by
  rw[<- g.look aq hc ar W hi hr ht ay];exact inv.frm t ay
 have ae:FR ρ (F i) a.eval o.op:=fun x hx=>by
  have Y:okX nt gl x=true:=D0.1 ao x hx;cases x with
  | tmp t=>exact E t (uV hx rfl) (A1 Y)
  | const v=>exact VR.ofC Y
  | global gg=>exact VR.ptr (o:=0) (inv.ext _ _ (u.gr gg (A1 Y)))
  | func f=>exact .func (a:=[]) (b:=[]) (a':=[]) (b':=[]) rfl rfl (fun i v v' h=>by simp at h) (fun i v v' h=>by simp at h)
 have J:∀ lg b,aB nt (F i) (M i).lg ops.toList o=some (b,lg)->Sat lg->Region.wanted o (yielded ops a.tmps)=b:=fun lg b hw C=>by
  unfold aB at hw;split at hw
  .rename_i hg;cases hw;simp[Region.wanted,hg]
  .rename_i j want hg;split at hw
   .rename_i p hp;split at hw
    .rename_i t ht;obtain⟨h1,s⟩:=A3 hw;have h1:t<nt:=A1 h1;have hv:=E t (by
      unfold U4;refine B7.2 (.inr (B7.2 (.inr ?_)));simp[hg,hp,ht]) h1
     exact lL hg hp ht (by rw[inv.tsz];exact h1) (oC s hv C)
    .cases hw
   .cases hw
 have y:∀ (q:Ren) (v':Value),(∀ b l,ρ b=some l->q b=some l)->VR q (V i) v'->∀ t,t<nt->VR q (v8 D' (fun k=>(ops[k]?).bind (·.dst)) V (F 0).get t ops.size) ((a.put o.dst v').tmps.getD t undef):=fun q v' he hv t ht=>by
  by_cases hd:o.dst=some t
  .have S:∀ k,i<k->k<ops.size->(ops[k]?).bind (·.dst)=some t->D k=false:=fun k bz A au=>by
    obtain⟨p,hp⟩:=O7 (ops:=ops) A;rw[hp]at au
    have:=g.slot hc ar W hi hr (t:=t) (by unfold U4;simp[hd]) k p hp A2 au;cases hq:D k with
    | false=>rfl
    | true=>have:=this.1 hq;omega
   rw[qB hD ak ops.size al (by simp[W,hd]) S];simp only[hd,Act.put,B5];rw[F5,A9 rfl,A9 (by rw[inv.tsz];exact ht)];exact hv
  .rw[nJ hD (by simp[W];exact hd)];have h1:=(inv.frm t ht).mono he;cases Z:o.dst with
   | none=>exact h1
   | some d =>
     have ad:d≠t:=fun e=>hd (e▸Z)
     simp only[Act.put,B5]at h1 ⊢;rw[F5,A7 ad];exact h1
 have hM:∃ lg,M (i+1)=(M i).wLg lg:=by
  rcases aw with⟨lg,_,_,h,_⟩|⟨_,av,_,_,h,_⟩
  .exact⟨lg,h⟩
  .exact⟨av,h⟩
 have hG:GD M lo up D'=GD M lo up D:=by
  funext b;unfold GD;have:fI M (Dr lo D') b up=fI M (Dr lo D) b up:=by
   obtain⟨lg,hm⟩:=hM;rw[J3,S8,S8];constructor
   .rintro⟨k,h1,s,h3,h4⟩
    have e:k≠i:=fun e=>by
     subst e;rw[hm]at h4;have h4:b<(M k).n:=h4;omega
    obtain⟨az,s⟩:=X1.1 s;rw[hD k e]at s;exact⟨k,h1,X1.2 ⟨az,s⟩,h3,h4⟩
   .rintro⟨k,h1,s,h3⟩
    obtain⟨az,s⟩:=X1.1 s;have e:k≠i:=fun e=>by subst e;rw[hi]at s;cases s
    exact⟨k,h1,X1.2 ⟨az,by rw[hD k e];exact s⟩,h3⟩
  rw[this]
 have O:∀ b l,ρ b=some l->L b=none->fI M (Dr lo D') b up=true/\(l.on=true->w0.heap.size<=l.blk):=fun b l h1 s=>by
  obtain⟨k1,k2⟩:=inv.new b l h1 s;obtain⟨k,q1,q2,q3⟩:=(S8 _).1 k1;obtain⟨ai,q2⟩:=X1.1 q2;have e:k≠i:=fun e=>by subst e;rw[hi]at q2;cases q2
  exact⟨(S8 _).2 ⟨k,q1,X1.2 ⟨ai,by rw[hD k e];exact q2⟩,q3⟩,k2⟩
 unfold fP;simp only[W];rcases aw with⟨lg,hw,hv,hm,_⟩|⟨lg,av,hw,hq,hm,ah⟩
 .have C:Sat lg:=by rw[hm]at hS;exact hS
  rw[J lg false hw C];simp only[I9,if_false];refine hK ρ _ w ⟨inv.ext,O,hG▸inv.hr,inv.keep,inv.size,inv.os,hG▸inv.tch,?_,?_,y ρ undef (fun _ _ h=>h) (hv▸oE ρ)⟩
  .cases Z:o.dst<;>simp[Act.put,inv.tsz]
  .rw[dS];exact inv.dfr
 .obtain⟨mv,m',U,N,hW,an,hl⟩:=jW hq;obtain⟨v1,v2,v3,v4,v5,_⟩:=qU U;have ax:Sat m'.lg:=by rw[hm]at hS;rw[hl];exact hS
  have C:Sat lg:=Q6.le ax (by have:=s5 G N;rw[v4]at this;exact this);rw[J lg true hw C];simp only[if_true];have aa:HR P base ρ mv.H w:=inv.hr.hr fun id hid ab T=>af id ab (ah.trans (v5 id hid ab T))
  have aj:At P base gl ρ mv m'.hi w:=⟨aa,B9 u.bs inv.size,fun b h1 s=>(by rw[v1]at h1;rw[an]at s;omega),u.gr.mono inv.ext,(by rw[v1,v2];exact A6 _),fun b hb=>(by rw[v3]at hb;cases hb),fun k o A=>⟨(u.gf k o A).1,(inv.keep k (D1 (u.gf k o A).1 u.bs)).trans (u.gf k o A).2⟩⟩;refine oM G N ax aj ae fun v' q w' hv st=>?_
  have ag:q=ρ:=by
   funext b;cases h0:ρ b with
   | some l=>exact st.ext b l h0
   | none =>
     cases h1:q b with
     | none=>rfl
     | some l =>
       exfalso;have s:=(st.new b l h1 h0).1;have h3:=st.hr.dom b l h1;rw[v1]at s;unfold qN at s;unfold H3 at h3;omega
  subst ag;have I:∀ k,k<w.heap.size->w'.heap[k]? = w.heap[k]? := fun k A=>st.keep k A fun b hb=>by rw[hW]at hb;cases hb
  refine hK q _ w' ⟨inv.ext,O,hG▸⟨inv.hr.dom,fun id hid ab T=>?_⟩,fun k A=>by rw[I k (D1 A inv.size),inv.keep k A],B9 inv.size st.size,⟨st.os.1.trans inv.os.1,st.os.2.1.trans inv.os.2.1,st.os.2.2.trans inv.os.2.2⟩,hG▸inv.tch,?_,?_,y q v' (fun _ _ h=>h) hv⟩
  .obtain⟨l,e1,e2,e3⟩:=inv.hr.at_ id hid ab T;exact⟨l,e1,e2.mono (fun _ _ h=>h) (fun k A=>I _ (e2.tc A)),e3⟩
  .cases Z:o.dst<;>simp[Act.put,inv.tsz]
  .rw[dS];exact inv.dfr
def Rg.step{z:Zn}(g:Rg P base gl nt call ops F M V R X B)(ph:Ph ops B M lo up)(S:U2 P base gl call){an ρ:Ren}{w0 w:World}{D D':Nat->Bool}{a:Act}{i:Nat}{o:Oper}{Q:Exit->Act->World->Prop}{K:Act->World->Prop}
  (J:At P base gl an (M lo) (M up).hi w0) (hS:Sat (M up).lg) (bm:nt<=512) (inv:Inv z P base gl nt ops F M V lo up an w0 D ρ a w) (hc:lI ops.toList fun k=>D k=true) (bn:∀ k,D k=true->k<ops.size) (az:lo<=i) (aq:i<up) (W:ops[i]? = some o) (hi:D i=false)
  (hr:∀ e ∈ o.after.toList,Region.binds .any e=true->D e.on=true) (hD:∀ k,k≠i->D' k=D k) (bu:D' i=true)
  (bx:¬∃ r,cX nt ops.toList (V3 P call o) ((X6 ops.toList []).getD i []) (R i) (F i) o (M i) (M (i+1)) (V i) r)
  (hK:∀ C a' w',Inv z P base gl nt ops F M V lo up an w0 D' C a' w'->K a' w'):fP P z.rd ops Q i K a w:=by
 have bg:i<ops.size:=(C5.1 W).1;obtain⟨cq,bj,hF,ah⟩:=g.st i o W;have br:=ph.mx i o az aq W;have cr:=ph.sz;have cp:=g.le ph (i:=lo) (j:=i) (A6 _) az A2;have bl:=g.le ph (i:=i+1) (j:=up) A2 A2 (A6 _);have cv:=g.one W br (g.all ph az A2).2.2.1;have aw:∀ t,t ∈ U4 ops.toList o->t<nt->VR ρ ((F i).get t) (a.tmps.getD t undef):=fun t ht bz=>by
  rw[<- g.look bm hc bn W hi hr ht bz];exact inv.frm t bz
 have bc:FR ρ (F i) a.eval o.op:=fun x hx=>by
  have ai:okX nt gl x=true:=D0.1 bj x hx;cases x with
  | tmp t=>exact aw t (uV hx rfl) (A1 ai)
  | const v=>exact VR.ofC ai
  | global gg=>exact VR.ptr (o:=0) (inv.ext _ _ (J.gr gg (A1 ai)))
  | func f=>exact .func (a:=[]) (b:=[]) (a':=[]) (b':=[]) rfl rfl (fun i v v' h=>by simp at h) (fun i v v' h=>by simp at h)
 have ag:∀ lg b,aB nt (F i) (M i).lg ops.toList o=some (b,lg)->Sat lg->Region.wanted o (yielded ops a.tmps)=b:=fun lg b hw ak=>by
  unfold aB at hw;split at hw
  .rename_i hg;cases hw;simp[Region.wanted,hg]
  .rename_i j want hg;split at hw
   .rename_i p hp;split at hw
    .rename_i t ht;obtain⟨h1,u⟩:=A3 hw;have h1:t<nt:=A1 h1;have hv:=aw t (by
      unfold U4;refine B7.2 (.inr (B7.2 (.inr ?_)));simp[hg,hp,ht]) h1
     exact lL hg hp ht (by rw[inv.tsz];exact h1) (oC u hv ak)
    .cases hw
   .cases hw
 have ao:∀ (C:Ren) (v':Value),(∀ b l,ρ b=some l->C b=some l)->VR C (V i) v'->∀ t,t<nt->VR C (v8 D' (fun k=>(ops[k]?).bind (·.dst)) V (F 0).get t ops.size) ((a.put o.dst v').tmps.getD t undef):=fun C v' he hv t ht=>by
  by_cases hd:o.dst=some t
  .have aj:∀ k,i<k->k<ops.size->(ops[k]?).bind (·.dst)=some t->D k=false:=fun k ct Y bo=>by
    obtain⟨p,hp⟩:=O7 (ops:=ops) Y;rw[hp]at bo
    have:=g.slot hc bn W hi hr (t:=t) (by unfold U4;simp[hd]) k p hp A2 bo;cases hq:D k with
    | false=>rfl
    | true=>have:=this.1 hq;omega
   rw[qB hD bu ops.size bg (by simp[W,hd]) aj];simp only[hd,Act.put,B5];rw[F5,A9 rfl,A9 (by rw[inv.tsz];exact ht)];exact hv
  .rw[nJ hD (by simp[W];exact hd)];have h1:=(inv.frm t ht).mono he;cases bt:o.dst with
   | none=>exact h1
   | some d =>
     have bb:d≠t:=fun e=>hd (e▸bt)
     simp only[Act.put,B5]at h1 ⊢;rw[F5,A7 bb];exact h1
 have L:∀ b,fI M (Dr lo D') b up=true↔(fI M (Dr lo D) b up=true∨((M i).n<=b/\b<(M (i+1)).n)):=fun b=>by
  rw[S8,S8];constructor
  .rintro⟨k,h1,u,h3⟩
   obtain⟨af,u⟩:=X1.1 u;by_cases e:k=i
   .subst e;exact .inr h3
   .rw[hD k e]at u;exact .inl ⟨k,h1,X1.2 ⟨af,u⟩,h3⟩
  .rintro(⟨k,h1,u,h3⟩|h3)
   .obtain⟨af,u⟩:=X1.1 u;have e:k≠i:=fun e=>by subst e;rw[hi]at u;cases u
    exact⟨k,h1,X1.2 ⟨af,by rw[hD k e];exact u⟩,h3⟩
   .exact⟨i,aq,X1.2 ⟨az,bu⟩,h3⟩
 unfold fP;simp only[W];have aa:Sat (M (i+1)).lg:=Q6.le hS (by have:=g.lgs S (i:=i+1) (up-(i+1)) A2;rwa[show i+1+(up-(i+1))=up by omega]at this);rcases ah with⟨_,lg,hw,hv,hm⟩|⟨_,lg,cz,hw,hq,hm⟩|⟨bw,_⟩|⟨_,_,lg,hw,mv,m',av,al,hW,bh,U⟩
 .exact absurd ⟨_,.inl ⟨lg,hw,hv,hm,rfl⟩⟩ bx
 .exact absurd ⟨_,.inr ⟨lg,cz,hw,hq,hm,rfl⟩⟩ bx
 .rw[br]at bw;cases bw
 .have bp:Sat m'.lg:=by rw[HK U]at aa;exact aa
  have ak:Sat lg:=Q6.le bp (by have:=s5 S al;rw[NG av]at this;exact this);rw[ag lg true hw ak];simp only[if_true];obtain⟨v1,v2,v3,_,v4⟩:=A01 av;have v1:mv.n=(M i).n:=v1;have v2:mv.hi=(M i).hi:=v2;have v4:∀ id,id<=H3->∀ ab,Hp.get mv.H id=some ab->Hp.get (M i).H id=some ab/\id ∉ Y1 (AE ((X6 ops.toList []).getD i []) (R i)):=v4;have ae:=(g.all ph az A2).2.2.1;obtain⟨q1,q2,q3,q4,q5,q6,_,q7⟩:=HJ U ae bh;have q1:(M i).n<=(M (i+1)).n:=q1;have q5:(M (i+1)).n=m'.hi∨((M (i+1)).n=(M i).n/\m'.hi<=(M i).n):=q5;have q7:∀ id,id<=H3->Hp.get (M (i+1)).H id=if(M i).n<=id/\id<(M (i+1)).n then Hp.get m'.H id else Hp.get (M i).H id:=q7
  have N:∀ id,id<=H3->∀ ab,Hp.get mv.H id=some ab->GD M lo up D id=some ab:=fun id hid ab y=>by
   obtain⟨h1,u⟩:=v4 id hid ab y;exact g.see (z:=z) (a:=a) (ρ:=ρ) (w:=w) ph J hc az aq W hr id hid ab h1 u
  have ba:HR P base ρ mv.H w:=inv.hr.hr N;have T:J6 ρ mv.n m'.hi:=fun b h1 u=>by
   rw[v1]at h1;cases hb:ρ b with
   | none=>rfl
   | some l =>
     exfalso;cases h0:an b with
     | some l0 =>
       rw[J.fr b A2 A2]at h0;cases h0
     | none =>
       obtain⟨k,k1,k2,k3,k4⟩:=(S8 _).1 (inv.new b l hb h0).1;obtain⟨k0,k2⟩:=X1.1 k2;have cu:k≠i:=fun e=>by subst e;rw[hi]at k2;cases k2
       rcases F4 k i with ad|ad
       .have:=(g.le ph (i:=k+1) (j:=i) A2 A2 A2).1;omega
       .have:=(g.le ph (i:=i+1) (j:=k) A2 A2 A2).1;rcases q5 with q5|⟨_,q5⟩<;>omega
  have bf:At P base gl ρ mv m'.hi w:=⟨ba,B9 J.bs inv.size,T,J.gr.mono inv.ext,(by rw[v1,v2];exact ae),fun b hb=>(by rw[v3]at hb;cases hb),fun k o Y=>⟨(J.gf k o Y).1,(inv.keep k (D1 (J.gf k o Y).1 J.bs)).trans (J.gf k o Y).2⟩⟩;refine oM S al bp bf bc fun v' C w' hv st=>hK C _ w' ?_
  have au:∀ k,k<w.heap.size->w'.heap[k]? = w.heap[k]? := fun k Y=>st.keep k Y fun b hb=>by rw[hW]at hb;cases hb
  have cw:m'.n<=m'.hi:=st.nhi (by rw[v1,v2];exact ae);have ar:∀ b l,C b=some l->ρ b=none->((M i).n<=b/\b<(M (i+1)).n)/\(l.on=true->w.heap.size<=l.blk):=fun b l h1 u=>by
   have h3:=st.new b l h1 u;rw[v1]at h3;refine⟨⟨h3.1,?_⟩,?_⟩
   .rcases q5 with q5|⟨_,q5⟩<;>omega
   .intro W;rcases st.blk b l h1 u W with h|⟨b0,h,_⟩
    .exact h
    .rw[hW]at h;cases h
  have ax:∀ id,id<=H3->(M i).n<=id->id<(M (i+1)).n->GD M lo up D' id=Hp.get m'.H id/\ρ id=none:=fun id hid h1 u=>by
   constructor
   .unfold GD;rw[(L id).2 (.inr ⟨h1,u⟩)];simp only[D7];rw[bl.2.2 id hid u,q7 id hid,A9 ⟨h1,u⟩]
   .refine T id (by rw[v1];exact h1) ?_;rcases q5 with q5|⟨q5,_⟩
    .omega
    .rw[q5]at u;omega
  have Z:∀ id,¬ ((M i).n<=id/\id<(M (i+1)).n)->GD M lo up D' id=GD M lo up D id:=fun id hid=>by
   unfold GD;have:fI M (Dr lo D') id up=fI M (Dr lo D) id up:=by
    rw[J3,L id];exact⟨fun h=>h.elim (fun h=>h) (fun h=>absurd h hid),.inl⟩
   rw[this]
  have bk:∀ k,Ff C (GD M lo up D') k->w.heap.size<=k∨Ff ρ (GD M lo up D) k:=fun k ⟨id,ab,l,hid,y,hl,ht⟩=>by
   by_cases hI:(M i).n<=id/\id<(M (i+1)).n
   .rw[(ax id hid hI.1 hI.2).1]at y;rcases st.tch k ⟨id,ab,l,hid,y,hl,ht⟩with h|⟨A,ay,l0,e1,e2,e3,e4⟩
    .exact .inl h
    .exact .inr ⟨A,ay,l0,e1,N A e1 ay e2,e3,e4⟩
   .rw[Z id hI]at y;obtain⟨l3,c1,_⟩:=inv.hr.at_ id hid ab y;rw[st.ext id l3 c1]at hl
    have:=A8 hl;subst this;exact .inr ⟨id,ab,l3,hid,y,c1,ht⟩
  refine⟨fun b l h=>st.ext b l (inv.ext b l h),fun b l h1 u=>?_,⟨st.hr.dom,fun id hid ab y=>?_⟩,fun k Y=>by rw[au k (D1 Y inv.size),inv.keep k Y],B9 inv.size st.size,⟨st.os.1.trans inv.os.1,st.os.2.1.trans inv.os.2.1,st.os.2.2.trans inv.os.2.2⟩,fun k Y=>(bk k Y).elim (fun h=>.inl (B9 inv.size h)) (inv.tch k),?_,?_,ao C v' st.ext hv⟩
  .cases h0:ρ b with
   | some l1 =>
     rw[st.ext b l1 h0]at h1
     have:=A8 h1;subst this;exact⟨(L b).2 (.inl (inv.new b l1 h0 u).1),(inv.new b l1 h0 u).2⟩
   | none =>
     have:=ar b l h1 h0;exact⟨(L b).2 (.inr this.1),fun W=>B9 inv.size (this.2 W)⟩
  .by_cases hI:(M i).n<=id/\id<(M (i+1)).n
   .obtain⟨h1,u⟩:=ax id hid hI.1 hI.2;rw[h1]at y;obtain⟨l,e1,e2,e3⟩:=st.hr.at_ id hid ab y;refine⟨l,e1,e2,fun O E=>⟨(e3 O E).1,fun q s I l2 f1 f2 f3=>?_⟩⟩;by_cases G:(M i).n<=q/\q<(M (i+1)).n
    .rw[(ax q s G.1 G.2).1]at f1;exact(e3 O E).2 q s I l2 f1 f2 f3
    .rw[Z q G]at f1;obtain⟨l3,c1,c2,_⟩:=inv.hr.at_ q s I f1;rw[st.ext q l3 c1]at f2
     have:=A8 f2;subst this;have h5:=c2.tc f3;have h6:=(ar id l e1 u).2 E;omega
   .rw[Z id hI]at y;obtain⟨l,e1,e2,e3⟩:=inv.hr.at_ id hid ab y;refine⟨l,st.ext _ _ e1,e2.mono st.ext (fun k Y=>au _ (e2.tc Y)),fun O E=>⟨(e3 O E).1,fun q s I l2 f1 f2 f3=>?_⟩⟩;by_cases G:(M i).n<=q/\q<(M (i+1)).n
    .exfalso;rw[(ax q s G.1 G.2).1]at f1;have cy:I.fr=true:=by
      cases hq:I.fr with
      | true=>rfl
      | false =>
        exfalso;rcases f3 with⟨_,h1,u⟩|⟨h1,_⟩
        .have h5:=(ar q l2 f2 (ax q s G.1 G.2).2).2 h1;have h6:=e2.tc (.inl ⟨AB.rw_on O,E,rfl⟩);omega
        .rw[h1]at hq;cases hq
     rcases st.tch _ ⟨q,I,l2,s,f1,f2,cy,f3⟩with h|⟨A,ay,l0,c1,c2,c3,_,c4⟩
     .have:=e2.tc (.inl ⟨AB.rw_on O,E,rfl⟩);omega
     .have h7:=(e3 O E).2 A c1 ay l0 (N A c1 ay c2) c3 c4;subst h7;have h8:=N A c1 ay c2;rw[y]at h8;have h8:=A8 h8;subst h8;have h9:A<mv.n∨m'.hi<=A:=by
       rcases F4 A mv.n with h|h
       .exact .inl h
       .rcases F4 A m'.hi with h'|h'
        .rw[T A h h']at e1;cases e1
        .exact .inr h'
      have bq:=st.same A c1 (by rw[hW];simp) h9;rw[c2]at bq;obtain⟨_,bd⟩:=st.hr.atl (st.ext _ _ e1) bq
      have:=(bd O E).2 q s I l2 f1 f2 f3;subst this;exact hI G
    .rw[Z q G]at f1;obtain⟨l3,c1,_⟩:=inv.hr.at_ q s I f1;rw[st.ext q l3 c1]at f2
     have:=A8 f2;subst this;exact(e3 O E).2 q s I l3 f1 c1 f3
  .cases bt:o.dst<;>simp[Act.put,inv.tsz]
  .rw[dS];exact inv.dfr.congr st.ext fun _=>⟨rfl,rfl⟩
end
end
section
open Go
variable [Ora]
def BB:∀ (l:List Bool) (i:Nat),l[i]? = some false->(l.set i true).countP (fun b=>!b)+1=l.countP (fun b=>!b)
 | [],i,h=>by simp at h
 | b::r,0,h=>by simp at h;subst h;simp
 | b::r,i+1,h=>by
   have:=BB r i (by simpa using h);rw[List.set_cons_succ,List.countP_cons,List.countP_cons];omega
def ML{l:List Bool}(h:l.countP (fun b=>!b)=0):∀ i,i<l.length->l[i]? = some true:=fun i hi=>by
 rw[List.countP_eq_zero]at h
 have:=h l[i] (M7 hi);rw[A5 hi];cases a:l[i]with
 | true=>rfl
 | false=>rw[a]at this;exact absurd rfl this
section
variable {P:Program} {base gl:Nat} {call:N9}
def WU(h:kE m m'=some m2)(a:m.hi<=m'.hi):m.hi<=m2.hi:=by
 unfold kE at h;cases b:Nat.ble m'.hi m.n with
 | true=>rw[b]at h;cases h;exact A6 _
 | false =>
   rw[b]at h;obtain⟨_,h⟩:=A3 h;simp only[E1,dE]at h;cases h;exact a
def yB:∀ {n:Nat} {b:G5} {a:Qs},EM n b a=true->∀ k,k<n->k ∈ b∨∃ q ∈ a,q.1=k
 | 0,_,_,_,k,h=>by omega
 | n+1,b,a,h,k,hk=>by
   obtain⟨h1,g⟩:=B4 (show((o9 b n || a.any fun q=>Nat.beq n q.1) && EM n b a)=true from h);by_cases e:k=n
   .subst e;rcases I1 _ _▸h1 with h1|h1
    .exact .inl (U8.1 h1)
    .obtain⟨q,f,d⟩:=O8.1 h1;exact .inr ⟨q,f,(A0 d).symm⟩
   .exact yB g k A2
def wK:∀ {i:Nat} {bs:List G5} {r:List Oper},DE i bs r=true->∀ (j:Nat) (c:List Nat) (o:Oper),bs[j]? = some c->r[j]? = some o->i ∈ c∨t6 o.op=true
 | _,[],_,_,j,c,o,h,_=>by simp at h
 | _,_::_,[],_,j,c,o,_,h=>by simp at h
 | i,c0::bs,o0::r,h,j,c,o,h1,h2=>by
   obtain⟨a,b⟩:=B4 (show((o9 c0 i || t6 o0.op) && DE i bs r)=true from h);cases j with
   | zero =>
     simp at h1 h2;subst h1;subst h2;rcases I1 _ _▸a with a|a
     .exact .inl (U8.1 a)
     .exact .inr a
   | succ j=>exact wK b j c o (by simpa using h1) (by simpa using h2)
def CF{ops:Array Oper}{X:Nat->Qs}{i:Nat}{o:Oper}(h:A1A ops X i o=true):t6 o.op=false:=by
 obtain⟨h,_⟩:=B4 (show(wrO o.op && _)=true from h);cases a:o.op<;>rw[a]at h<;>first
  | rfl
  | cases h
def KW{ops:Array Oper}{X:Nat->Qs}{i:Nat}{o:Oper}(h:A1A ops X i o=true):∀ k,k<i->k ∈ (X6 ops.toList []).getD i []∨∃ q ∈ X i,q.1=k:=by
 obtain⟨_,h⟩:=B4 (show(wrO o.op && _)=true from h);obtain⟨h,_⟩:=B4 h;exact yB h
def KV{ops:Array Oper}{X:Nat->Qs}{i:Nat}{o:Oper}(h:A1A ops X i o=true):∀ j p,i<j->ops[j]? = some p->i ∈ (X6 ops.toList []).getD j []∨t6 p.op=true:=fun j p f hp=>by
 obtain⟨_,h⟩:=B4 (show(wrO o.op && _)=true from h);obtain⟨_,h⟩:=B4 h;obtain⟨g,b,d,_⟩:=sE ops.toList [];have hlen:(X6 ops.toList []).length=ops.size:=by rw[b];simpa using d
 have e:j<ops.size:=(C5.1 hp).1;have a:j<(X6 ops.toList []).length:=A2
 have:=wK h (j-(i+1)) (X6 ops.toList [])[j] p (by rw[H5,show i+1+(j-(i+1))=j by omega,A5 a]) (by rw[H5,show i+1+(j-(i+1))=j by omega];exact R3 hp);rw[B1,A5 a];exact this
def qZ(ops:Array Oper)(B:Nat->Bool):∀ (d lo:Nat),lo+d=ops.size->∃ up,lo<=up/\up<=ops.size/\(∀ i o,lo<=i->i<up->ops[i]? = some o->B i=false)/\(up<ops.size->∃ o,ops[up]? = some o/\B up=true)
 | 0,lo,h=>⟨lo,A6 _,A2,fun i o h1 f=>by omega,fun f=>by omega⟩
 | d+1,lo,h=>by
   obtain⟨o,j⟩:=O7 (ops:=ops) (i:=lo) A2;cases g:B lo with
   | true=>exact⟨lo,A6 _,A2,fun i o h1 f=>by omega,fun _=>⟨o,j,g⟩⟩
   | false =>
     obtain⟨up,h1,f,h3,k⟩:=qZ ops B d (lo+1) A2;refine⟨up,A2,f,fun i o' a b c=>?_,k⟩;by_cases e:i=lo
     .subst e;exact g
     .exact h3 i o' A2 b c
section
variable {nt:Nat} {ops:Array Oper} {F:Nat->Fr} {M:Nat->Mem} {V:Nat->Value} {R:Nat->List Rec} {X:Nat->Qs} {B:Nat->Bool} {lo up:Nat}
def Rg.frameUp(g:Rg P base gl nt call ops F M V R X B)(a:nt<=512){t:Tmp}(b:t<nt){i:Nat}(hi:i<=ops.size):v8 (fun k=>Nat.blt k i) (fun k=>(ops[k]?).bind (·.dst)) V (F 0).get t ops.size=(F i).get t:=by
 rw[g.frame a b i hi];have e:∀ d,i+d<=ops.size->v8 (fun k=>Nat.blt k i) (fun k=>(ops[k]?).bind (·.dst)) V (F 0).get t (i+d)=v8 (fun k=>Nat.blt k i) (fun k=>(ops[k]?).bind (·.dst)) V (F 0).get t i:=by
  intro d;induction d with
  | zero=>intro _;rfl
  | succ d f =>
    intro j;rw[show i+(d+1)=(i+d)+1 by omega];rw[v8,A7 (fun hh=>by have:i+d<i:=A1 hh.1;omega)];exact f A2
 have:=e (ops.size-i) A2
 rwa[show i+(ops.size-i)=ops.size by omega]at this
def A9r{k i:Nat}:Nat.blt k i=true↔k<i:=⟨fun h=>A1 h,fun h=>C4 h⟩
def Rg.own(g:Rg P base gl nt call ops F M V R X B)(f:nt<=510):∀ (i:Nat),i<=ops.size->(F i).get 510=(F 0).get 510/\(F i).get 511=(F 0).get 511
 | 0,_=>⟨rfl,rfl⟩
 | i+1,hi=>by
   obtain⟨o,j⟩:=O7 (ops:=ops) (i:=i) A2;obtain⟨d1,_,d3,_⟩:=g.st i o j;have b:=g.own f i A2;have key:∀ t,510<=t->t<512->(F (i+1)).get t=(F i).get t:=fun t h1 l=>by
    rw[d3];cases k:o.dst with
    | none=>rfl
    | some d =>
      rw[k]at d1;have a:d<nt:=A1 d1;show((F i).set d _).get t=_;rw[K9 _ _ _ _ (D1 a A2) l,A7 (fun e=>by subst e;exact absurd a (Nat.not_lt.2 (B9 f h1)))]
   exact⟨(key 510 F1 F1).trans b.1,(key 511 F1 F1).trans b.2⟩
def Rg.inX(g:Rg P base gl nt call ops F M V R X B):∀ (j:Nat),j<=ops.size->∀ q ∈ X j,q.1<j/\q ∈ X (q.1+1)/\∃ o,ops[q.1]? = some o/\cX nt ops.toList (V3 P call o) ((X6 ops.toList []).getD q.1 []) (R q.1) (F q.1) o (M q.1) (M (q.1+1)) (V q.1) q.2
 | 0,_,q,hq=>by rw[g.x0]at hq;cases hq
 | j+1,hj,q,hq=>by
   obtain⟨o,d⟩:=O7 (ops:=ops) (i:=j) A2;have old:q ∈ X j->q.1<j+1/\q ∈ X (q.1+1)/\∃ o,ops[q.1]? = some o/\cX nt ops.toList (V3 P call o) ((X6 ops.toList []).getD q.1 []) (R q.1) (F q.1) o (M q.1) (M (q.1+1)) (V q.1) q.2:=fun h=>by
    obtain⟨h1,b⟩:=g.inX j A2 q h;exact⟨A2,b⟩
   rcases g.qs j o d with⟨_,h,_⟩|⟨_,h⟩|⟨_,r,h,b⟩
   .exact old (h▸hq)
   .exact old (h▸hq)
   .have a:=hq;rw[h]at hq;rcases B3.1 hq with e|e
    .subst e;exact⟨I5 _,a,o,d,b⟩
    .exact old e
def zV{all:List Oper}{b:G5}{fr:Fr}{o:Oper}{v:Value}(h:cX nt all op b rs fr o m m2 v r):∃ lg,m2=m.wLg lg:=by
 rcases h with⟨lg,_,_,h,_⟩|⟨_,a,_,_,h,_⟩
 .exact⟨lg,h⟩
 .exact⟨a,h⟩
def Rg.kind(g:Rg P base gl nt call ops F M V R X B){i:Nat}{o:Oper}(f:ops[i]? = some o)(a:t6 o.op=true):cX nt ops.toList (V3 P call o) ((X6 ops.toList []).getD i []) (R i) (F i) o (M i) (M (i+1)) (V i) none:=by
 obtain⟨_,_,_,h⟩:=g.st i o f;have j:IK (M i).H (F i) o.op=none:=by
  cases b:o.op<;>rw[b]at a<;>first|rfl|cases a
 rcases h with⟨_,lg,h1,e,h3⟩|⟨_,lg,d,h1,e,h3⟩|⟨h,_⟩|⟨_,h,_⟩
 .exact .inl ⟨lg,h1,e,h3,rfl⟩
 .exact .inr ⟨lg,d,h1,e,h3,j.symm⟩
 .rw[CF (g.sb i o f h)]at a;cases a
 .rw[a]at h;cases h
def Rg.heap{z:Zn}(g:Rg P base gl nt call ops F M V R X B)(f:Ph ops B M lo up){D:Nat->Bool}{p ρ:Ren}{a:Act}{w w':World}(hD:∀ k,lo<=k->k<up->D k=false->∃ lg,M (k+1)=(M k).wLg lg)(inv:Inv z P base gl nt ops F M V lo up p w D ρ a w'):St P base p ρ (M lo) (M up) w w':=by
 have y:∀ id,id<=H3->GD M lo up D id=Hp.get (M up).H id:=fun id hid=>by
  unfold GD;cases hu:fI M (Dr lo D) id up with
  | true=>rfl
  | false =>
    simp only[D4];refine((g.all f f.le (A6 _)).2.2.2.2 id hid ?_).symm;rcases F4 id (M lo).n with h1|h1
    .exact .inl h1
    .rcases F4 id (M up).n with e|e
     .exfalso;have hle:=f.le;obtain⟨k,q,I,v,o⟩:=g.who f (up-lo) A2 id h1 (by rw[show lo+(up-lo)=up by omega];exact e);have s:D k=true:=by
       cases E:D k with
       | true=>rfl
       | false =>
         obtain⟨lg,hm⟩:=hD k q A2 E;rw[hm]at o;have o:id<(M k).n:=o;omega
      rw[(S8 (M:=M) (D:=Dr lo D) up).2 ⟨k,A2,X1.2 ⟨q,s⟩,v,o⟩]at hu;cases hu
     .exact .inr e
 have d:=g.all f f.le (A6 _);refine⟨inv.ext,fun b l h1 e=>?_,d.1,d.2.1,fun _=>d.2.2.1,inv.hr.hr fun id hid ab t=>by rw[y id hid];exact t,fun b A=>by rw[d.2.2.2.1];exact A,fun b h1 e=>by rw[d.2.2.2.1]at h1;exact absurd h1 e,
     fun k G _=>inv.keep k G,inv.size,inv.os,fun b l h1 e J=>.inl ((inv.new b l h1 e).2 J),fun id hid h1 e=>?_,fun k ⟨id,ab,l,u,x,C,K⟩=>inv.tch k ⟨id,ab,l,u,(y id u).trans x,C,K⟩⟩
 .obtain⟨k,I,h,v,o⟩:=(S8 _).1 (inv.new b l h1 e).1;have q:=(X1.1 h).1;have u:=(g.le f (i:=lo) (j:=k) (A6 _) q A2).1;have x:=(g.le f (i:=k+1) (j:=up) A2 A2 (A6 _)).1;omega
 .refine d.2.2.2.2 id hid ?_;rcases e with e|e
  .exact .inl e
  .exact .inr (by have:=d.2.2.1;omega)
def Rg.last{z:Zn}(g:Rg P base gl nt call ops F M V R X B)(b:nt<=512){D:Nat->Bool}{d ρ:Ren}{a:Act}{l w':World}(hD:∀ i,i<ops.size->D i=true)(inv:Inv z P base gl nt ops F M V lo up d l D ρ a w'):FrR z ρ nt (F ops.size) a:=by
 have e:=inv.dfr.congr (fun _ _ h=>h) (fun n=>g.own n ops.size (A6 _));refine⟨inv.tsz,b,e.1,e.2,fun t j=>?_⟩;have h1:=inv.frm t j;rw[<- g.frameUp b j (A6 _)]
 rwa[eC (D':=fun k=>Nat.blt k ops.size) ops.size (fun k f _=>by rw[hD k f];exact(A9r.2 f).symm)]at h1
def Rg.fresh{z:Zn}(g:Rg P base gl nt call ops F M V R X B){D:Nat->Bool}{ρ:Ren}{a:Act}{w:World}(hD:∀ k,lo<=k->D k=true->∃ lg,M (k+1)=(M k).wLg lg)(hr:HR P base ρ (M lo).H w)(j:a.tmps.size=nt)(p:ZR z ρ nt (F 0) a.defers)
  (e:∀ t,t<nt->VR ρ (v8 D (fun k=>(ops[k]?).bind (·.dst)) V (F 0).get t ops.size) (a.tmps.getD t undef)):Inv z P base gl nt ops F M V lo up ρ w D ρ a w:=by
 have hu:∀ b n,fI M (Dr lo D) b n=false:=fun b n=>by
  cases v:fI M (Dr lo D) b n with
  | false=>rfl
  | true =>
    obtain⟨k,_,h,A,q⟩:=(S8 _).1 v;obtain⟨h1,o⟩:=X1.1 h;obtain⟨lg,hm⟩:=hD k h1 o;rw[hm]at q;have q:b<(M k).n:=q;omega
 have i:∀ id ab,GD M lo up D id=some ab->Hp.get (M lo).H id=some ab:=fun id ab d=>by
  unfold GD at d;rw[hu]at d;exact d
 exact⟨fun _ _ h=>h,fun b l h1 o=>(by rw[h1]at o;cases o),hr.f fun id hid ab d=>i id ab d,fun _ _=>rfl,A6 _,⟨rfl,rfl,rfl⟩,fun k ⟨id,ab,l,x,s,u,y⟩=>.inr ⟨id,ab,l,x,i id ab s,u,y⟩,j,p,e⟩
def Rg.old{z:Zn}(g:Rg P base gl nt call ops F M V R X B)(d:Ph ops B M lo up){e:Ren}{w0:World}{D:Nat->Bool}(a:At P base gl e (M lo) (M up).hi w0){b:Nat}{ab:AB}(p:wV (M lo).H b ab=true):GD M lo up D b=some ab:=by
 obtain⟨h1,hid⟩:=wU p;unfold GD;have hu:fI M (Dr lo D) b up=false:=by
  cases q:fI M (Dr lo D) b up with
  | false=>rfl
  | true =>
    exfalso;obtain⟨k,x,o,v,w⟩:=(S8 _).1 q;have t:=(X1.1 o).1;obtain⟨l,f,_⟩:=a.hr.at_ b hid _ h1;have s:=g.le d (i:=lo) (j:=k) (A6 _) t A2;have n:=g.le d (i:=k+1) (j:=up) A2 A2 (A6 _);have u:=(g.all d d.le (A6 _)).2.2.1;rw[a.fr b A2 A2]at f;cases f
 rw[hu];exact h1
end
def ZV(hm:P.follows .mixedOrders=true)(T:U2 P base gl call):fC P base gl call:=by
 refine⟨hm,?_⟩;intro nt ops bt s s' cl;obtain⟨F,M,V,R,X,B,f1,f2,f3,dy,f4,f5,f6⟩:=A2r ops.toList 0 _ _ _ s s' cl;simp only[E9,Q3]at f4 f5 f6;have ba:∀ i,i<=ops.size->∀ d,i+d<=ops.size->(M i).hi<=(M (i+d)).hi/\(M i).lg.le (M (i+d)).lg:=by
  intro i _ d;induction d with
  | zero=>intro _;exact⟨A6 _,.refl _⟩
  | succ d ih =>
    intro h;have h1:=ih A2;obtain⟨o,A⟩:=O7 (ops:=ops) (i:=i+d) A2;obtain⟨bl,_⟩:=f6 (i+d) o (R3 A);refine⟨?_,h1.2.trans (zJ T bl)⟩;obtain⟨_,_,_,O⟩:=bl;rcases O with⟨_,_,_,_,O⟩|⟨_,_,_,_,_,O⟩|⟨_,_,_,_,O⟩|⟨_,_,_,_,mv,m',_,_,_,cn,O⟩
    .show _<=(M (i+d+1)).hi;rw[O];exact h1.1
    .show _<=(M (i+d+1)).hi;rw[O];exact h1.1
    .exact B9 h1.1 O
    .exact B9 h1.1 (WU O cn)
 have E:∀ i j,i<=j->j<=ops.size->(M i).hi<=(M j).hi/\(M i).lg.le (M j).lg:=fun i j h1 O=>by
  have:=ba i A2 (j-i) A2
  rwa[show i+(j-i)=j by omega]at this
 constructor
 .have:=E 0 ops.size A2 (A6 _);rw[f2,f5]at this;exact this
 .intro z ar a0 w id Q cg ay ah hQ;have g:Rg P base gl nt call ops F M V R X B:=⟨fun i o A=>(f6 i o (R3 A)).1,fun i o A=>(f6 i o (R3 A)).2.2.1,fun i o A=>(f6 i o (R3 A)).2.2.2,fun i o A=>(f6 i o (R3 A)).2.1,dy,bt⟩;have dz:∀ i o,ops[i]? = some o->∀ e ∈ o.after.toList,Region.binds .any e=true->e.on<i:=fun i o A=>by
   have:=(gA _ 0 g.ok i o (R3 A)).1;rw[E9]at this;exact eE this
  refine jM hm ?_;generalize cm:({ w with drawn:=w.drawn+1 }:World)=w1;have aq:w1.heap=w.heap:=by rw[<- cm]
  have cw:w1.os=w.os/\w1.tape=w.tape/\w1.output=w.output:=by rw[<- cm];exact⟨rfl,rfl,rfl⟩
  have av:At P base gl ar (M 0) (M ops.size).hi w1:=by
   rw[f2,f5];exact⟨⟨fun b l h=>ay.hr.dom b l h,fun id hid ab dx=>by
    obtain⟨l,e1,e2,e3⟩:=ay.hr.at_ id hid ab dx;exact⟨l,e1,e2.mono (fun _ _ h=>h) (fun _ _=>by rw[aq]),e3⟩⟩,by rw[aq];exact ay.bs,ay.fr,ay.gr,ay.nh,ay.wb,fun k o C=>by rw[aq];exact ay.gf k o C⟩
  have ak:∀ i,i<=ops.size->Sat (M i).lg:=fun i hi=>Q6.le cg (by rw[<- f5];exact(E i ops.size hi (A6 _)).2)
  have az:J6 ar (M 0).n (M ops.size).hi:=av.fr;have fin:∀ (ρ:Ren) (a:Act) (w':World),FrR z ρ nt (F ops.size) a->St P base ar ρ (M 0) (M ops.size) w1 w'->Q .normal a w':=fun ρ a w' hf st=>by
   refine hQ ρ a w' (by rw[<- f4];exact hf) ?_;rw[<- f2,<- f5];exact⟨st.ext,st.new,st.nle,st.hle,st.nhi,st.hr,st.wsub,st.wrw,fun k C hb=>by rw[st.keep k (by rw[aq];exact C) hb,aq],by rw[<- aq];exact st.size,⟨st.os.1.trans cw.1,st.os.2.1.trans cw.2.1,st.os.2.2.trans cw.2.2⟩,fun b l h1 O h3=>by rw[<- aq];exact st.blk b l h1 O h3,st.same,fun k C=>by rw[<- aq];exact st.tch k C⟩
  have main:∀ (fuel:Nat) (listed:Array Bool) (lo up:Nat) (L ρ:Ren) (a:Act) (wL w':World),listed.size=ops.size->listed.toList.countP (fun b=>!b)=fuel->lI ops.toList (fun k=>listed.getD k false=true) ->
    Ph ops B M lo up->(up<ops.size->∃ o,ops[up]? = some o/\B up=true)->St P base ar L (M 0) (M lo) w1 wL->At P base gl L (M lo) (M ops.size).hi wL->(∀ q ∈ X lo,listed.getD q.1 false=false->A3l (M lo).H q.2=true)->(∀ k,k<lo->listed.getD k false=false->∃ q ∈ X lo,q.1=k)->(∀ k o,up<=k->ops[k]? = some o->listed.getD k false=true->t6 o.op=true) ->
    Inv z P base gl nt ops F M V lo up L wL (fun k=>listed.getD k false) ρ a w'->gO P z.rd .any ops Q fuel listed a w':=by
   have done:∀ (listed:Array Bool) (lo up:Nat) (L ρ:Ren) (a:Act) (wL w':World),(∀ i,i<ops.size->listed.getD i false=true)->Ph ops B M lo up->(up<ops.size->∃ o,ops[up]? = some o/\B up=true)->St P base ar L (M 0) (M lo) w1 wL->(∀ k o,up<=k->ops[k]? = some o->listed.getD k false=true->t6 o.op=true) ->
     Inv z P base gl nt ops F M V lo up L wL (fun k=>listed.getD k false) ρ a w'->Q .normal a w':=fun listed lo up L ρ a wL w' W ph I aj K inv=>by
    have ck:up=ops.size:=by
     rcases F4 up ops.size with h|h
     .obtain⟨o,A,hs⟩:=I h
      have:=K up o (A6 _) A (W up h);rw[CF (g.sb up o A hs)]at this;cases this
     .have:=ph.sz;omega
    subst ck;exact fin ρ a w' (g.last ah.le W inv) (St.trans az aj (g.heap ph (fun k _ h1 O=>by have O:listed.getD k false=false:=O;rw[W k h1]at O;cases O) inv))
   intro fuel;induction fuel with
   | zero =>
     intro listed lo up L ρ a wL w' cy bf ao ph I aj aa bb bw K inv;have W:∀ i,i<ops.size->listed.getD i false=true:=fun i hi=>by
      have:=ML bf i (by simpa [cy]using hi);have O:listed[i]? = some true:=by simpa using this
      simp[B5,O]
     refine⟨?_,done listed lo up L ρ a wL w' W ph I aj K inv⟩;rw[bC];intro j hj;obtain⟨h1,o,O,_⟩:=mem_ready.1 hj;have an:j<ops.size:=(C5.1 O).1;have h3:=W j an;have bc:j<listed.size:=A2;simp[B5,bc]at h1 h3;rw[h1]at h3;cases h3
   | succ fuel ih =>
     intro listed lo up L ρ a wL w' cy bf ao ph I aj aa bb bw K inv;refine⟨fun dm=>?_,fun i hi=>?_⟩
     ·
      have key:∀ n i,i<n->i<ops.size->listed.getD i false=true:=by
       intro n;induction n with
       | zero=>intro i h;omega
       | succ n bm =>
         intro i dk bn;by_cases h:i<n
         .exact bm i h bn
         .cases Y:listed.getD i false with
          | true=>rfl
          | false =>
            exfalso;obtain⟨o,A⟩:=O7 (ops:=ops) bn;have bk:i ∈ Region.ready .any ops listed:=mem_ready.2 ⟨by
             have bc:i<listed.size:=A2;simp[B5,bc]at Y ⊢;exact Y,o,A,fun e he hb=>by
             have an:=dz i o A e (by simpa using he) hb;exact bm e.on A2 A2⟩
            rw[dm]at bk;cases bk
      exact done listed lo up L ρ a wL w' (fun i hi=>key (i+1) i (I5 i) hi) ph I aj K inv
     .obtain⟨h1,o,A,O⟩:=mem_ready.1 hi;have bn:i<ops.size:=(C5.1 A).1;have ad:i<listed.size:=A2;have Z:listed.getD i false=false:=by
       simp[B5,ad]at h1 ⊢;exact h1
      have u:∀ k,k≠i->(listed.setIfInBounds i true).getD k false=listed.getD k false:=fun k C=>by
       simp only[B5,F5];rw[A7 (fun e=>C e.symm)]
      have J:(listed.setIfInBounds i true).getD i false=true:=by
       simp[B5,F5,ad]
      have hr:∀ e ∈ o.after.toList,Region.binds .any e=true->listed.getD e.on false=true:=fun e he hb=>O e (by simpa using he) hb
      have bj:(listed.setIfInBounds i true).size=ops.size:=by simpa using cy
      have br:(listed.setIfInBounds i true).toList.countP (fun b=>!b)=fuel:=by
       have hg:listed.toList[i]? = some false:=by
        simp[B5,ad]at Z;simp[ad,Z]
       have:=BB listed.toList i hg;rw[Array.toList_setIfInBounds];omega
      have bg:lI ops.toList (fun k=>(listed.setIfInBounds i true).getD k false=true):=by
       intro k o' ct C e he hb;by_cases e1:e.on=i
       .rw[e1];exact J
       .show(listed.setIfInBounds i true).getD e.on false=true;rw[u e.on e1];by_cases e2:k=i
        .subst e2;have:ops.toList[k]? = some o:=R3 A;rw[this]at ct;cases ct;exact hr e he hb
        .have C:(listed.setIfInBounds i true).getD k false=true:=C;rw[u k e2]at C;exact ao k o' ct C e he hb
      have bu:∀ k,k ∈ (X6 ops.toList []).getD i []->listed.getD k false=true:=fun k C=>yD ao (fun i o A=>by
        have:=(gA _ 0 g.ok i o A).1;rw[E9]at this;exact eE this) (i+1) i k o (I5 i) (R3 A) hr C
      have an:∀ k,listed.getD k false=true->k<ops.size:=fun k C=>by
       rcases F4 k ops.size with h|h
       .exact h
       .have S:listed[k]? = none:=Array.getElem?_eq_none_iff.2 A2;rw[B5,S]at C;cases C
      have af:At P base gl L (M lo) (M up).hi wL:=aa.less (E up ops.size ph.sz (A6 _)).1;have go:∀ (y:Ren) (a':Act) (G:World),(up<=i->t6 o.op=true)->Inv z P base gl nt ops F M V lo up L wL (fun k=>(listed.setIfInBounds i true).getD k false) y a' G->gO P z.rd .any ops Q fuel (listed.setIfInBounds i true) a' G:=fun y a' G Y au =>
       ih (listed.setIfInBounds i true) lo up L y a' wL G bj br bg ph I aj aa (fun q Y S=>bb q Y (by
        by_cases e:q.1=i
        .rw[e,J]at S;cases S
        .rw[u _ e]at S;exact S)) (fun k C S=>by
        by_cases e:k=i
        .subst e;rw[J]at S;cases S
        .rw[u k e]at S;exact bw k C S) (fun k p C hp hl=>by
        by_cases e:k=i
        .subst e;rw[A]at hp;cases hp;exact Y C
        .rw[u k e]at hl;exact K k p C hp hl) au
      have quiet:∀ r,(up<=i->t6 o.op=true)->cX nt ops.toList (V3 P call o) ((X6 ops.toList []).getD i []) (R i) (F i) o (M i) (M (i+1)) (V i) r->(∀ b ab,r=some (b,ab)->GD M lo up (fun k=>listed.getD k false) b=some ab)->fP P z.rd ops Q i (fun a' G=>gO P z.rd .any ops Q fuel (listed.setIfInBounds i true) a' G) a w':=fun r Y U dt =>
       g.quiet T af (ak (i+1) A2) ah.le inv ao an A Z hr u J U dt fun y a' G au=>go y a' G Y au
      rcases F4 i lo with ag|ag
      ·
       obtain⟨q,cq,cj⟩:=bw i ag Z;obtain⟨_,_,p,hp,U⟩:=g.inX lo (by have:=ph.sz;have:=ph.le;omega) q cq;rw[cj]at hp U;rw[A]at hp;cases hp;refine quiet q.2 (fun h=>by have:=ph.le;omega) U fun b ab hb=>?_
       refine g.old (z:=z) ph af ?_
       have:=bb q cq (by rw[cj];exact Z);rw[hb]at this;exact this
      .rcases F4 i up with cv|cv
       ·
        by_cases hex:∃ r,cX nt ops.toList (V3 P call o) ((X6 ops.toList []).getD i []) (R i) (F i) o (M i) (M (i+1)) (V i) r
        .obtain⟨r,U⟩:=hex;refine quiet r (fun h=>by omega) U fun b ab hb=>?_
         rcases U with⟨_,_,_,_,dw⟩|⟨lg,dh,hw,Y,hm,du⟩
         .rw[dw]at hb;cases hb
         .obtain⟨mv,m',cz,_⟩:=jW Y;obtain⟨h3,h4⟩:=(qU cz).2.2.2.2.2 b ab (du.symm.trans hb);obtain⟨h5,h6⟩:=wU h3;exact g.see (z:=z) (a:=a) (ρ:=ρ) (w:=w') ph af ao ag cv A hr b h6 _ h5 h4
        .exact g.step ph T af (ak up ph.sz) ah.le inv ao an ag cv A Z hr u J hex fun y a' G au=>go y a' G (fun h=>by omega) au
       .obtain⟨os,bq,aw⟩:=I A2;rcases F4 up i with dn|di
        ·
         have C:t6 o.op=true:=by
          rcases KV (g.sb up os bq aw) i o dn A with h|h
          .have h3:=K up os (A6 _) bq (bu up h);rw[CF (g.sb up os bq aw)]at h3;cases h3
          .exact h
         exact quiet none (fun _=>C) (g.kind A C) fun b ab hb=>by cases hb
        ·
         have cb:i=up:=A2;subst cb;rw[A]at bq;cases bq;have ae:∀ k,k<i->listed.getD k false=false->∃ q ∈ X i,q.1=k:=fun k C S=>by
          rcases KW (g.sb i o A aw) k C with h|h
          .rw[bu k h]at S;cases S
          .exact h
         have q2:=g.heap ph (fun k _ C S=>by
          obtain⟨q,Y,e⟩:=ae k C S;obtain⟨_,_,p,hp,U⟩:=g.inX i A2 q Y;rw[e]at U;exact zV U) inv
         have dr:St P base ar ρ (M 0) (M i) w1 w':=St.trans (az.less (E i ops.size A2 (A6 _)).1) aj q2;have ax:At P base gl ρ (M i) (M ops.size).hi w':=aa.step q2;obtain⟨d1,d2,d3,bl⟩:=g.st i o A;have bx:∀ t,t ∈ U4 ops.toList o->t<nt->VR ρ ((F i).get t) (a.tmps.getD t undef):=fun t ht cp=>by
          rw[<- g.look ah.le ao an A Z hr ht cp];exact inv.frm t cp
         have ds:FR ρ (F i) a.eval o.op:=fun x hx=>by
          have bt:okX nt gl x=true:=D0.1 d2 x hx;cases x with
          | tmp t=>exact bx t (uV hx rfl) (A1 bt)
          | const v=>exact VR.ofC bt
          | global gg=>exact VR.ptr (o:=0) (ax.gr gg (A1 bt))
          | func f=>exact .func (a:=[]) (b:=[]) (a':=[]) (b':=[]) rfl rfl (fun i v v' h=>by simp at h) (fun i v v' h=>by simp at h)
         have cu:∀ lg b,aB nt (F i) (M i).lg ops.toList o=some (b,lg)->Sat lg->Region.wanted o (yielded ops a.tmps)=b:=fun lg b hw bd=>by
          unfold aB at hw;split at hw
          .rename_i hg;cases hw;simp[Region.wanted,hg]
          .rename_i j want hg;split at hw
           .rename_i p hp;split at hw
            .rename_i t ht;obtain⟨h1,O⟩:=A3 hw;have h1:t<nt:=A1 h1;have hv:=bx t (by
              unfold U4;refine B7.2 (.inr (B7.2 (.inr ?_)));simp[hg,hp,ht]) h1
             exact lL hg hp ht (by rw[inv.tsz];exact h1) (oC O hv bd)
            .cases hw
           .cases hw
         have bp:∀ (y:Ren) (v':Value),(∀ b l,ρ b=some l->y b=some l)->VR y (V i) v'->∀ t,t<nt->VR y (v8 (fun k=>(listed.setIfInBounds i true).getD k false) (fun k=>(ops[k]?).bind (·.dst)) V (F 0).get t ops.size) ((a.put o.dst v').tmps.getD t undef):=fun y v' he hv t ht=>by
          by_cases hd:o.dst=some t
          .have al:∀ k,i<k->k<ops.size->(ops[k]?).bind (·.dst)=some t->listed.getD k false=false:=fun k dj C ca=>by
            obtain⟨p,hp⟩:=O7 (ops:=ops) C;rw[hp]at ca
            have:=g.slot ao an A Z hr (t:=t) (by unfold U4;simp[hd]) k p hp A2 ca;cases Y:listed.getD k false with
            | false=>rfl
            | true=>have:=this.1 Y;omega
           rw[qB (D:=fun k=>listed.getD k false) u J ops.size bn (by simp[A,hd]) al];simp only[hd,Act.put,B5];rw[F5,A9 rfl,A9 (by rw[inv.tsz];exact ht)];exact hv
          .rw[nJ (D:=fun k=>listed.getD k false) u (by simp[A];exact hd)];have h1:=(inv.frm t ht).mono he;cases ch:o.dst with
           | none=>exact h1
           | some d =>
             have dp:d≠t:=fun e=>hd (e▸ch)
             simp only[Act.put,B5]at h1 ⊢;rw[F5,A7 dp];exact h1
         have hX:X (i+1)=X i/\XQ ((X6 ops.toList []).getD i []) (M (i+1)).H (X i)=true:=by
          rcases g.qs i o A with⟨_,h3,h4⟩|⟨h3,_⟩|⟨h3,_⟩
          .exact⟨h3,h4⟩
          .rw[aw]at h3;cases h3
          .rw[aw]at h3;cases h3
         have al:∀ (y:Ren) (v':Value) (G:World),VR y (V i) v'->St P base ρ y (M i) (M (i+1)) w' G->gO P z.rd .any ops Q fuel (listed.setIfInBounds i true) (a.put o.dst v') G:=fun y v' G hv ai=>by
          obtain⟨dq,u1,u2,u3,u4⟩:=qZ ops B (ops.size-(i+1)) (i+1) A2;have bh:=ax.step ai;refine ih (listed.setIfInBounds i true) (i+1) dq y y _ G G bj br bg ⟨u1,u2,bh.nh,u3⟩ u4 (St.trans (az.less (E (i+1) ops.size A2 (A6 _)).1) dr ai) bh (fun q Y S=>?_) (fun k C S=>?_) (fun k p C hp hl=>?_)
           (g.fresh (fun k C hl=>?_) ai.hr ?_ ?_ (bp y v' ai.ext hv))
          .rw[hX.1]at Y;have h5:=D0.1 hX.2 q Y;rcases I1 _ _▸h5 with h5|h5
           .exfalso;have h6:=bu q.1 (U8.1 h5);by_cases e:q.1=i
            .rw[e,Z]at h6;cases h6
            .rw[u _ e,h6]at S;cases S
           .exact h5
          .rw[hX.1];by_cases e:k=i
           .subst e;rw[J]at S;cases S
           .rw[u k e]at S;exact ae k A2 S
          .rw[u k A2]at hl;exact K k p A2 hp hl
          .have hl:(listed.setIfInBounds i true).getD k false=true:=hl;rw[u k A2]at hl;obtain⟨p,hp⟩:=O7 (ops:=ops) (an k hl);exact zV (g.kind hp (K k p A2 hp hl))
          .cases ch:o.dst<;>simp[Act.put,inv.tsz]
          .rw[dS];exact inv.dfr.congr ai.ext fun _=>⟨rfl,rfl⟩
         unfold fP;simp only[A];rcases bl with⟨N,_⟩|⟨N,_⟩|⟨_,lg,hw,bz,cn⟩|⟨N,_⟩
         .rw[aw]at N;cases N
         .rw[aw]at N;cases N
         .have cf:=ak (i+1) A2;have bd:Sat lg:=Q6.le cf (by have:=s5 T bz;rw[Z2]at this;exact this);rw[cu lg true hw bd];simp only[if_true];have cd:At P base gl ρ ((M i).wLg lg) (M (i+1)).hi w':=(ax.wLg lg).less (E (i+1) ops.size A2 (A6 _)).1;refine oM T bz cf cd ds fun v' y G hv ai=>al y v' G hv ?_
          have cr:=St.wLg (m:=M i) ax.hr lg;exact St.trans (by have:=ax.fr;exact this.less (E (i+1) ops.size A2 (A6 _)).1) cr ai
         .rw[aw]at N;cases N
  obtain⟨up,u1,u2,u3,u4⟩:=qZ ops B ops.size 0 A2;have bo:∀ k,(Array.replicate ops.size false).getD k false=false:=fun k=>by
   simp only[B5,fN];split<;>simp
  refine main ops.size _ 0 up ar ar a0 w1 w1 (by simp) (by simp[List.countP_replicate]) (fun k o A C=>by have C:(Array.replicate ops.size false).getD k false=true:=C;rw[bo k]at C;cases C) ⟨u1,u2,av.nh,u3⟩ u4 (St.refl av.hr) av (fun q Y=>by rw[g.x0]at Y;cases Y) (fun k C=>by omega) (fun k o C A hl=>by rw[bo k]at hl;cases hl)
   (g.fresh (fun k _ hl=>by have hl:(Array.replicate ops.size false).getD k false=true:=hl;rw[bo k]at hl;cases hl) av.hr ah.size (by rw[f1];exact ah.zr) fun t ht=>?_)
  have h0:∀ n,v8 (fun k=>(Array.replicate ops.size false).getD k false) (fun k=>(ops[k]?).bind (·.dst)) V (F 0).get t n=(F 0).get t:=by
   intro n;induction n with
   | zero=>rfl
   | succ n bm=>rw[v8,A7 (fun hh=>by rw[bo n]at hh;exact absurd hh.1 (by simp)),bm]
  rw[h0,f1];exact ah.get t ht
end
end
section
open Go
variable [Ora]
section
variable {P:Program} {base gl:Nat}
def uL{f:FuncId}{e:U9->Sem Value}{args:U9}{w w':World}{v:Value}(i:P.funcs[f]? = some fn)(b:(fn.name == "runtime.NumGoroutine")=false)(d:fn.body=none)(g:Extern.findNext fn=none)(he:Extern.find fn=some e)
  (hr:(e args).run P w=.ok v w'):(callFunc f args).run P w=.ok (.value v) w':=by
 have a:fn.name ≠ "runtime.NumGoroutine":=by simpa using b
 simp[callFunc,A4,run_program,Result.andThen,i,a,d,g,he,mark,Sem.run,hr]
def kV{k:EK}{vs:C8}{v:Value}(h:nM k vs m=some (v,m')) :
  (k=.noEscape/\vs=[v]/\m'=m) ∨
  (k=.indexByteString/\∃ s c,vs=[.string s,.int .u8 (.ofNat c)]/\v=.int .i64 (rM s.data.toList (UInt8.ofNat c) 0)/\m'=m) ∨
  (k=.countString/\∃ s c,vs=[.string s,.int .u8 (.ofNat c)]/\v=.int .i64 (sA (UInt8.ofNat c) s.data.toList 0)/\m'=m) ∨
  (∃ e n,k=.makeNoZero e/\vs=[.int .i64 (.ofNat n)]/\n<=1000000000/\Y0 m (.cells [] e false) (fun b=>.slice (some ⟨b,0,none⟩) n L9)=some (v,m')):=by
 unfold nM at h;split at h
 .cases h;exact .inl ⟨rfl,rfl,rfl⟩
 .cases h;exact .inr (.inl ⟨rfl,_,_,rfl,rfl,rfl⟩)
 .cases h;exact .inr (.inr (.inl ⟨rfl,_,_,rfl,rfl,rfl⟩))
 .obtain⟨h1,h⟩:=A3 h;exact .inr (.inr (.inr ⟨_,_,rfl,rfl,A1 h1,h⟩))
 .cases h
def uM{k:EK}{vs:C8}{v:Value}(h:(FnC.mk (nM k)).run vs m=some (v,m')):m.lg.le m'.lg:=by
 have h:nM k vs m=some (v,m'):=h;rcases kV h with⟨_,_,rfl⟩|⟨_,_,_,_,_,rfl⟩|⟨_,_,_,_,_,rfl⟩|⟨_,_,_,_,_,h⟩
 .exact .refl _
 .exact .refl _
 .exact .refl _
 .obtain⟨_,_,rfl⟩:=K6 h;exact .refl _
def HH{f:FuncId}(e:P.funcs[f]? = some fn)(b:(fn.name == "runtime.NumGoroutine")=false)(g:fn.body=none)(i:Extern.findNext fn=none)(he:Extern.find fn=some Extern.AbiNoEscape.same):lH P base gl f ⟨nM .noEscape⟩:=by
 refine⟨fun vs m m' v hr=>uM hr,?_⟩;intro ρ m m' w vs vs' v hr l a j;have hr:nM .noEscape vs m=some (v,m'):=hr;rcases kV hr with⟨_,rfl,rfl⟩|⟨h,_⟩|⟨h,_⟩|⟨_,_,h,_⟩
 .obtain⟨v',k,rfl,h1,d⟩:=j.tail;cases d.nil_inv;exact .inr ⟨v',ρ,w,uL e b g i he rfl,h1,.refl a.hr⟩
 .cases h
 .cases h
 .cases h
def AN(c:UInt8):∀ (l:List UInt8) (k:Nat),rM l c k=if Lib.indexByte l c == -1 then -1 else Lib.indexByte l c+k
 | [],k=>rfl
 | x::r,k=>by
   have f:=Lib.indexByte_ge r c;have b:=AN c r (k+1);rw[rM,Lib.indexByte];by_cases e:x=c
   .subst e;simp
   .have a:(x == c)=false:=by simpa using e
    simp only[a,E0 e,D4];rw[b];by_cases h:Lib.indexByte r c = -1
    .simp[h]
    .have d:(Lib.indexByte r c == -1)=false:=by simpa using h
     have h3:(Lib.indexByte r c+1 == -1)=false:=by simp;omega
     simp only[d,h3,I9,if_false];omega
def MC(c:UInt8)(l:List UInt8):rM l c 0=Lib.indexByte l c:=by
 rw[AN];by_cases h:Lib.indexByte l c = -1
 .simp[h]
 .have a:(Lib.indexByte l c == -1)=false:=by simpa using h
  simp[a]
def nO(c:UInt8):∀ (l:List UInt8) (n:Nat),sA c l n=n+l.count c
 | [],n=>rfl
 | x::r,n=>by
   rw[sA,List.count_cons];by_cases e:x=c
   .subst e;simp only[decide_true,D7,E1,beq_self_eq_true,if_true];rw[nO x r (n+1)];omega
   .have a:(x == c)=false:=by simpa using e
    simp only[E0 e,D4,a,I9,if_false];rw[nO c r n];omega
def DK{f:FuncId}(e:P.funcs[f]? = some fn)(b:(fn.name == "runtime.NumGoroutine")=false)(g:fn.body=none)(i:Extern.findNext fn=none)(he:Extern.find fn=some Extern.BytealgIndexByte.indexByte):lH P base gl f ⟨nM .indexByteString⟩:=by
 refine⟨fun vs m m' v hr=>uM hr,?_⟩;intro ρ m m' w vs vs' v hr n a j;have hr:nM .indexByteString vs m=some (v,m'):=hr;rcases kV hr with⟨h,_⟩|⟨_,s,c,rfl,rfl,rfl⟩|⟨h,_⟩|⟨_,_,h,_⟩
 .cases h
 .obtain⟨v1,r1,rfl,h1,d⟩:=j.tail;obtain⟨v2,l,rfl,h3,k⟩:=d.tail;cases k.nil_inv;cases T5 h1;cases I6 h3;refine .inr ⟨_,ρ,w,uL e b g i he (Lib.run_indexByteString s (.ofNat c) w),?_,.refl a.hr⟩;rw[MC];exact .pure rfl
 .cases h
 .cases h
def xK{f:FuncId}(e:P.funcs[f]? = some fn)(b:(fn.name == "runtime.NumGoroutine")=false)(g:fn.body=none)(i:Extern.findNext fn=none)(he:Extern.find fn=some Extern.BytealgCount.count):lH P base gl f ⟨nM .countString⟩:=by
 refine⟨fun vs m m' v hr=>uM hr,?_⟩;intro ρ m m' w vs vs' v hr n a j;have hr:nM .countString vs m=some (v,m'):=hr;rcases kV hr with⟨h,_⟩|⟨h,_⟩|⟨_,s,c,rfl,rfl,rfl⟩|⟨_,_,h,_⟩
 .cases h
 .cases h
 .obtain⟨v1,r1,rfl,h1,d⟩:=j.tail;obtain⟨v2,l,rfl,h3,k⟩:=d.tail;cases k.nil_inv;cases T5 h1;cases I6 h3;refine .inr ⟨_,ρ,w,uL e b g i he (Lib.run_countString s (.ofNat c) w),?_,.refl a.hr⟩;rw[nO,E9];exact .pure rfl
 .cases h
def yX{f:FuncId}{ps:Array TypeId}{t e:TypeId}(p:P.funcs[f]? = some fn)(j:(fn.name == "runtime.NumGoroutine")=false)(q:fn.body=none)(x:Extern.findNext fn=none)(he:Extern.find fn=some (Extern.BytealgMakeNoZero.makeNoZero ps #[t]))
  (hu:P.underlying t=some (.slice e)) (hi:(P.info? e).map (·.size)=some 1):lH P base gl f ⟨nM (.makeNoZero e)⟩:=by
 refine⟨fun vs m m' v hr=>uM hr,?_⟩;intro ρ m m' w vs vs' v hr A a y;have hr:nM (.makeNoZero e) vs m=some (v,m'):=hr;rcases kV hr with⟨h,_⟩|⟨h,_⟩|⟨h,_⟩|⟨e',n,h,rfl,k,hr⟩
 .cases h
 .cases h
 .cases h
 .cases h;obtain⟨v1,r1,rfl,h1,g⟩:=y.tail;cases g.nil_inv;cases I6 h1;obtain⟨cs,d,hle,_⟩:=Lib.run_makeNoZero (P:=P) w ps t e hu n A2;obtain⟨z,l,s⟩:=dB (wd:=w.drew.drew) (fz:=(0,0)) (cap:=cs.size) (C:=cs) (cs':=[]) a.hr a.bs hr a.fr (.nil) (fun i u hi=>by simp at hi) NF.zero
   (fun inf g=>by rw[g]at hi;have hi:some inf.size=some 1:=hi;have hi:=A8 hi;rw[hi];omega) ⟨rfl,rfl,rfl⟩ rfl
  refine .inr ⟨_,_,_,uL p j q x he d,?_,s⟩;rw[z]
  have:=VR.op (ρ:=upd ρ m.n (lc w.heap.size 0 cs.size)) (b:=m.n) (o:=0) (n:=n) (m:=L9) (m':=cs.size) l (A6 _) hle (fun _ _=>rfl)
  simpa using this
end
end
section
open Go
variable [Ora]
structure yF (P:Program) (f:FuncId) (k:EK):Prop where
 row:∃ fn,P.funcs[f]? = some fn/\(fn.name == "runtime.NumGoroutine")=false/\fn.body=none/\Extern.findNext fn=none /\
  ((k=.noEscape/\Extern.find fn=some Extern.AbiNoEscape.same)∨(k=.indexByteString/\Extern.find fn=some Extern.BytealgIndexByte.indexByte)∨(k=.countString/\Extern.find fn=some Extern.BytealgCount.count) ∨
    (∃ e ps t,k=.makeNoZero e/\Extern.find fn=some (Extern.BytealgMakeNoZero.makeNoZero ps #[t])/\P.underlying t=some (.slice e)/\(P.info? e).map (·.size)=some 1))
def yF.ok{P:Program}{f:FuncId}{k:EK}{base gl:Nat}(h:yF P f k):lH P base gl f ⟨nM k⟩:=by
 obtain⟨fn,h1,d,h3,b,a⟩:=h.row;rcases a with⟨rfl,a⟩|⟨rfl,a⟩|⟨rfl,a⟩|⟨e,ps,t,rfl,a,i,g⟩
 .exact HH h1 d h3 b a
 .exact DK h1 d h3 b a
 .exact xK h1 d h3 b a
 .exact yX h1 d h3 b a i g
def AV:∀ {l:List (FuncId×EK)} {f:FuncId} {k:EK},IS l f=some k->(f,k) ∈ l
 | (g,j)::r,f,k,h=>by
   rw[IS]at h;cases e:Nat.beq g f with
   | true =>
     rw[e]at h;cases h;rw[A0 e];exact .head _
   | false =>
     rw[e]at h;exact .tail _ (AV h)
theorem A2L{P:Program}{ext:List (FuncId×EK)}{gl base:Nat}{con:FuncId->Option FnC}{lp:FuncId->LpT}(hm:P.follows .mixedOrders=true)(b:EQ P)(he:∀ p ∈ ext,yF P p.1 p.2)
  (a:∀ f c,con f=some c->lH P base gl f c) (d:∀ f fn body,P.funcs[f]? = some fn->fn.body=some body->NB P base gl fn.ntmps body (lp f)) :
  A2l ⟨P,ext,gl,con,lp⟩ base :=
 { names:=b,ext:=fun f k fn _ _ h=>(he _ (AV h)).ok,con:=a,lp:=d,draws:=fun _ h=>ZV hm h }
end
section
open Go
inductive Sh where
 | s (t:Nat)
 | a (ts:List Nat)
def FE(t:Nat)(u:U):P5:=if F7 u=t then toV u else none
def QW:G5->List U->Option (C8×List U)
 | [],us=>some ([],us)
 | t::ts,u::us=>match FE t u,QW ts us with
   | some v,some (vs,r)=>some (v::vs,r)
   | _,_=>none
 | _::_,[]=>none
def FD:Sh->List U->Option (Value×List U)
 | .s t,u::us=>match FE t u with
   | some v=>some (v,us)
   | none=>none
 | .s _,[]=>none
 | .a ts,us=>match QW ts us with
   | some (vs,r)=>some (.agg ⟨vs⟩,r)
   | none=>none
def QV:List Sh->List U->Option C8
 | [],[]=>some []
 | [],_::_=>none
 | h::hs,us=>match FD h us with
   | some (v,r)=>match QV hs r with
     | some vs=>some (v::vs)
     | none=>none
   | none=>none
def tup:C8->Value
 | [v]=>v
 | vs=>.tuple ⟨vs⟩
structure lG (w w':World):Prop where
 os:w'.os=w.os/\w'.tape=w.tape/\w'.output=w.output
 size:w.heap.size<=w'.heap.size
 keep:∀ k,k<w.heap.size->w'.heap[k]? = w.heap[k]?
def GOk(G:Nat->Option Obj)(w:World):Prop:=∀ k o,G k=some o->w.heap[k]? = some o
def GOk.lt{G:Nat->Option Obj}{w:World}(h:GOk G w){k:Nat}{o:Obj}(a:G k=some o):k<w.heap.size:=by
 have:=h k o a;rcases F4 k w.heap.size with h1|h1
 .exact h1
 .rw[Array.getElem?_eq_none h1]at this;cases this
abbrev cH:=List U->Option (Nat×List U)
def Sh.tags:Sh->G5
 | .s t=>[t]
 | .a ts=>ts
def zI:List Sh->G5
 | []=>[]
 | s::ss=>s.tags++zI ss
def Sh.n(s:Sh):Nat:=s.tags.length
def shN:List Sh->Nat
 | []=>0
 | h::hs=>h.n+shN hs
def kZ(a:List Sh):Bool:=(zI a).any (Nat.ble 10)
inductive ShR (R:Nat->Option Obj):Sh->List U->Value->Prop
 | s {t u v} (h:Enc R u v) (ht:F7 u=t):ShR R (.s t) [u] v
 | a {ts us cs} (h:X7 R us cs) (ht:us.map F7=ts):ShR R (.a ts) us (.agg ⟨cs⟩)
inductive ShL (R:Nat->Option Obj):List Sh->List U->C8->Prop
 | nil:ShL R [] [] []
 | cons {s ss us us2 v vs} (h:ShR R s us v) (k:ShL R ss us2 vs):ShL R (s::ss) (us++us2) (v::vs)
def X7.append{R:Nat->Option Obj}{us b:List U}{vs:C8}(h:X7 R us vs)(k:X7 R b vs2):X7 R (us++b) (vs++vs2):=by
 refine⟨by simp[h.1,k.1],fun i u v h1 d=>?_⟩;rcases F4 i us.length with a|a
 .rw[E7 a]at h1;rw[E7 (h.1▸a)]at d;exact h.2 i u v h1 d
 .rw[D5 a]at h1;rw[D5 (h.1▸a),<- h.1]at d;exact k.2 _ u v h1 d
def X7.split{R:Nat->Option Obj}:∀ {vs vs2:C8} {us:List U},X7 R us (vs++vs2)->∃ a b,us=a++b/\X7 R a vs/\X7 R b vs2
 | [],vs2,us,h=>⟨[],us,rfl,.nil,h⟩
 | v::vs,vs2,[],h=>by have:=h.1;simp at this
 | v::vs,vs2,u::us,h=>by
   obtain⟨a,b,rfl,h1,e⟩:=X7.split (vs:=vs) (vs2:=vs2) (us:=us) ⟨by have:=h.1;simpa using this,fun i x y d a2=>h.2 (i+1) x y (by simpa using d) (by simpa using a2)⟩;exact⟨u::a,b,rfl,.cons (h.2 0 u v rfl rfl) h1,e⟩
def X7.mono{R d:Nat->Option Obj}{us:List U}{vs:C8}(h:X7 R us vs)(k:Sub R d):X7 d us vs:=⟨h.1,fun i u v a b=>(h.2 i u v a b).mono k⟩
def FG{R:Nat->Option Obj}:∀ {ts:G5} {us r:List U} {vs:C8},QW ts us=some (vs,r)->∃ a,us=a++r/\X7 R a vs/\a.map F7=ts
 | [],us,r,vs,h=>by cases h;exact⟨[],rfl,.nil,rfl⟩
 | t::ts,u::us,r,vs,h=>by
   unfold QW at h;split at h
   .rename_i v g i h1 f;cases h;obtain⟨a,rfl,b,e⟩:=FG (R:=R) f;unfold FE at h1;split at h1
    .rename_i d;exact⟨u::a,rfl,.cons (.sc h1) b,by simp[d,e]⟩
    .cases h1
   .cases h
 | _::_,[],_,_,h=>by cases h
def QU{R:Nat->Option Obj}{s:Sh}{us r:List U}{v:Value}(h:FD s us=some (v,r)):∃ a,us=a++r/\ShR R s a v:=by
 cases s with
 | s t =>
   cases us with
   | nil=>cases h
   | cons u us =>
     simp only[FD]at h;split at h
     .rename_i v1 hv;cases h;unfold FE at hv;split at hv
      .rename_i e;exact⟨[u],rfl,.s (.sc hv) e⟩
      .cases hv
     .cases h
 | a ts =>
   simp only[FD]at h;split at h
   .rename_i vs g hv;cases h;obtain⟨a,b,f,d⟩:=FG (R:=R) hv;exact⟨a,b,.a f d⟩
   .cases h
def vF{R:Nat->Option Obj}:∀ {b:List Sh} {us:List U} {vs:C8},QV b us=some vs->ShL R b us vs
 | [],[],vs,h=>by cases h;exact .nil
 | [],_::_,_,h=>by cases h
 | s::b,us,vs,h=>by
   unfold QV at h;split at h
   .rename_i v r hv;split at h
    .rename_i f d;cases h;obtain⟨a,rfl,e⟩:=QU (R:=R) hv;exact .cons e (vF d)
    .cases h
   .cases h
def ZP{R:Nat->Option Obj}{us:List U}{vs:C8}(h:X7 R us vs)(a:vs2.length=us.length)(k:∀ (i:Nat) (u:U) (v:Value),us[i]? = some u->vs2[i]? = some v->toV u=some v):vs=vs2:=by
 refine fH fun i=>?_
 rcases F4 i us.length with hi|hi
 .have h1:us[i]? = some us[i]:=A5 hi;have b:vs[i]? = some (vs[i]'(h.1▸hi)):=A5 _;have h3:vs2[i]? = some (vs2[i]'(a▸hi)):=A5 _;rw[b,h3,eY (h.2 i _ _ h1 b) (k i _ _ h1 h3)]
 .rw[S2 (by rw[<- h.1];exact hi),S2 (by rw[a];exact hi)]
def FF:∀ {ts:G5} {us r:List U} {vs:C8},QW ts us=some (vs,r)->∃ a,us=a++r/\vs.length=a.length/\a.length=ts.length/\∀ (i:Nat) (u:U) (v:Value),a[i]? = some u->vs[i]? = some v->toV u=some v
 | [],us,r,vs,h=>by cases h;exact⟨[],rfl,rfl,rfl,fun i u v h=>by simp at h⟩
 | t::ts,u::us,r,vs,h=>by
   unfold QW at h;split at h
   .rename_i v e k h1 d;cases h;obtain⟨a,rfl,j,f,g⟩:=FF d;unfold FE at h1;split at h1
    .refine⟨u::a,rfl,by simp[j],by simp[f],fun i x y b a2=>?_⟩;cases i with
     | zero=>simp at b a2;subst b;subst a2;exact h1
     | succ i=>exact g i x y (by simpa using b) (by simpa using a2)
    .cases h1
   .cases h
 | _::_,[],_,_,h=>by cases h
def T8{R:Nat->Option Obj}:∀ {g:List Sh} {us:List U} {vs vs2:C8},ShL R g us vs->QV g us=some vs2->vs=vs2
 | [],us,vs,vs2,h,k=>by cases h;cases k;rfl
 | s::g,us,vs,vs2,h,k=>by
   cases h with
   | cons h1 l =>
     rename_i d f v vs;unfold QV at k;split at k
     .rename_i v1 r hv;split at k
      .rename_i p n;cases k;have j:d++f=d++f:=rfl;cases h1 with
       | s he i =>
         rename_i t u;have b:(match FE t u with|some v=>some (v,f)|none=>none)=some (v1,r):=hv;cases e:FE t u with
         | none=>rw[e]at b;cases b
         | some w =>
           rw[e]at b;cases b;unfold FE at e;rw[A9 i]at e;rw[eY he e,T8 l n]
       | a he i =>
         rename_i ts cs;simp only[FD]at hv;split at hv
         .rename_i q C o;cases hv;obtain⟨a,z,x,y,A⟩:=FF o;have hlen:a.length=d.length:=by rw[y,<- i];simp
          obtain⟨rfl,rfl⟩:=List.append_inj z hlen.symm;rw[ZP he x A,T8 l n]
         .cases hv
      .cases k
     .cases k
def M0(P:Program)(G:Nat->Option Obj)(f:FuncId)(ps:List Sh)(spec:cH)(rs:List Sh):Prop :=
 ∀ (us outs:List U) (w:World) (vs:List Value) (R:Nat->Option Obj),ShL R ps us vs->spec us=some (0,outs)->GOk G w->GOk R w ->
  (callFunc f ⟨vs⟩).run P w=.ok (.enter f ⟨vs⟩) w/\Calls P f ⟨vs⟩ w (fun e w'=>∃ r a,ShL a rs outs r/\e=.returned (tup r)/\lG w w'/\GOk a w'/\∀ k o,a k=some o->w.heap.size<=k∨∃ o',R k=some o')
def unA:List Sh->C8->Option C8
 | [],[]=>some []
 | .s _::ss,v::vs=>match unA ss vs with
   | some r=>some (v::r)
   | none=>none
 | .a ts::ss,.agg cs::vs=>bif Nat.beq cs.toList.length ts.length then match unA ss vs with
   | some r=>some (cs.toList++r)
   | none=>none else none
 | _,_=>none
def oI(P:Program)(ps:List Sh)(vs:List Value)(m:Mem):Option (C8×Mem) :=
 match unA ps vs with
 | some cs=>match yI (tdP P) (zI ps) cs m with
   | some (xs,[],m)=>some (xs,m)
   | some (xs,gs,m)=>match iV gs m with
     | some (_,m)=>some (xs,m)
     | none=>none
   | none=>none
 | none=>none
def PN(i t b:Nat):Value:=bif Nat.blt t 10 then hole i t else dat b i t
def TF:G5->Nat->Nat->C8
 | [],_,_=>[]
 | t::ts,i,b=>PN i t b::TF ts (i+1) b
def A4l:Sh->Nat->Nat->Value
 | .s t,i,b=>PN i t b
 | .a ts,i,b=>.agg ⟨TF ts i b⟩
def uU:List Sh->Nat->Nat->C8
 | [],_,_=>[]
 | h::hs,i,b=>A4l h i b::uU hs (i+h.n) b
def RO(rs:List Sh)(nx:Nat)(m:Mem):Res :=
 bif kZ rs then match fJ m fun b m=>some (tup (uU rs nx b),b,m)with
  | some (v,_,m)=>some (v,m)
  | none=>none
 else some (tup (uU rs nx 0),m)
def A7p(m:Mem)(hi:Nat)(v:Value)(lg:Lg):Res :=
 match m with
 | ⟨H,n,W,_,_⟩=>some (v,⟨H,n,W,hi,lg⟩)
def A2R(P:Program)(ps:List Sh)(spec:cH)(rs:List Sh):FnC:=⟨fun vs m =>
 match oI P ps vs m with
 | some (xs,⟨H,n,W,hi,⟨nx,pi,log⟩⟩)=>J0 nx fun nx=>Q0 xs fun xs=>J0 (nx+shN rs) fun a=>bif kZ rs then RO rs nx ⟨H,n,W,hi,⟨a,pi,.con spec xs nx 0 (shN rs)::log⟩⟩else A7p m hi (tup (uU rs nx 0)) ⟨a,pi,.con spec xs nx 0 (shN rs)::log⟩
 | none=>none⟩
def QL{P:Program}{ps:List Sh}{spec:cH}{rs:List Sh}{vs:C8}{v:Value}(h:(A2R P ps spec rs).run vs m=some (v,m')) :
  ∃ xs m1,oI P ps vs m=some (xs,m1)/\((kZ rs=true/\RO rs m1.lg.nx (m1.wLg ⟨m1.lg.nx+shN rs,m1.lg.pi,.con spec xs m1.lg.nx 0 (shN rs)::m1.lg.log⟩)=some (v,m'))∨(kZ rs=false/\v=tup (uU rs m1.lg.nx 0)/\m'=⟨m.H,m.n,m.W,m1.hi,⟨m1.lg.nx+shN rs,m1.lg.pi,.con spec xs m1.lg.nx 0 (shN rs)::m1.lg.log⟩⟩)):=by
 unfold A2R at h;simp only at h;split at h
 .rename_i xs H n W hi nx pi log hx;simp only[E1,H6]at h;refine⟨xs,_,hx,?_⟩;cases a:kZ rs with
  | true=>rw[a]at h;exact .inl ⟨rfl,h⟩
  | false =>
    rw[a]at h;obtain⟨g,e,f,b,d⟩:=m;cases h;exact .inr ⟨rfl,rfl,rfl⟩
 .cases h
variable [Ora]
def KH{ρ:Ren}:∀ {b:List Sh} {vs vs' cs:C8},unA b vs=some cs->LR ρ vs vs'->∃ cs',unA b vs'=some cs'/\LR ρ cs cs'
 | [],[],vs',cs,h,hl=>by cases h;rw[hl.nil_inv];exact⟨[],rfl,.nil⟩
 | [],_::_,_,_,h,_=>by cases h
 | .s t::b,[],_,_,h,_=>by cases h
 | .a t::b,[],_,_,h,_=>by cases h
 | .s t::b,v::vs,vs',cs,h,hl=>by
   obtain⟨v',k,rfl,h1,d⟩:=hl.tail;unfold unA at h;split at h
   .rename_i r hr;cases h;obtain⟨cs',g,f⟩:=KH hr d;exact⟨v'::cs',by simp[unA,g],.cons h1 f⟩
   .cases h
 | .a ts::b,v::vs,vs',cs,h,hl=>by
   obtain⟨v',k,rfl,h1,d⟩:=hl.tail;cases v with
   | agg c =>
     unfold unA at h;obtain⟨hlen,h⟩:=A3 h;split at h
     .rename_i r hr;cases h;obtain⟨cs',g,f⟩:=KH hr d;obtain⟨i,rfl,j⟩:=U5 h1;refine⟨i++cs',?_,j.append f⟩;have e:Nat.beq i.length ts.length=true:=by rw[<- j.1];exact hlen
      simp[unA,g,e]
     .cases h
   | _=>cases h
def cT{R:Nat->Option Obj}:∀ {e:List Sh} {vs cs:C8} {us:List U},unA e vs=some cs->X7 R us cs->us.map F7=zI e->ShL R e us vs
 | [],[],cs,us,h,he,ht=>by
   cases h;have:us=[]:=F8.1 he.1;subst this;exact .nil
 | [],_::_,_,_,h,_,_=>by cases h
 | .s t::e,[],_,_,h,_,_=>by cases h
 | .a t::e,[],_,_,h,_,_=>by cases h
 | .s t::e,v::vs,cs,us,h,he,ht=>by
   unfold unA at h;split at h
   .rename_i r hr;cases h;obtain⟨a,b,rfl,d,f⟩:=X7.split (vs:=[v]) (vs2:=r) he
    match a,d with
    | [u],d =>
      simp only[List.singleton_append,C3,zI,Sh.tags,R1,G2,I8]at ht;exact .cons (.s (d.2 0 u v rfl rfl) ht.1) (cT hr f ht.2)
    | [],d=>have:=d.1;simp at this
    | _::_::_,d=>have:=d.1;simp at this
   .cases h
 | .a ts::e,v::vs,cs,us,h,he,ht=>by
   cases v with
   | agg c =>
     unfold unA at h;obtain⟨hlen,h⟩:=A3 h;have hlen:=A0 hlen;split at h
     .rename_i r hr;cases h;obtain⟨a,b,rfl,d,f⟩:=X7.split he;simp only[S7,zI,Sh.tags]at ht;obtain⟨t1,t2⟩:=List.append_inj ht (by simp[d.1,hlen]);obtain⟨l⟩:=c;exact .cons (.a d t1) (cT hr f t2)
     .cases h
   | _=>cases h
section
variable {P:Program} {base gl:Nat}
def A8X(ρ:Ren)(m:Mem)(R:Nat->Option Obj):Prop:=∀ k o,R k=some o->∃ id ab l,id<=H3/\Hp.get m.H id=some ab/\ρ id=some l/\Tf ab l k/\ab.rw=false
def FN{ρ:Ren}{w:World}{ps:List Sh}{vs xs:C8}(h:HR P base ρ m.H w)(d:oI P ps vs m=some (xs,m'))(j:J6 ρ m.n m'.hi)(hv:LR ρ vs vs')(D:Sat m'.lg) :
  ∃ a R,St P base ρ a m m' w w/\m.lg.le m'.lg/\ShL R ps (xs.map (D3 Ora.env)) vs'/\GOk R w/\A8X a m' R:=by
 unfold oI at d;split at d
 .rename_i cs q;obtain⟨cs',C,z⟩:=KH q hv;split at d
  .rename_i s m1 y;cases d;obtain⟨a,e,a2,a3,a4,a5,x⟩:=gS T9 h y j z D;exact⟨a,fun _=>none,e,a2,cT C (x _ fun b u=>by cases u) a5,(fun k o i=>by cases i),(fun k o i=>by cases i)⟩
  .rename_i s gs m1 y;split at d
   .rename_i g m2 A;cases d;have p:=M1 A;obtain⟨J,e,a2,a3,a4,a5,x⟩:=gS T9 h y (j.less p.1) z (by rw[<- p.2.1];exact D);obtain⟨ρ2,lg,t,N,L,v,E,I⟩:=dY e.hr A (j.step e);have f:=(t.hr.atl v E).1.2;exact⟨ρ2,lg.G,St.trans j e t,by rw[p.2.1];exact a2,cT C (x _ fun b u l K=>I b u l K) a5,f,fun k o i=>⟨g,_,lg,t.hr.dom _ _ v,E,v,⟨rfl,.inr ⟨rfl,o,i⟩⟩,rfl⟩⟩
   .cases d
  .cases d
 .cases d
def II{ρ:Ren}{R:Nat->Option Obj}{i t b:Nat}{u:U}{v:Value}(h:Enc R u v)(j:F7 u=t)(he:Ora.env i=u)(k:10<=t->ρ b=some (jH R)):VR ρ (PN i t b) v:=by
 unfold PN;cases d:Nat.blt t 10 with
 | true =>
   have a:t<10:=A1 d;obtain⟨v1,g,_,_⟩:=NJ (u:=u) A2
   have:=eY h g;subst this;exact .hole (by rw[he];exact g) (by rw[he];exact j)
 | false =>
   have a:10<=t:=by
    rcases F4 t 10 with e|f
    .rw[show Nat.blt t 10=true from C4 e]at d;cases d
    .exact f
   exact .dat (k a) (by rw[he];exact h) (by rw[he];exact j) a (kX h)
def FC{ρ:Ren}{R:Nat->Option Obj}{b:Nat}:∀ {ts:G5} {us:List U} {cs:C8} {i:Nat},X7 R us cs->us.map F7=ts->(∀ j u,us[j]? = some u->Ora.env (i+j)=u)->(∀ t ∈ ts,10<=t->ρ b=some (jH R))->LR ρ (TF ts i b) cs
 | [],us,cs,i,h,ht,he,hb=>by
   have:us=[]:=by cases us with|nil=>rfl|cons _ _=>simp at ht
   subst this;have:cs=[]:=F8.1 h.1.symm;subst this;exact .nil
 | t::ts,[],cs,i,h,ht,he,hb=>by simp at ht
 | t::ts,u::us,[],i,h,ht,he,hb=>by have:=h.1;simp at this
 | t::ts,u::us,c::cs,i,h,ht,he,hb=>by
   simp only[C3,I8]at ht;refine .cons (II (h.2 0 u c rfl rfl) ht.1 (he 0 u rfl) (hb t (.head _))) (FC ⟨by have:=h.1;simpa using this,fun j x y e a2=>h.2 (j+1) x y (by simpa using e) (by simpa using a2)⟩ ht.2 (fun j x f=>?_) fun d a=>hb d (.tail _ a))
   have:=he (j+1) x (by simpa using f);rw[show i+1+j=i+(j+1) by omega];exact this
def oD{ρ:Ren}{R:Nat->Option Obj}{b:Nat}:∀ {g:List Sh} {us:List U} {vs:C8} {i:Nat},ShL R g us vs->(∀ j u,us[j]? = some u->Ora.env (i+j)=u)->(kZ g=true->ρ b=some (jH R))->LR ρ (uU g i b) vs/\us.length=shN g
 | [],us,vs,i,h,he,hb=>by cases h;exact⟨.nil,rfl⟩
 | s::g,us,vs,i,h,he,hb=>by
   cases h with
   | cons h1 w =>
     rename_i e x v vs;have q:∀ t ∈ s.tags,10<=t->ρ b=some (jH R):=fun t d f=>hb (O8.2 ⟨t,B7.2 (.inl d),C4 f⟩)
     have o:kZ g=true->ρ b=some (jH R):=fun y=>by
      obtain⟨t,d,f⟩:=O8.1 y;exact hb (O8.2 ⟨t,B7.2 (.inr d),f⟩)
     have p:e.length=s.n:=by
      cases h1 with
      | s _ _=>rfl
      | a _ d=>show _=List.length _;rw[<- d];simp[Sh.tags]
     obtain⟨g1,g2⟩:=oD (i:=i+s.n) w (fun j u l=>by
      have:=he (e.length+j) u (by rw[D5 A2,V1];exact l);rw[<- p,bK];exact this) o
     refine⟨.cons ?_ g1,by simp[shN,p,g2]⟩;have k:∀ j u,e[j]? = some u->Ora.env (i+j)=u:=fun j u l=>he j u (by rw[E7 (B0.1 l).1];exact l)
     cases h1 with
     | s h d=>exact II h d (by have:=k 0 _ rfl;simpa using this) (q _ (.head _))
     | a h d =>
       have:=FC (b:=b) h d k q;exact .agg this.1 this.2
def TH{ρ:Ren}{vs:C8}(h:LR ρ vs vs'):VR ρ (tup vs) (tup vs'):=by
 match vs,vs',h with
 | [],vs',h=>rw[h.nil_inv];exact .tuple (a:=[]) (a':=[]) rfl (fun i v v' h1 _=>by simp at h1)
 | [v],vs',h =>
   obtain⟨v',d,rfl,h1,b⟩:=h.tail;cases b.nil_inv;exact h1
 | v::u::r,vs',h =>
   obtain⟨v',d,rfl,h1,b⟩:=h.tail;obtain⟨g,e,rfl,h3,f⟩:=b.tail;exact .tuple h.1 h.2
def St.grown{ρ:Ren}{w w':World}(h:HR P base ρ m.H w)(g:lG w w'):St P base ρ ρ m m w w' :=
 ⟨fun _ _ h=>h,fun b l h1 a=>(by rw[h1]at a;cases a),A6 _,A6 _,fun h=>h,
  ⟨h.dom,fun id hid ab d=>by
    obtain⟨l,h1,a,h3⟩:=h.at_ id hid ab d;exact⟨l,h1,a.mono (fun _ _ h=>h) (fun k e=>g.keep k (a.tc e)),h3⟩⟩,
  fun _ h=>h,fun b h1 a=>absurd h1 a,fun k e _=>g.keep k e,g.size,g.os,fun b l h1 a=>(by rw[h1]at a;cases a),fun _ _ _ _=>rfl,fun _ h=>.inr h⟩
def St.grownLg{ρ:Ren}{w w':World}(h:HR P base ρ m.H w)(g:lG w w')(lg:Lg):St P base ρ ρ m (m.wLg lg) w w':=by
 obtain⟨H,n,W,hi,l⟩:=m;have r:=St.grown (m:=⟨H,n,W,hi,l⟩) h g;exact⟨r.ext,r.new,r.nle,r.hle,r.nhi,r.hr,r.wsub,r.wrw,r.keep,r.size,r.os,r.blk,r.same,r.tch⟩
def St.ret{ρ:Ren}{w w':World}{G:Nat->Option Obj}(h:HR P base ρ m.H w)(g:lG w w')(U:Y0 m .frz (fun _=>undef)=some (undef,m1))(O:J6 ρ m.n m1.hi)(Q:GOk G w')
  (L:∀ k o,G k=some o->w.heap.size<=k∨∃ id ab l,id<=H3/\Hp.get m.H id=some ab/\ρ id=some l/\Tf ab l k/\ab.rw=false):upd ρ m.n (jH G) m.n=some (jH G)/\St P base ρ (upd ρ m.n (jH G)) m m1 w w':=by
 obtain⟨hle,_,rfl⟩:=K6 U;have v:ρ m.n=none:=O m.n (A6 _) (K2 _ _).2;have i:=V7 (l:=jH G) v;refine⟨K8 _ _ _,i,fun b q h1 f=>?_,by simp,(K2 _ _).1,fun _=>X5 (K2 _ _).2,⟨fun b q J=>?_,fun id hid a d=>?_⟩,fun b S=>S,fun b h1 f=>absurd h1 f,fun q J _=>g.keep q J,g.size,g.os,fun b q h1 f p=>?_,fun id hid h1 f=>?_,fun q ⟨id,a,l,hid,d,t,N⟩=>?_⟩
 .obtain⟨rfl,rfl⟩:=S9 h1 f;exact⟨A6 _,I5 _⟩
 .cases h0:ρ b with
  | some W=>exact h.dom b W h0
  | none=>obtain⟨rfl,rfl⟩:=S9 J h0;exact hle
 .rw[E6 _ _ _ _ hle hid]at d;by_cases e:id=m.n
  .rw[A9 e]at d;have d:=A8 d;subst d;subst e;exact⟨jH G,K8 _ _ _,⟨rfl,Q⟩,fun _ p=>(by cases p)⟩
  .rw[A7 e]at d;obtain⟨l0,h1,f,h3⟩:=h.at_ id hid a d;refine⟨l0,i _ _ h1,f.mono i (fun k T=>g.keep k (f.tc T)),fun hr p=>⟨(h3 hr p).1,fun x j z l2 g1 g2 g3=>?_⟩⟩;rw[E6 _ _ _ _ hle j]at g1;by_cases I:x=m.n
   .subst I;rw[K8]at g2
    have:=A8 g2;subst this;rcases g3 with⟨_,g3,_⟩|⟨_,o,g3⟩
    .cases g3
    .rcases L _ o g3 with y|⟨s,a3,A,C,u,D,K,E⟩
     .have:=f.tc (.inl ⟨AB.rw_on hr,p,rfl⟩);omega
     .have:=(h3 hr p).2 s C a3 A u D K.2;subst this;rw[d]at u;have u:=A8 u;subst u;rw[hr]at E;cases E
   .rw[A7 I]at g1;unfold upd at g2;rw[A7 I]at g2;exact(h3 hr p).2 x j z l2 g1 g2 g3
 .obtain⟨rfl,rfl⟩:=S9 h1 f;cases p
 .rw[E6 _ _ _ _ hle hid,A7];intro e;subst e;rcases f with f|f
  .omega
  .have f:upN m.hi m.n<=m.n:=f
   have:=(K2 m.hi m.n).2;omega
 .have d:Hp.get (m.H.set m.n (some .frz)) id=some a:=d;rw[E6 _ _ _ _ hle hid]at d;by_cases e:id=m.n
  .subst e;rw[A9 rfl]at d;have d:=A8 d;subst d;rw[K8]at t;have t:=A8 t;subst t;rcases N.2 with⟨_,h3,_⟩|⟨_,o,h3⟩
   .cases h3
   .rcases L _ o h3 with y|⟨s,a3,A,C,u,D,K,E⟩
    .exact .inl y
    .exact .inr ⟨s,a3,A,C,u,D,K⟩
  .rw[A7 e]at d;unfold upd at t;rw[A7 e]at t;exact .inr ⟨id,a,l,hid,d,t,N⟩
def St.back{ρ:Ren}{w w':World}{hi:Nat}{lg:Lg}(h:HR P base ρ m.H w)(g:lG w w')(hh:m.hi<=hi):St P base ρ ρ m ⟨m.H,m.n,m.W,hi,lg⟩ w w':=by
 have r:=St.grownLg (m:=m) h g lg;refine⟨r.ext,fun b l h1 a=>(by rw[h1]at a;cases a),A6 _,hh,fun h=>B9 h hh,?_,fun _ h=>h,fun b h1 a=>absurd h1 a,fun k d _=>g.keep k d,g.size,g.os,fun b l h1 a=>(by rw[h1]at a;cases a),fun _ _ _ _=>rfl,fun _ h=>.inr h⟩
 have:=r.hr;rw[jN]at this;exact this
theorem A2Q{f:FuncId}{ps:List Sh}{spec:cH}{rs:List Sh}(h:M0 P Ora.G f ps spec rs):lH P base gl f (A2R P ps spec rs):=by
 have q:∀ {nx:Nat} {m m':Mem} {v:Value},kZ rs=true->RO rs nx m=some (v,m')->m'.lg=m.lg/\m.hi<=m'.hi/\m.n<=m'.n:=fun{nx m m' v} a hr=>by
  unfold RO at hr;rw[a]at hr;simp only[D7]at hr;split at hr
  .rename_i A;cases hr;obtain⟨m2,y,I,_⟩:=P7 A;cases I;obtain⟨_,_,rfl⟩:=K6 y;exact⟨rfl,(K2 _ _).1,Y2 _⟩
  .cases hr
 have g:∀ {vs xs:C8} {m m1:Mem},oI P ps vs m=some (xs,m1)->m.lg.le m1.lg/\m.hi<=m1.hi:=fun{vs xs m m1} h1=>by
  unfold oI at h1;split at h1
  .split at h1
   .rename_i a;cases h1;exact⟨(R0 T9 a).2.1,(R0 T9 a).1⟩
   .rename_i a;split at h1
    .rename_i K;cases h1;exact⟨by rw[(M1 K).2.1];exact(R0 T9 a).2.1,B9 (R0 T9 a).1 (M1 K).1⟩
    .cases h1
   .cases h1
  .cases h1
 refine⟨fun vs m m' v hr=>?_,fun ρ m m' w vs vs' v hr O d W=>.inl ?_⟩
 .obtain⟨xs,m1,h1,⟨a,i⟩|⟨a,_,rfl⟩⟩:=QL hr
  .rw[(q a i).1,Z2];exact(g h1).1.trans ⟨[_],rfl⟩
  .exact(g h1).1.trans ⟨[_],rfl⟩
 .obtain⟨xs,m1,h1,i⟩:=QL hr;have x:m'.lg=⟨m1.lg.nx+shN rs,m1.lg.pi,.con spec xs m1.lg.nx 0 (shN rs)::m1.lg.log⟩/\m1.hi<=m'.hi:=by
   rcases i with⟨a,i⟩|⟨a,_,rfl⟩
   .obtain⟨r1,u,_⟩:=q a i;simp only[Z2,KE]at r1 u;exact⟨r1,u⟩
   .exact⟨rfl,A6 _⟩
  obtain⟨r1,u⟩:=x;have s:d9.con spec xs m1.lg.nx 0 (shN rs) ∈ m'.lg.log:=by rw[r1];exact B2
  have H:Sat m1.lg:=Q6.le O (by rw[r1];exact⟨[_],rfl⟩);obtain⟨t,R,z,a2,a3,a4,a5⟩:=FN d.hr h1 (d.fr.less u) W H;obtain⟨outs,h3,h4,L⟩:=O _ s;obtain⟨h6,Q⟩:=h _ outs w vs' R a3 h3 (fun k o C=>(d.gf k o C).2) a4;refine⟨h6,Q.mono fun e w' ⟨r,Z,g1,g2,g3,g4,g5⟩=>?_⟩;rcases i with⟨a,i⟩|⟨a,rfl,rfl⟩
  .let j:Lg:=⟨m1.lg.nx+shN rs,m1.lg.pi,.con spec xs m1.lg.nx 0 (shN rs)::m1.lg.log⟩
   have i:RO rs m1.lg.nx (m1.wLg j)=some (v,m'):=i;have p:St P base ρ t m (m1.wLg j) w w:=St.trans (d.fr.less (by simpa using u)) z (St.wLg z.hr j);have J:J6 t (m1.wLg j).n m'.hi:=by simpa using d.fr.step z
   unfold RO at i;rw[a]at i;simp only[D7]at i;split at i
   .rename_i v0 b m2 A;cases i;obtain⟨m3,y,I,_⟩:=P7 A;cases I;obtain⟨Y,T⟩:=St.ret (G:=Z) p.hr g3 y J g4 fun k o C=>by
     rcases g5 k o C with D|⟨o',E⟩
     .exact .inl D
     .obtain⟨id,ab,l,p1,U,S,p4,p5⟩:=a5 k o' E;exact .inr ⟨id,ab,l,p1,by rw[jN];exact U,S,p4,p5⟩
    exact⟨_,_,g2,TH (oD g1 L fun _=>Y).1,St.trans d.fr p T⟩
   .cases i
  .exact⟨_,ρ,g2,TH (oD g1 L fun N=>by rw[a]at N;cases N).1,St.back d.hr g3 (g h1).2⟩
end
end
end Go.Sx
