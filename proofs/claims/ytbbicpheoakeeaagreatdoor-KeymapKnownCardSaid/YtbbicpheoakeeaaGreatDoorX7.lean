import Derived.Test.YtbbicpheoakeeaaGreatDoorX6
import Derived.Lib.Bytealg
import Derived.Lib.MakeNoZero
set_option linter.all false
set_option maxRecDepth 100000
set_option maxHeartbeats 4000000
namespace Go.Sx
variable {m m' m1 m2:Mem}{c:Cls}{r:Option (Nat×AB)}{rs:List Rec}{op:OpC}{fn:Func}{vs' vs2:C9}
section
open Go
variable [Ora]
def A0j(ops:Array Oper)(X:Nat->Qs)(i:Nat)(o:Oper):Bool:=FA o.op i ((X6 ops.toList []).getD i []) ((X6 ops.toList []).drop (i+1)) (ops.toList.drop (i+1)) (X i)
structure Rg (P:Program) (base gl nt:Nat) (call:O0) (ops:Array Oper) (F:Nat->Fr) (M:Nat->Mem) (V:Nat->Value) (R:Nat->List Rec) (X:Nat->Qs) (B:Nat->Bool):Prop where
 st:∀ i o,ops[i]? = some o->DU P nt gl call ops.toList ((X6 ops.toList []).getD i []) (R i) (B i) o (F i) (F (i+1)) (M i) (M (i+1)) (V i)
 rc:∀ i o,ops[i]? = some o->(R (i+1)=R i/\∃ lg,M (i+1)=(M i).wLg lg)∨(B i=true/\R (i+1)=[])∨R (i+1)=⟨i,(M i).n,(M (i+1)).n⟩::R i
 qs:∀ i o,ops[i]? = some o->QsN (B i) i nt ops.toList (V1 P call o) ((X6 ops.toList []).getD i []) (R i) (F i) o (M i) (M (i+1)) (V i) (X i) (X (i+1))
 sb:∀ i o,ops[i]? = some o->B i=true->A0j ops X i o=true
 x0:X 0=[]
 ok:GE ops.toList (X6 ops.toList []) ops.toList 0=true
structure Ph (ops:Array Oper) (B:Nat->Bool) (M:Nat->Mem) (lo up:Nat):Prop where
 le:lo<=up
 sz:up<=ops.size
 nh:(M lo).n<=(M lo).hi
 mx:∀ i o,lo<=i->i<up->ops[i]? = some o->B i=false
section
variable {P:Program} {base gl nt:Nat} {call:O0} {ops:Array Oper} {F:Nat->Fr} {M:Nat->Mem} {V:Nat->Value} {R:Nat->List Rec} {X:Nat->Qs} {B:Nat->Bool} {lo up:Nat}
def O6{i:Nat}(h:i<ops.size):∃ o,ops[i]? = some o:=⟨ops[i],by simp[h]⟩
def Rg.one(g:Rg P base gl nt call ops F M V R X B){i:Nat}{o:Oper}(e:ops[i]? = some o)(d:B i=false)(a:(M i).n<=(M i).hi):(M i).n<=(M (i+1)).n/\(M i).hi<=(M (i+1)).hi/\(M (i+1)).n<=(M (i+1)).hi/\(M (i+1)).W=(M i).W /\
  ∀ id,id<=G9->(id<(M i).n∨(M (i+1)).n<=id)->Hp.get (M (i+1)).H id=Hp.get (M i).H id:=by
 obtain⟨_,_,_,h⟩:=g.st i o e;rcases h with⟨_,lg,_,_,h⟩|⟨_,lg,j,_,_,h⟩|⟨h,_⟩|⟨_,_,lg,_,mv,m',_,_,_,b,hm⟩
 .rw[h];exact⟨A6 _,A6 _,a,rfl,fun _ _ _=>rfl⟩
 .rw[h];exact⟨A6 _,A6 _,a,rfl,fun _ _ _=>rfl⟩
 .rw[d]at h;cases h
 .obtain⟨h1,f,h3,l,_,_,_,k⟩:=GK hm a b;exact⟨h1,f,h3,l,fun id hid hh=>by rw[k id hid,A8 (by show ¬ ((M i).n<=id/\_);omega)];rfl⟩
def Rg.allD(g:Rg P base gl nt call ops F M V R X B)(a:Ph ops B M lo up):∀ d,lo+d<=up->(M lo).n<=(M (lo+d)).n/\(M lo).hi<=(M (lo+d)).hi/\(M (lo+d)).n<=(M (lo+d)).hi/\(M (lo+d)).W=(M lo).W /\
  ∀ id,id<=G9->(id<(M lo).n∨(M (lo+d)).n<=id)->Hp.get (M (lo+d)).H id=Hp.get (M lo).H id
 | 0,_=>⟨A6 _,A6 _,a.nh,rfl,fun _ _ _=>rfl⟩
 | d+1,h=>by
   obtain⟨h1,k,h3,s,q⟩:=g.allD a d A2;obtain⟨o,b⟩:=O6 (ops:=ops) (i:=lo+d) (by have:=a.sz;omega);obtain⟨f,j,p,l,e⟩:=g.one b (a.mx _ o A2 A2 b) h3;exact⟨B9 h1 f,B9 k j,p,l.trans s,fun id hid hh=>by
    rw[show lo+(d+1)=lo+d+1 by omega]at hh ⊢;rw[e id hid A2,q id hid A2]⟩
def Rg.all(g:Rg P base gl nt call ops F M V R X B)(a:Ph ops B M lo up){i:Nat}(h0:lo<=i)(h:i<=up):(M lo).n<=(M i).n/\(M lo).hi<=(M i).hi/\(M i).n<=(M i).hi/\(M i).W=(M lo).W /\
  ∀ id,id<=G9->(id<(M lo).n∨(M i).n<=id)->Hp.get (M i).H id=Hp.get (M lo).H id:=by
 have:=g.allD a (i-lo) A2
 rwa[show lo+(i-lo)=i by omega]at this
def Rg.mono(g:Rg P base gl nt call ops F M V R X B)(a:Ph ops B M lo up){i:Nat}(h0:lo<=i):∀ d,i+d<=up->(M i).n<=(M (i+d)).n/\(M i).hi<=(M (i+d)).hi/\∀ id,id<=G9->id<(M i).n->Hp.get (M (i+d)).H id=Hp.get (M i).H id
 | 0,_=>⟨A6 _,A6 _,fun _ _ _=>rfl⟩
 | d+1,h=>by
   obtain⟨h1,k,l⟩:=g.mono a h0 d A2;obtain⟨o,b⟩:=O6 (ops:=ops) (i:=i+d) (by have:=a.sz;omega);obtain⟨f,j,q,p,e⟩:=g.one b (a.mx _ o A2 A2 b) (g.all a (i:=i+d) A2 A2).2.2.1;exact⟨B9 h1 f,B9 k j,fun id hid hh=>by rw[show i+(d+1)=i+d+1 by omega,e id hid A2,l id hid hh]⟩
def Rg.le(g:Rg P base gl nt call ops F M V R X B)(a:Ph ops B M lo up){i j:Nat}(h0:lo<=i)(h:i<=j)(b:j<=up):(M i).n<=(M j).n/\(M i).hi<=(M j).hi/\∀ id,id<=G9->id<(M i).n->Hp.get (M j).H id=Hp.get (M i).H id:=by
 have:=g.mono a h0 (j-i) A2
 rwa[show i+(j-i)=j by omega]at this
def MK{mv:Mem}{us:List Rec}(h:yR m c us=some mv):mv.lg=m.lg:=by
 obtain⟨H,n,W,hi,lg⟩:=m;unfold yR at h;simp only at h;cases c with
 | free=>cases h;rfl
 | one b =>
   simp only at h;cases a:m9 (Y2 us) b || !(Nat.ble b G9)with
   | true=>rw[a]at h;cases h
   | false=>rw[a,dF]at h;cases h;rfl
 | all =>
   simp only at h;obtain⟨d,h⟩:=A3 h;cases h;rfl
def GL(h:jR m m'=some m2):m2.lg=m'.lg:=by
 unfold jR at h;cases a:Nat.ble m'.hi m.n with
 | true=>rw[a]at h;cases h;rfl
 | false =>
   rw[a]at h;obtain⟨_,h⟩:=A3 h;simp only[E1,cU]at h;cases h;rfl
def lF{a b:Addr}(h:BS a b=true):a=b:=by
 unfold BS at h;split at h
 .obtain⟨h1,d⟩:=B3 h;rw[A0 h1,A0 d]
 .cases h
def QO{a b:Fn}(h:KB a b=true):a=b:=by
 unfold KB at h;split at h
 .rw[A0 h]
 .rw[A0 h]
 .cases h
def oC{s:Value->Value->Bool}(d:∀ a b,s a b=true->a=b):∀ {l r:C9},yZ s l r=true->l=r
 | [],[],_=>rfl
 | [],_::_,h=>by cases h
 | _::_,[],h=>by cases h
 | a::l,b::r,h=>by
   obtain⟨h1,e⟩:=B3 (show(s a b && yZ s l r)=true from h);rw[d a b h1,oC d e]
def A63{a b:U8}(h:a.toList=b.toList):a=b:=by cases a;cases b;cases h;rfl
def TQ:∀ (d:Nat) (v w:Value),vA d v w=true->v=w:=by
 intro d;induction d with
 | zero =>
   intro v w h;unfold vA at h;split at h
   .rw[eq_of_beq h]
   .obtain⟨h1,e⟩:=B3 h;rw[eK]at e;rw[fH h1,eq_of_beq e]
   .obtain⟨h1,e⟩:=B3 h;rw[A0 h1,A0 e]
   .obtain⟨h1,e⟩:=B3 h;rw[A0 h1,A0 e]
   .rename_i s t;have h1:=K3 h;cases s with|mk s=>cases t with|mk t=>cases s;cases t;cases h1;rfl
   .rfl
   .rw[lF h]
   .obtain⟨h1,e⟩:=B3 h;rw[A0 h1,A0 e]
   .obtain⟨h0,h⟩:=B3 h;obtain⟨h1,e⟩:=B3 h;rw[lF h0,A0 h1,A0 e]
   .rfl
   .rw[A0 h]
   .rfl
   .rfl
   all_goals first|cases h|(rename_i hh;cases hh)
 | succ d i =>
   intro v w h;unfold vA at h;split at h
   .rw[eq_of_beq h]
   .obtain⟨h1,e⟩:=B3 h;rw[eK]at e;rw[fH h1,eq_of_beq e]
   .obtain⟨h1,e⟩:=B3 h;rw[A0 h1,A0 e]
   .obtain⟨h1,e⟩:=B3 h;rw[A0 h1,A0 e]
   .rename_i s t;have h1:=K3 h;cases s with|mk s=>cases t with|mk t=>cases s;cases t;cases h1;rfl
   .rfl
   .rw[lF h]
   .obtain⟨h1,e⟩:=B3 h;rw[A0 h1,A0 e]
   .obtain⟨h0,h⟩:=B3 h;obtain⟨h1,e⟩:=B3 h;rw[lF h0,A0 h1,A0 e]
   .rfl
   .rw[A0 h]
   .rfl
   .rfl
   .rename_i j f a b g a' b' he;cases he;obtain⟨h0,h⟩:=B3 h;obtain⟨h1,e⟩:=B3 h;rw[QO h0,A63 (oC i h1),A63 (oC i e)]
   .rename_i j t v u w he;cases he;obtain⟨h1,e⟩:=B3 h;rw[A0 h1,i _ _ e]
   .cases h
def TU{a b:AB}(h:TV a b=true):a=b:=by
 unfold TV at h;split at h
 .rfl
 .obtain⟨h0,h⟩:=B3 h;obtain⟨h1,d⟩:=B3 h;rw[oC (TQ 6) h0,A0 h1,eq_of_beq d]
 .cases h
def wG{H:Hp AB}{b:Nat}{ab:AB}(h:wH H b ab=true):Hp.get H b=some ab/\b<=G9:=by
 unfold wH at h;split at h
 .rename_i x a;obtain⟨h1,d⟩:=B3 h;exact⟨by rw[a,TU d],A1 h1⟩
 .cases h
def qK{mv:Mem}{us:List Rec}(h:BZ m r us=some mv):mv.n=qD/\mv.hi=qD/\mv.W=[]/\mv.lg=m.lg/\(∀ id,id<=G9->∀ ab,Hp.get mv.H id=some ab->r=some (id,ab))/\∀ b ab,r=some (b,ab)->wH m.H b ab=true/\b ∉ Y2 us:=by
 obtain⟨H,n,W,hi,lg⟩:=m;unfold BZ at h;simp only at h;cases r with
 | none =>
   cases h;exact⟨rfl,rfl,rfl,rfl,fun id _ ab a=>(by rw[pI]at a;cases a),fun b ab i=>by cases i⟩
 | some p =>
   obtain⟨b,f⟩:=p;simp only at h;cases d:m9 (Y2 us) b || !(wH H b f)with
   | true=>rw[d]at h;cases h
   | false =>
     rw[d,dF]at h;cases h;simp only[Y4,Bool.not_eq_false']at d;have i:=(wG d.2).2;refine⟨rfl,rfl,rfl,rfl,fun id hid ab a=>?_,fun b' ab' g=>?_⟩
     .have a:Hp.get (Hp.set hp0 b (some f)) id=some ab:=a;rw[E5 _ _ _ _ i hid]at a;by_cases e:id=b
      .subst e;rw[A9 rfl]at a;cases a;rfl
      .rw[A8 e,pI]at a;cases a
     .cases g;exact⟨d.2,fun hm=>by rw[U7.2 hm]at d;exact absurd d.1 (by simp)⟩
def jJ{fr:Fr}{o:Oper}{b:G5}{v:Value}{lg:Lg}(h:jK fr m o b rs op=some (v,lg)):∃ mv m',BZ m (HM m.H fr o.op) (zO b rs)=some mv/\op.run fr mv=some (v,m')/\m'.W=[]/\m'.hi=qD/\m'.lg=lg:=by
 unfold jK at h;split at h
 .rename_i mv hv;split at h
  .rename_i v' H n hi d hr;obtain⟨h1,a⟩:=A3 h;cases a;exact⟨mv,_,hv,hr,rfl,A0 h1,rfl⟩
  .cases h
 .cases h
def yU{all:List Oper}{b:G5}{f:Bool}{o:Oper}{fr d:Fr}{v:Value}(a:U3 P base gl call)(h:DU P nt gl call all b rs f o fr d m m2 v):m.lg.le m2.lg:=by
 obtain⟨_,_,_,h⟩:=h;rcases h with⟨_,lg,hw,_,h⟩|⟨_,lg,i,hw,e,h⟩|⟨_,lg,hw,hr,_⟩|⟨_,_,lg,hw,mv,m',hv,hr,_,j,hm⟩
 .rw[h];exact fA hw
 .obtain⟨mv,m',hv,hr,_,_,g⟩:=jJ e;have h1:=o7 a hr;rw[(qK hv).2.2.2.1,g]at h1;rw[h];exact(fA hw).trans h1
 .have h1:=o7 a hr;rw[Z1]at h1;exact(fA hw).trans h1
 .rw[GL hm];have h1:=o7 a hr;rw[MK hv]at h1;exact(fA hw).trans h1
def Rg.lgs(g:Rg P base gl nt call ops F M V R X B)(a:U3 P base gl call){i:Nat}:∀ d,i+d<=ops.size->(M i).lg.le (M (i+d)).lg
 | 0,_=>.refl _
 | d+1,h=>by
   obtain⟨o,b⟩:=O6 (ops:=ops) (i:=i+d) A2;exact(g.lgs a d A2).trans (yU a (g.st (i+d) o b))
def Rg.who(g:Rg P base gl nt call ops F M V R X B)(f:Ph ops B M lo up):∀ d,lo+d<=up->∀ b,(M lo).n<=b->b<(M (lo+d)).n->∃ k,lo<=k/\k<lo+d/\(M k).n<=b/\b<(M (k+1)).n
 | 0,_,b,h1,a=>by have a:b<(M lo).n:=a;omega
 | d+1,h,b,h1,a=>by
   rcases F2 b (M (lo+d)).n with h3|h3
   .obtain⟨k,e,j,i⟩:=g.who f d A2 b h1 h3;exact⟨k,e,A2,i⟩
   .exact⟨lo+d,A2,A2,h3,a⟩
def vP:∀ {rs:List Rec} {b:Nat},b ∈ Y2 rs↔∃ r ∈ rs,r.lo<=b/\b<r.hi
 | [],b=>by simp[Y2]
 | r::rs,b=>by
   simp only[Y2,B6,jS,vP (rs:=rs),B4];constructor
   .rintro(h|⟨a,h1,d⟩)
    .exact⟨r,.inl rfl,A2⟩
    .exact⟨a,.inr h1,d⟩
   .rintro⟨a,rfl|h1,d⟩
    .exact .inl A2
    .exact .inr ⟨a,h1,d⟩
def Rg.recs(g:Rg P base gl nt call ops F M V R X B)(l:Ph ops B M lo up):∀ d,lo+d<=up->∀ k,lo<=k->k<lo+d->∀ b,(M k).n<=b->b<(M (k+1)).n->⟨k,(M k).n,(M (k+1)).n⟩ ∈ R (lo+d)
 | 0,_,k,_,h,_,_,_=>by omega
 | d+1,hi,k,hk,h,b,h1,f=>by
   obtain⟨o,j⟩:=O6 (ops:=ops) (i:=lo+d) (by have:=l.sz;omega);have a:=l.mx _ o A2 A2 j;show _ ∈ R (lo+d+1);by_cases e:k=lo+d
   .subst e;rcases g.rc (lo+d) o j with⟨_,lg,h3⟩|⟨h3,_⟩|h3
    .rw[h3]at f;have f:b<(M (lo+d)).n:=f;omega
    .rw[a]at h3;cases h3
    .rw[h3];exact B1
   .have:=g.recs l d A2 k hk A2 b h1 f;rcases g.rc (lo+d) o j with⟨h3,_⟩|⟨h3,_⟩|h3
    .rw[h3];exact this
    .rw[a]at h3;cases h3
    .rw[h3];exact C3 _ this
def A0Z{mv:Mem}{us:List Rec}(h:yR m c us=some mv):mv.n=m.n/\mv.hi=m.hi/\mv.W=[]/\mv.lg=m.lg/\∀ id,id<=G9->∀ ab,Hp.get mv.H id=some ab->Hp.get m.H id=some ab/\id ∉ Y2 us:=by
 obtain⟨H,n,W,hi,lg⟩:=m;unfold yR at h;simp only at h;cases c with
 | free =>
   cases h;exact⟨rfl,rfl,rfl,rfl,fun id _ ab a=>by rw[pI]at a;cases a⟩
 | one b =>
   simp only at h;cases d:m9 (Y2 us) b || !(Nat.ble b G9)with
   | true=>rw[d]at h;cases h
   | false =>
     rw[d,dF]at h;cases h;simp only[Y4,Bool.not_eq_false']at d;have f:=A1 d.2;refine⟨rfl,rfl,rfl,rfl,fun id hid ab a=>?_⟩;have a:Hp.get (Hp.set hp0 b (Hp.get H b)) id=some ab:=a;rw[E5 _ _ _ _ f hid]at a;by_cases e:id=b
     .subst e;rw[A9 rfl]at a;exact⟨a,fun hm=>by rw[U7.2 hm]at d;exact absurd d.1 (by simp)⟩
     .rw[A8 e,pI]at a;cases a
 | all =>
   simp only at h;obtain⟨f,h⟩:=A3 h;cases h;refine⟨rfl,rfl,rfl,rfl,fun id hid ab a=>?_⟩;have a:Hp.get (AC H (Y2 us)) id=some ab:=a;rw[AA _ _ (rQ f) id hid]at a;by_cases e:id ∈ Y2 us
   .rw[A9 e]at a;cases a
   .rw[A8 e]at a;exact⟨a,e⟩
def eT(M:Nat->Mem)(D:Nat->Bool)(b:Nat):Nat->Bool
 | 0=>false
 | n+1=>(D n && Nat.ble (M n).n b && Nat.blt b (M (n+1)).n) || eT M D b n
def T4{D:Nat->Bool}{b:Nat}:∀ n,eT M D b n=true↔∃ k,k<n/\D k=true/\(M k).n<=b/\b<(M (k+1)).n
 | 0=>by simp[eT]
 | n+1=>by
   simp only[eT,I1,G4,T4 n];constructor
   .rintro(⟨⟨h1,a⟩,h3⟩|⟨k,h1,a⟩)
    .exact⟨n,A2,h1,A1 a,A1 h3⟩
    .exact⟨k,A2,a⟩
   .rintro⟨k,h1,a,h3,d⟩
    by_cases e:k=n
    .subst e;exact .inl ⟨⟨a,C5 h3⟩,C5 d⟩
    .exact .inr ⟨k,A2,a,h3,d⟩
def Dr(lo:Nat)(D:Nat->Bool)(k:Nat):Bool:=Nat.ble lo k && D k
def W9{lo:Nat}{D:Nat->Bool}{k:Nat}:Dr lo D k=true↔lo<=k/\D k=true:=by
 unfold Dr;rw[G4];exact⟨fun h=>⟨A1 h.1,h.2⟩,fun h=>⟨C5 h.1,h.2⟩⟩
def GD(M:Nat->Mem)(lo N:Nat)(D:Nat->Bool)(b:Nat):Option AB:=bif eT M (Dr lo D) b N then Hp.get (M N).H b else Hp.get (M lo).H b
structure Inv (z:Zn) (P:Program) (base gl nt:Nat) (ops:Array Oper) (F:Nat->Fr) (M:Nat->Mem) (V:Nat->Value) (lo up:Nat) (ρ0:Ren) (w0:World) (D:Nat->Bool) (ρ:Ren) (a:Act) (w:World):Prop where
 ext:∀ b l,ρ0 b=some l->ρ b=some l
 new:∀ b l,ρ b=some l->ρ0 b=none->eT M (Dr lo D) b up=true/\(l.on=true->w0.heap.size<=l.blk)
 hr:HRf P base ρ (GD M lo up D) w
 keep:∀ k,k<w0.heap.size->w.heap[k]? = w0.heap[k]?
 size:w0.heap.size<=w.heap.size
 os:w.os=w0.os/\w.tape=w0.tape/\w.output=w0.output
 tch:∀ k,Ff ρ (GD M lo up D) k->w0.heap.size<=k∨Fp ρ0 (M lo).H k
 tsz:a.tmps.size=nt
 dfr:ZR z ρ nt (F 0) a.defers
 frm:∀ t,t<nt->VR ρ (s8 D (fun k=>(ops[k]?).bind (·.dst)) V (F 0).get t ops.size) (a.tmps.getD t undef)
def R8{i:Nat}{o:Oper}(h:ops[i]? = some o):ops.toList[i]? = some o:=by simpa using h
def fL{ops:List Oper}{a:List G5}:∀ (r:List Oper) (i:Nat),GE ops a r i=true->∀ j o,r[j]? = some o->lW (i+j) o.after.toList=true/\qJ a (i+j) (U4 ops o) ops 0=true
 | [],i,h,j,o,hj=>by simp at hj
 | x::r,i,h,j,o,hj=>by
   obtain⟨h1,b⟩:=B3 (show(lW i x.after.toList && (qJ a i (U4 ops x) ops 0 && GE ops a r (i+1)))=true from h);obtain⟨b,h3⟩:=B3 b;cases j with
   | zero=>simp at hj;subst hj;exact⟨h1,b⟩
   | succ j =>
     have:=fL r (i+1) h3 j o (by simpa using hj)
     rwa[show i+1+j=i+(j+1) by omega]at this
def dS:∀ {es:List Edge} {i:Nat},lW i es=true->∀ e ∈ es,Region.binds .any e=true->e.on<i
 | [],i,h,e,he,_=>by cases he
 | x::r,i,h,e,he,hb=>by
   obtain⟨h1,a⟩:=B3 (show((!(Region.binds .any x) || Nat.blt x.on i) && lW i r)=true from h);rcases B4.1 he with rfl|he
   .rw[hb]at h1;have h1:Nat.blt e.on i=true:=by simpa only [P1,P2]using h1
    exact A1 h1
   .exact dS a e he hb
def yW{b:List G5}{i:Nat}{d:List Tmp}:∀ (r:List Oper) (a:Nat),qJ b i d r a=true->∀ j p t,r[j]? = some p->a+j≠i->p.dst=some t->t ∈ d->A06 b i (a+j)=true
 | [],a,h,j,p,t,hj,_,_,_=>by simp at hj
 | x::r,a,h,j,p,t,hj,hne,hd,ht=>by
   obtain⟨h1,f⟩:=B3 (show((Nat.beq a i || (match x.dst with|none=>true|some t=>!(m9 d t) || A06 b i a)) && qJ b i d r (a+1))=true from h);cases j with
   | zero =>
     simp at hj;subst hj;have e:Nat.beq a i=false:=by
      cases g:Nat.beq a i with
      | false=>rfl
      | true=>exact absurd (A0 g) hne
     rw[e,hd,P2]at h1;simp only[U7.2 ht,P1,P2]at h1;exact h1
   | succ j =>
     have:=yW r (a+1) f j p t (by simpa using hj) A2 hd ht
     rwa[show a+1+j=a+(j+1) by omega]at this
def Rg.slot(g:Rg P base gl nt call ops F M V R X B){D:Nat->Bool}(j:kV ops.toList fun k=>D k=true)(v:∀ k,D k=true->k<ops.size){i:Nat}{o:Oper}(f:ops[i]? = some o)(hi:D i=false)
  (hr:∀ e ∈ o.after.toList,Region.binds .any e=true->D e.on=true) {t:Tmp} (u:t ∈ U4 ops.toList o):∀ k p,ops[k]? = some p->k≠i->p.dst=some t->(D k=true↔k<i):=fun k p hp n w=>by
 have s:∀ (i:Nat) (o:Oper),ops.toList[i]? = some o->∀ e ∈ o.after.toList,Region.binds .any e=true->e.on<i:=fun i o f=>by
  have:=(fL _ 0 g.ok i o f).1;rw[E8]at this;exact dS this
 have h1:=(fL _ 0 g.ok i o (R8 f)).2;have a:=yW _ 0 h1 k p t (R8 hp) A2 w u;rw[E8,E8]at a;unfold A06 at a;rcases Nat.lt_trichotomy k i with d|heq|l
 .have b:Nat.blt i k=false:=by
   cases b:Nat.blt i k with
   | false=>rfl
   | true=>have:i<k:=A1 b;omega
  rw[b]at a;have hm:=U7.1 (by simpa using a);exact⟨fun _=>d,fun _=>xN j s (i+1) i k o (I3 i) (R8 f) hr hm⟩
 .exact absurd heq n
 .have b:Nat.blt i k=true:=C5 l;rw[b]at a;have hm:=U7.1 (by simpa using a);refine⟨fun x=>?_,fun h=>by omega⟩
  have:=xN j s (k+1) k i p (I3 k) (R8 hp) (fun e he q=>j k p (R8 hp) x e he q) hm;rw[hi]at this;cases this
def Rg.frame(g:Rg P base gl nt call ops F M V R X B)(a:nt<=512){t:Tmp}(j:t<nt):∀ i,i<=ops.size->(F i).get t=s8 (fun k=>Nat.blt k i) (fun k=>(ops[k]?).bind (·.dst)) V (F 0).get t i
 | 0,_=>rfl
 | i+1,h=>by
   obtain⟨o,f⟩:=O6 (ops:=ops) (i:=i) A2;obtain⟨h1,_,h3,_⟩:=g.st i o f;have l:=g.frame a j i A2;have q:s8 (fun k=>Nat.blt k (i+1)) (fun k=>(ops[k]?).bind (·.dst)) V (F 0).get t i=s8 (fun k=>Nat.blt k i) (fun k=>(ops[k]?).bind (·.dst)) V (F 0).get t i:=dP i fun k s _=>by
    rw[show Nat.blt k (i+1)=true from C5 A2,show Nat.blt k i=true from C5 s]
   have p:Nat.blt i (i+1)=true:=C5 (A6 _);rw[h3];unfold s8;rw[q,<- l];simp only[p,f,J0,true_and];cases n:o.dst with
   | none=>simp[tJ]
   | some d =>
     rw[n]at h1;have b:d<nt:=A1 h1;simp only[tJ,D0];rw[K9 _ _ _ _ (D1 b a) (D1 j a)];by_cases e:t=d
     .subst e;simp
     .rw[A8 e,A8 (fun h=>e h.symm)]
def Rg.look(g:Rg P base gl nt call ops F M V R X B)(j:nt<=512){D:Nat->Bool}(s:kV ops.toList fun k=>D k=true)(b:∀ k,D k=true->k<ops.size){i:Nat}{o:Oper}(l:ops[i]? = some o)(hi:D i=false)
  (hr:∀ e ∈ o.after.toList,Region.binds .any e=true->D e.on=true) {t:Tmp} (q:t ∈ U4 ops.toList o) (a:t<nt):s8 D (fun k=>(ops[k]?).bind (·.dst)) V (F 0).get t ops.size=(F i).get t:=by
 have v:i<ops.size:=(C6.1 l).1;rw[g.frame j a i A2];have w:=g.slot s b l hi hr q;have y:s8 D (fun k=>(ops[k]?).bind (·.dst)) V (F 0).get t ops.size=s8 (fun k=>Nat.blt k i) (fun k=>(ops[k]?).bind (·.dst)) V (F 0).get t ops.size:=dP _ fun k z f=>by
  obtain⟨p,hp⟩:=O6 (ops:=ops) z;rw[hp]at f;by_cases e:k=i
  .subst e;rw[hi];symm;cases n:Nat.blt k k with
   | false=>rfl
   | true=>have:k<k:=A1 n;omega
  .have:=w k p hp e f;rw[J1,this];exact⟨fun h=>C5 h,fun h=>A1 h⟩
 rw[y];have x:∀ d,i+d<=ops.size->s8 (fun k=>Nat.blt k i) (fun k=>(ops[k]?).bind (·.dst)) V (F 0).get t (i+d)=s8 (fun k=>Nat.blt k i) (fun k=>(ops[k]?).bind (·.dst)) V (F 0).get t i:=by
  intro d;induction d with
  | zero=>intro _;rfl
  | succ d u =>
    intro f;rw[show i+(d+1)=(i+d)+1 by omega];rw[s8,A8 (fun hh=>by have:i+d<i:=A1 hh.1;omega)];exact u A2
 have:=x (ops.size-i) A2
 rwa[show i+(ops.size-i)=ops.size by omega]at this
def uK{o:Oper}{x:Operand}{t:Tmp}(hx:x ∈ o.op.operands.toList)(a:x=.tmp t):t ∈ U4 ops.toList o:=by
 unfold U4;refine B6.2 (.inr (B6.2 (.inl (List.mem_flatMap.2 ⟨x,hx,?_⟩))));subst a;simp[nT]
def Rg.see{z:Zn}(g:Rg P base gl nt call ops F M V R X B)(b:Ph ops B M lo up){y ρ:Ren}{w0 w:World}{D:Nat->Bool}{a:Act}{i:Nat}{o:Oper}
  (q:At P base gl y (M lo) (M up).hi w0) (I:kV ops.toList fun k=>D k=true) (f:lo<=i) (A:i<up) (v:ops[i]? = some o)
  (hr:∀ e ∈ o.after.toList,Region.binds .any e=true->D e.on=true):∀ id,id<=G9->∀ ab,Hp.get (M i).H id=some ab->id ∉ Y2 (zO ((X6 ops.toList []).getD i []) (R i))->GD M lo up D id=some ab:=fun id hid ab h1 N=>by
 unfold GD;by_cases d:(M lo).n<=id/\id<(M i).n
 .obtain⟨k,t,L,s,u⟩:∃ k,lo<=k/\k<i/\(M k).n<=id/\id<(M (k+1)).n:=by
   have:=g.who b (i-lo) A2 id d.1 (by rw[show lo+(i-lo)=i by omega];exact d.2)
   rwa[show lo+(i-lo)=i by omega]at this
  have h:D k=true:=by
   have p:(⟨k,(M k).n,(M (k+1)).n⟩:Rec) ∈ R i:=by
    have:=g.recs b (i-lo) A2 k t A2 id s u
    rwa[show lo+(i-lo)=i by omega]at this
   by_cases E:k ∈ (X6 ops.toList []).getD i []
   .exact xN I (fun i o v=>by
     have:=(fL _ 0 g.ok i o v).1;rw[E8]at this;exact dS this) (i+1) i k o (I3 i) (R8 v) hr E
   .exfalso;refine N (vP.2 ⟨_,Q4.2 ⟨p,?_⟩,s,u⟩);cases x:m9 ((X6 ops.toList []).getD i []) k with
    | false=>rfl
    | true=>exact absurd (U7.1 x) E
  have hu:eT M (Dr lo D) id up=true:=(T4 _).2 ⟨k,A2,W9.2 ⟨t,h⟩,s,u⟩;rw[hu];simp only[D8];rw[(g.le b (i:=i) (j:=up) f A2 (A6 _)).2.2 id hid d.2];exact h1
 .have Q:=(g.all b f A2).2.2.2.2 id hid A2;rw[Q]at h1;have hu:eT M (Dr lo D) id up=false:=by
   cases x:eT M (Dr lo D) id up with
   | false=>rfl
   | true =>
     exfalso;obtain⟨k,L,G,s,u⟩:=(T4 _).1 x;have t:=(W9.1 G).1;obtain⟨l,C,_⟩:=q.hr.at_ id hid ab h1;have K:=g.le b (i:=lo) (j:=k) (A6 _) t A2;have O:=g.le b (i:=k+1) (j:=up) A2 A2 (A6 _);have J:=(g.all b b.le (A6 _)).2.2.1;rw[q.fr id A2 A2]at C;cases C
  rw[hu];exact h1
def Rg.quiet{z:Zn}(g:Rg P base gl nt call ops F M V R X B)(E:U3 P base gl call){L ρ:Ren}{w0 w:World}{D D':Nat->Bool}{a:Act}{i:Nat}{o:Oper}{Q:Exit->Act->World->Prop}{K:Act->World->Prop}
  (u:At P base gl L (M lo) (M up).hi w0) (hS:Sat (M (i+1)).lg) (aa:nt<=512) (inv:Inv z P base gl nt ops F M V lo up L w0 D ρ a w) (hc:kV ops.toList fun k=>D k=true) (aq:∀ k,D k=true->k<ops.size) (S:ops[i]? = some o) (hi:D i=false)
  (hr:∀ e ∈ o.after.toList,Region.binds .any e=true->D e.on=true) (hD:∀ k,k≠i->D' k=D k) (ae:D' i=true)
  (ax:cM nt ops.toList (V1 P call o) ((X6 ops.toList []).getD i []) (R i) (F i) o (M i) (M (i+1)) (V i) r) (ad:∀ b ab,r=some (b,ab)->GD M lo up D b=some ab)
  (hK:∀ q a' w',Inv z P base gl nt ops F M V lo up L w0 D' q a' w'->K a' w'):eZ P z.rd ops Q i K a w:=by
 have ag:i<ops.size:=(C6.1 S).1;obtain⟨bx,af,hF,_⟩:=g.st i o S;have G:∀ t,t ∈ U4 ops.toList o->t<nt->VR ρ ((F i).get t) (a.tmps.getD t undef):=fun t W au=>by
  rw[<- g.look aa hc aq S hi hr W au];exact inv.frm t au
 have an:FR ρ (F i) a.eval o.op:=fun x hx=>by
  have az:okX nt gl x=true:=D2.1 af x hx;cases x with
  | tmp t=>exact G t (uK hx rfl) (A1 az)
  | const v=>exact VR.ofC az
  | global gg=>exact VR.ptr (o:=0) (inv.ext _ _ (u.gr gg (A1 az)))
  | func f=>exact .func (a:=[]) (b:=[]) (a':=[]) (b':=[]) rfl rfl (fun i v v' h=>by simp at h) (fun i v v' h=>by simp at h)
 have J:∀ lg b,v6 nt (F i) (M i).lg ops.toList o=some (b,lg)->Sat lg->Region.wanted o (yielded ops a.tmps)=b:=fun lg b hw I=>by
  unfold v6 at hw;split at hw
  .rename_i hg;cases hw;simp[Region.wanted,hg]
  .rename_i j want hg;split at hw
   .rename_i p hp;split at hw
    .rename_i t W;obtain⟨h1,s⟩:=A3 hw;have h1:t<nt:=A1 h1;have hv:=G t (by
      unfold U4;refine B6.2 (.inr (B6.2 (.inr ?_)));simp[hg,hp,W]) h1
     exact kY hg hp W (by rw[inv.tsz];exact h1) (nP s hv I)
    .cases hw
   .cases hw
 have y:∀ (q:Ren) (v':Value),(∀ b l,ρ b=some l->q b=some l)->VR q (V i) v'->∀ t,t<nt->VR q (s8 D' (fun k=>(ops[k]?).bind (·.dst)) V (F 0).get t ops.size) ((a.put o.dst v').tmps.getD t undef):=fun q v' he hv t W=>by
  by_cases hd:o.dst=some t
  .have T:∀ k,i<k->k<ops.size->(ops[k]?).bind (·.dst)=some t->D k=false:=fun k bw A aw=>by
    obtain⟨p,hp⟩:=O6 (ops:=ops) A;rw[hp]at aw
    have:=g.slot hc aq S hi hr (t:=t) (by unfold U4;simp[hd]) k p hp A2 aw;cases hq:D k with
    | false=>rfl
    | true=>have:=this.1 hq;omega
   rw[pP hD ae ops.size ag (by simp[S,hd]) T];simp only[hd,Act.put,B5];rw[F3,A9 rfl,A9 (by rw[inv.tsz];exact W)];exact hv
  .rw[mX hD (by simp[S];exact hd)];have h1:=(inv.frm t W).mono he;cases Y:o.dst with
   | none=>exact h1
   | some d =>
     have bz:d≠t:=fun e=>hd (e▸Y)
     simp only[Act.put,B5]at h1 ⊢;rw[F3,A8 bz];exact h1
 have hM:∃ lg,M (i+1)=(M i).wLg lg:=by
  rcases ax with⟨lg,_,_,h,_⟩|⟨_,ar,_,_,h,_⟩
  .exact⟨lg,h⟩
  .exact⟨ar,h⟩
 have hG:GD M lo up D'=GD M lo up D:=by
  funext b;unfold GD;have:eT M (Dr lo D') b up=eT M (Dr lo D) b up:=by
   obtain⟨lg,hm⟩:=hM;rw[J1,T4,T4];constructor
   .rintro⟨k,h1,s,h3,h4⟩
    have e:k≠i:=fun e=>by
     subst e;rw[hm]at h4;have h4:b<(M k).n:=h4;omega
    obtain⟨Z,s⟩:=W9.1 s;rw[hD k e]at s;exact⟨k,h1,W9.2 ⟨Z,s⟩,h3,h4⟩
   .rintro⟨k,h1,s,h3⟩
    obtain⟨Z,s⟩:=W9.1 s;have e:k≠i:=fun e=>by subst e;rw[hi]at s;cases s
    exact⟨k,h1,W9.2 ⟨Z,by rw[hD k e];exact s⟩,h3⟩
  rw[this]
 have N:∀ b l,ρ b=some l->L b=none->eT M (Dr lo D') b up=true/\(l.on=true->w0.heap.size<=l.blk):=fun b l h1 s=>by
  obtain⟨k1,k2⟩:=inv.new b l h1 s;obtain⟨k,q1,q2,q3⟩:=(T4 _).1 k1;obtain⟨aj,q2⟩:=W9.1 q2;have e:k≠i:=fun e=>by subst e;rw[hi]at q2;cases q2
  exact⟨(T4 _).2 ⟨k,q1,W9.2 ⟨aj,by rw[hD k e];exact q2⟩,q3⟩,k2⟩
 unfold eZ;simp only[S];rcases ax with⟨lg,hw,hv,hm,_⟩|⟨lg,ar,hw,hq,hm,al⟩
 .have I:Sat lg:=by rw[hm]at hS;exact hS
  rw[J lg false hw I];simp only[I6,if_false];refine hK ρ _ w ⟨inv.ext,N,hG▸inv.hr,inv.keep,inv.size,inv.os,hG▸inv.tch,?_,?_,y ρ undef (fun _ _ h=>h) (hv▸nR ρ)⟩
  .cases Y:o.dst<;>simp[Act.put,inv.tsz]
  .rw[dG];exact inv.dfr
 .obtain⟨mv,m',ay,O,hW,ak,hl⟩:=jJ hq;obtain⟨v1,v2,v3,v4,v5,_⟩:=qK ay;have av:Sat m'.lg:=by rw[hm]at hS;rw[hl];exact hS
  have I:Sat lg:=Q8.le av (by have:=o7 E O;rw[v4]at this;exact this);rw[J lg true hw I];simp only[if_true];have ai:HR P base ρ mv.H w:=inv.hr.hr fun id hid ab U=>ad id ab (al.trans (v5 id hid ab U))
  have ah:At P base gl ρ mv m'.hi w:=⟨ai,B9 u.bs inv.size,fun b h1 s=>(by rw[v1]at h1;rw[ak]at s;omega),u.gr.mono inv.ext,(by rw[v1,v2];exact A6 _),fun b hb=>(by rw[v3]at hb;cases hb),fun k o A=>⟨(u.gf k o A).1,(inv.keep k (D1 (u.gf k o A).1 u.bs)).trans (u.gf k o A).2⟩⟩;refine oA E O av ah an fun v' q w' hv st=>?_
  have ao:q=ρ:=by
   funext b;cases h0:ρ b with
   | some l=>exact st.ext b l h0
   | none =>
     cases h1:q b with
     | none=>rfl
     | some l =>
       exfalso;have s:=(st.new b l h1 h0).1;have h3:=st.hr.dom b l h1;rw[v1]at s;unfold qD at s;unfold G9 at h3;omega
  subst ao;have C:∀ k,k<w.heap.size->w'.heap[k]? = w.heap[k]? := fun k A=>st.keep k A fun b hb=>by rw[hW]at hb;cases hb
  refine hK q _ w' ⟨inv.ext,N,hG▸⟨inv.hr.dom,fun id hid ab U=>?_⟩,fun k A=>by rw[C k (D1 A inv.size),inv.keep k A],B9 inv.size st.size,⟨st.os.1.trans inv.os.1,st.os.2.1.trans inv.os.2.1,st.os.2.2.trans inv.os.2.2⟩,hG▸inv.tch,?_,?_,y q v' (fun _ _ h=>h) hv⟩
  .obtain⟨l,e1,e2,e3⟩:=inv.hr.at_ id hid ab U;exact⟨l,e1,e2.mono (fun _ _ h=>h) (fun k A=>C _ (e2.tc A)),e3⟩
  .cases Y:o.dst<;>simp[Act.put,inv.tsz]
  .rw[dG];exact inv.dfr
def Rg.step{z:Zn}(g:Rg P base gl nt call ops F M V R X B)(ph:Ph ops B M lo up)(S:U3 P base gl call){ao ρ:Ren}{w0 w:World}{D D':Nat->Bool}{a:Act}{i:Nat}{o:Oper}{Q:Exit->Act->World->Prop}{K:Act->World->Prop}
  (L:At P base gl ao (M lo) (M up).hi w0) (hS:Sat (M up).lg) (cz:nt<=512) (inv:Inv z P base gl nt ops F M V lo up ao w0 D ρ a w) (hc:kV ops.toList fun k=>D k=true) (bo:∀ k,D k=true->k<ops.size) (az:lo<=i) (ar:i<up) (W:ops[i]? = some o) (hi:D i=false)
  (hr:∀ e ∈ o.after.toList,Region.binds .any e=true->D e.on=true) (hD:∀ k,k≠i->D' k=D k) (bq:D' i=true)
  (bw:¬∃ r,cM nt ops.toList (V1 P call o) ((X6 ops.toList []).getD i []) (R i) (F i) o (M i) (M (i+1)) (V i) r)
  (hK:∀ C a' w',Inv z P base gl nt ops F M V lo up ao w0 D' C a' w'->K a' w'):eZ P z.rd ops Q i K a w:=by
 have bc:i<ops.size:=(C6.1 W).1;obtain⟨cu,bb,hF,ag⟩:=g.st i o W;have ad:=ph.mx i o az ar W;have cp:=ph.sz;have cr:=g.le ph (i:=lo) (j:=i) (A6 _) az A2;have bj:=g.le ph (i:=i+1) (j:=up) A2 A2 (A6 _);have cv:=g.one W ad (g.all ph az A2).2.2.1;have au:∀ t,t ∈ U4 ops.toList o->t<nt->VR ρ ((F i).get t) (a.tmps.getD t undef):=fun t ht br=>by
  rw[<- g.look cz hc bo W hi hr ht br];exact inv.frm t br
 have bl:FR ρ (F i) a.eval o.op:=fun x hx=>by
  have ae:okX nt gl x=true:=D2.1 bb x hx;cases x with
  | tmp t=>exact au t (uK hx rfl) (A1 ae)
  | const v=>exact VR.ofC ae
  | global gg=>exact VR.ptr (o:=0) (inv.ext _ _ (L.gr gg (A1 ae)))
  | func f=>exact .func (a:=[]) (b:=[]) (a':=[]) (b':=[]) rfl rfl (fun i v v' h=>by simp at h) (fun i v v' h=>by simp at h)
 have ah:∀ lg b,v6 nt (F i) (M i).lg ops.toList o=some (b,lg)->Sat lg->Region.wanted o (yielded ops a.tmps)=b:=fun lg b hw ai=>by
  unfold v6 at hw;split at hw
  .rename_i hg;cases hw;simp[Region.wanted,hg]
  .rename_i j want hg;split at hw
   .rename_i p hp;split at hw
    .rename_i t ht;obtain⟨h1,u⟩:=A3 hw;have h1:t<nt:=A1 h1;have hv:=au t (by
      unfold U4;refine B6.2 (.inr (B6.2 (.inr ?_)));simp[hg,hp,ht]) h1
     exact kY hg hp ht (by rw[inv.tsz];exact h1) (nP u hv ai)
    .cases hw
   .cases hw
 have an:∀ (C:Ren) (v':Value),(∀ b l,ρ b=some l->C b=some l)->VR C (V i) v'->∀ t,t<nt->VR C (s8 D' (fun k=>(ops[k]?).bind (·.dst)) V (F 0).get t ops.size) ((a.put o.dst v').tmps.getD t undef):=fun C v' he hv t ht=>by
  by_cases hd:o.dst=some t
  .have ak:∀ k,i<k->k<ops.size->(ops[k]?).bind (·.dst)=some t->D k=false:=fun k cq Z bz=>by
    obtain⟨p,hp⟩:=O6 (ops:=ops) Z;rw[hp]at bz
    have:=g.slot hc bo W hi hr (t:=t) (by unfold U4;simp[hd]) k p hp A2 bz;cases hq:D k with
    | false=>rfl
    | true=>have:=this.1 hq;omega
   rw[pP hD bq ops.size bc (by simp[W,hd]) ak];simp only[hd,Act.put,B5];rw[F3,A9 rfl,A9 (by rw[inv.tsz];exact ht)];exact hv
  .rw[mX hD (by simp[W];exact hd)];have h1:=(inv.frm t ht).mono he;cases bt:o.dst with
   | none=>exact h1
   | some d =>
     have cy:d≠t:=fun e=>hd (e▸bt)
     simp only[Act.put,B5]at h1 ⊢;rw[F3,A8 cy];exact h1
 have O:∀ b,eT M (Dr lo D') b up=true↔(eT M (Dr lo D) b up=true∨((M i).n<=b/\b<(M (i+1)).n)):=fun b=>by
  rw[T4,T4];constructor
  .rintro⟨k,h1,u,h3⟩
   obtain⟨af,u⟩:=W9.1 u;by_cases e:k=i
   .subst e;exact .inr h3
   .rw[hD k e]at u;exact .inl ⟨k,h1,W9.2 ⟨af,u⟩,h3⟩
  .rintro(⟨k,h1,u,h3⟩|h3)
   .obtain⟨af,u⟩:=W9.1 u;have e:k≠i:=fun e=>by subst e;rw[hi]at u;cases u
    exact⟨k,h1,W9.2 ⟨af,by rw[hD k e];exact u⟩,h3⟩
   .exact⟨i,ar,W9.2 ⟨az,bq⟩,h3⟩
 unfold eZ;simp only[W];have bu:Sat (M (i+1)).lg:=Q8.le hS (by have:=g.lgs S (i:=i+1) (up-(i+1)) A2;rwa[show i+1+(up-(i+1))=up by omega]at this);rcases ag with⟨_,lg,hw,hv,hm⟩|⟨_,lg,bd,hw,hq,hm⟩|⟨bn,_⟩|⟨_,_,lg,hw,mv,m',aq,al,hW,bh,U⟩
 .exact absurd ⟨_,.inl ⟨lg,hw,hv,hm,rfl⟩⟩ bw
 .exact absurd ⟨_,.inr ⟨lg,bd,hw,hq,hm,rfl⟩⟩ bw
 .rw[ad]at bn;cases bn
 .have bx:Sat m'.lg:=by rw[GL U]at bu;exact bu
  have ai:Sat lg:=Q8.le bx (by have:=o7 S al;rw[MK aq]at this;exact this);rw[ah lg true hw ai];simp only[if_true];obtain⟨v1,v2,v3,_,v4⟩:=A0Z aq;have v1:mv.n=(M i).n:=v1;have v2:mv.hi=(M i).hi:=v2;have v4:∀ id,id<=G9->∀ ab,Hp.get mv.H id=some ab->Hp.get (M i).H id=some ab/\id ∉ Y2 (zO ((X6 ops.toList []).getD i []) (R i)):=v4;have aj:=(g.all ph az A2).2.2.1;obtain⟨q1,q2,q3,q4,q5,q6,_,q7⟩:=GK U aj bh;have q1:(M i).n<=(M (i+1)).n:=q1;have q5:(M (i+1)).n=m'.hi∨((M (i+1)).n=(M i).n/\m'.hi<=(M i).n):=q5;have q7:∀ id,id<=G9->Hp.get (M (i+1)).H id=if(M i).n<=id/\id<(M (i+1)).n then Hp.get m'.H id else Hp.get (M i).H id:=q7
  have J:∀ id,id<=G9->∀ ab,Hp.get mv.H id=some ab->GD M lo up D id=some ab:=fun id hid ab y=>by
   obtain⟨h1,u⟩:=v4 id hid ab y;exact g.see (z:=z) (a:=a) (ρ:=ρ) (w:=w) ph L hc az ar W hr id hid ab h1 u
  have bg:HR P base ρ mv.H w:=inv.hr.hr J;have T:J2 ρ mv.n m'.hi:=fun b h1 u=>by
   rw[v1]at h1;cases hb:ρ b with
   | none=>rfl
   | some l =>
     exfalso;cases h0:ao b with
     | some l0 =>
       rw[L.fr b A2 A2]at h0;cases h0
     | none =>
       obtain⟨k,k1,k2,k3,k4⟩:=(T4 _).1 (inv.new b l hb h0).1;obtain⟨k0,k2⟩:=W9.1 k2;have ct:k≠i:=fun e=>by subst e;rw[hi]at k2;cases k2
       rcases F2 k i with aa|aa
       .have:=(g.le ph (i:=k+1) (j:=i) A2 A2 A2).1;omega
       .have:=(g.le ph (i:=i+1) (j:=k) A2 A2 A2).1;rcases q5 with q5|⟨_,q5⟩<;>omega
  have bf:At P base gl ρ mv m'.hi w:=⟨bg,B9 L.bs inv.size,T,L.gr.mono inv.ext,(by rw[v1,v2];exact aj),fun b hb=>(by rw[v3]at hb;cases hb),fun k o Z=>⟨(L.gf k o Z).1,(inv.keep k (D1 (L.gf k o Z).1 L.bs)).trans (L.gf k o Z).2⟩⟩;refine oA S al bx bf bl fun v' C w' hv st=>hK C _ w' ?_
  have ax:∀ k,k<w.heap.size->w'.heap[k]? = w.heap[k]? := fun k Z=>st.keep k Z fun b hb=>by rw[hW]at hb;cases hb
  have cw:m'.n<=m'.hi:=st.nhi (by rw[v1,v2];exact aj);have aw:∀ b l,C b=some l->ρ b=none->((M i).n<=b/\b<(M (i+1)).n)/\(l.on=true->w.heap.size<=l.blk):=fun b l h1 u=>by
   have h3:=st.new b l h1 u;rw[v1]at h3;refine⟨⟨h3.1,?_⟩,?_⟩
   .rcases q5 with q5|⟨_,q5⟩<;>omega
   .intro W;rcases st.blk b l h1 u W with h|⟨b0,h,_⟩
    .exact h
    .rw[hW]at h;cases h
  have av:∀ id,id<=G9->(M i).n<=id->id<(M (i+1)).n->GD M lo up D' id=Hp.get m'.H id/\ρ id=none:=fun id hid h1 u=>by
   constructor
   .unfold GD;rw[(O id).2 (.inr ⟨h1,u⟩)];simp only[D8];rw[bj.2.2 id hid u,q7 id hid,A9 ⟨h1,u⟩]
   .refine T id (by rw[v1];exact h1) ?_;rcases q5 with q5|⟨q5,_⟩
    .omega
    .rw[q5]at u;omega
  have Y:∀ id,¬ ((M i).n<=id/\id<(M (i+1)).n)->GD M lo up D' id=GD M lo up D id:=fun id hid=>by
   unfold GD;have:eT M (Dr lo D') id up=eT M (Dr lo D) id up:=by
    rw[J1,O id];exact⟨fun h=>h.elim (fun h=>h) (fun h=>absurd h hid),.inl⟩
   rw[this]
  have ba:∀ k,Ff C (GD M lo up D') k->w.heap.size<=k∨Ff ρ (GD M lo up D) k:=fun k ⟨id,ab,l,hid,y,hl,ht⟩=>by
   by_cases hI:(M i).n<=id/\id<(M (i+1)).n
   .rw[(av id hid hI.1 hI.2).1]at y;rcases st.tch k ⟨id,ab,l,hid,y,hl,ht⟩with h|⟨A,ay,l0,e1,e2,e3,e4⟩
    .exact .inl h
    .exact .inr ⟨A,ay,l0,e1,J A e1 ay e2,e3,e4⟩
   .rw[Y id hI]at y;obtain⟨l3,c1,_⟩:=inv.hr.at_ id hid ab y;rw[st.ext id l3 c1]at hl
    have:=A7 hl;subst this;exact .inr ⟨id,ab,l3,hid,y,c1,ht⟩
  refine⟨fun b l h=>st.ext b l (inv.ext b l h),fun b l h1 u=>?_,⟨st.hr.dom,fun id hid ab y=>?_⟩,fun k Z=>by rw[ax k (D1 Z inv.size),inv.keep k Z],B9 inv.size st.size,⟨st.os.1.trans inv.os.1,st.os.2.1.trans inv.os.2.1,st.os.2.2.trans inv.os.2.2⟩,fun k Z=>(ba k Z).elim (fun h=>.inl (B9 inv.size h)) (inv.tch k),?_,?_,an C v' st.ext hv⟩
  .cases h0:ρ b with
   | some l1 =>
     rw[st.ext b l1 h0]at h1
     have:=A7 h1;subst this;exact⟨(O b).2 (.inl (inv.new b l1 h0 u).1),(inv.new b l1 h0 u).2⟩
   | none =>
     have:=aw b l h1 h0;exact⟨(O b).2 (.inr this.1),fun W=>B9 inv.size (this.2 W)⟩
  .by_cases hI:(M i).n<=id/\id<(M (i+1)).n
   .obtain⟨h1,u⟩:=av id hid hI.1 hI.2;rw[h1]at y;obtain⟨l,e1,e2,e3⟩:=st.hr.at_ id hid ab y;refine⟨l,e1,e2,fun N G=>⟨(e3 N G).1,fun q s I l2 f1 f2 f3=>?_⟩⟩;by_cases E:(M i).n<=q/\q<(M (i+1)).n
    .rw[(av q s E.1 E.2).1]at f1;exact(e3 N G).2 q s I l2 f1 f2 f3
    .rw[Y q E]at f1;obtain⟨l3,c1,c2,_⟩:=inv.hr.at_ q s I f1;rw[st.ext q l3 c1]at f2
     have:=A7 f2;subst this;have h5:=c2.tc f3;have h6:=(aw id l e1 u).2 G;omega
   .rw[Y id hI]at y;obtain⟨l,e1,e2,e3⟩:=inv.hr.at_ id hid ab y;refine⟨l,st.ext _ _ e1,e2.mono st.ext (fun k Z=>ax _ (e2.tc Z)),fun N G=>⟨(e3 N G).1,fun q s I l2 f1 f2 f3=>?_⟩⟩;by_cases E:(M i).n<=q/\q<(M (i+1)).n
    .exfalso;rw[(av q s E.1 E.2).1]at f1;have bk:I.fr=true:=by
      cases hq:I.fr with
      | true=>rfl
      | false =>
        exfalso;rcases f3 with⟨_,h1,u⟩|⟨h1,_⟩
        .have h5:=(aw q l2 f2 (av q s E.1 E.2).2).2 h1;have h6:=e2.tc (.inl ⟨AB.rw_on N,G,rfl⟩);omega
        .rw[h1]at hq;cases hq
     rcases st.tch _ ⟨q,I,l2,s,f1,f2,bk,f3⟩with h|⟨A,ay,l0,c1,c2,c3,_,c4⟩
     .have:=e2.tc (.inl ⟨AB.rw_on N,G,rfl⟩);omega
     .have h7:=(e3 N G).2 A c1 ay l0 (J A c1 ay c2) c3 c4;subst h7;have h8:=J A c1 ay c2;rw[y]at h8;have h8:=A7 h8;subst h8;have h9:A<mv.n∨m'.hi<=A:=by
       rcases F2 A mv.n with h|h
       .exact .inl h
       .rcases F2 A m'.hi with h'|h'
        .rw[T A h h']at e1;cases e1
        .exact .inr h'
      have bp:=st.same A c1 (by rw[hW];simp) h9;rw[c2]at bp;obtain⟨_,bm⟩:=st.hr.atl (st.ext _ _ e1) bp
      have:=(bm N G).2 q s I l2 f1 f2 f3;subst this;exact hI E
    .rw[Y q E]at f1;obtain⟨l3,c1,_⟩:=inv.hr.at_ q s I f1;rw[st.ext q l3 c1]at f2
     have:=A7 f2;subst this;exact(e3 N G).2 q s I l3 f1 c1 f3
  .cases bt:o.dst<;>simp[Act.put,inv.tsz]
  .rw[dG];exact inv.dfr.congr st.ext fun _=>⟨rfl,rfl⟩
end
end
section
open Go
variable [Ora]
def AM:∀ (l:List Bool) (i:Nat),l[i]? = some false->(l.set i true).countP (fun b=>!b)+1=l.countP (fun b=>!b)
 | [],i,h=>by simp at h
 | b::r,0,h=>by simp at h;subst h;simp
 | b::r,i+1,h=>by
   have:=AM r i (by simpa using h);rw[List.set_cons_succ,List.countP_cons,List.countP_cons];omega
def LM{l:List Bool}(h:l.countP (fun b=>!b)=0):∀ i,i<l.length->l[i]? = some true:=fun i hi=>by
 rw[List.countP_eq_zero]at h
 have:=h l[i] (M8 hi);rw[A5 hi];cases a:l[i]with
 | true=>rfl
 | false=>rw[a]at this;exact absurd rfl this
section
variable {P:Program} {base gl:Nat} {call:O0}
def WH(h:jR m m'=some m2)(a:m.hi<=m'.hi):m.hi<=m2.hi:=by
 unfold jR at h;cases b:Nat.ble m'.hi m.n with
 | true=>rw[b]at h;cases h;exact A6 _
 | false =>
   rw[b]at h;obtain⟨_,h⟩:=A3 h;simp only[E1,cU]at h;cases h;exact a
def xL:∀ {n:Nat} {b:G5} {a:Qs},DR n b a=true->∀ k,k<n->k ∈ b∨∃ q ∈ a,q.1=k
 | 0,_,_,_,k,h=>by omega
 | n+1,b,a,h,k,hk=>by
   obtain⟨h1,f⟩:=B3 (show((m9 b n || a.any fun q=>Nat.beq n q.1) && DR n b a)=true from h);by_cases e:k=n
   .subst e;rcases I1 _ _▸h1 with h1|h1
    .exact .inl (U7.1 h1)
    .obtain⟨q,g,d⟩:=O7.1 h1;exact .inr ⟨q,g,(A0 d).symm⟩
   .exact xL f k A2
def vX:∀ {i:Nat} {bs:List G5} {r:List Oper},CN i bs r=true->∀ (j:Nat) (c:List Nat) (o:Oper),bs[j]? = some c->r[j]? = some o->i ∈ c∨p0 o.op=true
 | _,[],_,_,j,c,o,h,_=>by simp at h
 | _,_::_,[],_,j,c,o,_,h=>by simp at h
 | i,c0::bs,o0::r,h,j,c,o,h1,h2=>by
   obtain⟨a,b⟩:=B3 (show((m9 c0 i || p0 o0.op) && CN i bs r)=true from h);cases j with
   | zero =>
     simp at h1 h2;subst h1;subst h2;rcases I1 _ _▸a with a|a
     .exact .inl (U7.1 a)
     .exact .inr a
   | succ j=>exact vX b j c o (by simpa using h1) (by simpa using h2)
def BP{ops:Array Oper}{X:Nat->Qs}{i:Nat}{o:Oper}(h:A0j ops X i o=true):p0 o.op=false:=by
 obtain⟨h,_⟩:=B3 (show(wrO o.op && _)=true from h);cases a:o.op<;>rw[a]at h<;>first
  | rfl
  | cases h
def JX{ops:Array Oper}{X:Nat->Qs}{i:Nat}{o:Oper}(h:A0j ops X i o=true):∀ k,k<i->k ∈ (X6 ops.toList []).getD i []∨∃ q ∈ X i,q.1=k:=by
 obtain⟨_,h⟩:=B3 (show(wrO o.op && _)=true from h);obtain⟨h,_⟩:=B3 h;exact xL h
def JW{ops:Array Oper}{X:Nat->Qs}{i:Nat}{o:Oper}(h:A0j ops X i o=true):∀ j p,i<j->ops[j]? = some p->i ∈ (X6 ops.toList []).getD j []∨p0 p.op=true:=fun j p e hp=>by
 obtain⟨_,h⟩:=B3 (show(wrO o.op && _)=true from h);obtain⟨_,h⟩:=B3 h;obtain⟨g,b,d,_⟩:=rU ops.toList [];have hlen:(X6 ops.toList []).length=ops.size:=by rw[b];simpa using d
 have f:j<ops.size:=(C6.1 hp).1;have a:j<(X6 ops.toList []).length:=A2
 have:=vX h (j-(i+1)) (X6 ops.toList [])[j] p (by rw[H3,show i+1+(j-(i+1))=j by omega,A5 a]) (by rw[H3,show i+1+(j-(i+1))=j by omega];exact R8 hp);rw[B2,A5 a];exact this
def qP(ops:Array Oper)(B:Nat->Bool):∀ (d lo:Nat),lo+d=ops.size->∃ up,lo<=up/\up<=ops.size/\(∀ i o,lo<=i->i<up->ops[i]? = some o->B i=false)/\(up<ops.size->∃ o,ops[up]? = some o/\B up=true)
 | 0,lo,h=>⟨lo,A6 _,A2,fun i o h1 f=>by omega,fun f=>by omega⟩
 | d+1,lo,h=>by
   obtain⟨o,j⟩:=O6 (ops:=ops) (i:=lo) A2;cases g:B lo with
   | true=>exact⟨lo,A6 _,A2,fun i o h1 f=>by omega,fun _=>⟨o,j,g⟩⟩
   | false =>
     obtain⟨up,h1,f,h3,k⟩:=qP ops B d (lo+1) A2;refine⟨up,A2,f,fun i o' a b c=>?_,k⟩;by_cases e:i=lo
     .subst e;exact g
     .exact h3 i o' A2 b c
section
variable {nt:Nat} {ops:Array Oper} {F:Nat->Fr} {M:Nat->Mem} {V:Nat->Value} {R:Nat->List Rec} {X:Nat->Qs} {B:Nat->Bool} {lo up:Nat}
def Rg.frameUp(g:Rg P base gl nt call ops F M V R X B)(a:nt<=512){t:Tmp}(b:t<nt){i:Nat}(hi:i<=ops.size):s8 (fun k=>Nat.blt k i) (fun k=>(ops[k]?).bind (·.dst)) V (F 0).get t ops.size=(F i).get t:=by
 rw[g.frame a b i hi];have e:∀ d,i+d<=ops.size->s8 (fun k=>Nat.blt k i) (fun k=>(ops[k]?).bind (·.dst)) V (F 0).get t (i+d)=s8 (fun k=>Nat.blt k i) (fun k=>(ops[k]?).bind (·.dst)) V (F 0).get t i:=by
  intro d;induction d with
  | zero=>intro _;rfl
  | succ d f =>
    intro j;rw[show i+(d+1)=(i+d)+1 by omega];rw[s8,A8 (fun hh=>by have:i+d<i:=A1 hh.1;omega)];exact f A2
 have:=e (ops.size-i) A2
 rwa[show i+(ops.size-i)=ops.size by omega]at this
def A8v{k i:Nat}:Nat.blt k i=true↔k<i:=⟨fun h=>A1 h,fun h=>C5 h⟩
def Rg.own(g:Rg P base gl nt call ops F M V R X B)(f:nt<=510):∀ (i:Nat),i<=ops.size->(F i).get 510=(F 0).get 510/\(F i).get 511=(F 0).get 511
 | 0,_=>⟨rfl,rfl⟩
 | i+1,hi=>by
   obtain⟨o,j⟩:=O6 (ops:=ops) (i:=i) A2;obtain⟨d1,_,d3,_⟩:=g.st i o j;have b:=g.own f i A2;have key:∀ t,510<=t->t<512->(F (i+1)).get t=(F i).get t:=fun t h1 k=>by
    rw[d3];cases l:o.dst with
    | none=>rfl
    | some d =>
      rw[l]at d1;have a:d<nt:=A1 d1;show((F i).set d _).get t=_;rw[K9 _ _ _ _ (D1 a A2) k,A8 (fun e=>by subst e;exact absurd a (Nat.not_lt.2 (B9 f h1)))]
   exact⟨(key 510 F7 F7).trans b.1,(key 511 F7 F7).trans b.2⟩
def Rg.inX(g:Rg P base gl nt call ops F M V R X B):∀ (j:Nat),j<=ops.size->∀ q ∈ X j,q.1<j/\q ∈ X (q.1+1)/\∃ o,ops[q.1]? = some o/\cM nt ops.toList (V1 P call o) ((X6 ops.toList []).getD q.1 []) (R q.1) (F q.1) o (M q.1) (M (q.1+1)) (V q.1) q.2
 | 0,_,q,hq=>by rw[g.x0]at hq;cases hq
 | j+1,hj,q,hq=>by
   obtain⟨o,d⟩:=O6 (ops:=ops) (i:=j) A2;have old:q ∈ X j->q.1<j+1/\q ∈ X (q.1+1)/\∃ o,ops[q.1]? = some o/\cM nt ops.toList (V1 P call o) ((X6 ops.toList []).getD q.1 []) (R q.1) (F q.1) o (M q.1) (M (q.1+1)) (V q.1) q.2:=fun h=>by
    obtain⟨h1,b⟩:=g.inX j A2 q h;exact⟨A2,b⟩
   rcases g.qs j o d with⟨_,h,_⟩|⟨_,h⟩|⟨_,r,h,b⟩
   .exact old (h▸hq)
   .exact old (h▸hq)
   .have a:=hq;rw[h]at hq;rcases B4.1 hq with e|e
    .subst e;exact⟨I3 _,a,o,d,b⟩
    .exact old e
def zH{all:List Oper}{b:G5}{fr:Fr}{o:Oper}{v:Value}(h:cM nt all op b rs fr o m m2 v r):∃ lg,m2=m.wLg lg:=by
 rcases h with⟨lg,_,_,h,_⟩|⟨_,a,_,_,h,_⟩
 .exact⟨lg,h⟩
 .exact⟨a,h⟩
def Rg.kind(g:Rg P base gl nt call ops F M V R X B){i:Nat}{o:Oper}(f:ops[i]? = some o)(a:p0 o.op=true):cM nt ops.toList (V1 P call o) ((X6 ops.toList []).getD i []) (R i) (F i) o (M i) (M (i+1)) (V i) none:=by
 obtain⟨_,_,_,h⟩:=g.st i o f;have j:HM (M i).H (F i) o.op=none:=by
  cases d:o.op<;>rw[d]at a<;>first|rfl|cases a
 rcases h with⟨_,lg,h1,b,h3⟩|⟨_,lg,e,h1,b,h3⟩|⟨h,_⟩|⟨_,h,_⟩
 .exact .inl ⟨lg,h1,b,h3,rfl⟩
 .exact .inr ⟨lg,e,h1,b,h3,j.symm⟩
 .rw[BP (g.sb i o f h)]at a;cases a
 .rw[a]at h;cases h
def Rg.heap{z:Zn}(g:Rg P base gl nt call ops F M V R X B)(f:Ph ops B M lo up){D:Nat->Bool}{o ρ:Ren}{a:Act}{v w':World}(hD:∀ k,lo<=k->k<up->D k=false->∃ lg,M (k+1)=(M k).wLg lg)(inv:Inv z P base gl nt ops F M V lo up o v D ρ a w'):St P base o ρ (M lo) (M up) v w':=by
 have x:∀ id,id<=G9->GD M lo up D id=Hp.get (M up).H id:=fun id hid=>by
  unfold GD;cases hu:eT M (Dr lo D) id up with
  | true=>rfl
  | false =>
    simp only[D4];refine((g.all f f.le (A6 _)).2.2.2.2 id hid ?_).symm;rcases F2 id (M lo).n with h1|h1
    .exact .inl h1
    .rcases F2 id (M up).n with e|e
     .exfalso;have hle:=f.le;obtain⟨k,q,G,w,p⟩:=g.who f (up-lo) A2 id h1 (by rw[show lo+(up-lo)=up by omega];exact e);have t:D k=true:=by
       cases C:D k with
       | true=>rfl
       | false =>
         obtain⟨lg,hm⟩:=hD k q A2 C;rw[hm]at p;have p:id<(M k).n:=p;omega
      rw[(T4 (M:=M) (D:=Dr lo D) up).2 ⟨k,A2,W9.2 ⟨q,t⟩,w,p⟩]at hu;cases hu
     .exact .inr e
 have d:=g.all f f.le (A6 _);refine⟨inv.ext,fun b l h1 e=>?_,d.1,d.2.1,fun _=>d.2.2.1,inv.hr.hr fun id hid ab s=>by rw[x id hid];exact s,fun b I=>by rw[d.2.2.2.1];exact I,fun b h1 e=>by rw[d.2.2.2.1]at h1;exact absurd h1 e,
     fun k K _=>inv.keep k K,inv.size,inv.os,fun b l h1 e A=>.inl ((inv.new b l h1 e).2 A),fun id hid h1 e=>?_,fun k ⟨id,ab,l,u,y,E,J⟩=>inv.tch k ⟨id,ab,l,u,(x id u).trans y,E,J⟩⟩
 .obtain⟨k,G,h,w,p⟩:=(T4 _).1 (inv.new b l h1 e).1;have q:=(W9.1 h).1;have u:=(g.le f (i:=lo) (j:=k) (A6 _) q A2).1;have y:=(g.le f (i:=k+1) (j:=up) A2 A2 (A6 _)).1;omega
 .refine d.2.2.2.2 id hid ?_;rcases e with e|e
  .exact .inl e
  .exact .inr (by have:=d.2.2.1;omega)
def Rg.last{z:Zn}(g:Rg P base gl nt call ops F M V R X B)(b:nt<=512){D:Nat->Bool}{d ρ:Ren}{a:Act}{n w':World}(hD:∀ i,i<ops.size->D i=true)(inv:Inv z P base gl nt ops F M V lo up d n D ρ a w'):FrR z ρ nt (F ops.size) a:=by
 have f:=inv.dfr.congr (fun _ _ h=>h) (fun l=>g.own l ops.size (A6 _));refine⟨inv.tsz,b,f.1,f.2,fun t e=>?_⟩;have h1:=inv.frm t e;rw[<- g.frameUp b e (A6 _)]
 rwa[dP (D':=fun k=>Nat.blt k ops.size) ops.size (fun k j _=>by rw[hD k j];exact(A8v.2 j).symm)]at h1
def Rg.fresh{z:Zn}(g:Rg P base gl nt call ops F M V R X B){D:Nat->Bool}{ρ:Ren}{a:Act}{w:World}(hD:∀ k,lo<=k->D k=true->∃ lg,M (k+1)=(M k).wLg lg)(hr:HR P base ρ (M lo).H w)(i:a.tmps.size=nt)(p:ZR z ρ nt (F 0) a.defers)
  (e:∀ t,t<nt->VR ρ (s8 D (fun k=>(ops[k]?).bind (·.dst)) V (F 0).get t ops.size) (a.tmps.getD t undef)):Inv z P base gl nt ops F M V lo up ρ w D ρ a w:=by
 have hu:∀ b n,eT M (Dr lo D) b n=false:=fun b n=>by
  cases s:eT M (Dr lo D) b n with
  | false=>rfl
  | true =>
    obtain⟨k,_,h,A,q⟩:=(T4 _).1 s;obtain⟨h1,o⟩:=W9.1 h;obtain⟨lg,hm⟩:=hD k h1 o;rw[hm]at q;have q:b<(M k).n:=q;omega
 have j:∀ id ab,GD M lo up D id=some ab->Hp.get (M lo).H id=some ab:=fun id ab d=>by
  unfold GD at d;rw[hu]at d;exact d
 exact⟨fun _ _ h=>h,fun b l h1 o=>(by rw[h1]at o;cases o),hr.f fun id hid ab d=>j id ab d,fun _ _=>rfl,A6 _,⟨rfl,rfl,rfl⟩,fun k ⟨id,ab,l,y,v,u,x⟩=>.inr ⟨id,ab,l,y,j id ab v,u,x⟩,i,p,e⟩
def Rg.old{z:Zn}(g:Rg P base gl nt call ops F M V R X B)(d:Ph ops B M lo up){e:Ren}{w0:World}{D:Nat->Bool}(a:At P base gl e (M lo) (M up).hi w0){b:Nat}{ab:AB}(u:wH (M lo).H b ab=true):GD M lo up D b=some ab:=by
 obtain⟨h1,hid⟩:=wG u;unfold GD;have hu:eT M (Dr lo D) b up=false:=by
  cases o:eT M (Dr lo D) b up with
  | false=>rfl
  | true =>
    exfalso;obtain⟨k,v,n,w,x⟩:=(T4 _).1 o;have t:=(W9.1 n).1;obtain⟨l,f,_⟩:=a.hr.at_ b hid _ h1;have q:=g.le d (i:=lo) (j:=k) (A6 _) t A2;have s:=g.le d (i:=k+1) (j:=up) A2 A2 (A6 _);have p:=(g.all d d.le (A6 _)).2.2.1;rw[a.fr b A2 A2]at f;cases f
 rw[hu];exact h1
end
def YY(hm:P.follows .mixedOrders=true)(T:U3 P base gl call):eO P base gl call:=by
 refine⟨hm,?_⟩;intro nt ops br s s' cn;obtain⟨F,M,V,R,X,B,f1,f2,f3,ds,f4,f5,f6⟩:=A2M ops.toList 0 _ _ _ s s' cn;simp only[E8,Q7]at f4 f5 f6;have bb:∀ i,i<=ops.size->∀ d,i+d<=ops.size->(M i).hi<=(M (i+d)).hi/\(M i).lg.le (M (i+d)).lg:=by
  intro i _ d;induction d with
  | zero=>intro _;exact⟨A6 _,.refl _⟩
  | succ d ih =>
    intro h;have h1:=ih A2;obtain⟨o,A⟩:=O6 (ops:=ops) (i:=i+d) A2;obtain⟨bp,_⟩:=f6 (i+d) o (R8 A);refine⟨?_,h1.2.trans (yU T bp)⟩;obtain⟨_,_,_,O⟩:=bp;rcases O with⟨_,_,_,_,O⟩|⟨_,_,_,_,_,O⟩|⟨_,_,_,_,O⟩|⟨_,_,_,_,mv,m',_,_,_,cp,O⟩
    .show _<=(M (i+d+1)).hi;rw[O];exact h1.1
    .show _<=(M (i+d+1)).hi;rw[O];exact h1.1
    .exact B9 h1.1 O
    .exact B9 h1.1 (WH O cp)
 have E:∀ i j,i<=j->j<=ops.size->(M i).hi<=(M j).hi/\(M i).lg.le (M j).lg:=fun i j h1 O=>by
  have:=bb i A2 (j-i) A2
  rwa[show i+(j-i)=j by omega]at this
 constructor
 .have:=E 0 ops.size A2 (A6 _);rw[f2,f5]at this;exact this
 .intro z av a0 w id Q cf ar ak hQ;have g:Rg P base gl nt call ops F M V R X B:=⟨fun i o A=>(f6 i o (R8 A)).1,fun i o A=>(f6 i o (R8 A)).2.2.1,fun i o A=>(f6 i o (R8 A)).2.2.2,fun i o A=>(f6 i o (R8 A)).2.1,ds,br⟩;have ca:∀ i o,ops[i]? = some o->∀ e ∈ o.after.toList,Region.binds .any e=true->e.on<i:=fun i o A=>by
   have:=(fL _ 0 g.ok i o (R8 A)).1;rw[E8]at this;exact dS this
  refine iX hm ?_;generalize cb:({ w with drawn:=w.drawn+1 }:World)=w1;have ax:w1.heap=w.heap:=by rw[<- cb]
  have bc:w1.os=w.os/\w1.tape=w.tape/\w1.output=w.output:=by rw[<- cb];exact⟨rfl,rfl,rfl⟩
  have aw:At P base gl av (M 0) (M ops.size).hi w1:=by
   rw[f2,f5];exact⟨⟨fun b l h=>ar.hr.dom b l h,fun id hid ab du=>by
    obtain⟨l,e1,e2,e3⟩:=ar.hr.at_ id hid ab du;exact⟨l,e1,e2.mono (fun _ _ h=>h) (fun _ _=>by rw[ax]),e3⟩⟩,by rw[ax];exact ar.bs,ar.fr,ar.gr,ar.nh,ar.wb,fun k o C=>by rw[ax];exact ar.gf k o C⟩
  have ai:∀ i,i<=ops.size->Sat (M i).lg:=fun i hi=>Q8.le cf (by rw[<- f5];exact(E i ops.size hi (A6 _)).2)
  have az:J2 av (M 0).n (M ops.size).hi:=aw.fr;have fin:∀ (ρ:Ren) (a:Act) (w':World),FrR z ρ nt (F ops.size) a->St P base av ρ (M 0) (M ops.size) w1 w'->Q .normal a w':=fun ρ a w' hf st=>by
   refine hQ ρ a w' (by rw[<- f4];exact hf) ?_;rw[<- f2,<- f5];exact⟨st.ext,st.new,st.nle,st.hle,st.nhi,st.hr,st.wsub,st.wrw,fun k C hb=>by rw[st.keep k (by rw[ax];exact C) hb,ax],by rw[<- ax];exact st.size,⟨st.os.1.trans bc.1,st.os.2.1.trans bc.2.1,st.os.2.2.trans bc.2.2⟩,fun b l h1 O h3=>by rw[<- ax];exact st.blk b l h1 O h3,st.same,fun k C=>by rw[<- ax];exact st.tch k C⟩
  have main:∀ (fuel:Nat) (listed:Array Bool) (lo up:Nat) (L ρ:Ren) (a:Act) (wL w':World),listed.size=ops.size->listed.toList.countP (fun b=>!b)=fuel->kV ops.toList (fun k=>listed.getD k false=true) ->
    Ph ops B M lo up->(up<ops.size->∃ o,ops[up]? = some o/\B up=true)->St P base av L (M 0) (M lo) w1 wL->At P base gl L (M lo) (M ops.size).hi wL->(∀ q ∈ X lo,listed.getD q.1 false=false->A3D (M lo).H q.2=true)->(∀ k,k<lo->listed.getD k false=false->∃ q ∈ X lo,q.1=k)->(∀ k o,up<=k->ops[k]? = some o->listed.getD k false=true->p0 o.op=true) ->
    Inv z P base gl nt ops F M V lo up L wL (fun k=>listed.getD k false) ρ a w'->fY P z.rd .any ops Q fuel listed a w':=by
   have done:∀ (listed:Array Bool) (lo up:Nat) (L ρ:Ren) (a:Act) (wL w':World),(∀ i,i<ops.size->listed.getD i false=true)->Ph ops B M lo up->(up<ops.size->∃ o,ops[up]? = some o/\B up=true)->St P base av L (M 0) (M lo) w1 wL->(∀ k o,up<=k->ops[k]? = some o->listed.getD k false=true->p0 o.op=true) ->
     Inv z P base gl nt ops F M V lo up L wL (fun k=>listed.getD k false) ρ a w'->Q .normal a w':=fun listed lo up L ρ a wL w' Y ph I aj K inv=>by
    have dz:up=ops.size:=by
     rcases F2 up ops.size with h|h
     .obtain⟨o,A,hs⟩:=I h
      have:=K up o (A6 _) A (Y up h);rw[BP (g.sb up o A hs)]at this;cases this
     .have:=ph.sz;omega
    subst dz;exact fin ρ a w' (g.last ak.le Y inv) (St.trans az aj (g.heap ph (fun k _ h1 O=>by have O:listed.getD k false=false:=O;rw[Y k h1]at O;cases O) inv))
   intro fuel;induction fuel with
   | zero =>
     intro listed lo up L ρ a wL w' cu bg ay ph I aj aa cy bu K inv;have Y:∀ i,i<ops.size->listed.getD i false=true:=fun i hi=>by
      have:=LM bg i (by simpa [cu]using hi);have O:listed[i]? = some true:=by simpa using this
      simp[B5,O]
     refine⟨?_,done listed lo up L ρ a wL w' Y ph I aj K inv⟩;rw[aM];intro j hj;obtain⟨h1,o,O,_⟩:=mem_ready.1 hj;have ao:j<ops.size:=(C6.1 O).1;have h3:=Y j ao;have bd:j<listed.size:=A2;simp[B5,bd]at h1 h3;rw[h1]at h3;cases h3
   | succ fuel ih =>
     intro listed lo up L ρ a wL w' cu bg ay ph I aj aa cy bu K inv;refine⟨fun dt=>?_,fun i hi=>?_⟩
     ·
      have key:∀ n i,i<n->i<ops.size->listed.getD i false=true:=by
       intro n;induction n with
       | zero=>intro i h;omega
       | succ n bo =>
         intro i dk bl;by_cases h:i<n
         .exact bo i h bl
         .cases W:listed.getD i false with
          | true=>rfl
          | false =>
            exfalso;obtain⟨o,A⟩:=O6 (ops:=ops) bl;have bf:i ∈ Region.ready .any ops listed:=mem_ready.2 ⟨by
             have bd:i<listed.size:=A2;simp[B5,bd]at W ⊢;exact W,o,A,fun e he hb=>by
             have ao:=ca i o A e (by simpa using he) hb;exact bo e.on A2 A2⟩
            rw[dt]at bf;cases bf
      exact done listed lo up L ρ a wL w' (fun i hi=>key (i+1) i (I3 i) hi) ph I aj K inv
     .obtain⟨h1,o,A,O⟩:=mem_ready.1 hi;have bl:i<ops.size:=(C6.1 A).1;have ae:i<listed.size:=A2;have Z:listed.getD i false=false:=by
       simp[B5,ae]at h1 ⊢;exact h1
      have u:∀ k,k≠i->(listed.setIfInBounds i true).getD k false=listed.getD k false:=fun k C=>by
       simp only[B5,F3];rw[A8 (fun e=>C e.symm)]
      have J:(listed.setIfInBounds i true).getD i false=true:=by
       simp[B5,F3,ae]
      have hr:∀ e ∈ o.after.toList,Region.binds .any e=true->listed.getD e.on false=true:=fun e he hb=>O e (by simpa using he) hb
      have bj:(listed.setIfInBounds i true).size=ops.size:=by simpa using cu
      have bz:(listed.setIfInBounds i true).toList.countP (fun b=>!b)=fuel:=by
       have hg:listed.toList[i]? = some false:=by
        simp[B5,ae]at Z;simp[ae,Z]
       have:=AM listed.toList i hg;rw[Array.toList_setIfInBounds];omega
      have bk:kV ops.toList (fun k=>(listed.setIfInBounds i true).getD k false=true):=by
       intro k o' cv C e he hb;by_cases e1:e.on=i
       .rw[e1];exact J
       .show(listed.setIfInBounds i true).getD e.on false=true;rw[u e.on e1];by_cases e2:k=i
        .subst e2;have:ops.toList[k]? = some o:=R8 A;rw[this]at cv;cases cv;exact hr e he hb
        .have C:(listed.setIfInBounds i true).getD k false=true:=C;rw[u k e2]at C;exact ay k o' cv C e he hb
      have bq:∀ k,k ∈ (X6 ops.toList []).getD i []->listed.getD k false=true:=fun k C=>xN ay (fun i o A=>by
        have:=(fL _ 0 g.ok i o A).1;rw[E8]at this;exact dS this) (i+1) i k o (I3 i) (R8 A) hr C
      have ao:∀ k,listed.getD k false=true->k<ops.size:=fun k C=>by
       rcases F2 k ops.size with h|h
       .exact h
       .have S:listed[k]? = none:=Array.getElem?_eq_none_iff.2 A2;rw[B5,S]at C;cases C
      have ag:At P base gl L (M lo) (M up).hi wL:=aa.less (E up ops.size ph.sz (A6 _)).1;have go:∀ (y:Ren) (a':Act) (G:World),(up<=i->p0 o.op=true)->Inv z P base gl nt ops F M V lo up L wL (fun k=>(listed.setIfInBounds i true).getD k false) y a' G->fY P z.rd .any ops Q fuel (listed.setIfInBounds i true) a' G:=fun y a' G W au =>
       ih (listed.setIfInBounds i true) lo up L y a' wL G bj bz bk ph I aj aa (fun q W S=>cy q W (by
        by_cases e:q.1=i
        .rw[e,J]at S;cases S
        .rw[u _ e]at S;exact S)) (fun k C S=>by
        by_cases e:k=i
        .subst e;rw[J]at S;cases S
        .rw[u k e]at S;exact bu k C S) (fun k p C hp hl=>by
        by_cases e:k=i
        .subst e;rw[A]at hp;cases hp;exact W C
        .rw[u k e]at hl;exact K k p C hp hl) au
      have quiet:∀ r,(up<=i->p0 o.op=true)->cM nt ops.toList (V1 P call o) ((X6 ops.toList []).getD i []) (R i) (F i) o (M i) (M (i+1)) (V i) r->(∀ b ab,r=some (b,ab)->GD M lo up (fun k=>listed.getD k false) b=some ab)->eZ P z.rd ops Q i (fun a' G=>fY P z.rd .any ops Q fuel (listed.setIfInBounds i true) a' G) a w':=fun r W U dq =>
       g.quiet T ag (ai (i+1) A2) ak.le inv ay ao A Z hr u J U dq fun y a' G au=>go y a' G W au
      rcases F2 i lo with af|af
      ·
       obtain⟨q,cl,cd⟩:=bu i af Z;obtain⟨_,_,p,hp,U⟩:=g.inX lo (by have:=ph.sz;have:=ph.le;omega) q cl;rw[cd]at hp U;rw[A]at hp;cases hp;refine quiet q.2 (fun h=>by have:=ph.le;omega) U fun b ab hb=>?_
       refine g.old (z:=z) ph ag ?_
       have:=cy q cl (by rw[cd];exact Z);rw[hb]at this;exact this
      .rcases F2 i up with cz|cz
       ·
        by_cases hex:∃ r,cM nt ops.toList (V1 P call o) ((X6 ops.toList []).getD i []) (R i) (F i) o (M i) (M (i+1)) (V i) r
        .obtain⟨r,U⟩:=hex;refine quiet r (fun h=>by omega) U fun b ab hb=>?_
         rcases U with⟨_,_,_,_,dw⟩|⟨lg,dj,hw,W,hm,dx⟩
         .rw[dw]at hb;cases hb
         .obtain⟨mv,m',ct,_⟩:=jJ W;obtain⟨h3,h4⟩:=(qK ct).2.2.2.2.2 b ab (dx.symm.trans hb);obtain⟨h5,h6⟩:=wG h3;exact g.see (z:=z) (a:=a) (ρ:=ρ) (w:=w') ph ag ay af cz A hr b h6 _ h5 h4
        .exact g.step ph T ag (ai up ph.sz) ak.le inv ay ao af cz A Z hr u J hex fun y a' G au=>go y a' G (fun h=>by omega) au
       .obtain⟨os,bw,an⟩:=I A2;rcases F2 up i with dr|dh
        ·
         have C:p0 o.op=true:=by
          rcases JW (g.sb up os bw an) i o dr A with h|h
          .have h3:=K up os (A6 _) bw (bq up h);rw[BP (g.sb up os bw an)]at h3;cases h3
          .exact h
         exact quiet none (fun _=>C) (g.kind A C) fun b ab hb=>by cases hb
        ·
         have cg:i=up:=A2;subst cg;rw[A]at bw;cases bw;have ad:∀ k,k<i->listed.getD k false=false->∃ q ∈ X i,q.1=k:=fun k C S=>by
          rcases JX (g.sb i o A an) k C with h|h
          .rw[bq k h]at S;cases S
          .exact h
         have q2:=g.heap ph (fun k _ C S=>by
          obtain⟨q,W,e⟩:=ad k C S;obtain⟨_,_,p,hp,U⟩:=g.inX i A2 q W;rw[e]at U;exact zH U) inv
         have dp:St P base av ρ (M 0) (M i) w1 w':=St.trans (az.less (E i ops.size A2 (A6 _)).1) aj q2;have aq:At P base gl ρ (M i) (M ops.size).hi w':=aa.step q2;obtain⟨d1,d2,d3,bp⟩:=g.st i o A;have bx:∀ t,t ∈ U4 ops.toList o->t<nt->VR ρ ((F i).get t) (a.tmps.getD t undef):=fun t ht ch=>by
          rw[<- g.look ak.le ay ao A Z hr ht ch];exact inv.frm t ch
         have dy:FR ρ (F i) a.eval o.op:=fun x hx=>by
          have br:okX nt gl x=true:=D2.1 d2 x hx;cases x with
          | tmp t=>exact bx t (uK hx rfl) (A1 br)
          | const v=>exact VR.ofC br
          | global gg=>exact VR.ptr (o:=0) (aq.gr gg (A1 br))
          | func f=>exact .func (a:=[]) (b:=[]) (a':=[]) (b':=[]) rfl rfl (fun i v v' h=>by simp at h) (fun i v v' h=>by simp at h)
         have cw:∀ lg b,v6 nt (F i) (M i).lg ops.toList o=some (b,lg)->Sat lg->Region.wanted o (yielded ops a.tmps)=b:=fun lg b hw ba=>by
          unfold v6 at hw;split at hw
          .rename_i hg;cases hw;simp[Region.wanted,hg]
          .rename_i j want hg;split at hw
           .rename_i p hp;split at hw
            .rename_i t ht;obtain⟨h1,O⟩:=A3 hw;have h1:t<nt:=A1 h1;have hv:=bx t (by
              unfold U4;refine B6.2 (.inr (B6.2 (.inr ?_)));simp[hg,hp,ht]) h1
             exact kY hg hp ht (by rw[inv.tsz];exact h1) (nP O hv ba)
            .cases hw
           .cases hw
         have bn:∀ (y:Ren) (v':Value),(∀ b l,ρ b=some l->y b=some l)->VR y (V i) v'->∀ t,t<nt->VR y (s8 (fun k=>(listed.setIfInBounds i true).getD k false) (fun k=>(ops[k]?).bind (·.dst)) V (F 0).get t ops.size) ((a.put o.dst v').tmps.getD t undef):=fun y v' he hv t ht=>by
          by_cases hd:o.dst=some t
          .have al:∀ k,i<k->k<ops.size->(ops[k]?).bind (·.dst)=some t->listed.getD k false=false:=fun k di C cr=>by
            obtain⟨p,hp⟩:=O6 (ops:=ops) C;rw[hp]at cr
            have:=g.slot ay ao A Z hr (t:=t) (by unfold U4;simp[hd]) k p hp A2 cr;cases W:listed.getD k false with
            | false=>rfl
            | true=>have:=this.1 W;omega
           rw[pP (D:=fun k=>listed.getD k false) u J ops.size bl (by simp[A,hd]) al];simp only[hd,Act.put,B5];rw[F3,A9 rfl,A9 (by rw[inv.tsz];exact ht)];exact hv
          .rw[mX (D:=fun k=>listed.getD k false) u (by simp[A];exact hd)];have h1:=(inv.frm t ht).mono he;cases ck:o.dst with
           | none=>exact h1
           | some d =>
             have dn:d≠t:=fun e=>hd (e▸ck)
             simp only[Act.put,B5]at h1 ⊢;rw[F3,A8 dn];exact h1
         have hX:X (i+1)=X i/\WW ((X6 ops.toList []).getD i []) (M (i+1)).H (X i)=true:=by
          rcases g.qs i o A with⟨_,h3,h4⟩|⟨h3,_⟩|⟨h3,_⟩
          .exact⟨h3,h4⟩
          .rw[an]at h3;cases h3
          .rw[an]at h3;cases h3
         have al:∀ (y:Ren) (v':Value) (G:World),VR y (V i) v'->St P base ρ y (M i) (M (i+1)) w' G->fY P z.rd .any ops Q fuel (listed.setIfInBounds i true) (a.put o.dst v') G:=fun y v' G hv ah=>by
          obtain⟨dm,u1,u2,u3,u4⟩:=qP ops B (ops.size-(i+1)) (i+1) A2;have bh:=aq.step ah;refine ih (listed.setIfInBounds i true) (i+1) dm y y _ G G bj bz bk ⟨u1,u2,bh.nh,u3⟩ u4 (St.trans (az.less (E (i+1) ops.size A2 (A6 _)).1) dp ah) bh (fun q W S=>?_) (fun k C S=>?_) (fun k p C hp hl=>?_)
           (g.fresh (fun k C hl=>?_) ah.hr ?_ ?_ (bn y v' ah.ext hv))
          .rw[hX.1]at W;have h5:=D2.1 hX.2 q W;rcases I1 _ _▸h5 with h5|h5
           .exfalso;have h6:=bq q.1 (U7.1 h5);by_cases e:q.1=i
            .rw[e,Z]at h6;cases h6
            .rw[u _ e,h6]at S;cases S
           .exact h5
          .rw[hX.1];by_cases e:k=i
           .subst e;rw[J]at S;cases S
           .rw[u k e]at S;exact ad k A2 S
          .rw[u k A2]at hl;exact K k p A2 hp hl
          .have hl:(listed.setIfInBounds i true).getD k false=true:=hl;rw[u k A2]at hl;obtain⟨p,hp⟩:=O6 (ops:=ops) (ao k hl);exact zH (g.kind hp (K k p A2 hp hl))
          .cases ck:o.dst<;>simp[Act.put,inv.tsz]
          .rw[dG];exact inv.dfr.congr ah.ext fun _=>⟨rfl,rfl⟩
         unfold eZ;simp only[A];rcases bp with⟨N,_⟩|⟨N,_⟩|⟨_,lg,hw,bt,cp⟩|⟨N,_⟩
         .rw[an]at N;cases N
         .rw[an]at N;cases N
         .have cq:=ai (i+1) A2;have ba:Sat lg:=Q8.le cq (by have:=o7 T bt;rw[Z1]at this;exact this);rw[cw lg true hw ba];simp only[if_true];have cj:At P base gl ρ ((M i).wLg lg) (M (i+1)).hi w':=(aq.wLg lg).less (E (i+1) ops.size A2 (A6 _)).1;refine oA T bt cq cj dy fun v' y G hv ah=>al y v' G hv ?_
          have cm:=St.wLg (m:=M i) aq.hr lg;exact St.trans (by have:=aq.fr;exact this.less (E (i+1) ops.size A2 (A6 _)).1) cm ah
         .rw[an]at N;cases N
  obtain⟨up,u1,u2,u3,u4⟩:=qP ops B ops.size 0 A2;have bm:∀ k,(Array.replicate ops.size false).getD k false=false:=fun k=>by
   simp only[B5,eX];split<;>simp
  refine main ops.size _ 0 up av av a0 w1 w1 (by simp) (by simp[List.countP_replicate]) (fun k o A C=>by have C:(Array.replicate ops.size false).getD k false=true:=C;rw[bm k]at C;cases C) ⟨u1,u2,aw.nh,u3⟩ u4 (St.refl aw.hr) aw (fun q W=>by rw[g.x0]at W;cases W) (fun k C=>by omega) (fun k o C A hl=>by rw[bm k]at hl;cases hl)
   (g.fresh (fun k _ hl=>by have hl:(Array.replicate ops.size false).getD k false=true:=hl;rw[bm k]at hl;cases hl) aw.hr ak.size (by rw[f1];exact ak.zr) fun t ht=>?_)
  have h0:∀ n,s8 (fun k=>(Array.replicate ops.size false).getD k false) (fun k=>(ops[k]?).bind (·.dst)) V (F 0).get t n=(F 0).get t:=by
   intro n;induction n with
   | zero=>rfl
   | succ n bo=>rw[s8,A8 (fun hh=>by rw[bm n]at hh;exact absurd hh.1 (by simp)),bo]
  rw[h0,f1];exact ak.get t ht
end
end
section
open Go
variable [Ora]
section
variable {P:Program} {base gl:Nat}
def uB{f:FuncId}{e:U8->Sem Value}{args:U8}{w w':World}{v:Value}(g:P.funcs[f]? = some fn)(b:(fn.name == "runtime.NumGoroutine")=false)(d:fn.body=none)(i:Extern.findNext fn=none)(he:Extern.find fn=some e)
  (hr:(e args).run P w=.ok v w'):(callFunc f args).run P w=.ok (.value v) w':=by
 have a:fn.name ≠ "runtime.NumGoroutine":=by simpa using b
 simp[callFunc,A4,run_program,Result.andThen,g,a,d,i,he,mark,Sem.run,hr]
def kH{k:EK}{vs:C9}{v:Value}(h:nA k vs m=some (v,m')) :
  (k=.noEscape/\vs=[v]/\m'=m) ∨
  (k=.indexByteString/\∃ s c,vs=[.string s,.int .u8 (.ofNat c)]/\v=.int .i64 (qZ s.data.toList (UInt8.ofNat c) 0)/\m'=m) ∨
  (k=.countString/\∃ s c,vs=[.string s,.int .u8 (.ofNat c)]/\v=.int .i64 (rN (UInt8.ofNat c) s.data.toList 0)/\m'=m) ∨
  (∃ e n,k=.makeNoZero e/\vs=[.int .i64 (.ofNat n)]/\n<=1000000000/\Y1 m (.cells [] e false) (fun b=>.slice (some ⟨b,0,none⟩) n M1)=some (v,m')):=by
 unfold nA at h;split at h
 .cases h;exact .inl ⟨rfl,rfl,rfl⟩
 .cases h;exact .inr (.inl ⟨rfl,_,_,rfl,rfl,rfl⟩)
 .cases h;exact .inr (.inr (.inl ⟨rfl,_,_,rfl,rfl,rfl⟩))
 .obtain⟨h1,h⟩:=A3 h;exact .inr (.inr (.inr ⟨_,_,rfl,rfl,A1 h1,h⟩))
 .cases h
def uC{k:EK}{vs:C9}{v:Value}(h:(FnC.mk (nA k)).run vs m=some (v,m')):m.lg.le m'.lg:=by
 have h:nA k vs m=some (v,m'):=h;rcases kH h with⟨_,_,rfl⟩|⟨_,_,_,_,_,rfl⟩|⟨_,_,_,_,_,rfl⟩|⟨_,_,_,_,_,h⟩
 .exact .refl _
 .exact .refl _
 .exact .refl _
 .obtain⟨_,_,rfl⟩:=K6 h;exact .refl _
def GI{f:FuncId}(j:P.funcs[f]? = some fn)(a:(fn.name == "runtime.NumGoroutine")=false)(i:fn.body=none)(e:Extern.findNext fn=none)(he:Extern.find fn=some Extern.AbiNoEscape.same):kU P base gl f ⟨nA .noEscape⟩:=by
 refine⟨fun vs m m' v hr=>uC hr,?_⟩;intro ρ m m' w vs vs' v hr l b d;have hr:nA .noEscape vs m=some (v,m'):=hr;rcases kH hr with⟨_,rfl,rfl⟩|⟨h,_⟩|⟨h,_⟩|⟨_,_,h,_⟩
 .obtain⟨v',k,rfl,h1,g⟩:=d.tail;cases g.nil_inv;exact .inr ⟨v',ρ,w,uB j a i e he rfl,h1,.refl b.hr⟩
 .cases h
 .cases h
 .cases h
def zY(c:UInt8):∀ (l:List UInt8) (k:Nat),qZ l c k=if Lib.indexByte l c == -1 then -1 else Lib.indexByte l c+k
 | [],k=>rfl
 | x::r,k=>by
   have f:=Lib.indexByte_ge r c;have b:=zY c r (k+1);rw[qZ,Lib.indexByte];by_cases e:x=c
   .subst e;simp
   .have d:(x == c)=false:=by simpa using e
    simp only[d,E9 e,D4];rw[b];by_cases h:Lib.indexByte r c = -1
    .simp[h]
    .have a:(Lib.indexByte r c == -1)=false:=by simpa using h
     have h3:(Lib.indexByte r c+1 == -1)=false:=by simp;omega
     simp only[a,h3,I6,if_false];omega
def LB(c:UInt8)(l:List UInt8):qZ l c 0=Lib.indexByte l c:=by
 rw[zY];by_cases h:Lib.indexByte l c = -1
 .simp[h]
 .have a:(Lib.indexByte l c == -1)=false:=by simpa using h
  simp[a]
def nD(c:UInt8):∀ (l:List UInt8) (n:Nat),rN c l n=n+l.count c
 | [],n=>rfl
 | x::r,n=>by
   rw[rN,List.count_cons];by_cases e:x=c
   .subst e;simp only[decide_true,D8,E1,beq_self_eq_true,if_true];rw[nD x r (n+1)];omega
   .have a:(x == c)=false:=by simpa using e
    simp only[E9 e,D4,a,I6,if_false];rw[nD c r n];omega
def CU{f:FuncId}(j:P.funcs[f]? = some fn)(a:(fn.name == "runtime.NumGoroutine")=false)(i:fn.body=none)(e:Extern.findNext fn=none)(he:Extern.find fn=some Extern.BytealgIndexByte.indexByte):kU P base gl f ⟨nA .indexByteString⟩:=by
 refine⟨fun vs m m' v hr=>uC hr,?_⟩;intro ρ m m' w vs vs' v hr l b d;have hr:nA .indexByteString vs m=some (v,m'):=hr;rcases kH hr with⟨h,_⟩|⟨_,s,c,rfl,rfl,rfl⟩|⟨h,_⟩|⟨_,_,h,_⟩
 .cases h
 .obtain⟨v1,r1,rfl,h1,g⟩:=d.tail;obtain⟨v2,n,rfl,h3,k⟩:=g.tail;cases k.nil_inv;cases T7 h1;cases I4 h3;refine .inr ⟨_,ρ,w,uB j a i e he (Lib.run_indexByteString s (.ofNat c) w),?_,.refl b.hr⟩;rw[LB];exact .pure rfl
 .cases h
 .cases h
def wW{f:FuncId}(j:P.funcs[f]? = some fn)(a:(fn.name == "runtime.NumGoroutine")=false)(i:fn.body=none)(e:Extern.findNext fn=none)(he:Extern.find fn=some Extern.BytealgCount.count):kU P base gl f ⟨nA .countString⟩:=by
 refine⟨fun vs m m' v hr=>uC hr,?_⟩;intro ρ m m' w vs vs' v hr l b d;have hr:nA .countString vs m=some (v,m'):=hr;rcases kH hr with⟨h,_⟩|⟨h,_⟩|⟨_,s,c,rfl,rfl,rfl⟩|⟨_,_,h,_⟩
 .cases h
 .cases h
 .obtain⟨v1,r1,rfl,h1,g⟩:=d.tail;obtain⟨v2,n,rfl,h3,k⟩:=g.tail;cases k.nil_inv;cases T7 h1;cases I4 h3;refine .inr ⟨_,ρ,w,uB j a i e he (Lib.run_countString s (.ofNat c) w),?_,.refl b.hr⟩;rw[nD,E8];exact .pure rfl
 .cases h
def yI{f:FuncId}{ps:Array TypeId}{t e:TypeId}(s:P.funcs[f]? = some fn)(g:(fn.name == "runtime.NumGoroutine")=false)(q:fn.body=none)(p:Extern.findNext fn=none)(he:Extern.find fn=some (Extern.BytealgMakeNoZero.makeNoZero ps #[t]))
  (hu:P.underlying t=some (.slice e)) (hi:(P.info? e).map (·.size)=some 1):kU P base gl f ⟨nA (.makeNoZero e)⟩:=by
 refine⟨fun vs m m' v hr=>uC hr,?_⟩;intro ρ m m' w vs vs' v hr A a l;have hr:nA (.makeNoZero e) vs m=some (v,m'):=hr;rcases kH hr with⟨h,_⟩|⟨h,_⟩|⟨h,_⟩|⟨e',n,h,rfl,x,hr⟩
 .cases h
 .cases h
 .cases h
 .cases h;obtain⟨v1,r1,rfl,h1,j⟩:=l.tail;cases j.nil_inv;cases I4 h1;obtain⟨cs,d,hle,_⟩:=Lib.run_makeNoZero (P:=P) w ps t e hu n A2;obtain⟨z,y,k⟩:=cQ (wd:=w.drew.drew) (fz:=(0,0)) (cap:=cs.size) (C:=cs) (cs':=[]) a.hr a.bs hr a.fr (.nil) (fun i u hi=>by simp at hi) NF.zero
   (fun inf j=>by rw[j]at hi;have hi:some inf.size=some 1:=hi;have hi:=A7 hi;rw[hi];omega) ⟨rfl,rfl,rfl⟩ rfl
  refine .inr ⟨_,_,_,uB s g q p he d,?_,k⟩;rw[z]
  have:=VR.op (ρ:=upd ρ m.n (lc w.heap.size 0 cs.size)) (b:=m.n) (o:=0) (n:=n) (m:=M1) (m':=cs.size) y (A6 _) hle (fun _ _=>rfl)
  simpa using this
end
end
section
open Go
variable [Ora]
structure xQ (P:Program) (f:FuncId) (k:EK):Prop where
 row:∃ fn,P.funcs[f]? = some fn/\(fn.name == "runtime.NumGoroutine")=false/\fn.body=none/\Extern.findNext fn=none /\
  ((k=.noEscape/\Extern.find fn=some Extern.AbiNoEscape.same)∨(k=.indexByteString/\Extern.find fn=some Extern.BytealgIndexByte.indexByte)∨(k=.countString/\Extern.find fn=some Extern.BytealgCount.count) ∨
    (∃ e ps t,k=.makeNoZero e/\Extern.find fn=some (Extern.BytealgMakeNoZero.makeNoZero ps #[t])/\P.underlying t=some (.slice e)/\(P.info? e).map (·.size)=some 1))
def xQ.ok{P:Program}{f:FuncId}{k:EK}{base gl:Nat}(h:xQ P f k):kU P base gl f ⟨nA k⟩:=by
 obtain⟨fn,h1,b,h3,d,a⟩:=h.row;rcases a with⟨rfl,a⟩|⟨rfl,a⟩|⟨rfl,a⟩|⟨e,ps,t,rfl,a,i,g⟩
 .exact GI h1 b h3 d a
 .exact CU h1 b h3 d a
 .exact wW h1 b h3 d a
 .exact yI h1 b h3 d a i g
def AH:∀ {l:List (FuncId×EK)} {f:FuncId} {k:EK},HU l f=some k->(f,k) ∈ l
 | (g,j)::r,f,k,h=>by
   rw[HU]at h;cases e:Nat.beq g f with
   | true =>
     rw[e]at h;cases h;rw[A0 e];exact .head _
   | false =>
     rw[e]at h;exact .tail _ (AH h)
theorem A1t{P:Program}{ext:List (FuncId×EK)}{gl base:Nat}{con:FuncId->Option FnC}{lp:FuncId->LpT}(hm:P.follows .mixedOrders=true)(d:DV P)(he:∀ p ∈ ext,xQ P p.1 p.2)
  (a:∀ f c,con f=some c->kU P base gl f c) (b:∀ f fn body,P.funcs[f]? = some fn->fn.body=some body->MF P base gl fn.ntmps body (lp f)) :
  A2G ⟨P,ext,gl,con,lp⟩ base :=
 { names:=d,ext:=fun f k fn _ _ h=>(he _ (AH h)).ok,con:=a,lp:=b,draws:=fun _ h=>YY hm h }
end
section
open Go
inductive Sh where
 | s (t:Nat)
 | a (ts:List Nat)
def EH(t:Nat)(u:U):P4:=if F5 u=t then toV u else none
def PZ:G5->List U->Option (C9×List U)
 | [],us=>some ([],us)
 | t::ts,u::us=>match EH t u,PZ ts us with
   | some v,some (vs,r)=>some (v::vs,r)
   | _,_=>none
 | _::_,[]=>none
def EG:Sh->List U->Option (Value×List U)
 | .s t,u::us=>match EH t u with
   | some v=>some (v,us)
   | none=>none
 | .s _,[]=>none
 | .a ts,us=>match PZ ts us with
   | some (vs,r)=>some (.agg ⟨vs⟩,r)
   | none=>none
def PY:List Sh->List U->Option C9
 | [],[]=>some []
 | [],_::_=>none
 | h::hs,us=>match EG h us with
   | some (v,r)=>match PY hs r with
     | some vs=>some (v::vs)
     | none=>none
   | none=>none
def tup:C9->Value
 | [v]=>v
 | vs=>.tuple ⟨vs⟩
structure kT (w w':World):Prop where
 os:w'.os=w.os/\w'.tape=w.tape/\w'.output=w.output
 size:w.heap.size<=w'.heap.size
 keep:∀ k,k<w.heap.size->w'.heap[k]? = w.heap[k]?
def GOk(G:Nat->Option Obj)(w:World):Prop:=∀ k o,G k=some o->w.heap[k]? = some o
def GOk.lt{G:Nat->Option Obj}{w:World}(h:GOk G w){k:Nat}{o:Obj}(a:G k=some o):k<w.heap.size:=by
 have:=h k o a;rcases F2 k w.heap.size with h1|h1
 .exact h1
 .rw[Array.getElem?_eq_none h1]at this;cases this
abbrev bX:=List U->Option (Nat×List U)
def Sh.tags:Sh->G5
 | .s t=>[t]
 | .a b=>b
def yT:List Sh->G5
 | []=>[]
 | s::ss=>s.tags++yT ss
def Sh.n(s:Sh):Nat:=s.tags.length
def shN:List Sh->Nat
 | []=>0
 | h::hs=>h.n+shN hs
def kL(a:List Sh):Bool:=(yT a).any (Nat.ble 10)
inductive ShR (R:Nat->Option Obj):Sh->List U->Value->Prop
 | s {t u v} (h:Enc R u v) (ht:F5 u=t):ShR R (.s t) [u] v
 | a {ts us cs} (h:X7 R us cs) (ht:us.map F5=ts):ShR R (.a ts) us (.agg ⟨cs⟩)
inductive ShL (R:Nat->Option Obj):List Sh->List U->C9->Prop
 | nil:ShL R [] [] []
 | cons {s ss us us2 v vs} (h:ShR R s us v) (k:ShL R ss us2 vs):ShL R (s::ss) (us++us2) (v::vs)
def X7.append{R:Nat->Option Obj}{us a:List U}{vs:C9}(h:X7 R us vs)(k:X7 R a vs2):X7 R (us++a) (vs++vs2):=by
 refine⟨by simp[h.1,k.1],fun i u v h1 d=>?_⟩;rcases F2 i us.length with b|b
 .rw[E6 b]at h1;rw[E6 (h.1▸b)]at d;exact h.2 i u v h1 d
 .rw[D7 b]at h1;rw[D7 (h.1▸b),<- h.1]at d;exact k.2 _ u v h1 d
def X7.split{R:Nat->Option Obj}:∀ {vs vs2:C9} {us:List U},X7 R us (vs++vs2)->∃ a b,us=a++b/\X7 R a vs/\X7 R b vs2
 | [],vs2,us,h=>⟨[],us,rfl,.nil,h⟩
 | v::vs,vs2,[],h=>by have:=h.1;simp at this
 | v::vs,vs2,u::us,h=>by
   obtain⟨a,b,rfl,h1,e⟩:=X7.split (vs:=vs) (vs2:=vs2) (us:=us) ⟨by have:=h.1;simpa using this,fun i x y d a2=>h.2 (i+1) x y (by simpa using d) (by simpa using a2)⟩;exact⟨u::a,b,rfl,.cons (h.2 0 u v rfl rfl) h1,e⟩
def X7.mono{R d:Nat->Option Obj}{us:List U}{vs:C9}(h:X7 R us vs)(k:Sub R d):X7 d us vs:=⟨h.1,fun i u v a b=>(h.2 i u v a b).mono k⟩
def EJ{R:Nat->Option Obj}:∀ {b:G5} {us r:List U} {vs:C9},PZ b us=some (vs,r)->∃ a,us=a++r/\X7 R a vs/\a.map F5=b
 | [],us,r,vs,h=>by cases h;exact⟨[],rfl,.nil,rfl⟩
 | t::b,u::us,r,vs,h=>by
   unfold PZ at h;split at h
   .rename_i v g j h1 d;cases h;obtain⟨a,rfl,i,f⟩:=EJ (R:=R) d;unfold EH at h1;split at h1
    .rename_i e;exact⟨u::a,rfl,.cons (.sc h1) i,by simp[e,f]⟩
    .cases h1
   .cases h
 | _::_,[],_,_,h=>by cases h
def PX{R:Nat->Option Obj}{s:Sh}{us r:List U}{v:Value}(h:EG s us=some (v,r)):∃ a,us=a++r/\ShR R s a v:=by
 cases s with
 | s t =>
   cases us with
   | nil=>cases h
   | cons u us =>
     simp only[EG]at h;split at h
     .rename_i v1 hv;cases h;unfold EH at hv;split at hv
      .rename_i d;exact⟨[u],rfl,.s (.sc hv) d⟩
      .cases hv
     .cases h
 | a i =>
   simp only[EG]at h;split at h
   .rename_i vs g hv;cases h;obtain⟨a,f,e,b⟩:=EJ (R:=R) hv;exact⟨a,f,.a e b⟩
   .cases h
def uV{R:Nat->Option Obj}:∀ {b:List Sh} {us:List U} {vs:C9},PY b us=some vs->ShL R b us vs
 | [],[],vs,h=>by cases h;exact .nil
 | [],_::_,_,h=>by cases h
 | s::b,us,vs,h=>by
   unfold PY at h;split at h
   .rename_i v r hv;split at h
    .rename_i d e;cases h;obtain⟨a,rfl,f⟩:=PX (R:=R) hv;exact .cons f (uV e)
    .cases h
   .cases h
def YW{R:Nat->Option Obj}{us:List U}{vs:C9}(h:X7 R us vs)(b:vs2.length=us.length)(k:∀ (i:Nat) (u:U) (v:Value),us[i]? = some u->vs2[i]? = some v->toV u=some v):vs=vs2:=by
 refine eS fun i=>?_
 rcases F2 i us.length with hi|hi
 .have h1:us[i]? = some us[i]:=A5 hi;have a:vs[i]? = some (vs[i]'(h.1▸hi)):=A5 _;have h3:vs2[i]? = some (vs2[i]'(b▸hi)):=A5 _;rw[a,h3,eL (h.2 i _ _ h1 a) (k i _ _ h1 h3)]
 .rw[S4 (by rw[<- h.1];exact hi),S4 (by rw[b];exact hi)]
def EI:∀ {b:G5} {us r:List U} {vs:C9},PZ b us=some (vs,r)->∃ a,us=a++r/\vs.length=a.length/\a.length=b.length/\∀ (i:Nat) (u:U) (v:Value),a[i]? = some u->vs[i]? = some v->toV u=some v
 | [],us,r,vs,h=>by cases h;exact⟨[],rfl,rfl,rfl,fun i u v h=>by simp at h⟩
 | t::b,u::us,r,vs,h=>by
   unfold PZ at h;split at h
   .rename_i v g l h1 f;cases h;obtain⟨a,rfl,k,j,e⟩:=EI f;unfold EH at h1;split at h1
    .refine⟨u::a,rfl,by simp[k],by simp[j],fun i x y d a2=>?_⟩;cases i with
     | zero=>simp at d a2;subst d;subst a2;exact h1
     | succ i=>exact e i x y (by simpa using d) (by simpa using a2)
    .cases h1
   .cases h
 | _::_,[],_,_,h=>by cases h
def R5{R:Nat->Option Obj}:∀ {i:List Sh} {us:List U} {vs vs2:C9},ShL R i us vs->PY i us=some vs2->vs=vs2
 | [],us,vs,vs2,h,k=>by cases h;cases k;rfl
 | s::i,us,vs,vs2,h,k=>by
   cases h with
   | cons h1 l =>
     rename_i f d v vs;unfold PY at k;split at k
     .rename_i v1 r hv;split at k
      .rename_i q j;cases k;have n:f++d=f++d:=rfl;cases h1 with
       | s he g =>
         rename_i t u;have b:(match EH t u with|some v=>some (v,d)|none=>none)=some (v1,r):=hv;cases e:EH t u with
         | none=>rw[e]at b;cases b
         | some w =>
           rw[e]at b;cases b;unfold EH at e;rw[A9 g]at e;rw[eL he e,R5 l j]
       | a he g =>
         rename_i D cs;simp only[EG]at hv;split at hv
         .rename_i x C p;cases hv;obtain⟨a,A,y,o,z⟩:=EI p;have hlen:a.length=f.length:=by rw[o,<- g];simp
          obtain⟨rfl,rfl⟩:=List.append_inj A hlen.symm;rw[YW he y z,R5 l j]
         .cases hv
      .cases k
     .cases k
def M7(P:Program)(G:Nat->Option Obj)(f:FuncId)(ps:List Sh)(spec:bX)(rs:List Sh):Prop :=
 ∀ (us outs:List U) (w:World) (vs:List Value) (R:Nat->Option Obj),ShL R ps us vs->spec us=some (0,outs)->GOk G w->GOk R w ->
  (callFunc f ⟨vs⟩).run P w=.ok (.enter f ⟨vs⟩) w/\Calls P f ⟨vs⟩ w (fun e w'=>∃ r a,ShL a rs outs r/\e=.returned (tup r)/\kT w w'/\GOk a w'/\∀ k o,a k=some o->w.heap.size<=k∨∃ o',R k=some o')
def unA:List Sh->C9->Option C9
 | [],[]=>some []
 | .s _::ss,v::vs=>match unA ss vs with
   | some r=>some (v::r)
   | none=>none
 | .a ts::ss,.agg cs::vs=>bif Nat.beq cs.toList.length ts.length then match unA ss vs with
   | some r=>some (cs.toList++r)
   | none=>none else none
 | _,_=>none
def nX(P:Program)(ps:List Sh)(vs:List Value)(m:Mem):Option (C9×Mem) :=
 match unA ps vs with
 | some cs=>match xT (tdP P) (yT ps) cs m with
   | some (xs,[],m)=>some (xs,m)
   | some (xs,gs,m)=>match iI gs m with
     | some (_,m)=>some (xs,m)
     | none=>none
   | none=>none
 | none=>none
def OP(i t b:Nat):Value:=bif Nat.blt t 10 then hole i t else dat b i t
def SM:G5->Nat->Nat->C9
 | [],_,_=>[]
 | t::ts,i,b=>OP i t b::SM ts (i+1) b
def A36:Sh->Nat->Nat->Value
 | .s t,i,b=>OP i t b
 | .a ts,i,b=>.agg ⟨SM ts i b⟩
def uJ:List Sh->Nat->Nat->C9
 | [],_,_=>[]
 | h::hs,i,b=>A36 h i b::uJ hs (i+h.n) b
def QR(rs:List Sh)(nx:Nat)(m:Mem):Res :=
 bif kL rs then match eU m fun b m=>some (tup (uJ rs nx b),b,m)with
  | some (v,_,m)=>some (v,m)
  | none=>none
 else some (tup (uJ rs nx 0),m)
def A6z(m:Mem)(hi:Nat)(v:Value)(lg:Lg):Res :=
 match m with
 | ⟨H,n,W,_,_⟩=>some (v,⟨H,n,W,hi,lg⟩)
def A1z(P:Program)(ps:List Sh)(spec:bX)(rs:List Sh):FnC:=⟨fun vs m =>
 match nX P ps vs m with
 | some (xs,⟨H,n,W,hi,⟨nx,pi,log⟩⟩)=>I8 nx fun nx=>Q3 xs fun xs=>I8 (nx+shN rs) fun a=>bif kL rs then QR rs nx ⟨H,n,W,hi,⟨a,pi,.con spec xs nx 0 (shN rs)::log⟩⟩else A6z m hi (tup (uJ rs nx 0)) ⟨a,pi,.con spec xs nx 0 (shN rs)::log⟩
 | none=>none⟩
def PN{P:Program}{ps:List Sh}{spec:bX}{rs:List Sh}{vs:C9}{v:Value}(h:(A1z P ps spec rs).run vs m=some (v,m')) :
  ∃ xs m1,nX P ps vs m=some (xs,m1)/\((kL rs=true/\QR rs m1.lg.nx (m1.wLg ⟨m1.lg.nx+shN rs,m1.lg.pi,.con spec xs m1.lg.nx 0 (shN rs)::m1.lg.log⟩)=some (v,m'))∨(kL rs=false/\v=tup (uJ rs m1.lg.nx 0)/\m'=⟨m.H,m.n,m.W,m1.hi,⟨m1.lg.nx+shN rs,m1.lg.pi,.con spec xs m1.lg.nx 0 (shN rs)::m1.lg.log⟩⟩)):=by
 unfold A1z at h;simp only at h;split at h
 .rename_i xs H n W hi nx pi log hx;simp only[E1,H4]at h;refine⟨xs,_,hx,?_⟩;cases a:kL rs with
  | true=>rw[a]at h;exact .inl ⟨rfl,h⟩
  | false =>
    rw[a]at h;obtain⟨f,e,g,d,b⟩:=m;cases h;exact .inr ⟨rfl,rfl,rfl⟩
 .cases h
variable [Ora]
def JI{ρ:Ren}:∀ {b:List Sh} {vs vs' cs:C9},unA b vs=some cs->LR ρ vs vs'->∃ cs',unA b vs'=some cs'/\LR ρ cs cs'
 | [],[],vs',cs,h,hl=>by cases h;rw[hl.nil_inv];exact⟨[],rfl,.nil⟩
 | [],_::_,_,_,h,_=>by cases h
 | .s t::b,[],_,_,h,_=>by cases h
 | .a t::b,[],_,_,h,_=>by cases h
 | .s t::b,v::vs,vs',cs,h,hl=>by
   obtain⟨v',k,rfl,h1,e⟩:=hl.tail;unfold unA at h;split at h
   .rename_i r hr;cases h;obtain⟨cs',g,f⟩:=JI hr e;exact⟨v'::cs',by simp[unA,g],.cons h1 f⟩
   .cases h
 | .a ts::b,v::vs,vs',cs,h,hl=>by
   obtain⟨v',k,rfl,h1,e⟩:=hl.tail;cases v with
   | agg c =>
     unfold unA at h;obtain⟨hlen,h⟩:=A3 h;split at h
     .rename_i r hr;cases h;obtain⟨cs',g,f⟩:=JI hr e;obtain⟨i,rfl,j⟩:=U5 h1;refine⟨i++cs',?_,j.append f⟩;have d:Nat.beq i.length ts.length=true:=by rw[<- j.1];exact hlen
      simp[unA,g,d]
     .cases h
   | _=>cases h
def cH{R:Nat->Option Obj}:∀ {e:List Sh} {vs cs:C9} {us:List U},unA e vs=some cs->X7 R us cs->us.map F5=yT e->ShL R e us vs
 | [],[],cs,us,h,he,ht=>by
   cases h;have:us=[]:=F6.1 he.1;subst this;exact .nil
 | [],_::_,_,_,h,_,_=>by cases h
 | .s t::e,[],_,_,h,_,_=>by cases h
 | .a t::e,[],_,_,h,_,_=>by cases h
 | .s t::e,v::vs,cs,us,h,he,ht=>by
   unfold unA at h;split at h
   .rename_i r hr;cases h;obtain⟨a,b,rfl,d,f⟩:=X7.split (vs:=[v]) (vs2:=r) he
    match a,d with
    | [u],d =>
      simp only[List.singleton_append,C4,yT,Sh.tags,R4,G1,I5]at ht;exact .cons (.s (d.2 0 u v rfl rfl) ht.1) (cH hr f ht.2)
    | [],d=>have:=d.1;simp at this
    | _::_::_,d=>have:=d.1;simp at this
   .cases h
 | .a ts::e,v::vs,cs,us,h,he,ht=>by
   cases v with
   | agg c =>
     unfold unA at h;obtain⟨hlen,h⟩:=A3 h;have hlen:=A0 hlen;split at h
     .rename_i r hr;cases h;obtain⟨a,b,rfl,d,f⟩:=X7.split he;simp only[S9,yT,Sh.tags]at ht;obtain⟨t1,t2⟩:=List.append_inj ht (by simp[d.1,hlen]);obtain⟨l⟩:=c;exact .cons (.a d t1) (cH hr f t2)
     .cases h
   | _=>cases h
section
variable {P:Program} {base gl:Nat}
def A7f(ρ:Ren)(m:Mem)(R:Nat->Option Obj):Prop:=∀ k o,R k=some o->∃ id ab l,id<=G9/\Hp.get m.H id=some ab/\ρ id=some l/\Tf ab l k/\ab.rw=false
def EP{ρ:Ren}{w:World}{ps:List Sh}{vs xs:C9}(h:HR P base ρ m.H w)(a:nX P ps vs m=some (xs,m'))(j:J2 ρ m.n m'.hi)(hv:LR ρ vs vs')(A:Sat m'.lg) :
  ∃ d R,St P base ρ d m m' w w/\m.lg.le m'.lg/\ShL R ps (xs.map (D3 Ora.env)) vs'/\GOk R w/\A7f d m' R:=by
 unfold nX at a;split at a
 .rename_i cs t;obtain⟨cs',E,D⟩:=JI t hv;split at a
  .rename_i u m1 v;cases a;obtain⟨d,e,a2,a3,a4,a5,p⟩:=fZ U0 h v j D A;exact⟨d,fun _=>none,e,a2,cH E (p _ fun b x=>by cases x) a5,(fun k o i=>by cases i),(fun k o i=>by cases i)⟩
  .rename_i u gs m1 v;split at a
   .rename_i g m2 C;cases a;have y:=M2 C;obtain⟨K,e,a2,a3,a4,a5,p⟩:=fZ U0 h v (j.less y.1) D (by rw[<- y.2.1];exact A);obtain⟨ρ2,lg,q,L,N,s,z,J⟩:=dM e.hr C (j.step e);have f:=(q.hr.atl s z).1.2;exact⟨ρ2,lg.G,St.trans j e q,by rw[y.2.1];exact a2,cH E (p _ fun b x l I=>J b x l I) a5,f,fun k o i=>⟨g,_,lg,q.hr.dom _ _ s,z,s,⟨rfl,.inr ⟨rfl,o,i⟩⟩,rfl⟩⟩
   .cases a
  .cases a
 .cases a
def HK{ρ:Ren}{R:Nat->Option Obj}{i t b:Nat}{u:U}{v:Value}(h:Enc R u v)(j:F5 u=t)(he:Ora.env i=u)(k:10<=t->ρ b=some (iS R)):VR ρ (OP i t b) v:=by
 unfold OP;cases d:Nat.blt t 10 with
 | true =>
   have a:t<10:=A1 d;obtain⟨v1,g,_,_⟩:=MO (u:=u) A2
   have:=eL h g;subst this;exact .hole (by rw[he];exact g) (by rw[he];exact j)
 | false =>
   have a:10<=t:=by
    rcases F2 t 10 with f|e
    .rw[show Nat.blt t 10=true from C5 f]at d;cases d
    .exact e
   exact .dat (k a) (by rw[he];exact h) (by rw[he];exact j) a (kJ h)
def EF{ρ:Ren}{R:Nat->Option Obj}{b:Nat}:∀ {a:G5} {us:List U} {cs:C9} {i:Nat},X7 R us cs->us.map F5=a->(∀ j u,us[j]? = some u->Ora.env (i+j)=u)->(∀ t ∈ a,10<=t->ρ b=some (iS R))->LR ρ (SM a i b) cs
 | [],us,cs,i,h,ht,he,hb=>by
   have:us=[]:=by cases us with|nil=>rfl|cons _ _=>simp at ht
   subst this;have:cs=[]:=F6.1 h.1.symm;subst this;exact .nil
 | t::a,[],cs,i,h,ht,he,hb=>by simp at ht
 | t::a,u::us,[],i,h,ht,he,hb=>by have:=h.1;simp at this
 | t::a,u::us,c::cs,i,h,ht,he,hb=>by
   simp only[C4,I5]at ht;refine .cons (HK (h.2 0 u c rfl rfl) ht.1 (he 0 u rfl) (hb t (.head _))) (EF ⟨by have:=h.1;simpa using this,fun j x y e a2=>h.2 (j+1) x y (by simpa using e) (by simpa using a2)⟩ ht.2 (fun j x f=>?_) fun g d=>hb g (.tail _ d))
   have:=he (j+1) x (by simpa using f);rw[show i+1+j=i+(j+1) by omega];exact this
def nQ{ρ:Ren}{R:Nat->Option Obj}{b:Nat}:∀ {g:List Sh} {us:List U} {vs:C9} {i:Nat},ShL R g us vs->(∀ j u,us[j]? = some u->Ora.env (i+j)=u)->(kL g=true->ρ b=some (iS R))->LR ρ (uJ g i b) vs/\us.length=shN g
 | [],us,vs,i,h,he,hb=>by cases h;exact⟨.nil,rfl⟩
 | s::g,us,vs,i,h,he,hb=>by
   cases h with
   | cons h1 y =>
     rename_i e w v vs;have q:∀ t ∈ s.tags,10<=t->ρ b=some (iS R):=fun t d f=>hb (O7.2 ⟨t,B6.2 (.inl d),C5 f⟩)
     have o:kL g=true->ρ b=some (iS R):=fun x=>by
      obtain⟨t,d,f⟩:=O7.1 x;exact hb (O7.2 ⟨t,B6.2 (.inr d),f⟩)
     have p:e.length=s.n:=by
      cases h1 with
      | s _ _=>rfl
      | a _ d=>show _=List.length _;rw[<- d];simp[Sh.tags]
     obtain⟨g1,g2⟩:=nQ (i:=i+s.n) y (fun j u l=>by
      have:=he (e.length+j) u (by rw[D7 A2,U9];exact l);rw[<- p,aY];exact this) o
     refine⟨.cons ?_ g1,by simp[shN,p,g2]⟩;have k:∀ j u,e[j]? = some u->Ora.env (i+j)=u:=fun j u l=>he j u (by rw[E6 (B0.1 l).1];exact l)
     cases h1 with
     | s h d=>exact HK h d (by have:=k 0 _ rfl;simpa using this) (q _ (.head _))
     | a h d =>
       have:=EF (b:=b) h d k q;exact .agg this.1 this.2
def SP{ρ:Ren}{vs:C9}(h:LR ρ vs vs'):VR ρ (tup vs) (tup vs'):=by
 match vs,vs',h with
 | [],vs',h=>rw[h.nil_inv];exact .tuple (a:=[]) (a':=[]) rfl (fun i v v' h1 _=>by simp at h1)
 | [v],vs',h =>
   obtain⟨v',d,rfl,h1,b⟩:=h.tail;cases b.nil_inv;exact h1
 | v::u::r,vs',h =>
   obtain⟨v',d,rfl,h1,b⟩:=h.tail;obtain⟨f,e,rfl,h3,g⟩:=b.tail;exact .tuple h.1 h.2
def St.grown{ρ:Ren}{w w':World}(h:HR P base ρ m.H w)(g:kT w w'):St P base ρ ρ m m w w' :=
 ⟨fun _ _ h=>h,fun b l h1 a=>(by rw[h1]at a;cases a),A6 _,A6 _,fun h=>h,
  ⟨h.dom,fun id hid ab d=>by
    obtain⟨l,h1,a,h3⟩:=h.at_ id hid ab d;exact⟨l,h1,a.mono (fun _ _ h=>h) (fun k e=>g.keep k (a.tc e)),h3⟩⟩,
  fun _ h=>h,fun b h1 a=>absurd h1 a,fun k e _=>g.keep k e,g.size,g.os,fun b l h1 a=>(by rw[h1]at a;cases a),fun _ _ _ _=>rfl,fun _ h=>.inr h⟩
def St.grownLg{ρ:Ren}{w w':World}(h:HR P base ρ m.H w)(g:kT w w')(lg:Lg):St P base ρ ρ m (m.wLg lg) w w':=by
 obtain⟨H,n,W,hi,l⟩:=m;have r:=St.grown (m:=⟨H,n,W,hi,l⟩) h g;exact⟨r.ext,r.new,r.nle,r.hle,r.nhi,r.hr,r.wsub,r.wrw,r.keep,r.size,r.os,r.blk,r.same,r.tch⟩
def St.ret{ρ:Ren}{w w':World}{G:Nat->Option Obj}(h:HR P base ρ m.H w)(g:kT w w')(O:Y1 m .frz (fun _=>undef)=some (undef,m1))(U:J2 ρ m.n m1.hi)(Q:GOk G w')
  (L:∀ k o,G k=some o->w.heap.size<=k∨∃ id ab l,id<=G9/\Hp.get m.H id=some ab/\ρ id=some l/\Tf ab l k/\ab.rw=false):upd ρ m.n (iS G) m.n=some (iS G)/\St P base ρ (upd ρ m.n (iS G)) m m1 w w':=by
 obtain⟨hle,_,rfl⟩:=K6 O;have t:ρ m.n=none:=U m.n (A6 _) (J9 _ _).2;have i:=V4 (l:=iS G) t;refine⟨K8 _ _ _,i,fun b q h1 f=>?_,by simp,(J9 _ _).1,fun _=>X5 (J9 _ _).2,⟨fun b q z=>?_,fun id hid a d=>?_⟩,fun b T=>T,fun b h1 f=>absurd h1 f,fun q z _=>g.keep q z,g.size,g.os,fun b q h1 f j=>?_,fun id hid h1 f=>?_,fun q ⟨id,a,l,hid,d,s,N⟩=>?_⟩
 .obtain⟨rfl,rfl⟩:=T5 h1 f;exact⟨A6 _,I3 _⟩
 .cases h0:ρ b with
  | some S=>exact h.dom b S h0
  | none=>obtain⟨rfl,rfl⟩:=T5 z h0;exact hle
 .rw[E5 _ _ _ _ hle hid]at d;by_cases e:id=m.n
  .rw[A9 e]at d;have d:=A7 d;subst d;subst e;exact⟨iS G,K8 _ _ _,⟨rfl,Q⟩,fun _ j=>(by cases j)⟩
  .rw[A8 e]at d;obtain⟨l0,h1,f,h3⟩:=h.at_ id hid a d;refine⟨l0,i _ _ h1,f.mono i (fun k W=>g.keep k (f.tc W)),fun hr j=>⟨(h3 hr j).1,fun x p E l2 g1 g2 g3=>?_⟩⟩;rw[E5 _ _ _ _ hle p]at g1;by_cases K:x=m.n
   .subst K;rw[K8]at g2
    have:=A7 g2;subst this;rcases g3 with⟨_,g3,_⟩|⟨_,o,g3⟩
    .cases g3
    .rcases L _ o g3 with y|⟨v,a3,I,A,u,C,D,J⟩
     .have:=f.tc (.inl ⟨AB.rw_on hr,j,rfl⟩);omega
     .have:=(h3 hr j).2 v A a3 I u C D.2;subst this;rw[d]at u;have u:=A7 u;subst u;rw[hr]at J;cases J
   .rw[A8 K]at g1;unfold upd at g2;rw[A8 K]at g2;exact(h3 hr j).2 x p E l2 g1 g2 g3
 .obtain⟨rfl,rfl⟩:=T5 h1 f;cases j
 .rw[E5 _ _ _ _ hle hid,A8];intro e;subst e;rcases f with f|f
  .omega
  .have f:upN m.hi m.n<=m.n:=f
   have:=(J9 m.hi m.n).2;omega
 .have d:Hp.get (m.H.set m.n (some .frz)) id=some a:=d;rw[E5 _ _ _ _ hle hid]at d;by_cases e:id=m.n
  .subst e;rw[A9 rfl]at d;have d:=A7 d;subst d;rw[K8]at s;have s:=A7 s;subst s;rcases N.2 with⟨_,h3,_⟩|⟨_,o,h3⟩
   .cases h3
   .rcases L _ o h3 with y|⟨v,a3,I,A,u,C,D,J⟩
    .exact .inl y
    .exact .inr ⟨v,a3,I,A,u,C,D⟩
  .rw[A8 e]at d;unfold upd at s;rw[A8 e]at s;exact .inr ⟨id,a,l,hid,d,s,N⟩
def St.back{ρ:Ren}{w w':World}{hi:Nat}{lg:Lg}(h:HR P base ρ m.H w)(g:kT w w')(hh:m.hi<=hi):St P base ρ ρ m ⟨m.H,m.n,m.W,hi,lg⟩ w w':=by
 have r:=St.grownLg (m:=m) h g lg;refine⟨r.ext,fun b l h1 a=>(by rw[h1]at a;cases a),A6 _,hh,fun h=>B9 h hh,?_,fun _ h=>h,fun b h1 a=>absurd h1 a,fun k d _=>g.keep k d,g.size,g.os,fun b l h1 a=>(by rw[h1]at a;cases a),fun _ _ _ _=>rfl,fun _ h=>.inr h⟩
 have:=r.hr;rw[iY]at this;exact this
theorem A1y{f:FuncId}{ps:List Sh}{spec:bX}{rs:List Sh}(h:M7 P Ora.G f ps spec rs):kU P base gl f (A1z P ps spec rs):=by
 have q:∀ {nx:Nat} {m m':Mem} {v:Value},kL rs=true->QR rs nx m=some (v,m')->m'.lg=m.lg/\m.hi<=m'.hi/\m.n<=m'.n:=fun{nx m m' v} a hr=>by
  unfold QR at hr;rw[a]at hr;simp only[D8]at hr;split at hr
  .rename_i H;cases hr;obtain⟨m2,E,z,_⟩:=P6 H;cases z;obtain⟨_,_,rfl⟩:=K6 E;exact⟨rfl,(J9 _ _).1,Y3 _⟩
  .cases hr
 have g:∀ {vs xs:C9} {m m1:Mem},nX P ps vs m=some (xs,m1)->m.lg.le m1.lg/\m.hi<=m1.hi:=fun{vs xs m m1} h1=>by
  unfold nX at h1;split at h1
  .split at h1
   .rename_i a;cases h1;exact⟨(R1 U0 a).2.1,(R1 U0 a).1⟩
   .rename_i a;split at h1
    .rename_i N;cases h1;exact⟨by rw[(M2 N).2.1];exact(R1 U0 a).2.1,B9 (R1 U0 a).1 (M2 N).1⟩
    .cases h1
   .cases h1
  .cases h1
 refine⟨fun vs m m' v hr=>?_,fun ρ m m' w vs vs' v hr L i Z=>.inl ?_⟩
 .obtain⟨xs,m1,h1,⟨a,d⟩|⟨a,_,rfl⟩⟩:=PN hr
  .rw[(q a d).1,Z1];exact(g h1).1.trans ⟨[_],rfl⟩
  .exact(g h1).1.trans ⟨[_],rfl⟩
 .obtain⟨xs,m1,h1,d⟩:=PN hr;have I:m'.lg=⟨m1.lg.nx+shN rs,m1.lg.pi,.con spec xs m1.lg.nx 0 (shN rs)::m1.lg.log⟩/\m1.hi<=m'.hi:=by
   rcases d with⟨a,d⟩|⟨a,_,rfl⟩
   .obtain⟨r1,u,_⟩:=q a d;simp only[Z1,JF]at r1 u;exact⟨r1,u⟩
   .exact⟨rfl,A6 _⟩
  obtain⟨r1,u⟩:=I;have s:c8.con spec xs m1.lg.nx 0 (shN rs) ∈ m'.lg.log:=by rw[r1];exact B1
  have D:Sat m1.lg:=Q8.le L (by rw[r1];exact⟨[_],rfl⟩);obtain⟨t,R,A,a2,a3,a4,a5⟩:=EP i.hr h1 (i.fr.less u) Z D;obtain⟨outs,h3,h4,O⟩:=L _ s;obtain⟨Q,W⟩:=h _ outs w vs' R a3 h3 (fun k o J=>(i.gf k o J).2) a4;refine⟨Q,W.mono fun e w' ⟨r,T,g1,g2,g3,g4,g5⟩=>?_⟩;rcases d with⟨a,d⟩|⟨a,rfl,rfl⟩
  .let j:Lg:=⟨m1.lg.nx+shN rs,m1.lg.pi,.con spec xs m1.lg.nx 0 (shN rs)::m1.lg.log⟩
   have d:QR rs m1.lg.nx (m1.wLg j)=some (v,m'):=d;have p:St P base ρ t m (m1.wLg j) w w:=St.trans (i.fr.less (by simpa using u)) A (St.wLg A.hr j);have x:J2 t (m1.wLg j).n m'.hi:=by simpa using i.fr.step A
   unfold QR at d;rw[a]at d;simp only[D8]at d;split at d
   .rename_i v0 b m2 H;cases d;obtain⟨m3,E,z,_⟩:=P6 H;cases z;obtain⟨e1,e2⟩:=St.ret (G:=T) p.hr g3 E x g4 fun k o J=>by
     rcases g5 k o J with C|⟨o',y⟩
     .exact .inl C
     .obtain⟨id,ab,l,p1,Y,S,p4,U⟩:=a5 k o' y;exact .inr ⟨id,ab,l,p1,by rw[iY];exact Y,S,p4,U⟩
    exact⟨_,_,g2,SP (nQ g1 O fun _=>e1).1,St.trans i.fr p e2⟩
   .cases d
  .exact⟨_,ρ,g2,SP (nQ g1 O fun K=>by rw[a]at K;cases K).1,St.back i.hr g3 (g h1).2⟩
end
end
end Go.Sx
