import Derived.Test.YtbbicpheoakeeaaGreatDoorX6
import Derived.Lib.Bytealg
import Derived.Lib.MakeNoZero
set_option linter.all false
set_option maxRecDepth 100000
set_option maxHeartbeats 4000000
namespace Go.Sx
variable {m m' m1 m2:Mem}{c:Cls}{r:Option (Nat×AB)}{rs:List Rec}{op:OpC}{fn:Func}{vs' vs2:C9}
section
open Go
variable [Ora]
def A0j(ops:Array Oper)(X:Nat->Qs)(i:Nat)(o:Oper):Bool:=FA o.op i ((X6 ops.toList []).getD i []) ((X6 ops.toList []).drop (i+1)) (ops.toList.drop (i+1)) (X i)
structure Rg (P:Program) (base gl nt:Nat) (call:O0) (ops:Array Oper) (F:Nat->Fr) (M:Nat->Mem) (V:Nat->Value) (R:Nat->List Rec) (X:Nat->Qs) (B:Nat->Bool):Prop where
 st:∀ i o,ops[i]? = some o->DU P nt gl call ops.toList ((X6 ops.toList []).getD i []) (R i) (B i) o (F i) (F (i+1)) (M i) (M (i+1)) (V i)
 rc:∀ i o,ops[i]? = some o->(R (i+1)=R i/\∃ lg,M (i+1)=(M i).wLg lg)∨(B i=true/\R (i+1)=[])∨R (i+1)=⟨i,(M i).n,(M (i+1)).n⟩::R i
 qs:∀ i o,ops[i]? = some o->QsN (B i) i nt ops.toList (V1 P call o) ((X6 ops.toList []).getD i []) (R i) (F i) o (M i) (M (i+1)) (V i) (X i) (X (i+1))
 sb:∀ i o,ops[i]? = some o->B i=true->A0j ops X i o=true
 x0:X 0=[]
 ok:GE ops.toList (X6 ops.toList []) ops.toList 0=true
structure Ph (ops:Array Oper) (B:Nat->Bool) (M:Nat->Mem) (lo up:Nat):Prop where
 le:lo<=up
 sz:up<=ops.size
 nh:(M lo).n<=(M lo).hi
 mx:∀ i o,lo<=i->i<up->ops[i]? = some o->B i=false
section
variable {P:Program} {base gl nt:Nat} {call:O0} {ops:Array Oper} {F:Nat->Fr} {M:Nat->Mem} {V:Nat->Value} {R:Nat->List Rec} {X:Nat->Qs} {B:Nat->Bool} {lo up:Nat}
def O6{i:Nat}(h:i<ops.size):∃ o,ops[i]? = some o:=⟨ops[i],by simp[h]⟩
def Rg.one(g:Rg P base gl nt call ops F M V R X B){i:Nat}{o:Oper}(l:ops[i]? = some o)(b:B i=false)(a:(M i).n<=(M i).hi):(M i).n<=(M (i+1)).n/\(M i).hi<=(M (i+1)).hi/\(M (i+1)).n<=(M (i+1)).hi/\(M (i+1)).W=(M i).W /\
  ∀ id,id<=G9->(id<(M i).n∨(M (i+1)).n<=id)->Hp.get (M (i+1)).H id=Hp.get (M i).H id:=by
 obtain⟨_,_,_,h⟩:=g.st i o l;rcases h with⟨_,lg,_,_,h⟩|⟨_,lg,j,_,_,h⟩|⟨h,_⟩|⟨_,_,lg,_,mv,m',_,_,_,d,hm⟩
 .rw[h];exact⟨A6 _,A6 _,a,rfl,fun _ _ _=>rfl⟩
 .rw[h];exact⟨A6 _,A6 _,a,rfl,fun _ _ _=>rfl⟩
 .rw[b]at h;cases h
 .obtain⟨h1,e,h3,k,_,_,_,f⟩:=GK hm a d;exact⟨h1,e,h3,k,fun id hid hh=>by rw[f id hid,A8 (by show ¬ ((M i).n<=id/\_);omega)];rfl⟩
def Rg.allD(g:Rg P base gl nt call ops F M V R X B)(a:Ph ops B M lo up):∀ d,lo+d<=up->(M lo).n<=(M (lo+d)).n/\(M lo).hi<=(M (lo+d)).hi/\(M (lo+d)).n<=(M (lo+d)).hi/\(M (lo+d)).W=(M lo).W /\
  ∀ id,id<=G9->(id<(M lo).n∨(M (lo+d)).n<=id)->Hp.get (M (lo+d)).H id=Hp.get (M lo).H id
 | 0,_=>⟨A6 _,A6 _,a.nh,rfl,fun _ _ _=>rfl⟩
 | d+1,h=>by
   obtain⟨h1,e,h3,p,f⟩:=g.allD a d A2;obtain⟨o,b⟩:=O6 (ops:=ops) (i:=lo+d) (by have:=a.sz;omega);obtain⟨s,j,k,l,q⟩:=g.one b (a.mx _ o A2 A2 b) h3;exact⟨B9 h1 s,B9 e j,k,l.trans p,fun id hid hh=>by
    rw[show lo+(d+1)=lo+d+1 by omega]at hh ⊢;rw[q id hid A2,f id hid A2]⟩
def Rg.all(g:Rg P base gl nt call ops F M V R X B)(a:Ph ops B M lo up){i:Nat}(h0:lo<=i)(h:i<=up):(M lo).n<=(M i).n/\(M lo).hi<=(M i).hi/\(M i).n<=(M i).hi/\(M i).W=(M lo).W /\
  ∀ id,id<=G9->(id<(M lo).n∨(M i).n<=id)->Hp.get (M i).H id=Hp.get (M lo).H id:=by
 have:=g.allD a (i-lo) A2
 rwa[show lo+(i-lo)=i by omega]at this
def Rg.mono(g:Rg P base gl nt call ops F M V R X B)(a:Ph ops B M lo up){i:Nat}(h0:lo<=i):∀ d,i+d<=up->(M i).n<=(M (i+d)).n/\(M i).hi<=(M (i+d)).hi/\∀ id,id<=G9->id<(M i).n->Hp.get (M (i+d)).H id=Hp.get (M i).H id
 | 0,_=>⟨A6 _,A6 _,fun _ _ _=>rfl⟩
 | d+1,h=>by
   obtain⟨h1,e,f⟩:=g.mono a h0 d A2;obtain⟨o,b⟩:=O6 (ops:=ops) (i:=i+d) (by have:=a.sz;omega);obtain⟨l,j,p,q,k⟩:=g.one b (a.mx _ o A2 A2 b) (g.all a (i:=i+d) A2 A2).2.2.1;exact⟨B9 h1 l,B9 e j,fun id hid hh=>by rw[show i+(d+1)=i+d+1 by omega,k id hid A2,f id hid hh]⟩
def Rg.le(g:Rg P base gl nt call ops F M V R X B)(a:Ph ops B M lo up){i j:Nat}(h0:lo<=i)(h:i<=j)(b:j<=up):(M i).n<=(M j).n/\(M i).hi<=(M j).hi/\∀ id,id<=G9->id<(M i).n->Hp.get (M j).H id=Hp.get (M i).H id:=by
 have:=g.mono a h0 (j-i) A2
 rwa[show i+(j-i)=j by omega]at this
def MK{mv:Mem}{us:List Rec}(h:yR m c us=some mv):mv.lg=m.lg:=by
 obtain⟨H,n,W,hi,lg⟩:=m;unfold yR at h;simp only at h;cases c with
 | free=>cases h;rfl
 | one b =>
   simp only at h;cases a:m9 (Y2 us) b || !(Nat.ble b G9)with
   | true=>rw[a]at h;cases h
   | false=>rw[a,dF]at h;cases h;rfl
 | all =>
   simp only at h;obtain⟨d,h⟩:=A3 h;cases h;rfl
def GL(h:jR m m'=some m2):m2.lg=m'.lg:=by
 unfold jR at h;cases a:Nat.ble m'.hi m.n with
 | true=>rw[a]at h;cases h;rfl
 | false =>
   rw[a]at h;obtain⟨_,h⟩:=A3 h;simp only[E1,cU]at h;cases h;rfl
def lF{a b:Addr}(h:BS a b=true):a=b:=by
 unfold BS at h;split at h
 .obtain⟨h1,d⟩:=B3 h;rw[A0 h1,A0 d]
 .cases h
def QO{a b:Fn}(h:KB a b=true):a=b:=by
 unfold KB at h;split at h
 .rw[A0 h]
 .rw[A0 h]
 .cases h
def oC{s:Value->Value->Bool}(d:∀ a b,s a b=true->a=b):∀ {l r:C9},yZ s l r=true->l=r
 | [],[],_=>rfl
 | [],_::_,h=>by cases h
 | _::_,[],h=>by cases h
 | a::l,b::r,h=>by
   obtain⟨h1,e⟩:=B3 (show(s a b && yZ s l r)=true from h);rw[d a b h1,oC d e]
def A63{a b:U8}(h:a.toList=b.toList):a=b:=by cases a;cases b;cases h;rfl
def TQ:∀ (d:Nat) (v w:Value),vA d v w=true->v=w:=by
 intro d;induction d with
 | zero =>
   intro v w h;unfold vA at h;split at h
   .rw[eq_of_beq h]
   .obtain⟨h1,e⟩:=B3 h;rw[eK]at e;rw[fH h1,eq_of_beq e]
   .obtain⟨h1,e⟩:=B3 h;rw[A0 h1,A0 e]
   .obtain⟨h1,e⟩:=B3 h;rw[A0 h1,A0 e]
   .rename_i s t;have h1:=K3 h;cases s with|mk s=>cases t with|mk t=>cases s;cases t;cases h1;rfl
   .rfl
   .rw[lF h]
   .obtain⟨h1,e⟩:=B3 h;rw[A0 h1,A0 e]
   .obtain⟨h0,h⟩:=B3 h;obtain⟨h1,e⟩:=B3 h;rw[lF h0,A0 h1,A0 e]
   .rfl
   .rw[A0 h]
   .rfl
   .rfl
   all_goals first|cases h|(rename_i hh;cases hh)
 | succ d i =>
   intro v w h;unfold vA at h;split at h
   .rw[eq_of_beq h]
   .obtain⟨h1,e⟩:=B3 h;rw[eK]at e;rw[fH h1,eq_of_beq e]
   .obtain⟨h1,e⟩:=B3 h;rw[A0 h1,A0 e]
   .obtain⟨h1,e⟩:=B3 h;rw[A0 h1,A0 e]
   .rename_i s t;have h1:=K3 h;cases s with|mk s=>cases t with|mk t=>cases s;cases t;cases h1;rfl
   .rfl
   .rw[lF h]
   .obtain⟨h1,e⟩:=B3 h;rw[A0 h1,A0 e]
   .obtain⟨h0,h⟩:=B3 h;obtain⟨h1,e⟩:=B3 h;rw[lF h0,A0 h1,A0 e]
   .rfl
   .rw[A0 h]
   .rfl
   .rfl
   .rename_i j f a b g a' b' he;cases he;obtain⟨h0,h⟩:=B3 h;obtain⟨h1,e⟩:=B3 h;rw[QO h0,A63 (oC i h1),A63 (oC i e)]
   .rename_i j t v u w he;cases he;obtain⟨h1,e⟩:=B3 h;rw[A0 h1,i _ _ e]
   .cases h
def TU{a b:AB}(h:TV a b=true):a=b:=by
 unfold TV at h;split at h
 .rfl
 .obtain⟨h0,h⟩:=B3 h;obtain⟨h1,d⟩:=B3 h;rw[oC (TQ 6) h0,A0 h1,eq_of_beq d]
 .cases h
def wG{H:Hp AB}{b:Nat}{ab:AB}(h:wH H b ab=true):Hp.get H b=some ab/\b<=G9:=by
 unfold wH at h;split at h
 .rename_i x d;obtain⟨h1,a⟩:=B3 h;exact⟨by rw[d,TU a],A1 h1⟩
 .cases h
def qK{mv:Mem}{us:List Rec}(h:BZ m r us=some mv):mv.n=qD/\mv.hi=qD/\mv.W=[]/\mv.lg=m.lg/\(∀ id,id<=G9->∀ ab,Hp.get mv.H id=some ab->r=some (id,ab))/\∀ b ab,r=some (b,ab)->wH m.H b ab=true/\b ∉ Y2 us:=by
 obtain⟨H,n,W,hi,lg⟩:=m;unfold BZ at h;simp only at h;cases r with
 | none =>
   cases h;exact⟨rfl,rfl,rfl,rfl,fun id _ ab a=>(by rw[pI]at a;cases a),fun b ab i=>by cases i⟩
 | some p =>
   obtain⟨b,f⟩:=p;simp only at h;cases d:m9 (Y2 us) b || !(wH H b f)with
   | true=>rw[d]at h;cases h
   | false =>
     rw[d,dF]at h;cases h;simp only[Y4,Bool.not_eq_false']at d;have i:=(wG d.2).2;refine⟨rfl,rfl,rfl,rfl,fun id hid ab a=>?_,fun b' ab' g=>?_⟩
     .have a:Hp.get (Hp.set hp0 b (some f)) id=some ab:=a;rw[E5 _ _ _ _ i hid]at a;by_cases e:id=b
      .subst e;rw[A9 rfl]at a;cases a;rfl
      .rw[A8 e,pI]at a;cases a
     .cases g;exact⟨d.2,fun hm=>by rw[U7.2 hm]at d;exact absurd d.1 (by simp)⟩
def jJ{fr:Fr}{o:Oper}{b:G5}{v:Value}{lg:Lg}(h:jK fr m o b rs op=some (v,lg)):∃ mv m',BZ m (HM m.H fr o.op) (zO b rs)=some mv/\op.run fr mv=some (v,m')/\m'.W=[]/\m'.hi=qD/\m'.lg=lg:=by
 unfold jK at h;split at h
 .rename_i mv hv;split at h
  .rename_i v' H n hi d hr;obtain⟨h1,a⟩:=A3 h;cases a;exact⟨mv,_,hv,hr,rfl,A0 h1,rfl⟩
  .cases h
 .cases h
def yU{all:List Oper}{b:G5}{i:Bool}{o:Oper}{fr d:Fr}{v:Value}(a:U3 P base gl call)(h:DU P nt gl call all b rs i o fr d m m2 v):m.lg.le m2.lg:=by
 obtain⟨_,_,_,h⟩:=h;rcases h with⟨_,lg,hw,_,h⟩|⟨_,lg,f,hw,e,h⟩|⟨_,lg,hw,hr,_⟩|⟨_,_,lg,hw,mv,m',hv,hr,_,j,hm⟩
 .rw[h];exact fA hw
 .obtain⟨mv,m',hv,hr,_,_,g⟩:=jJ e;have h1:=o7 a hr;rw[(qK hv).2.2.2.1,g]at h1;rw[h];exact(fA hw).trans h1
 .have h1:=o7 a hr;rw[Z1]at h1;exact(fA hw).trans h1
 .rw[GL hm];have h1:=o7 a hr;rw[MK hv]at h1;exact(fA hw).trans h1
def Rg.lgs(g:Rg P base gl nt call ops F M V R X B)(a:U3 P base gl call){i:Nat}:∀ d,i+d<=ops.size->(M i).lg.le (M (i+d)).lg
 | 0,_=>.refl _
 | d+1,h=>by
   obtain⟨o,b⟩:=O6 (ops:=ops) (i:=i+d) A2;exact(g.lgs a d A2).trans (yU a (g.st (i+d) o b))
def Rg.who(g:Rg P base gl nt call ops F M V R X B)(f:Ph ops B M lo up):∀ d,lo+d<=up->∀ b,(M lo).n<=b->b<(M (lo+d)).n->∃ k,lo<=k/\k<lo+d/\(M k).n<=b/\b<(M (k+1)).n
 | 0,_,b,h1,a=>by have a:b<(M lo).n:=a;omega
 | d+1,h,b,h1,a=>by
   rcases F2 b (M (lo+d)).n with h3|h3
   .obtain⟨k,e,j,i⟩:=g.who f d A2 b h1 h3;exact⟨k,e,A2,i⟩
   .exact⟨lo+d,A2,A2,h3,a⟩
def vP:∀ {rs:List Rec} {b:Nat},b ∈ Y2 rs↔∃ r ∈ rs,r.lo<=b/\b<r.hi
 | [],b=>by simp[Y2]
 | r::rs,b=>by
   simp only[Y2,B6,jS,vP (rs:=rs),B4];constructor
   .rintro(h|⟨d,h1,a⟩)
    .exact⟨r,.inl rfl,A2⟩
    .exact⟨d,.inr h1,a⟩
   .rintro⟨d,rfl|h1,a⟩
    .exact .inl A2
    .exact .inr ⟨d,h1,a⟩
def Rg.recs(g:Rg P base gl nt call ops F M V R X B)(j:Ph ops B M lo up):∀ d,lo+d<=up->∀ k,lo<=k->k<lo+d->∀ b,(M k).n<=b->b<(M (k+1)).n->⟨k,(M k).n,(M (k+1)).n⟩ ∈ R (lo+d)
 | 0,_,k,_,h,_,_,_=>by omega
 | d+1,hi,k,hk,h,b,h1,f=>by
   obtain⟨o,l⟩:=O6 (ops:=ops) (i:=lo+d) (by have:=j.sz;omega);have a:=j.mx _ o A2 A2 l;show _ ∈ R (lo+d+1);by_cases e:k=lo+d
   .subst e;rcases g.rc (lo+d) o l with⟨_,lg,h3⟩|⟨h3,_⟩|h3
    .rw[h3]at f;have f:b<(M (lo+d)).n:=f;omega
    .rw[a]at h3;cases h3
    .rw[h3];exact B1
   .have:=g.recs j d A2 k hk A2 b h1 f;rcases g.rc (lo+d) o l with⟨h3,_⟩|⟨h3,_⟩|h3
    .rw[h3];exact this
    .rw[a]at h3;cases h3
    .rw[h3];exact C3 _ this
def A0Z{mv:Mem}{us:List Rec}(h:yR m c us=some mv):mv.n=m.n/\mv.hi=m.hi/\mv.W=[]/\mv.lg=m.lg/\∀ id,id<=G9->∀ ab,Hp.get mv.H id=some ab->Hp.get m.H id=some ab/\id ∉ Y2 us:=by
 obtain⟨H,n,W,hi,lg⟩:=m;unfold yR at h;simp only at h;cases c with
 | free =>
   cases h;exact⟨rfl,rfl,rfl,rfl,fun id _ ab a=>by rw[pI]at a;cases a⟩
 | one b =>
   simp only at h;cases d:m9 (Y2 us) b || !(Nat.ble b G9)with
   | true=>rw[d]at h;cases h
   | false =>
     rw[d,dF]at h;cases h;simp only[Y4,Bool.not_eq_false']at d;have f:=A1 d.2;refine⟨rfl,rfl,rfl,rfl,fun id hid ab a=>?_⟩;have a:Hp.get (Hp.set hp0 b (Hp.get H b)) id=some ab:=a;rw[E5 _ _ _ _ f hid]at a;by_cases e:id=b
     .subst e;rw[A9 rfl]at a;exact⟨a,fun hm=>by rw[U7.2 hm]at d;exact absurd d.1 (by simp)⟩
     .rw[A8 e,pI]at a;cases a
 | all =>
   simp only at h;obtain⟨f,h⟩:=A3 h;cases h;refine⟨rfl,rfl,rfl,rfl,fun id hid ab a=>?_⟩;have a:Hp.get (AC H (Y2 us)) id=some ab:=a;rw[AA _ _ (rQ f) id hid]at a;by_cases e:id ∈ Y2 us
   .rw[A9 e]at a;cases a
   .rw[A8 e]at a;exact⟨a,e⟩
def eT(M:Nat->Mem)(D:Nat->Bool)(b:Nat):Nat->Bool
 | 0=>false
 | n+1=>(D n && Nat.ble (M n).n b && Nat.blt b (M (n+1)).n) || eT M D b n
def T4{D:Nat->Bool}{b:Nat}:∀ n,eT M D b n=true↔∃ k,k<n/\D k=true/\(M k).n<=b/\b<(M (k+1)).n
 | 0=>by simp[eT]
 | n+1=>by
   simp only[eT,I1,G4,T4 n];constructor
   .rintro(⟨⟨h1,a⟩,h3⟩|⟨k,h1,a⟩)
    .exact⟨n,A2,h1,A1 a,A1 h3⟩
    .exact⟨k,A2,a⟩
   .rintro⟨k,h1,a,h3,d⟩
    by_cases e:k=n
    .subst e;exact .inl ⟨⟨a,C5 h3⟩,C5 d⟩
    .exact .inr ⟨k,A2,a,h3,d⟩
def Dr(lo:Nat)(D:Nat->Bool)(k:Nat):Bool:=Nat.ble lo k && D k
def W9{lo:Nat}{D:Nat->Bool}{k:Nat}:Dr lo D k=true↔lo<=k/\D k=true:=by
 unfold Dr;rw[G4];exact⟨fun h=>⟨A1 h.1,h.2⟩,fun h=>⟨C5 h.1,h.2⟩⟩
def GD(M:Nat->Mem)(lo N:Nat)(D:Nat->Bool)(b:Nat):Option AB:=bif eT M (Dr lo D) b N then Hp.get (M N).H b else Hp.get (M lo).H b
structure Inv (z:Zn) (P:Program) (base gl nt:Nat) (ops:Array Oper) (F:Nat->Fr) (M:Nat->Mem) (V:Nat->Value) (lo up:Nat) (ρ0:Ren) (w0:World) (D:Nat->Bool) (ρ:Ren) (a:Act) (w:World):Prop where
 ext:∀ b l,ρ0 b=some l->ρ b=some l
 new:∀ b l,ρ b=some l->ρ0 b=none->eT M (Dr lo D) b up=true/\(l.on=true->w0.heap.size<=l.blk)
 hr:HRf P base ρ (GD M lo up D) w
 keep:∀ k,k<w0.heap.size->w.heap[k]? = w0.heap[k]?
 size:w0.heap.size<=w.heap.size
 os:w.os=w0.os/\w.tape=w0.tape/\w.output=w0.output
 tch:∀ k,Ff ρ (GD M lo up D) k->w0.heap.size<=k∨Fp ρ0 (M lo).H k
 tsz:a.tmps.size=nt
 dfr:ZR z ρ nt (F 0) a.defers
 frm:∀ t,t<nt->VR ρ (s8 D (fun k=>(ops[k]?).bind (·.dst)) V (F 0).get t ops.size) (a.tmps.getD t undef)
def R8{i:Nat}{o:Oper}(h:ops[i]? = some o):ops.toList[i]? = some o:=by simpa using h
def fL{ops:List Oper}{a:List G5}:∀ (r:List Oper) (i:Nat),GE ops a r i=true->∀ j o,r[j]? = some o->lW (i+j) o.after.toList=true/\qJ a (i+j) (U4 ops o) ops 0=true
 | [],i,h,j,o,hj=>by simp at hj
 | x::r,i,h,j,o,hj=>by
   obtain⟨h1,b⟩:=B3 (show(lW i x.after.toList && (qJ a i (U4 ops x) ops 0 && GE ops a r (i+1)))=true from h);obtain⟨b,h3⟩:=B3 b;cases j with
   | zero=>simp at hj;subst hj;exact⟨h1,b⟩
   | succ j =>
     have:=fL r (i+1) h3 j o (by simpa using hj)
     rwa[show i+1+j=i+(j+1) by omega]at this
def dS:∀ {es:List Edge} {i:Nat},lW i es=true->∀ e ∈ es,Region.binds .any e=true->e.on<i
 | [],i,h,e,he,_=>by cases he
 | x::r,i,h,e,he,hb=>by
   obtain⟨h1,a⟩:=B3 (show((!(Region.binds .any x) || Nat.blt x.on i) && lW i r)=true from h);rcases B4.1 he with rfl|he
   .rw[hb]at h1;have h1:Nat.blt e.on i=true:=by simpa only [P1,P2]using h1
    exact A1 h1
   .exact dS a e he hb
def yW{d:List G5}{i:Nat}{b:List Tmp}:∀ (r:List Oper) (a:Nat),qJ d i b r a=true->∀ j p t,r[j]? = some p->a+j≠i->p.dst=some t->t ∈ b->A06 d i (a+j)=true
 | [],a,h,j,p,t,hj,_,_,_=>by simp at hj
 | x::r,a,h,j,p,t,hj,hne,hd,ht=>by
   obtain⟨h1,e⟩:=B3 (show((Nat.beq a i || (match x.dst with|none=>true|some t=>!(m9 b t) || A06 d i a)) && qJ d i b r (a+1))=true from h);cases j with
   | zero =>
     simp at hj;subst hj;have g:Nat.beq a i=false:=by
      cases f:Nat.beq a i with
      | false=>rfl
      | true=>exact absurd (A0 f) hne
     rw[g,hd,P2]at h1;simp only[U7.2 ht,P1,P2]at h1;exact h1
   | succ j =>
     have:=yW r (a+1) e j p t (by simpa using hj) A2 hd ht
     rwa[show a+1+j=a+(j+1) by omega]at this
def Rg.slot(g:Rg P base gl nt call ops F M V R X B){D:Nat->Bool}(l:kV ops.toList fun k=>D k=true)(v:∀ k,D k=true->k<ops.size){i:Nat}{o:Oper}(f:ops[i]? = some o)(hi:D i=false)
  (hr:∀ e ∈ o.after.toList,Region.binds .any e=true->D e.on=true) {t:Tmp} (u:t ∈ U4 ops.toList o):∀ k p,ops[k]? = some p->k≠i->p.dst=some t->(D k=true↔k<i):=fun k p hp j w=>by
 have s:∀ (i:Nat) (o:Oper),ops.toList[i]? = some o->∀ e ∈ o.after.toList,Region.binds .any e=true->e.on<i:=fun i o f=>by
  have:=(fL _ 0 g.ok i o f).1;rw[E8]at this;exact dS this
 have h1:=(fL _ 0 g.ok i o (R8 f)).2;have a:=yW _ 0 h1 k p t (R8 hp) A2 w u;rw[E8,E8]at a;unfold A06 at a;rcases Nat.lt_trichotomy k i with d|heq|q
 .have b:Nat.blt i k=false:=by
   cases b:Nat.blt i k with
   | false=>rfl
   | true=>have:i<k:=A1 b;omega
  rw[b]at a;have hm:=U7.1 (by simpa using a);exact⟨fun _=>d,fun _=>xN l s (i+1) i k o (I3 i) (R8 f) hr hm⟩
 .exact absurd heq j
 .have b:Nat.blt i k=true:=C5 q;rw[b]at a;have hm:=U7.1 (by simpa using a);refine⟨fun x=>?_,fun h=>by omega⟩
  have:=xN l s (k+1) k i p (I3 k) (R8 hp) (fun e he n=>l k p (R8 hp) x e he n) hm;rw[hi]at this;cases this
def Rg.frame(g:Rg P base gl nt call ops F M V R X B)(a:nt<=512){t:Tmp}(f:t<nt):∀ i,i<=ops.size->(F i).get t=s8 (fun k=>Nat.blt k i) (fun k=>(ops[k]?).bind (·.dst)) V (F 0).get t i
 | 0,_=>rfl
 | i+1,h=>by
   obtain⟨o,j⟩:=O6 (ops:=ops) (i:=i) A2;obtain⟨h1,_,h3,_⟩:=g.st i o j;have l:=g.frame a f i A2;have n:s8 (fun k=>Nat.blt k (i+1)) (fun k=>(ops[k]?).bind (·.dst)) V (F 0).get t i=s8 (fun k=>Nat.blt k i) (fun k=>(ops[k]?).bind (·.dst)) V (F 0).get t i:=dP i fun k q _=>by
    rw[show Nat.blt k (i+1)=true from C5 A2,show Nat.blt k i=true from C5 q]
   have s:Nat.blt i (i+1)=true:=C5 (A6 _);rw[h3];unfold s8;rw[n,<- l];simp only[s,j,J0,true_and];cases p:o.dst with
   | none=>simp[tJ]
   | some d =>
     rw[p]at h1;have b:d<nt:=A1 h1;simp only[tJ,D0];rw[K9 _ _ _ _ (D1 b a) (D1 f a)];by_cases e:t=d
     .subst e;simp
     .rw[A8 e,A8 (fun h=>e h.symm)]
def Rg.look(g:Rg P base gl nt call ops F M V R X B)(f:nt<=512){D:Nat->Bool}(v:kV ops.toList fun k=>D k=true)(b:∀ k,D k=true->k<ops.size){i:Nat}{o:Oper}(l:ops[i]? = some o)(hi:D i=false)
  (hr:∀ e ∈ o.after.toList,Region.binds .any e=true->D e.on=true) {t:Tmp} (n:t ∈ U4 ops.toList o) (a:t<nt):s8 D (fun k=>(ops[k]?).bind (·.dst)) V (F 0).get t ops.size=(F i).get t:=by
 have s:i<ops.size:=(C6.1 l).1;rw[g.frame f a i A2];have w:=g.slot v b l hi hr n;have x:s8 D (fun k=>(ops[k]?).bind (·.dst)) V (F 0).get t ops.size=s8 (fun k=>Nat.blt k i) (fun k=>(ops[k]?).bind (·.dst)) V (F 0).get t ops.size:=dP _ fun k y j=>by
  obtain⟨p,hp⟩:=O6 (ops:=ops) y;rw[hp]at j;by_cases e:k=i
  .subst e;rw[hi];symm;cases q:Nat.blt k k with
   | false=>rfl
   | true=>have:k<k:=A1 q;omega
  .have:=w k p hp e j;rw[J1,this];exact⟨fun h=>C5 h,fun h=>A1 h⟩
 rw[x];have z:∀ d,i+d<=ops.size->s8 (fun k=>Nat.blt k i) (fun k=>(ops[k]?).bind (·.dst)) V (F 0).get t (i+d)=s8 (fun k=>Nat.blt k i) (fun k=>(ops[k]?).bind (·.dst)) V (F 0).get t i:=by
  intro d;induction d with
  | zero=>intro _;rfl
  | succ d u =>
    intro j;rw[show i+(d+1)=(i+d)+1 by omega];rw[s8,A8 (fun hh=>by have:i+d<i:=A1 hh.1;omega)];exact u A2
 have:=z (ops.size-i) A2
 rwa[show i+(ops.size-i)=ops.size by omega]at this
def uK{o:Oper}{x:Operand}{t:Tmp}(hx:x ∈ o.op.operands.toList)(a:x=.tmp t):t ∈ U4 ops.toList o:=by
 unfold U4;refine B6.2 (.inr (B6.2 (.inl (List.mem_flatMap.2 ⟨x,hx,?_⟩))));subst a;simp[nT]
def Rg.see{z:Zn}(g:Rg P base gl nt call ops F M V R X B)(b:Ph ops B M lo up){h ρ:Ren}{w0 w:World}{D:Nat->Bool}{a:Act}{i:Nat}{o:Oper}
  (q:At P base gl h (M lo) (M up).hi w0) (J:kV ops.toList fun k=>D k=true) (p:lo<=i) (A:i<up) (y:ops[i]? = some o)
  (hr:∀ e ∈ o.after.toList,Region.binds .any e=true->D e.on=true):∀ id,id<=G9->∀ ab,Hp.get (M i).H id=some ab->id ∉ Y2 (zO ((X6 ops.toList []).getD i []) (R i))->GD M lo up D id=some ab:=fun id hid ab h1 G=>by
 unfold GD;by_cases d:(M lo).n<=id/\id<(M i).n
 .obtain⟨k,u,O,s,t⟩:∃ k,lo<=k/\k<i/\(M k).n<=id/\id<(M (k+1)).n:=by
   have:=g.who b (i-lo) A2 id d.1 (by rw[show lo+(i-lo)=i by omega];exact d.2)
   rwa[show lo+(i-lo)=i by omega]at this
  have x:D k=true:=by
   have f:(⟨k,(M k).n,(M (k+1)).n⟩:Rec) ∈ R i:=by
    have:=g.recs b (i-lo) A2 k u A2 id s t
    rwa[show lo+(i-lo)=i by omega]at this
   by_cases E:k ∈ (X6 ops.toList []).getD i []
   .exact xN J (fun i o y=>by
     have:=(fL _ 0 g.ok i o y).1;rw[E8]at this;exact dS this) (i+1) i k o (I3 i) (R8 y) hr E
   .exfalso;refine G (vP.2 ⟨_,Q4.2 ⟨f,?_⟩,s,t⟩);cases v:m9 ((X6 ops.toList []).getD i []) k with
    | false=>rfl
    | true=>exact absurd (U7.1 v) E
  have hu:eT M (Dr lo D) id up=true:=(T4 _).2 ⟨k,A2,W9.2 ⟨u,x⟩,s,t⟩;rw[hu];simp only[D8];rw[(g.le b (i:=i) (j:=up) p A2 (A6 _)).2.2 id hid d.2];exact h1
 .have I:=(g.all b p A2).2.2.2.2 id hid A2;rw[I]at h1;have hu:eT M (Dr lo D) id up=false:=by
   cases v:eT M (Dr lo D) id up with
   | false=>rfl
   | true =>
     exfalso;obtain⟨k,O,Q,s,t⟩:=(T4 _).1 v;have u:=(W9.1 Q).1;obtain⟨l,C,_⟩:=q.hr.at_ id hid ab h1;have L:=g.le b (i:=lo) (j:=k) (A6 _) u A2;have N:=g.le b (i:=k+1) (j:=up) A2 A2 (A6 _);have K:=(g.all b b.le (A6 _)).2.2.1;rw[q.fr id A2 A2]at C;cases C
  rw[hu];exact h1
def Rg.quiet{z:Zn}(g:Rg P base gl nt call ops F M V R X B)(J:U3 P base gl call){L ρ:Ren}{w0 w:World}{D D':Nat->Bool}{a:Act}{i:Nat}{o:Oper}{Q:Exit->Act->World->Prop}{K:Act->World->Prop}
  (u:At P base gl L (M lo) (M up).hi w0) (hS:Sat (M (i+1)).lg) (aa:nt<=512) (inv:Inv z P base gl nt ops F M V lo up L w0 D ρ a w) (hc:kV ops.toList fun k=>D k=true) (aq:∀ k,D k=true->k<ops.size) (W:ops[i]? = some o) (hi:D i=false)
  (hr:∀ e ∈ o.after.toList,Region.binds .any e=true->D e.on=true) (hD:∀ k,k≠i->D' k=D k) (ao:D' i=true)
  (au:cM nt ops.toList (V1 P call o) ((X6 ops.toList []).getD i []) (R i) (F i) o (M i) (M (i+1)) (V i) r) (af:∀ b ab,r=some (b,ab)->GD M lo up D b=some ab)
  (hK:∀ q a' w',Inv z P base gl nt ops F M V lo up L w0 D' q a' w'->K a' w'):eZ P z.rd ops Q i K a w:=by
 have ae:i<ops.size:=(C6.1 W).1;obtain⟨bw,ak,hF,_⟩:=g.st i o W;have G:∀ t,t ∈ U4 ops.toList o->t<nt->VR ρ ((F i).get t) (a.tmps.getD t undef):=fun t Z ax=>by
  rw[<- g.look aa hc aq W hi hr Z ax];exact inv.frm t ax
 have al:FR ρ (F i) a.eval o.op:=fun x hx=>by
  have S:okX nt gl x=true:=D2.1 ak x hx;cases x with
  | tmp t=>exact G t (uK hx rfl) (A1 S)
  | const v=>exact VR.ofC S
  | global gg=>exact VR.ptr (o:=0) (inv.ext _ _ (u.gr gg (A1 S)))
  | func f=>exact .func (a:=[]) (b:=[]) (a':=[]) (b':=[]) rfl rfl (fun i v v' h=>by simp at h) (fun i v v' h=>by simp at h)
 have I:∀ lg b,v6 nt (F i) (M i).lg ops.toList o=some (b,lg)->Sat lg->Region.wanted o (yielded ops a.tmps)=b:=fun lg b hw C=>by
  unfold v6 at hw;split at hw
  .rename_i hg;cases hw;simp[Region.wanted,hg]
  .rename_i j want hg;split at hw
   .rename_i p hp;split at hw
    .rename_i t Z;obtain⟨h1,s⟩:=A3 hw;have h1:t<nt:=A1 h1;have hv:=G t (by
      unfold U4;refine B6.2 (.inr (B6.2 (.inr ?_)));simp[hg,hp,Z]) h1
     exact kY hg hp Z (by rw[inv.tsz];exact h1) (nP s hv C)
    .cases hw
   .cases hw
 have y:∀ (q:Ren) (v':Value),(∀ b l,ρ b=some l->q b=some l)->VR q (V i) v'->∀ t,t<nt->VR q (s8 D' (fun k=>(ops[k]?).bind (·.dst)) V (F 0).get t ops.size) ((a.put o.dst v').tmps.getD t undef):=fun q v' he hv t Z=>by
  by_cases hd:o.dst=some t
  .have U:∀ k,i<k->k<ops.size->(ops[k]?).bind (·.dst)=some t->D k=false:=fun k bx A aw=>by
    obtain⟨p,hp⟩:=O6 (ops:=ops) A;rw[hp]at aw
    have:=g.slot hc aq W hi hr (t:=t) (by unfold U4;simp[hd]) k p hp A2 aw;cases hq:D k with
    | false=>rfl
    | true=>have:=this.1 hq;omega
   rw[pP hD ao ops.size ae (by simp[W,hd]) U];simp only[hd,Act.put,B5];rw[F3,A9 rfl,A9 (by rw[inv.tsz];exact Z)];exact hv
  .rw[mX hD (by simp[W];exact hd)];have h1:=(inv.frm t Z).mono he;cases Y:o.dst with
   | none=>exact h1
   | some d =>
     have ah:d≠t:=fun e=>hd (e▸Y)
     simp only[Act.put,B5]at h1 ⊢;rw[F3,A8 ah];exact h1
 have hM:∃ lg,M (i+1)=(M i).wLg lg:=by
  rcases au with⟨lg,_,_,h,_⟩|⟨_,ar,_,_,h,_⟩
  .exact⟨lg,h⟩
  .exact⟨ar,h⟩
 have hG:GD M lo up D'=GD M lo up D:=by
  funext b;unfold GD;have:eT M (Dr lo D') b up=eT M (Dr lo D) b up:=by
   obtain⟨lg,hm⟩:=hM;rw[J1,T4,T4];constructor
   .rintro⟨k,h1,s,h3,h4⟩
    have e:k≠i:=fun e=>by
     subst e;rw[hm]at h4;have h4:b<(M k).n:=h4;omega
    obtain⟨T,s⟩:=W9.1 s;rw[hD k e]at s;exact⟨k,h1,W9.2 ⟨T,s⟩,h3,h4⟩
   .rintro⟨k,h1,s,h3⟩
    obtain⟨T,s⟩:=W9.1 s;have e:k≠i:=fun e=>by subst e;rw[hi]at s;cases s
    exact⟨k,h1,W9.2 ⟨T,by rw[hD k e];exact s⟩,h3⟩
  rw[this]
 have N:∀ b l,ρ b=some l->L b=none->eT M (Dr lo D') b up=true/\(l.on=true->w0.heap.size<=l.blk):=fun b l h1 s=>by
  obtain⟨k1,k2⟩:=inv.new b l h1 s;obtain⟨k,q1,q2,q3⟩:=(T4 _).1 k1;obtain⟨ag,q2⟩:=W9.1 q2;have e:k≠i:=fun e=>by subst e;rw[hi]at q2;cases q2
  exact⟨(T4 _).2 ⟨k,q1,W9.2 ⟨ag,by rw[hD k e];exact q2⟩,q3⟩,k2⟩
 unfold eZ;simp only[W];rcases au with⟨lg,hw,hv,hm,_⟩|⟨lg,ar,hw,hq,hm,bz⟩
 .have C:Sat lg:=by rw[hm]at hS;exact hS
  rw[I lg false hw C];simp only[I6,if_false];refine hK ρ _ w ⟨inv.ext,N,hG▸inv.hr,inv.keep,inv.size,inv.os,hG▸inv.tch,?_,?_,y ρ undef (fun _ _ h=>h) (hv▸nR ρ)⟩
  .cases Y:o.dst<;>simp[Act.put,inv.tsz]
  .rw[dG];exact inv.dfr
 .obtain⟨mv,m',az,O,hW,an,hl⟩:=jJ hq;obtain⟨v1,v2,v3,v4,v5,_⟩:=qK az;have av:Sat m'.lg:=by rw[hm]at hS;rw[hl];exact hS
  have C:Sat lg:=Q8.le av (by have:=o7 J O;rw[v4]at this;exact this);rw[I lg true hw C];simp only[if_true];have ad:HR P base ρ mv.H w:=inv.hr.hr fun id hid ab ay=>af id ab (bz.trans (v5 id hid ab ay))
  have ai:At P base gl ρ mv m'.hi w:=⟨ad,B9 u.bs inv.size,fun b h1 s=>(by rw[v1]at h1;rw[an]at s;omega),u.gr.mono inv.ext,(by rw[v1,v2];exact A6 _),fun b hb=>(by rw[v3]at hb;cases hb),fun k o A=>⟨(u.gf k o A).1,(inv.keep k (D1 (u.gf k o A).1 u.bs)).trans (u.gf k o A).2⟩⟩;refine oA J O av ai al fun v' q w' hv st=>?_
  have aj:q=ρ:=by
   funext b;cases h0:ρ b with
   | some l=>exact st.ext b l h0
   | none =>
     cases h1:q b with
     | none=>rfl
     | some l =>
       exfalso;have s:=(st.new b l h1 h0).1;have h3:=st.hr.dom b l h1;rw[v1]at s;unfold qD at s;unfold G9 at h3;omega
  subst aj;have E:∀ k,k<w.heap.size->w'.heap[k]? = w.heap[k]? := fun k A=>st.keep k A fun b hb=>by rw[hW]at hb;cases hb
  refine hK q _ w' ⟨inv.ext,N,hG▸⟨inv.hr.dom,fun id hid ab ay=>?_⟩,fun k A=>by rw[E k (D1 A inv.size),inv.keep k A],B9 inv.size st.size,⟨st.os.1.trans inv.os.1,st.os.2.1.trans inv.os.2.1,st.os.2.2.trans inv.os.2.2⟩,hG▸inv.tch,?_,?_,y q v' (fun _ _ h=>h) hv⟩
  .obtain⟨l,e1,e2,e3⟩:=inv.hr.at_ id hid ab ay;exact⟨l,e1,e2.mono (fun _ _ h=>h) (fun k A=>E _ (e2.tc A)),e3⟩
  .cases Y:o.dst<;>simp[Act.put,inv.tsz]
  .rw[dG];exact inv.dfr
def Rg.step{z:Zn}(g:Rg P base gl nt call ops F M V R X B)(ph:Ph ops B M lo up)(T:U3 P base gl call){ao ρ:Ren}{w0 w:World}{D D':Nat->Bool}{a:Act}{i:Nat}{o:Oper}{Q:Exit->Act->World->Prop}{K:Act->World->Prop}
  (J:At P base gl ao (M lo) (M up).hi w0) (hS:Sat (M up).lg) (cy:nt<=512) (inv:Inv z P base gl nt ops F M V lo up ao w0 D ρ a w) (hc:kV ops.toList fun k=>D k=true) (bn:∀ k,D k=true->k<ops.size) (az:lo<=i) (aq:i<up) (Y:ops[i]? = some o) (hi:D i=false)
  (hr:∀ e ∈ o.after.toList,Region.binds .any e=true->D e.on=true) (hD:∀ k,k≠i->D' k=D k) (aa:D' i=true)
  (bz:¬∃ r,cM nt ops.toList (V1 P call o) ((X6 ops.toList []).getD i []) (R i) (F i) o (M i) (M (i+1)) (V i) r)
  (hK:∀ C a' w',Inv z P base gl nt ops F M V lo up ao w0 D' C a' w'->K a' w'):eZ P z.rd ops Q i K a w:=by
 have bb:i<ops.size:=(C6.1 Y).1;obtain⟨cp,bh,hF,ae⟩:=g.st i o Y;have bo:=ph.mx i o az aq Y;have ct:=ph.sz;have cr:=g.le ph (i:=lo) (j:=i) (A6 _) az A2;have bc:=g.le ph (i:=i+1) (j:=up) A2 A2 (A6 _);have cv:=g.one Y bo (g.all ph az A2).2.2.1;have au:∀ t,t ∈ U4 ops.toList o->t<nt->VR ρ ((F i).get t) (a.tmps.getD t undef):=fun t ht ad=>by
  rw[<- g.look cy hc bn Y hi hr ht ad];exact inv.frm t ad
 have bj:FR ρ (F i) a.eval o.op:=fun x hx=>by
  have ak:okX nt gl x=true:=D2.1 bh x hx;cases x with
  | tmp t=>exact au t (uK hx rfl) (A1 ak)
  | const v=>exact VR.ofC ak
  | global gg=>exact VR.ptr (o:=0) (inv.ext _ _ (J.gr gg (A1 ak)))
  | func f=>exact .func (a:=[]) (b:=[]) (a':=[]) (b':=[]) rfl rfl (fun i v v' h=>by simp at h) (fun i v v' h=>by simp at h)
 have af:∀ lg b,v6 nt (F i) (M i).lg ops.toList o=some (b,lg)->Sat lg->Region.wanted o (yielded ops a.tmps)=b:=fun lg b hw aj=>by
  unfold v6 at hw;split at hw
  .rename_i hg;cases hw;simp[Region.wanted,hg]
  .rename_i j want hg;split at hw
   .rename_i p hp;split at hw
    .rename_i t ht;obtain⟨h1,u⟩:=A3 hw;have h1:t<nt:=A1 h1;have hv:=au t (by
      unfold U4;refine B6.2 (.inr (B6.2 (.inr ?_)));simp[hg,hp,ht]) h1
     exact kY hg hp ht (by rw[inv.tsz];exact h1) (nP u hv aj)
    .cases hw
   .cases hw
 have an:∀ (C:Ren) (v':Value),(∀ b l,ρ b=some l->C b=some l)->VR C (V i) v'->∀ t,t<nt->VR C (s8 D' (fun k=>(ops[k]?).bind (·.dst)) V (F 0).get t ops.size) ((a.put o.dst v').tmps.getD t undef):=fun C v' he hv t ht=>by
  by_cases hd:o.dst=some t
  .have ah:∀ k,i<k->k<ops.size->(ops[k]?).bind (·.dst)=some t->D k=false:=fun k cu Z bu=>by
    obtain⟨p,hp⟩:=O6 (ops:=ops) Z;rw[hp]at bu
    have:=g.slot hc bn Y hi hr (t:=t) (by unfold U4;simp[hd]) k p hp A2 bu;cases hq:D k with
    | false=>rfl
    | true=>have:=this.1 hq;omega
   rw[pP hD aa ops.size bb (by simp[Y,hd]) ah];simp only[hd,Act.put,B5];rw[F3,A9 rfl,A9 (by rw[inv.tsz];exact ht)];exact hv
  .rw[mX hD (by simp[Y];exact hd)];have h1:=(inv.frm t ht).mono he;cases bw:o.dst with
   | none=>exact h1
   | some d =>
     have bd:d≠t:=fun e=>hd (e▸bw)
     simp only[Act.put,B5]at h1 ⊢;rw[F3,A8 bd];exact h1
 have N:∀ b,eT M (Dr lo D') b up=true↔(eT M (Dr lo D) b up=true∨((M i).n<=b/\b<(M (i+1)).n)):=fun b=>by
  rw[T4,T4];constructor
  .rintro⟨k,h1,u,h3⟩
   obtain⟨ai,u⟩:=W9.1 u;by_cases e:k=i
   .subst e;exact .inr h3
   .rw[hD k e]at u;exact .inl ⟨k,h1,W9.2 ⟨ai,u⟩,h3⟩
  .rintro(⟨k,h1,u,h3⟩|h3)
   .obtain⟨ai,u⟩:=W9.1 u;have e:k≠i:=fun e=>by subst e;rw[hi]at u;cases u
    exact⟨k,h1,W9.2 ⟨ai,by rw[hD k e];exact u⟩,h3⟩
   .exact⟨i,aq,W9.2 ⟨az,aa⟩,h3⟩
 unfold eZ;simp only[Y];have bt:Sat (M (i+1)).lg:=Q8.le hS (by have:=g.lgs T (i:=i+1) (up-(i+1)) A2;rwa[show i+1+(up-(i+1))=up by omega]at this);rcases ae with⟨_,lg,hw,hv,hm⟩|⟨_,lg,ba,hw,hq,hm⟩|⟨br,_⟩|⟨_,_,lg,hw,mv,m',av,al,hW,bl,U⟩
 .exact absurd ⟨_,.inl ⟨lg,hw,hv,hm,rfl⟩⟩ bz
 .exact absurd ⟨_,.inr ⟨lg,ba,hw,hq,hm,rfl⟩⟩ bz
 .rw[bo]at br;cases br
 .have bq:Sat m'.lg:=by rw[GL U]at bt;exact bt
  have aj:Sat lg:=Q8.le bq (by have:=o7 T al;rw[MK av]at this;exact this);rw[af lg true hw aj];simp only[if_true];obtain⟨v1,v2,v3,_,v4⟩:=A0Z av;have v1:mv.n=(M i).n:=v1;have v2:mv.hi=(M i).hi:=v2;have v4:∀ id,id<=G9->∀ ab,Hp.get mv.H id=some ab->Hp.get (M i).H id=some ab/\id ∉ Y2 (zO ((X6 ops.toList []).getD i []) (R i)):=v4;have ag:=(g.all ph az A2).2.2.1;obtain⟨q1,q2,q3,q4,q5,q6,_,q7⟩:=GK U ag bl;have q1:(M i).n<=(M (i+1)).n:=q1;have q5:(M (i+1)).n=m'.hi∨((M (i+1)).n=(M i).n/\m'.hi<=(M i).n):=q5;have q7:∀ id,id<=G9->Hp.get (M (i+1)).H id=if(M i).n<=id/\id<(M (i+1)).n then Hp.get m'.H id else Hp.get (M i).H id:=q7
  have L:∀ id,id<=G9->∀ ab,Hp.get mv.H id=some ab->GD M lo up D id=some ab:=fun id hid ab y=>by
   obtain⟨h1,u⟩:=v4 id hid ab y;exact g.see (z:=z) (a:=a) (ρ:=ρ) (w:=w) ph J hc az aq Y hr id hid ab h1 u
  have cz:HR P base ρ mv.H w:=inv.hr.hr L;have S:J2 ρ mv.n m'.hi:=fun b h1 u=>by
   rw[v1]at h1;cases hb:ρ b with
   | none=>rfl
   | some l =>
     exfalso;cases h0:ao b with
     | some l0 =>
       rw[J.fr b A2 A2]at h0;cases h0
     | none =>
       obtain⟨k,k1,k2,k3,k4⟩:=(T4 _).1 (inv.new b l hb h0).1;obtain⟨k0,k2⟩:=W9.1 k2;have cq:k≠i:=fun e=>by subst e;rw[hi]at k2;cases k2
       rcases F2 k i with bx|bx
       .have:=(g.le ph (i:=k+1) (j:=i) A2 A2 A2).1;omega
       .have:=(g.le ph (i:=i+1) (j:=k) A2 A2 A2).1;rcases q5 with q5|⟨_,q5⟩<;>omega
  have bf:At P base gl ρ mv m'.hi w:=⟨cz,B9 J.bs inv.size,S,J.gr.mono inv.ext,(by rw[v1,v2];exact ag),fun b hb=>(by rw[v3]at hb;cases hb),fun k o Z=>⟨(J.gf k o Z).1,(inv.keep k (D1 (J.gf k o Z).1 J.bs)).trans (J.gf k o Z).2⟩⟩;refine oA T al bq bf bj fun v' C w' hv st=>hK C _ w' ?_
  have aw:∀ k,k<w.heap.size->w'.heap[k]? = w.heap[k]? := fun k Z=>st.keep k Z fun b hb=>by rw[hW]at hb;cases hb
  have cw:m'.n<=m'.hi:=st.nhi (by rw[v1,v2];exact ag);have ax:∀ b l,C b=some l->ρ b=none->((M i).n<=b/\b<(M (i+1)).n)/\(l.on=true->w.heap.size<=l.blk):=fun b l h1 u=>by
   have h3:=st.new b l h1 u;rw[v1]at h3;refine⟨⟨h3.1,?_⟩,?_⟩
   .rcases q5 with q5|⟨_,q5⟩<;>omega
   .intro Y;rcases st.blk b l h1 u Y with h|⟨b0,h,_⟩
    .exact h
    .rw[hW]at h;cases h
  have ar:∀ id,id<=G9->(M i).n<=id->id<(M (i+1)).n->GD M lo up D' id=Hp.get m'.H id/\ρ id=none:=fun id hid h1 u=>by
   constructor
   .unfold GD;rw[(N id).2 (.inr ⟨h1,u⟩)];simp only[D8];rw[bc.2.2 id hid u,q7 id hid,A9 ⟨h1,u⟩]
   .refine S id (by rw[v1];exact h1) ?_;rcases q5 with q5|⟨q5,_⟩
    .omega
    .rw[q5]at u;omega
  have W:∀ id,¬ ((M i).n<=id/\id<(M (i+1)).n)->GD M lo up D' id=GD M lo up D id:=fun id hid=>by
   unfold GD;have:eT M (Dr lo D') id up=eT M (Dr lo D) id up:=by
    rw[J1,N id];exact⟨fun h=>h.elim (fun h=>h) (fun h=>absurd h hid),.inl⟩
   rw[this]
  have bk:∀ k,Ff C (GD M lo up D') k->w.heap.size<=k∨Ff ρ (GD M lo up D) k:=fun k ⟨id,ab,l,hid,y,hl,ht⟩=>by
   by_cases hI:(M i).n<=id/\id<(M (i+1)).n
   .rw[(ar id hid hI.1 hI.2).1]at y;rcases st.tch k ⟨id,ab,l,hid,y,hl,ht⟩with h|⟨A,ay,l0,e1,e2,e3,e4⟩
    .exact .inl h
    .exact .inr ⟨A,ay,l0,e1,L A e1 ay e2,e3,e4⟩
   .rw[W id hI]at y;obtain⟨l3,c1,_⟩:=inv.hr.at_ id hid ab y;rw[st.ext id l3 c1]at hl
    have:=A7 hl;subst this;exact .inr ⟨id,ab,l3,hid,y,c1,ht⟩
  refine⟨fun b l h=>st.ext b l (inv.ext b l h),fun b l h1 u=>?_,⟨st.hr.dom,fun id hid ab y=>?_⟩,fun k Z=>by rw[aw k (D1 Z inv.size),inv.keep k Z],B9 inv.size st.size,⟨st.os.1.trans inv.os.1,st.os.2.1.trans inv.os.2.1,st.os.2.2.trans inv.os.2.2⟩,fun k Z=>(bk k Z).elim (fun h=>.inl (B9 inv.size h)) (inv.tch k),?_,?_,an C v' st.ext hv⟩
  .cases h0:ρ b with
   | some l1 =>
     rw[st.ext b l1 h0]at h1
     have:=A7 h1;subst this;exact⟨(N b).2 (.inl (inv.new b l1 h0 u).1),(inv.new b l1 h0 u).2⟩
   | none =>
     have:=ax b l h1 h0;exact⟨(N b).2 (.inr this.1),fun Y=>B9 inv.size (this.2 Y)⟩
  .by_cases hI:(M i).n<=id/\id<(M (i+1)).n
   .obtain⟨h1,u⟩:=ar id hid hI.1 hI.2;rw[h1]at y;obtain⟨l,e1,e2,e3⟩:=st.hr.at_ id hid ab y;refine⟨l,e1,e2,fun I E=>⟨(e3 I E).1,fun q s O l2 f1 f2 f3=>?_⟩⟩;by_cases G:(M i).n<=q/\q<(M (i+1)).n
    .rw[(ar q s G.1 G.2).1]at f1;exact(e3 I E).2 q s O l2 f1 f2 f3
    .rw[W q G]at f1;obtain⟨l3,c1,c2,_⟩:=inv.hr.at_ q s O f1;rw[st.ext q l3 c1]at f2
     have:=A7 f2;subst this;have h5:=c2.tc f3;have h6:=(ax id l e1 u).2 E;omega
   .rw[W id hI]at y;obtain⟨l,e1,e2,e3⟩:=inv.hr.at_ id hid ab y;refine⟨l,st.ext _ _ e1,e2.mono st.ext (fun k Z=>aw _ (e2.tc Z)),fun I E=>⟨(e3 I E).1,fun q s O l2 f1 f2 f3=>?_⟩⟩;by_cases G:(M i).n<=q/\q<(M (i+1)).n
    .exfalso;rw[(ar q s G.1 G.2).1]at f1;have bm:O.fr=true:=by
      cases hq:O.fr with
      | true=>rfl
      | false =>
        exfalso;rcases f3 with⟨_,h1,u⟩|⟨h1,_⟩
        .have h5:=(ax q l2 f2 (ar q s G.1 G.2).2).2 h1;have h6:=e2.tc (.inl ⟨AB.rw_on I,E,rfl⟩);omega
        .rw[h1]at hq;cases hq
     rcases st.tch _ ⟨q,O,l2,s,f1,f2,bm,f3⟩with h|⟨A,ay,l0,c1,c2,c3,_,c4⟩
     .have:=e2.tc (.inl ⟨AB.rw_on I,E,rfl⟩);omega
     .have h7:=(e3 I E).2 A c1 ay l0 (L A c1 ay c2) c3 c4;subst h7;have h8:=L A c1 ay c2;rw[y]at h8;have h8:=A7 h8;subst h8;have h9:A<mv.n∨m'.hi<=A:=by
       rcases F2 A mv.n with h|h
       .exact .inl h
       .rcases F2 A m'.hi with h'|h'
        .rw[S A h h']at e1;cases e1
        .exact .inr h'
      have bp:=st.same A c1 (by rw[hW];simp) h9;rw[c2]at bp;obtain⟨_,bg⟩:=st.hr.atl (st.ext _ _ e1) bp
      have:=(bg I E).2 q s O l2 f1 f2 f3;subst this;exact hI G
    .rw[W q G]at f1;obtain⟨l3,c1,_⟩:=inv.hr.at_ q s O f1;rw[st.ext q l3 c1]at f2
     have:=A7 f2;subst this;exact(e3 I E).2 q s O l3 f1 c1 f3
  .cases bw:o.dst<;>simp[Act.put,inv.tsz]
  .rw[dG];exact inv.dfr.congr st.ext fun _=>⟨rfl,rfl⟩
end
end
section
open Go
variable [Ora]
def AM:∀ (l:List Bool) (i:Nat),l[i]? = some false->(l.set i true).countP (fun b=>!b)+1=l.countP (fun b=>!b)
 | [],i,h=>by simp at h
 | b::r,0,h=>by simp at h;subst h;simp
 | b::r,i+1,h=>by
   have:=AM r i (by simpa using h);rw[List.set_cons_succ,List.countP_cons,List.countP_cons];omega
def LM{l:List Bool}(h:l.countP (fun b=>!b)=0):∀ i,i<l.length->l[i]? = some true:=fun i hi=>by
 rw[List.countP_eq_zero]at h
 have:=h l[i] (M8 hi);rw[A5 hi];cases a:l[i]with
 | true=>rfl
 | false=>rw[a]at this;exact absurd rfl this
section
variable {P:Program} {base gl:Nat} {call:O0}
def WH(h:jR m m'=some m2)(a:m.hi<=m'.hi):m.hi<=m2.hi:=by
 unfold jR at h;cases b:Nat.ble m'.hi m.n with
 | true=>rw[b]at h;cases h;exact A6 _
 | false =>
   rw[b]at h;obtain⟨_,h⟩:=A3 h;simp only[E1,cU]at h;cases h;exact a
def xL:∀ {n:Nat} {b:G5} {a:Qs},DR n b a=true->∀ k,k<n->k ∈ b∨∃ q ∈ a,q.1=k
 | 0,_,_,_,k,h=>by omega
 | n+1,b,a,h,k,hk=>by
   obtain⟨h1,d⟩:=B3 (show((m9 b n || a.any fun q=>Nat.beq n q.1) && DR n b a)=true from h);by_cases e:k=n
   .subst e;rcases I1 _ _▸h1 with h1|h1
    .exact .inl (U7.1 h1)
    .obtain⟨q,f,g⟩:=O7.1 h1;exact .inr ⟨q,f,(A0 g).symm⟩
   .exact xL d k A2
def vX:∀ {i:Nat} {bs:List G5} {r:List Oper},CN i bs r=true->∀ (j:Nat) (c:List Nat) (o:Oper),bs[j]? = some c->r[j]? = some o->i ∈ c∨p0 o.op=true
 | _,[],_,_,j,c,o,h,_=>by simp at h
 | _,_::_,[],_,j,c,o,_,h=>by simp at h
 | i,c0::bs,o0::r,h,j,c,o,h1,h2=>by
   obtain⟨a,b⟩:=B3 (show((m9 c0 i || p0 o0.op) && CN i bs r)=true from h);cases j with
   | zero =>
     simp at h1 h2;subst h1;subst h2;rcases I1 _ _▸a with a|a
     .exact .inl (U7.1 a)
     .exact .inr a
   | succ j=>exact vX b j c o (by simpa using h1) (by simpa using h2)
def BP{ops:Array Oper}{X:Nat->Qs}{i:Nat}{o:Oper}(h:A0j ops X i o=true):p0 o.op=false:=by
 obtain⟨h,_⟩:=B3 (show(wrO o.op && _)=true from h);cases a:o.op<;>rw[a]at h<;>first
  | rfl
  | cases h
def JX{ops:Array Oper}{X:Nat->Qs}{i:Nat}{o:Oper}(h:A0j ops X i o=true):∀ k,k<i->k ∈ (X6 ops.toList []).getD i []∨∃ q ∈ X i,q.1=k:=by
 obtain⟨_,h⟩:=B3 (show(wrO o.op && _)=true from h);obtain⟨h,_⟩:=B3 h;exact xL h
def JW{ops:Array Oper}{X:Nat->Qs}{i:Nat}{o:Oper}(h:A0j ops X i o=true):∀ j p,i<j->ops[j]? = some p->i ∈ (X6 ops.toList []).getD j []∨p0 p.op=true:=fun j p f hp=>by
 obtain⟨_,h⟩:=B3 (show(wrO o.op && _)=true from h);obtain⟨_,h⟩:=B3 h;obtain⟨g,b,d,_⟩:=rU ops.toList [];have hlen:(X6 ops.toList []).length=ops.size:=by rw[b];simpa using d
 have e:j<ops.size:=(C6.1 hp).1;have a:j<(X6 ops.toList []).length:=A2
 have:=vX h (j-(i+1)) (X6 ops.toList [])[j] p (by rw[H3,show i+1+(j-(i+1))=j by omega,A5 a]) (by rw[H3,show i+1+(j-(i+1))=j by omega];exact R8 hp);rw[B2,A5 a];exact this
def qP(ops:Array Oper)(B:Nat->Bool):∀ (d lo:Nat),lo+d=ops.size->∃ up,lo<=up/\up<=ops.size/\(∀ i o,lo<=i->i<up->ops[i]? = some o->B i=false)/\(up<ops.size->∃ o,ops[up]? = some o/\B up=true)
 | 0,lo,h=>⟨lo,A6 _,A2,fun i o h1 f=>by omega,fun f=>by omega⟩
 | d+1,lo,h=>by
   obtain⟨o,k⟩:=O6 (ops:=ops) (i:=lo) A2;cases g:B lo with
   | true=>exact⟨lo,A6 _,A2,fun i o h1 f=>by omega,fun _=>⟨o,k,g⟩⟩
   | false =>
     obtain⟨up,h1,f,h3,j⟩:=qP ops B d (lo+1) A2;refine⟨up,A2,f,fun i o' a b c=>?_,j⟩;by_cases e:i=lo
     .subst e;exact g
     .exact h3 i o' A2 b c
section
variable {nt:Nat} {ops:Array Oper} {F:Nat->Fr} {M:Nat->Mem} {V:Nat->Value} {R:Nat->List Rec} {X:Nat->Qs} {B:Nat->Bool} {lo up:Nat}
def Rg.frameUp(g:Rg P base gl nt call ops F M V R X B)(a:nt<=512){t:Tmp}(b:t<nt){i:Nat}(hi:i<=ops.size):s8 (fun k=>Nat.blt k i) (fun k=>(ops[k]?).bind (·.dst)) V (F 0).get t ops.size=(F i).get t:=by
 rw[g.frame a b i hi];have f:∀ d,i+d<=ops.size->s8 (fun k=>Nat.blt k i) (fun k=>(ops[k]?).bind (·.dst)) V (F 0).get t (i+d)=s8 (fun k=>Nat.blt k i) (fun k=>(ops[k]?).bind (·.dst)) V (F 0).get t i:=by
  intro d;induction d with
  | zero=>intro _;rfl
  | succ d e =>
    intro j;rw[show i+(d+1)=(i+d)+1 by omega];rw[s8,A8 (fun hh=>by have:i+d<i:=A1 hh.1;omega)];exact e A2
 have:=f (ops.size-i) A2
 rwa[show i+(ops.size-i)=ops.size by omega]at this
def A8v{k i:Nat}:Nat.blt k i=true↔k<i:=⟨fun h=>A1 h,fun h=>C5 h⟩
def Rg.own(g:Rg P base gl nt call ops F M V R X B)(b:nt<=510):∀ (i:Nat),i<=ops.size->(F i).get 510=(F 0).get 510/\(F i).get 511=(F 0).get 511
 | 0,_=>⟨rfl,rfl⟩
 | i+1,hi=>by
   obtain⟨o,l⟩:=O6 (ops:=ops) (i:=i) A2;obtain⟨d1,_,d3,_⟩:=g.st i o l;have f:=g.own b i A2;have key:∀ t,510<=t->t<512->(F (i+1)).get t=(F i).get t:=fun t h1 j=>by
    rw[d3];cases k:o.dst with
    | none=>rfl
    | some d =>
      rw[k]at d1;have a:d<nt:=A1 d1;show((F i).set d _).get t=_;rw[K9 _ _ _ _ (D1 a A2) j,A8 (fun e=>by subst e;exact absurd a (Nat.not_lt.2 (B9 b h1)))]
   exact⟨(key 510 F7 F7).trans f.1,(key 511 F7 F7).trans f.2⟩
def Rg.inX(g:Rg P base gl nt call ops F M V R X B):∀ (j:Nat),j<=ops.size->∀ q ∈ X j,q.1<j/\q ∈ X (q.1+1)/\∃ o,ops[q.1]? = some o/\cM nt ops.toList (V1 P call o) ((X6 ops.toList []).getD q.1 []) (R q.1) (F q.1) o (M q.1) (M (q.1+1)) (V q.1) q.2
 | 0,_,q,hq=>by rw[g.x0]at hq;cases hq
 | j+1,hj,q,hq=>by
   obtain⟨o,d⟩:=O6 (ops:=ops) (i:=j) A2;have old:q ∈ X j->q.1<j+1/\q ∈ X (q.1+1)/\∃ o,ops[q.1]? = some o/\cM nt ops.toList (V1 P call o) ((X6 ops.toList []).getD q.1 []) (R q.1) (F q.1) o (M q.1) (M (q.1+1)) (V q.1) q.2:=fun h=>by
    obtain⟨h1,a⟩:=g.inX j A2 q h;exact⟨A2,a⟩
   rcases g.qs j o d with⟨_,h,_⟩|⟨_,h⟩|⟨_,r,h,a⟩
   .exact old (h▸hq)
   .exact old (h▸hq)
   .have b:=hq;rw[h]at hq;rcases B4.1 hq with e|e
    .subst e;exact⟨I3 _,b,o,d,a⟩
    .exact old e
def zH{all:List Oper}{b:G5}{fr:Fr}{o:Oper}{v:Value}(h:cM nt all op b rs fr o m m2 v r):∃ lg,m2=m.wLg lg:=by
 rcases h with⟨lg,_,_,h,_⟩|⟨_,a,_,_,h,_⟩
 .exact⟨lg,h⟩
 .exact⟨a,h⟩
def Rg.kind(g:Rg P base gl nt call ops F M V R X B){i:Nat}{o:Oper}(f:ops[i]? = some o)(a:p0 o.op=true):cM nt ops.toList (V1 P call o) ((X6 ops.toList []).getD i []) (R i) (F i) o (M i) (M (i+1)) (V i) none:=by
 obtain⟨_,_,_,h⟩:=g.st i o f;have j:HM (M i).H (F i) o.op=none:=by
  cases e:o.op<;>rw[e]at a<;>first|rfl|cases a
 rcases h with⟨_,lg,h1,b,h3⟩|⟨_,lg,d,h1,b,h3⟩|⟨h,_⟩|⟨_,h,_⟩
 .exact .inl ⟨lg,h1,b,h3,rfl⟩
 .exact .inr ⟨lg,d,h1,b,h3,j.symm⟩
 .rw[BP (g.sb i o f h)]at a;cases a
 .rw[a]at h;cases h
def Rg.heap{z:Zn}(g:Rg P base gl nt call ops F M V R X B)(f:Ph ops B M lo up){D:Nat->Bool}{p ρ:Ren}{a:Act}{x w':World}(hD:∀ k,lo<=k->k<up->D k=false->∃ lg,M (k+1)=(M k).wLg lg)(inv:Inv z P base gl nt ops F M V lo up p x D ρ a w'):St P base p ρ (M lo) (M up) x w':=by
 have w:∀ id,id<=G9->GD M lo up D id=Hp.get (M up).H id:=fun id hid=>by
  unfold GD;cases hu:eT M (Dr lo D) id up with
  | true=>rfl
  | false =>
    simp only[D4];refine((g.all f f.le (A6 _)).2.2.2.2 id hid ?_).symm;rcases F2 id (M lo).n with h1|h1
    .exact .inl h1
    .rcases F2 id (M up).n with e|e
     .exfalso;have hle:=f.le;obtain⟨k,q,G,v,o⟩:=g.who f (up-lo) A2 id h1 (by rw[show lo+(up-lo)=up by omega];exact e);have s:D k=true:=by
       cases h:D k with
       | true=>rfl
       | false =>
         obtain⟨lg,hm⟩:=hD k q A2 h;rw[hm]at o;have o:id<(M k).n:=o;omega
      rw[(T4 (M:=M) (D:=Dr lo D) up).2 ⟨k,A2,W9.2 ⟨q,s⟩,v,o⟩]at hu;cases hu
     .exact .inr e
 have d:=g.all f f.le (A6 _);refine⟨inv.ext,fun b l h1 e=>?_,d.1,d.2.1,fun _=>d.2.2.1,inv.hr.hr fun id hid ab t=>by rw[w id hid];exact t,fun b C=>by rw[d.2.2.2.1];exact C,fun b h1 e=>by rw[d.2.2.2.1]at h1;exact absurd h1 e,
     fun k I _=>inv.keep k I,inv.size,inv.os,fun b l h1 e E=>.inl ((inv.new b l h1 e).2 E),fun id hid h1 e=>?_,fun k ⟨id,ab,l,u,y,A,J⟩=>inv.tch k ⟨id,ab,l,u,(w id u).trans y,A,J⟩⟩
 .obtain⟨k,G,K,v,o⟩:=(T4 _).1 (inv.new b l h1 e).1;have q:=(W9.1 K).1;have u:=(g.le f (i:=lo) (j:=k) (A6 _) q A2).1;have y:=(g.le f (i:=k+1) (j:=up) A2 A2 (A6 _)).1;omega
 .refine d.2.2.2.2 id hid ?_;rcases e with e|e
  .exact .inl e
  .exact .inr (by have:=d.2.2.1;omega)
def Rg.last{z:Zn}(g:Rg P base gl nt call ops F M V R X B)(b:nt<=512){D:Nat->Bool}{d ρ:Ren}{a:Act}{n w':World}(hD:∀ i,i<ops.size->D i=true)(inv:Inv z P base gl nt ops F M V lo up d n D ρ a w'):FrR z ρ nt (F ops.size) a:=by
 have f:=inv.dfr.congr (fun _ _ h=>h) (fun l=>g.own l ops.size (A6 _));refine⟨inv.tsz,b,f.1,f.2,fun t e=>?_⟩;have h1:=inv.frm t e;rw[<- g.frameUp b e (A6 _)]
 rwa[dP (D':=fun k=>Nat.blt k ops.size) ops.size (fun k j _=>by rw[hD k j];exact(A8v.2 j).symm)]at h1
def Rg.fresh{z:Zn}(g:Rg P base gl nt call ops F M V R X B){D:Nat->Bool}{ρ:Ren}{a:Act}{w:World}(hD:∀ k,lo<=k->D k=true->∃ lg,M (k+1)=(M k).wLg lg)(hr:HR P base ρ (M lo).H w)(e:a.tmps.size=nt)(q:ZR z ρ nt (F 0) a.defers)
  (i:∀ t,t<nt->VR ρ (s8 D (fun k=>(ops[k]?).bind (·.dst)) V (F 0).get t ops.size) (a.tmps.getD t undef)):Inv z P base gl nt ops F M V lo up ρ w D ρ a w:=by
 have hu:∀ b n,eT M (Dr lo D) b n=false:=fun b n=>by
  cases s:eT M (Dr lo D) b n with
  | false=>rfl
  | true =>
    obtain⟨k,_,h,A,p⟩:=(T4 _).1 s;obtain⟨h1,o⟩:=W9.1 h;obtain⟨lg,hm⟩:=hD k h1 o;rw[hm]at p;have p:b<(M k).n:=p;omega
 have j:∀ id ab,GD M lo up D id=some ab->Hp.get (M lo).H id=some ab:=fun id ab d=>by
  unfold GD at d;rw[hu]at d;exact d
 exact⟨fun _ _ h=>h,fun b l h1 o=>(by rw[h1]at o;cases o),hr.f fun id hid ab d=>j id ab d,fun _ _=>rfl,A6 _,⟨rfl,rfl,rfl⟩,fun k ⟨id,ab,l,v,y,u,x⟩=>.inr ⟨id,ab,l,v,j id ab y,u,x⟩,e,q,i⟩
def Rg.old{z:Zn}(g:Rg P base gl nt call ops F M V R X B)(d:Ph ops B M lo up){e:Ren}{w0:World}{D:Nat->Bool}(a:At P base gl e (M lo) (M up).hi w0){b:Nat}{ab:AB}(p:wH (M lo).H b ab=true):GD M lo up D b=some ab:=by
 obtain⟨h1,hid⟩:=wG p;unfold GD;have hu:eT M (Dr lo D) b up=false:=by
  cases n:eT M (Dr lo D) b up with
  | false=>rfl
  | true =>
    exfalso;obtain⟨k,x,u,v,w⟩:=(T4 _).1 n;have o:=(W9.1 u).1;obtain⟨l,f,_⟩:=a.hr.at_ b hid _ h1;have s:=g.le d (i:=lo) (j:=k) (A6 _) o A2;have t:=g.le d (i:=k+1) (j:=up) A2 A2 (A6 _);have q:=(g.all d d.le (A6 _)).2.2.1;rw[a.fr b A2 A2]at f;cases f
 rw[hu];exact h1
end
def YY(hm:P.follows .mixedOrders=true)(T:U3 P base gl call):eO P base gl call:=by
 refine⟨hm,?_⟩;intro nt ops bz s s' cg;obtain⟨F,M,V,R,X,B,f1,f2,f3,ds,f4,f5,f6⟩:=A2M ops.toList 0 _ _ _ s s' cg;simp only[E8,Q7]at f4 f5 f6;have bb:∀ i,i<=ops.size->∀ d,i+d<=ops.size->(M i).hi<=(M (i+d)).hi/\(M i).lg.le (M (i+d)).lg:=by
  intro i _ d;induction d with
  | zero=>intro _;exact⟨A6 _,.refl _⟩
  | succ d ih =>
    intro h;have h1:=ih A2;obtain⟨o,A⟩:=O6 (ops:=ops) (i:=i+d) A2;obtain⟨bl,_⟩:=f6 (i+d) o (R8 A);refine⟨?_,h1.2.trans (yU T bl)⟩;obtain⟨_,_,_,O⟩:=bl;rcases O with⟨_,_,_,_,O⟩|⟨_,_,_,_,_,O⟩|⟨_,_,_,_,O⟩|⟨_,_,_,_,mv,m',_,_,_,cl,O⟩
    .show _<=(M (i+d+1)).hi;rw[O];exact h1.1
    .show _<=(M (i+d+1)).hi;rw[O];exact h1.1
    .exact B9 h1.1 O
    .exact B9 h1.1 (WH O cl)
 have E:∀ i j,i<=j->j<=ops.size->(M i).hi<=(M j).hi/\(M i).lg.le (M j).lg:=fun i j h1 O=>by
  have:=bb i A2 (j-i) A2
  rwa[show i+(j-i)=j by omega]at this
 constructor
 .have:=E 0 ops.size A2 (A6 _);rw[f2,f5]at this;exact this
 .intro z ar a0 w id Q dz aw al hQ;have g:Rg P base gl nt call ops F M V R X B:=⟨fun i o A=>(f6 i o (R8 A)).1,fun i o A=>(f6 i o (R8 A)).2.2.1,fun i o A=>(f6 i o (R8 A)).2.2.2,fun i o A=>(f6 i o (R8 A)).2.1,ds,bz⟩;have cj:∀ i o,ops[i]? = some o->∀ e ∈ o.after.toList,Region.binds .any e=true->e.on<i:=fun i o A=>by
   have:=(fL _ 0 g.ok i o (R8 A)).1;rw[E8]at this;exact dS this
  refine iX hm ?_;generalize cn:({ w with drawn:=w.drawn+1 }:World)=w1;have ay:w1.heap=w.heap:=by rw[<- cn]
  have cv:w1.os=w.os/\w1.tape=w.tape/\w1.output=w.output:=by rw[<- cn];exact⟨rfl,rfl,rfl⟩
  have av:At P base gl ar (M 0) (M ops.size).hi w1:=by
   rw[f2,f5];exact⟨⟨fun b l h=>aw.hr.dom b l h,fun id hid ab dn=>by
    obtain⟨l,e1,e2,e3⟩:=aw.hr.at_ id hid ab dn;exact⟨l,e1,e2.mono (fun _ _ h=>h) (fun _ _=>by rw[ay]),e3⟩⟩,by rw[ay];exact aw.bs,aw.fr,aw.gr,aw.nh,aw.wb,fun k o C=>by rw[ay];exact aw.gf k o C⟩
  have aj:∀ i,i<=ops.size->Sat (M i).lg:=fun i hi=>Q8.le dz (by rw[<- f5];exact(E i ops.size hi (A6 _)).2)
  have az:J2 ar (M 0).n (M ops.size).hi:=av.fr;have fin:∀ (ρ:Ren) (a:Act) (w':World),FrR z ρ nt (F ops.size) a->St P base ar ρ (M 0) (M ops.size) w1 w'->Q .normal a w':=fun ρ a w' hf st=>by
   refine hQ ρ a w' (by rw[<- f4];exact hf) ?_;rw[<- f2,<- f5];exact⟨st.ext,st.new,st.nle,st.hle,st.nhi,st.hr,st.wsub,st.wrw,fun k C hb=>by rw[st.keep k (by rw[ay];exact C) hb,ay],by rw[<- ay];exact st.size,⟨st.os.1.trans cv.1,st.os.2.1.trans cv.2.1,st.os.2.2.trans cv.2.2⟩,fun b l h1 O h3=>by rw[<- ay];exact st.blk b l h1 O h3,st.same,fun k C=>by rw[<- ay];exact st.tch k C⟩
  have main:∀ (fuel:Nat) (listed:Array Bool) (lo up:Nat) (L ρ:Ren) (a:Act) (wL w':World),listed.size=ops.size->listed.toList.countP (fun b=>!b)=fuel->kV ops.toList (fun k=>listed.getD k false=true) ->
    Ph ops B M lo up->(up<ops.size->∃ o,ops[up]? = some o/\B up=true)->St P base ar L (M 0) (M lo) w1 wL->At P base gl L (M lo) (M ops.size).hi wL->(∀ q ∈ X lo,listed.getD q.1 false=false->A3D (M lo).H q.2=true)->(∀ k,k<lo->listed.getD k false=false->∃ q ∈ X lo,q.1=k)->(∀ k o,up<=k->ops[k]? = some o->listed.getD k false=true->p0 o.op=true) ->
    Inv z P base gl nt ops F M V lo up L wL (fun k=>listed.getD k false) ρ a w'->fY P z.rd .any ops Q fuel listed a w':=by
   have done:∀ (listed:Array Bool) (lo up:Nat) (L ρ:Ren) (a:Act) (wL w':World),(∀ i,i<ops.size->listed.getD i false=true)->Ph ops B M lo up->(up<ops.size->∃ o,ops[up]? = some o/\B up=true)->St P base ar L (M 0) (M lo) w1 wL->(∀ k o,up<=k->ops[k]? = some o->listed.getD k false=true->p0 o.op=true) ->
     Inv z P base gl nt ops F M V lo up L wL (fun k=>listed.getD k false) ρ a w'->Q .normal a w':=fun listed lo up L ρ a wL w' W ph I ah K inv=>by
    have cd:up=ops.size:=by
     rcases F2 up ops.size with h|h
     .obtain⟨o,A,hs⟩:=I h
      have:=K up o (A6 _) A (W up h);rw[BP (g.sb up o A hs)]at this;cases this
     .have:=ph.sz;omega
    subst cd;exact fin ρ a w' (g.last al.le W inv) (St.trans az ah (g.heap ph (fun k _ h1 O=>by have O:listed.getD k false=false:=O;rw[W k h1]at O;cases O) inv))
   intro fuel;induction fuel with
   | zero =>
     intro listed lo up L ρ a wL w' cy bj an ph I ah ae cw bx K inv;have W:∀ i,i<ops.size->listed.getD i false=true:=fun i hi=>by
      have:=LM bj i (by simpa [cy]using hi);have O:listed[i]? = some true:=by simpa using this
      simp[B5,O]
     refine⟨?_,done listed lo up L ρ a wL w' W ph I ah K inv⟩;rw[aM];intro j hj;obtain⟨h1,o,O,_⟩:=mem_ready.1 hj;have ao:j<ops.size:=(C6.1 O).1;have h3:=W j ao;have bd:j<listed.size:=A2;simp[B5,bd]at h1 h3;rw[h1]at h3;cases h3
   | succ fuel ih =>
     intro listed lo up L ρ a wL w' cy bj an ph I ah ae cw bx K inv;refine⟨fun dy=>?_,fun i hi=>?_⟩
     ·
      have key:∀ n i,i<n->i<ops.size->listed.getD i false=true:=by
       intro n;induction n with
       | zero=>intro i h;omega
       | succ n bp =>
         intro i di bm;by_cases h:i<n
         .exact bp i h bm
         .cases Y:listed.getD i false with
          | true=>rfl
          | false =>
            exfalso;obtain⟨o,A⟩:=O6 (ops:=ops) bm;have bf:i ∈ Region.ready .any ops listed:=mem_ready.2 ⟨by
             have bd:i<listed.size:=A2;simp[B5,bd]at Y ⊢;exact Y,o,A,fun e he hb=>by
             have ao:=cj i o A e (by simpa using he) hb;exact bp e.on A2 A2⟩
            rw[dy]at bf;cases bf
      exact done listed lo up L ρ a wL w' (fun i hi=>key (i+1) i (I3 i) hi) ph I ah K inv
     .obtain⟨h1,o,A,O⟩:=mem_ready.1 hi;have bm:i<ops.size:=(C6.1 A).1;have ad:i<listed.size:=A2;have Z:listed.getD i false=false:=by
       simp[B5,ad]at h1 ⊢;exact h1
      have u:∀ k,k≠i->(listed.setIfInBounds i true).getD k false=listed.getD k false:=fun k C=>by
       simp only[B5,F3];rw[A8 (fun e=>C e.symm)]
      have J:(listed.setIfInBounds i true).getD i false=true:=by
       simp[B5,F3,ad]
      have hr:∀ e ∈ o.after.toList,Region.binds .any e=true->listed.getD e.on false=true:=fun e he hb=>O e (by simpa using he) hb
      have bg:(listed.setIfInBounds i true).size=ops.size:=by simpa using cy
      have bq:(listed.setIfInBounds i true).toList.countP (fun b=>!b)=fuel:=by
       have hg:listed.toList[i]? = some false:=by
        simp[B5,ad]at Z;simp[ad,Z]
       have:=AM listed.toList i hg;rw[Array.toList_setIfInBounds];omega
      have bh:kV ops.toList (fun k=>(listed.setIfInBounds i true).getD k false=true):=by
       intro k o' ba C e he hb;by_cases e1:e.on=i
       .rw[e1];exact J
       .show(listed.setIfInBounds i true).getD e.on false=true;rw[u e.on e1];by_cases e2:k=i
        .subst e2;have:ops.toList[k]? = some o:=R8 A;rw[this]at ba;cases ba;exact hr e he hb
        .have C:(listed.setIfInBounds i true).getD k false=true:=C;rw[u k e2]at C;exact an k o' ba C e he hb
      have br:∀ k,k ∈ (X6 ops.toList []).getD i []->listed.getD k false=true:=fun k C=>xN an (fun i o A=>by
        have:=(fL _ 0 g.ok i o A).1;rw[E8]at this;exact dS this) (i+1) i k o (I3 i) (R8 A) hr C
      have ao:∀ k,listed.getD k false=true->k<ops.size:=fun k C=>by
       rcases F2 k ops.size with h|h
       .exact h
       .have S:listed[k]? = none:=Array.getElem?_eq_none_iff.2 A2;rw[B5,S]at C;cases C
      have aa:At P base gl L (M lo) (M up).hi wL:=ae.less (E up ops.size ph.sz (A6 _)).1;have go:∀ (y:Ren) (a':Act) (G:World),(up<=i->p0 o.op=true)->Inv z P base gl nt ops F M V lo up L wL (fun k=>(listed.setIfInBounds i true).getD k false) y a' G->fY P z.rd .any ops Q fuel (listed.setIfInBounds i true) a' G:=fun y a' G Y au =>
       ih (listed.setIfInBounds i true) lo up L y a' wL G bg bq bh ph I ah ae (fun q Y S=>cw q Y (by
        by_cases e:q.1=i
        .rw[e,J]at S;cases S
        .rw[u _ e]at S;exact S)) (fun k C S=>by
        by_cases e:k=i
        .subst e;rw[J]at S;cases S
        .rw[u k e]at S;exact bx k C S) (fun k p C hp hl=>by
        by_cases e:k=i
        .subst e;rw[A]at hp;cases hp;exact Y C
        .rw[u k e]at hl;exact K k p C hp hl) au
      have quiet:∀ r,(up<=i->p0 o.op=true)->cM nt ops.toList (V1 P call o) ((X6 ops.toList []).getD i []) (R i) (F i) o (M i) (M (i+1)) (V i) r->(∀ b ab,r=some (b,ab)->GD M lo up (fun k=>listed.getD k false) b=some ab)->eZ P z.rd ops Q i (fun a' G=>fY P z.rd .any ops Q fuel (listed.setIfInBounds i true) a' G) a w':=fun r Y U dr =>
       g.quiet T aa (aj (i+1) A2) al.le inv an ao A Z hr u J U dr fun y a' G au=>go y a' G Y au
      rcases F2 i lo with af|af
      ·
       obtain⟨q,cm,cr⟩:=bx i af Z;obtain⟨_,_,p,hp,U⟩:=g.inX lo (by have:=ph.sz;have:=ph.le;omega) q cm;rw[cr]at hp U;rw[A]at hp;cases hp;refine quiet q.2 (fun h=>by have:=ph.le;omega) U fun b ab hb=>?_
       refine g.old (z:=z) ph aa ?_
       have:=cw q cm (by rw[cr];exact Z);rw[hb]at this;exact this
      .rcases F2 i up with cu|cu
       ·
        by_cases hex:∃ r,cM nt ops.toList (V1 P call o) ((X6 ops.toList []).getD i []) (R i) (F i) o (M i) (M (i+1)) (V i) r
        .obtain⟨r,U⟩:=hex;refine quiet r (fun h=>by omega) U fun b ab hb=>?_
         rcases U with⟨_,_,_,_,dw⟩|⟨lg,dh,hw,Y,hm,dm⟩
         .rw[dw]at hb;cases hb
         .obtain⟨mv,m',cz,_⟩:=jJ Y;obtain⟨h3,h4⟩:=(qK cz).2.2.2.2.2 b ab (dm.symm.trans hb);obtain⟨h5,h6⟩:=wG h3;exact g.see (z:=z) (a:=a) (ρ:=ρ) (w:=w') ph aa an af cu A hr b h6 _ h5 h4
        .exact g.step ph T aa (aj up ph.sz) al.le inv an ao af cu A Z hr u J hex fun y a' G au=>go y a' G (fun h=>by omega) au
       .obtain⟨os,bw,aq⟩:=I A2;rcases F2 up i with dq|dj
        ·
         have C:p0 o.op=true:=by
          rcases JW (g.sb up os bw aq) i o dq A with h|h
          .have h3:=K up os (A6 _) bw (br up h);rw[BP (g.sb up os bw aq)]at h3;cases h3
          .exact h
         exact quiet none (fun _=>C) (g.kind A C) fun b ab hb=>by cases hb
        ·
         have ca:i=up:=A2;subst ca;rw[A]at bw;cases bw;have ag:∀ k,k<i->listed.getD k false=false->∃ q ∈ X i,q.1=k:=fun k C S=>by
          rcases JX (g.sb i o A aq) k C with h|h
          .rw[br k h]at S;cases S
          .exact h
         have q2:=g.heap ph (fun k _ C S=>by
          obtain⟨q,Y,e⟩:=ag k C S;obtain⟨_,_,p,hp,U⟩:=g.inX i A2 q Y;rw[e]at U;exact zH U) inv
         have dp:St P base ar ρ (M 0) (M i) w1 w':=St.trans (az.less (E i ops.size A2 (A6 _)).1) ah q2;have ax:At P base gl ρ (M i) (M ops.size).hi w':=ae.step q2;obtain⟨d1,d2,d3,bl⟩:=g.st i o A;have bu:∀ t,t ∈ U4 ops.toList o->t<nt->VR ρ ((F i).get t) (a.tmps.getD t undef):=fun t ht cq=>by
          rw[<- g.look al.le an ao A Z hr ht cq];exact inv.frm t cq
         have dx:FR ρ (F i) a.eval o.op:=fun x hx=>by
          have bz:okX nt gl x=true:=D2.1 d2 x hx;cases x with
          | tmp t=>exact bu t (uK hx rfl) (A1 bz)
          | const v=>exact VR.ofC bz
          | global gg=>exact VR.ptr (o:=0) (ax.gr gg (A1 bz))
          | func f=>exact .func (a:=[]) (b:=[]) (a':=[]) (b':=[]) rfl rfl (fun i v v' h=>by simp at h) (fun i v v' h=>by simp at h)
         have ct:∀ lg b,v6 nt (F i) (M i).lg ops.toList o=some (b,lg)->Sat lg->Region.wanted o (yielded ops a.tmps)=b:=fun lg b hw bc=>by
          unfold v6 at hw;split at hw
          .rename_i hg;cases hw;simp[Region.wanted,hg]
          .rename_i j want hg;split at hw
           .rename_i p hp;split at hw
            .rename_i t ht;obtain⟨h1,O⟩:=A3 hw;have h1:t<nt:=A1 h1;have hv:=bu t (by
              unfold U4;refine B6.2 (.inr (B6.2 (.inr ?_)));simp[hg,hp,ht]) h1
             exact kY hg hp ht (by rw[inv.tsz];exact h1) (nP O hv bc)
            .cases hw
           .cases hw
         have bo:∀ (y:Ren) (v':Value),(∀ b l,ρ b=some l->y b=some l)->VR y (V i) v'->∀ t,t<nt->VR y (s8 (fun k=>(listed.setIfInBounds i true).getD k false) (fun k=>(ops[k]?).bind (·.dst)) V (F 0).get t ops.size) ((a.put o.dst v').tmps.getD t undef):=fun y v' he hv t ht=>by
          by_cases hd:o.dst=some t
          .have ak:∀ k,i<k->k<ops.size->(ops[k]?).bind (·.dst)=some t->listed.getD k false=false:=fun k dk C cf=>by
            obtain⟨p,hp⟩:=O6 (ops:=ops) C;rw[hp]at cf
            have:=g.slot an ao A Z hr (t:=t) (by unfold U4;simp[hd]) k p hp A2 cf;cases Y:listed.getD k false with
            | false=>rfl
            | true=>have:=this.1 Y;omega
           rw[pP (D:=fun k=>listed.getD k false) u J ops.size bm (by simp[A,hd]) ak];simp only[hd,Act.put,B5];rw[F3,A9 rfl,A9 (by rw[inv.tsz];exact ht)];exact hv
          .rw[mX (D:=fun k=>listed.getD k false) u (by simp[A];exact hd)];have h1:=(inv.frm t ht).mono he;cases ch:o.dst with
           | none=>exact h1
           | some d =>
             have du:d≠t:=fun e=>hd (e▸ch)
             simp only[Act.put,B5]at h1 ⊢;rw[F3,A8 du];exact h1
         have hX:X (i+1)=X i/\WW ((X6 ops.toList []).getD i []) (M (i+1)).H (X i)=true:=by
          rcases g.qs i o A with⟨_,h3,h4⟩|⟨h3,_⟩|⟨h3,_⟩
          .exact⟨h3,h4⟩
          .rw[aq]at h3;cases h3
          .rw[aq]at h3;cases h3
         have ak:∀ (y:Ren) (v':Value) (G:World),VR y (V i) v'->St P base ρ y (M i) (M (i+1)) w' G->fY P z.rd .any ops Q fuel (listed.setIfInBounds i true) (a.put o.dst v') G:=fun y v' G hv ai=>by
          obtain⟨dt,u1,u2,u3,u4⟩:=qP ops B (ops.size-(i+1)) (i+1) A2;have bk:=ax.step ai;refine ih (listed.setIfInBounds i true) (i+1) dt y y _ G G bg bq bh ⟨u1,u2,bk.nh,u3⟩ u4 (St.trans (az.less (E (i+1) ops.size A2 (A6 _)).1) dp ai) bk (fun q Y S=>?_) (fun k C S=>?_) (fun k p C hp hl=>?_)
           (g.fresh (fun k C hl=>?_) ai.hr ?_ ?_ (bo y v' ai.ext hv))
          .rw[hX.1]at Y;have h5:=D2.1 hX.2 q Y;rcases I1 _ _▸h5 with h5|h5
           .exfalso;have h6:=br q.1 (U7.1 h5);by_cases e:q.1=i
            .rw[e,Z]at h6;cases h6
            .rw[u _ e,h6]at S;cases S
           .exact h5
          .rw[hX.1];by_cases e:k=i
           .subst e;rw[J]at S;cases S
           .rw[u k e]at S;exact ag k A2 S
          .rw[u k A2]at hl;exact K k p A2 hp hl
          .have hl:(listed.setIfInBounds i true).getD k false=true:=hl;rw[u k A2]at hl;obtain⟨p,hp⟩:=O6 (ops:=ops) (ao k hl);exact zH (g.kind hp (K k p A2 hp hl))
          .cases ch:o.dst<;>simp[Act.put,inv.tsz]
          .rw[dG];exact inv.dfr.congr ai.ext fun _=>⟨rfl,rfl⟩
         unfold eZ;simp only[A];rcases bl with⟨N,_⟩|⟨N,_⟩|⟨_,lg,hw,bt,cl⟩|⟨N,_⟩
         .rw[aq]at N;cases N
         .rw[aq]at N;cases N
         .have cb:=aj (i+1) A2;have bc:Sat lg:=Q8.le cb (by have:=o7 T bt;rw[Z1]at this;exact this);rw[ct lg true hw bc];simp only[if_true];have cp:At P base gl ρ ((M i).wLg lg) (M (i+1)).hi w':=(ax.wLg lg).less (E (i+1) ops.size A2 (A6 _)).1;refine oA T bt cb cp dx fun v' y G hv ai=>ak y v' G hv ?_
          have ck:=St.wLg (m:=M i) ax.hr lg;exact St.trans (by have:=ax.fr;exact this.less (E (i+1) ops.size A2 (A6 _)).1) ck ai
         .rw[aq]at N;cases N
  obtain⟨up,u1,u2,u3,u4⟩:=qP ops B ops.size 0 A2;have bn:∀ k,(Array.replicate ops.size false).getD k false=false:=fun k=>by
   simp only[B5,eX];split<;>simp
  refine main ops.size _ 0 up ar ar a0 w1 w1 (by simp) (by simp[List.countP_replicate]) (fun k o A C=>by have C:(Array.replicate ops.size false).getD k false=true:=C;rw[bn k]at C;cases C) ⟨u1,u2,av.nh,u3⟩ u4 (St.refl av.hr) av (fun q Y=>by rw[g.x0]at Y;cases Y) (fun k C=>by omega) (fun k o C A hl=>by rw[bn k]at hl;cases hl)
   (g.fresh (fun k _ hl=>by have hl:(Array.replicate ops.size false).getD k false=true:=hl;rw[bn k]at hl;cases hl) av.hr al.size (by rw[f1];exact al.zr) fun t ht=>?_)
  have h0:∀ n,s8 (fun k=>(Array.replicate ops.size false).getD k false) (fun k=>(ops[k]?).bind (·.dst)) V (F 0).get t n=(F 0).get t:=by
   intro n;induction n with
   | zero=>rfl
   | succ n bp=>rw[s8,A8 (fun hh=>by rw[bn n]at hh;exact absurd hh.1 (by simp)),bp]
  rw[h0,f1];exact al.get t ht
end
end
section
open Go
variable [Ora]
section
variable {P:Program} {base gl:Nat}
def uB{f:FuncId}{e:U8->Sem Value}{args:U8}{w w':World}{v:Value}(i:P.funcs[f]? = some fn)(b:(fn.name == "runtime.NumGoroutine")=false)(g:fn.body=none)(d:Extern.findNext fn=none)(he:Extern.find fn=some e)
  (hr:(e args).run P w=.ok v w'):(callFunc f args).run P w=.ok (.value v) w':=by
 have a:fn.name ≠ "runtime.NumGoroutine":=by simpa using b
 simp[callFunc,A4,run_program,Result.andThen,i,a,g,d,he,mark,Sem.run,hr]
def kH{k:EK}{vs:C9}{v:Value}(h:nA k vs m=some (v,m')) :
  (k=.noEscape/\vs=[v]/\m'=m) ∨
  (k=.indexByteString/\∃ s c,vs=[.string s,.int .u8 (.ofNat c)]/\v=.int .i64 (qZ s.data.toList (UInt8.ofNat c) 0)/\m'=m) ∨
  (k=.countString/\∃ s c,vs=[.string s,.int .u8 (.ofNat c)]/\v=.int .i64 (rN (UInt8.ofNat c) s.data.toList 0)/\m'=m) ∨
  (∃ e n,k=.makeNoZero e/\vs=[.int .i64 (.ofNat n)]/\n<=1000000000/\Y1 m (.cells [] e false) (fun b=>.slice (some ⟨b,0,none⟩) n M1)=some (v,m')):=by
 unfold nA at h;split at h
 .cases h;exact .inl ⟨rfl,rfl,rfl⟩
 .cases h;exact .inr (.inl ⟨rfl,_,_,rfl,rfl,rfl⟩)
 .cases h;exact .inr (.inr (.inl ⟨rfl,_,_,rfl,rfl,rfl⟩))
 .obtain⟨h1,h⟩:=A3 h;exact .inr (.inr (.inr ⟨_,_,rfl,rfl,A1 h1,h⟩))
 .cases h
def uC{k:EK}{vs:C9}{v:Value}(h:(FnC.mk (nA k)).run vs m=some (v,m')):m.lg.le m'.lg:=by
 have h:nA k vs m=some (v,m'):=h;rcases kH h with⟨_,_,rfl⟩|⟨_,_,_,_,_,rfl⟩|⟨_,_,_,_,_,rfl⟩|⟨_,_,_,_,_,h⟩
 .exact .refl _
 .exact .refl _
 .exact .refl _
 .obtain⟨_,_,rfl⟩:=K6 h;exact .refl _
def GI{f:FuncId}(j:P.funcs[f]? = some fn)(a:(fn.name == "runtime.NumGoroutine")=false)(i:fn.body=none)(e:Extern.findNext fn=none)(he:Extern.find fn=some Extern.AbiNoEscape.same):kU P base gl f ⟨nA .noEscape⟩:=by
 refine⟨fun vs m m' v hr=>uC hr,?_⟩;intro ρ m m' w vs vs' v hr l b g;have hr:nA .noEscape vs m=some (v,m'):=hr;rcases kH hr with⟨_,rfl,rfl⟩|⟨h,_⟩|⟨h,_⟩|⟨_,_,h,_⟩
 .obtain⟨v',k,rfl,h1,d⟩:=g.tail;cases d.nil_inv;exact .inr ⟨v',ρ,w,uB j a i e he rfl,h1,.refl b.hr⟩
 .cases h
 .cases h
 .cases h
def zY(c:UInt8):∀ (l:List UInt8) (k:Nat),qZ l c k=if Lib.indexByte l c == -1 then -1 else Lib.indexByte l c+k
 | [],k=>rfl
 | x::r,k=>by
   have f:=Lib.indexByte_ge r c;have b:=zY c r (k+1);rw[qZ,Lib.indexByte];by_cases e:x=c
   .subst e;simp
   .have d:(x == c)=false:=by simpa using e
    simp only[d,E9 e,D4];rw[b];by_cases h:Lib.indexByte r c = -1
    .simp[h]
    .have a:(Lib.indexByte r c == -1)=false:=by simpa using h
     have h3:(Lib.indexByte r c+1 == -1)=false:=by simp;omega
     simp only[a,h3,I6,if_false];omega
def LB(c:UInt8)(l:List UInt8):qZ l c 0=Lib.indexByte l c:=by
 rw[zY];by_cases h:Lib.indexByte l c = -1
 .simp[h]
 .have a:(Lib.indexByte l c == -1)=false:=by simpa using h
  simp[a]
def nD(c:UInt8):∀ (l:List UInt8) (n:Nat),rN c l n=n+l.count c
 | [],n=>rfl
 | x::r,n=>by
   rw[rN,List.count_cons];by_cases e:x=c
   .subst e;simp only[decide_true,D8,E1,beq_self_eq_true,if_true];rw[nD x r (n+1)];omega
   .have a:(x == c)=false:=by simpa using e
    simp only[E9 e,D4,a,I6,if_false];rw[nD c r n];omega
def CU{f:FuncId}(k:P.funcs[f]? = some fn)(a:(fn.name == "runtime.NumGoroutine")=false)(j:fn.body=none)(e:Extern.findNext fn=none)(he:Extern.find fn=some Extern.BytealgIndexByte.indexByte):kU P base gl f ⟨nA .indexByteString⟩:=by
 refine⟨fun vs m m' v hr=>uC hr,?_⟩;intro ρ m m' w vs vs' v hr n b i;have hr:nA .indexByteString vs m=some (v,m'):=hr;rcases kH hr with⟨h,_⟩|⟨_,s,c,rfl,rfl,rfl⟩|⟨h,_⟩|⟨_,_,h,_⟩
 .cases h
 .obtain⟨v1,r1,rfl,h1,d⟩:=i.tail;obtain⟨v2,l,rfl,h3,g⟩:=d.tail;cases g.nil_inv;cases T7 h1;cases I4 h3;refine .inr ⟨_,ρ,w,uB k a j e he (Lib.run_indexByteString s (.ofNat c) w),?_,.refl b.hr⟩;rw[LB];exact .pure rfl
 .cases h
 .cases h
def wW{f:FuncId}(k:P.funcs[f]? = some fn)(a:(fn.name == "runtime.NumGoroutine")=false)(j:fn.body=none)(e:Extern.findNext fn=none)(he:Extern.find fn=some Extern.BytealgCount.count):kU P base gl f ⟨nA .countString⟩:=by
 refine⟨fun vs m m' v hr=>uC hr,?_⟩;intro ρ m m' w vs vs' v hr n b i;have hr:nA .countString vs m=some (v,m'):=hr;rcases kH hr with⟨h,_⟩|⟨h,_⟩|⟨_,s,c,rfl,rfl,rfl⟩|⟨_,_,h,_⟩
 .cases h
 .cases h
 .obtain⟨v1,r1,rfl,h1,d⟩:=i.tail;obtain⟨v2,l,rfl,h3,g⟩:=d.tail;cases g.nil_inv;cases T7 h1;cases I4 h3;refine .inr ⟨_,ρ,w,uB k a j e he (Lib.run_countString s (.ofNat c) w),?_,.refl b.hr⟩;rw[nD,E8];exact .pure rfl
 .cases h
def yI{f:FuncId}{ps:Array TypeId}{t e:TypeId}(z:P.funcs[f]? = some fn)(j:(fn.name == "runtime.NumGoroutine")=false)(x:fn.body=none)(l:Extern.findNext fn=none)(he:Extern.find fn=some (Extern.BytealgMakeNoZero.makeNoZero ps #[t]))
  (hu:P.underlying t=some (.slice e)) (hi:(P.info? e).map (·.size)=some 1):kU P base gl f ⟨nA (.makeNoZero e)⟩:=by
 refine⟨fun vs m m' v hr=>uC hr,?_⟩;intro ρ m m' w vs vs' v hr A a q;have hr:nA (.makeNoZero e) vs m=some (v,m'):=hr;rcases kH hr with⟨h,_⟩|⟨h,_⟩|⟨h,_⟩|⟨e',n,h,rfl,y,hr⟩
 .cases h
 .cases h
 .cases h
 .cases h;obtain⟨v1,r1,rfl,h1,g⟩:=q.tail;cases g.nil_inv;cases I4 h1;obtain⟨cs,d,hle,_⟩:=Lib.run_makeNoZero (P:=P) w ps t e hu n A2;obtain⟨s,p,k⟩:=cQ (wd:=w.drew.drew) (fz:=(0,0)) (cap:=cs.size) (C:=cs) (cs':=[]) a.hr a.bs hr a.fr (.nil) (fun i u hi=>by simp at hi) NF.zero
   (fun inf g=>by rw[g]at hi;have hi:some inf.size=some 1:=hi;have hi:=A7 hi;rw[hi];omega) ⟨rfl,rfl,rfl⟩ rfl
  refine .inr ⟨_,_,_,uB z j x l he d,?_,k⟩;rw[s]
  have:=VR.op (ρ:=upd ρ m.n (lc w.heap.size 0 cs.size)) (b:=m.n) (o:=0) (n:=n) (m:=M1) (m':=cs.size) p (A6 _) hle (fun _ _=>rfl)
  simpa using this
end
end
section
open Go
variable [Ora]
structure xQ (P:Program) (f:FuncId) (k:EK):Prop where
 row:∃ fn,P.funcs[f]? = some fn/\(fn.name == "runtime.NumGoroutine")=false/\fn.body=none/\Extern.findNext fn=none /\
  ((k=.noEscape/\Extern.find fn=some Extern.AbiNoEscape.same)∨(k=.indexByteString/\Extern.find fn=some Extern.BytealgIndexByte.indexByte)∨(k=.countString/\Extern.find fn=some Extern.BytealgCount.count) ∨
    (∃ e ps t,k=.makeNoZero e/\Extern.find fn=some (Extern.BytealgMakeNoZero.makeNoZero ps #[t])/\P.underlying t=some (.slice e)/\(P.info? e).map (·.size)=some 1))
def xQ.ok{P:Program}{f:FuncId}{k:EK}{base gl:Nat}(h:xQ P f k):kU P base gl f ⟨nA k⟩:=by
 obtain⟨fn,h1,b,h3,d,a⟩:=h.row;rcases a with⟨rfl,a⟩|⟨rfl,a⟩|⟨rfl,a⟩|⟨e,ps,t,rfl,a,i,g⟩
 .exact GI h1 b h3 d a
 .exact CU h1 b h3 d a
 .exact wW h1 b h3 d a
 .exact yI h1 b h3 d a i g
def AH:∀ {l:List (FuncId×EK)} {f:FuncId} {k:EK},HU l f=some k->(f,k) ∈ l
 | (g,j)::r,f,k,h=>by
   rw[HU]at h;cases e:Nat.beq g f with
   | true =>
     rw[e]at h;cases h;rw[A0 e];exact .head _
   | false =>
     rw[e]at h;exact .tail _ (AH h)
theorem A1t{P:Program}{ext:List (FuncId×EK)}{gl base:Nat}{con:FuncId->Option FnC}{lp:FuncId->LpT}(hm:P.follows .mixedOrders=true)(a:DV P)(he:∀ p ∈ ext,xQ P p.1 p.2)
  (b:∀ f c,con f=some c->kU P base gl f c) (d:∀ f fn body,P.funcs[f]? = some fn->fn.body=some body->MF P base gl fn.ntmps body (lp f)) :
  A2G ⟨P,ext,gl,con,lp⟩ base :=
 { names:=a,ext:=fun f k fn _ _ h=>(he _ (AH h)).ok,con:=b,lp:=d,draws:=fun _ h=>YY hm h }
end
section
open Go
inductive Sh where
 | s (t:Nat)
 | a (ts:List Nat)
def EH(t:Nat)(u:U):P4:=if F5 u=t then toV u else none
def PZ:G5->List U->Option (C9×List U)
 | [],us=>some ([],us)
 | t::ts,u::us=>match EH t u,PZ ts us with
   | some v,some (vs,r)=>some (v::vs,r)
   | _,_=>none
 | _::_,[]=>none
def EG:Sh->List U->Option (Value×List U)
 | .s t,u::us=>match EH t u with
   | some v=>some (v,us)
   | none=>none
 | .s _,[]=>none
 | .a ts,us=>match PZ ts us with
   | some (vs,r)=>some (.agg ⟨vs⟩,r)
   | none=>none
def PY:List Sh->List U->Option C9
 | [],[]=>some []
 | [],_::_=>none
 | h::hs,us=>match EG h us with
   | some (v,r)=>match PY hs r with
     | some vs=>some (v::vs)
     | none=>none
   | none=>none
def tup:C9->Value
 | [v]=>v
 | vs=>.tuple ⟨vs⟩
structure kT (w w':World):Prop where
 os:w'.os=w.os/\w'.tape=w.tape/\w'.output=w.output
 size:w.heap.size<=w'.heap.size
 keep:∀ k,k<w.heap.size->w'.heap[k]? = w.heap[k]?
def GOk(G:Nat->Option Obj)(w:World):Prop:=∀ k o,G k=some o->w.heap[k]? = some o
def GOk.lt{G:Nat->Option Obj}{w:World}(h:GOk G w){k:Nat}{o:Obj}(a:G k=some o):k<w.heap.size:=by
 have:=h k o a;rcases F2 k w.heap.size with h1|h1
 .exact h1
 .rw[Array.getElem?_eq_none h1]at this;cases this
abbrev bX:=List U->Option (Nat×List U)
def Sh.tags:Sh->G5
 | .s t=>[t]
 | .a b=>b
def yT:List Sh->G5
 | []=>[]
 | s::ss=>s.tags++yT ss
def Sh.n(s:Sh):Nat:=s.tags.length
def shN:List Sh->Nat
 | []=>0
 | h::hs=>h.n+shN hs
def kL(a:List Sh):Bool:=(yT a).any (Nat.ble 10)
inductive ShR (R:Nat->Option Obj):Sh->List U->Value->Prop
 | s {t u v} (h:Enc R u v) (ht:F5 u=t):ShR R (.s t) [u] v
 | a {ts us cs} (h:X7 R us cs) (ht:us.map F5=ts):ShR R (.a ts) us (.agg ⟨cs⟩)
inductive ShL (R:Nat->Option Obj):List Sh->List U->C9->Prop
 | nil:ShL R [] [] []
 | cons {s ss us us2 v vs} (h:ShR R s us v) (k:ShL R ss us2 vs):ShL R (s::ss) (us++us2) (v::vs)
def X7.append{R:Nat->Option Obj}{us b:List U}{vs:C9}(h:X7 R us vs)(k:X7 R b vs2):X7 R (us++b) (vs++vs2):=by
 refine⟨by simp[h.1,k.1],fun i u v h1 d=>?_⟩;rcases F2 i us.length with a|a
 .rw[E6 a]at h1;rw[E6 (h.1▸a)]at d;exact h.2 i u v h1 d
 .rw[D7 a]at h1;rw[D7 (h.1▸a),<- h.1]at d;exact k.2 _ u v h1 d
def X7.split{R:Nat->Option Obj}:∀ {vs vs2:C9} {us:List U},X7 R us (vs++vs2)->∃ a b,us=a++b/\X7 R a vs/\X7 R b vs2
 | [],vs2,us,h=>⟨[],us,rfl,.nil,h⟩
 | v::vs,vs2,[],h=>by have:=h.1;simp at this
 | v::vs,vs2,u::us,h=>by
   obtain⟨a,b,rfl,h1,d⟩:=X7.split (vs:=vs) (vs2:=vs2) (us:=us) ⟨by have:=h.1;simpa using this,fun i x y e a2=>h.2 (i+1) x y (by simpa using e) (by simpa using a2)⟩;exact⟨u::a,b,rfl,.cons (h.2 0 u v rfl rfl) h1,d⟩
def X7.mono{R d:Nat->Option Obj}{us:List U}{vs:C9}(h:X7 R us vs)(k:Sub R d):X7 d us vs:=⟨h.1,fun i u v a b=>(h.2 i u v a b).mono k⟩
def EJ{R:Nat->Option Obj}:∀ {b:G5} {us r:List U} {vs:C9},PZ b us=some (vs,r)->∃ a,us=a++r/\X7 R a vs/\a.map F5=b
 | [],us,r,vs,h=>by cases h;exact⟨[],rfl,.nil,rfl⟩
 | t::b,u::us,r,vs,h=>by
   unfold PZ at h;split at h
   .rename_i v i j h1 d;cases h;obtain⟨a,rfl,f,g⟩:=EJ (R:=R) d;unfold EH at h1;split at h1
    .rename_i e;exact⟨u::a,rfl,.cons (.sc h1) f,by simp[e,g]⟩
    .cases h1
   .cases h
 | _::_,[],_,_,h=>by cases h
def PX{R:Nat->Option Obj}{s:Sh}{us r:List U}{v:Value}(h:EG s us=some (v,r)):∃ a,us=a++r/\ShR R s a v:=by
 cases s with
 | s t =>
   cases us with
   | nil=>cases h
   | cons u us =>
     simp only[EG]at h;split at h
     .rename_i v1 hv;cases h;unfold EH at hv;split at hv
      .rename_i b;exact⟨[u],rfl,.s (.sc hv) b⟩
      .cases hv
     .cases h
 | a i =>
   simp only[EG]at h;split at h
   .rename_i vs g hv;cases h;obtain⟨a,e,f,d⟩:=EJ (R:=R) hv;exact⟨a,e,.a f d⟩
   .cases h
def uV{R:Nat->Option Obj}:∀ {b:List Sh} {us:List U} {vs:C9},PY b us=some vs->ShL R b us vs
 | [],[],vs,h=>by cases h;exact .nil
 | [],_::_,_,h=>by cases h
 | s::b,us,vs,h=>by
   unfold PY at h;split at h
   .rename_i v r hv;split at h
    .rename_i f e;cases h;obtain⟨a,rfl,d⟩:=PX (R:=R) hv;exact .cons d (uV e)
    .cases h
   .cases h
def YW{R:Nat->Option Obj}{us:List U}{vs:C9}(h:X7 R us vs)(b:vs2.length=us.length)(k:∀ (i:Nat) (u:U) (v:Value),us[i]? = some u->vs2[i]? = some v->toV u=some v):vs=vs2:=by
 refine eS fun i=>?_
 rcases F2 i us.length with hi|hi
 .have h1:us[i]? = some us[i]:=A5 hi;have a:vs[i]? = some (vs[i]'(h.1▸hi)):=A5 _;have h3:vs2[i]? = some (vs2[i]'(b▸hi)):=A5 _;rw[a,h3,eL (h.2 i _ _ h1 a) (k i _ _ h1 h3)]
 .rw[S4 (by rw[<- h.1];exact hi),S4 (by rw[b];exact hi)]
def EI:∀ {b:G5} {us r:List U} {vs:C9},PZ b us=some (vs,r)->∃ a,us=a++r/\vs.length=a.length/\a.length=b.length/\∀ (i:Nat) (u:U) (v:Value),a[i]? = some u->vs[i]? = some v->toV u=some v
 | [],us,r,vs,h=>by cases h;exact⟨[],rfl,rfl,rfl,fun i u v h=>by simp at h⟩
 | t::b,u::us,r,vs,h=>by
   unfold PZ at h;split at h
   .rename_i v j l h1 e;cases h;obtain⟨a,rfl,g,k,f⟩:=EI e;unfold EH at h1;split at h1
    .refine⟨u::a,rfl,by simp[g],by simp[k],fun i x y d a2=>?_⟩;cases i with
     | zero=>simp at d a2;subst d;subst a2;exact h1
     | succ i=>exact f i x y (by simpa using d) (by simpa using a2)
    .cases h1
   .cases h
 | _::_,[],_,_,h=>by cases h
def R5{R:Nat->Option Obj}:∀ {i:List Sh} {us:List U} {vs vs2:C9},ShL R i us vs->PY i us=some vs2->vs=vs2
 | [],us,vs,vs2,h,k=>by cases h;cases k;rfl
 | s::i,us,vs,vs2,h,k=>by
   cases h with
   | cons h1 j =>
     rename_i d f v vs;unfold PY at k;split at k
     .rename_i v1 r hv;split at k
      .rename_i x l;cases k;have n:d++f=d++f:=rfl;cases h1 with
       | s he g =>
         rename_i t u;have b:(match EH t u with|some v=>some (v,f)|none=>none)=some (v1,r):=hv;cases e:EH t u with
         | none=>rw[e]at b;cases b
         | some w =>
           rw[e]at b;cases b;unfold EH at e;rw[A9 g]at e;rw[eL he e,R5 j l]
       | a he g =>
         rename_i D cs;simp only[EG]at hv;split at hv
         .rename_i y C p;cases hv;obtain⟨a,q,A,o,z⟩:=EI p;have hlen:a.length=d.length:=by rw[o,<- g];simp
          obtain⟨rfl,rfl⟩:=List.append_inj q hlen.symm;rw[YW he A z,R5 j l]
         .cases hv
      .cases k
     .cases k
def M7(P:Program)(G:Nat->Option Obj)(f:FuncId)(ps:List Sh)(spec:bX)(rs:List Sh):Prop :=
 ∀ (us outs:List U) (w:World) (vs:List Value) (R:Nat->Option Obj),ShL R ps us vs->spec us=some (0,outs)->GOk G w->GOk R w ->
  (callFunc f ⟨vs⟩).run P w=.ok (.enter f ⟨vs⟩) w/\Calls P f ⟨vs⟩ w (fun e w'=>∃ r a,ShL a rs outs r/\e=.returned (tup r)/\kT w w'/\GOk a w'/\∀ k o,a k=some o->w.heap.size<=k∨∃ o',R k=some o')
def unA:List Sh->C9->Option C9
 | [],[]=>some []
 | .s _::ss,v::vs=>match unA ss vs with
   | some r=>some (v::r)
   | none=>none
 | .a ts::ss,.agg cs::vs=>bif Nat.beq cs.toList.length ts.length then match unA ss vs with
   | some r=>some (cs.toList++r)
   | none=>none else none
 | _,_=>none
def nX(P:Program)(ps:List Sh)(vs:List Value)(m:Mem):Option (C9×Mem) :=
 match unA ps vs with
 | some cs=>match xT (tdP P) (yT ps) cs m with
   | some (xs,[],m)=>some (xs,m)
   | some (xs,gs,m)=>match iI gs m with
     | some (_,m)=>some (xs,m)
     | none=>none
   | none=>none
 | none=>none
def OP(i t b:Nat):Value:=bif Nat.blt t 10 then hole i t else dat b i t
def SM:G5->Nat->Nat->C9
 | [],_,_=>[]
 | t::ts,i,b=>OP i t b::SM ts (i+1) b
def A36:Sh->Nat->Nat->Value
 | .s t,i,b=>OP i t b
 | .a ts,i,b=>.agg ⟨SM ts i b⟩
def uJ:List Sh->Nat->Nat->C9
 | [],_,_=>[]
 | h::hs,i,b=>A36 h i b::uJ hs (i+h.n) b
def QR(rs:List Sh)(nx:Nat)(m:Mem):Res :=
 bif kL rs then match eU m fun b m=>some (tup (uJ rs nx b),b,m)with
  | some (v,_,m)=>some (v,m)
  | none=>none
 else some (tup (uJ rs nx 0),m)
def A6z(m:Mem)(hi:Nat)(v:Value)(lg:Lg):Res :=
 match m with
 | ⟨H,n,W,_,_⟩=>some (v,⟨H,n,W,hi,lg⟩)
def A1z(P:Program)(ps:List Sh)(spec:bX)(rs:List Sh):FnC:=⟨fun vs m =>
 match nX P ps vs m with
 | some (xs,⟨H,n,W,hi,⟨nx,pi,log⟩⟩)=>I8 nx fun nx=>Q3 xs fun xs=>I8 (nx+shN rs) fun a=>bif kL rs then QR rs nx ⟨H,n,W,hi,⟨a,pi,.con spec xs nx 0 (shN rs)::log⟩⟩else A6z m hi (tup (uJ rs nx 0)) ⟨a,pi,.con spec xs nx 0 (shN rs)::log⟩
 | none=>none⟩
def PN{P:Program}{ps:List Sh}{spec:bX}{rs:List Sh}{vs:C9}{v:Value}(h:(A1z P ps spec rs).run vs m=some (v,m')) :
  ∃ xs m1,nX P ps vs m=some (xs,m1)/\((kL rs=true/\QR rs m1.lg.nx (m1.wLg ⟨m1.lg.nx+shN rs,m1.lg.pi,.con spec xs m1.lg.nx 0 (shN rs)::m1.lg.log⟩)=some (v,m'))∨(kL rs=false/\v=tup (uJ rs m1.lg.nx 0)/\m'=⟨m.H,m.n,m.W,m1.hi,⟨m1.lg.nx+shN rs,m1.lg.pi,.con spec xs m1.lg.nx 0 (shN rs)::m1.lg.log⟩⟩)):=by
 unfold A1z at h;simp only at h;split at h
 .rename_i xs H n W hi nx pi log hx;simp only[E1,H4]at h;refine⟨xs,_,hx,?_⟩;cases a:kL rs with
  | true=>rw[a]at h;exact .inl ⟨rfl,h⟩
  | false =>
    rw[a]at h;obtain⟨g,e,f,d,b⟩:=m;cases h;exact .inr ⟨rfl,rfl,rfl⟩
 .cases h
variable [Ora]
def JI{ρ:Ren}:∀ {b:List Sh} {vs vs' cs:C9},unA b vs=some cs->LR ρ vs vs'->∃ cs',unA b vs'=some cs'/\LR ρ cs cs'
 | [],[],vs',cs,h,hl=>by cases h;rw[hl.nil_inv];exact⟨[],rfl,.nil⟩
 | [],_::_,_,_,h,_=>by cases h
 | .s t::b,[],_,_,h,_=>by cases h
 | .a t::b,[],_,_,h,_=>by cases h
 | .s t::b,v::vs,vs',cs,h,hl=>by
   obtain⟨v',k,rfl,h1,d⟩:=hl.tail;unfold unA at h;split at h
   .rename_i r hr;cases h;obtain⟨cs',e,g⟩:=JI hr d;exact⟨v'::cs',by simp[unA,e],.cons h1 g⟩
   .cases h
 | .a ts::b,v::vs,vs',cs,h,hl=>by
   obtain⟨v',k,rfl,h1,d⟩:=hl.tail;cases v with
   | agg c =>
     unfold unA at h;obtain⟨hlen,h⟩:=A3 h;split at h
     .rename_i r hr;cases h;obtain⟨cs',e,g⟩:=JI hr d;obtain⟨i,rfl,j⟩:=U5 h1;refine⟨i++cs',?_,j.append g⟩;have f:Nat.beq i.length ts.length=true:=by rw[<- j.1];exact hlen
      simp[unA,e,f]
     .cases h
   | _=>cases h
def cH{R:Nat->Option Obj}:∀ {e:List Sh} {vs cs:C9} {us:List U},unA e vs=some cs->X7 R us cs->us.map F5=yT e->ShL R e us vs
 | [],[],cs,us,h,he,ht=>by
   cases h;have:us=[]:=F6.1 he.1;subst this;exact .nil
 | [],_::_,_,_,h,_,_=>by cases h
 | .s t::e,[],_,_,h,_,_=>by cases h
 | .a t::e,[],_,_,h,_,_=>by cases h
 | .s t::e,v::vs,cs,us,h,he,ht=>by
   unfold unA at h;split at h
   .rename_i r hr;cases h;obtain⟨a,b,rfl,d,f⟩:=X7.split (vs:=[v]) (vs2:=r) he
    match a,d with
    | [u],d =>
      simp only[List.singleton_append,C4,yT,Sh.tags,R4,G1,I5]at ht;exact .cons (.s (d.2 0 u v rfl rfl) ht.1) (cH hr f ht.2)
    | [],d=>have:=d.1;simp at this
    | _::_::_,d=>have:=d.1;simp at this
   .cases h
 | .a ts::e,v::vs,cs,us,h,he,ht=>by
   cases v with
   | agg c =>
     unfold unA at h;obtain⟨hlen,h⟩:=A3 h;have hlen:=A0 hlen;split at h
     .rename_i r hr;cases h;obtain⟨a,b,rfl,d,f⟩:=X7.split he;simp only[S9,yT,Sh.tags]at ht;obtain⟨t1,t2⟩:=List.append_inj ht (by simp[d.1,hlen]);obtain⟨l⟩:=c;exact .cons (.a d t1) (cH hr f t2)
     .cases h
   | _=>cases h
section
variable {P:Program} {base gl:Nat}
def A7f(ρ:Ren)(m:Mem)(R:Nat->Option Obj):Prop:=∀ k o,R k=some o->∃ id ab l,id<=G9/\Hp.get m.H id=some ab/\ρ id=some l/\Tf ab l k/\ab.rw=false
def EP{ρ:Ren}{w:World}{ps:List Sh}{vs xs:C9}(h:HR P base ρ m.H w)(d:nX P ps vs m=some (xs,m'))(j:J2 ρ m.n m'.hi)(hv:LR ρ vs vs')(D:Sat m'.lg) :
  ∃ a R,St P base ρ a m m' w w/\m.lg.le m'.lg/\ShL R ps (xs.map (D3 Ora.env)) vs'/\GOk R w/\A7f a m' R:=by
 unfold nX at d;split at d
 .rename_i cs v;obtain⟨cs',C,E⟩:=JI v hv;split at d
  .rename_i q m1 x;cases d;obtain⟨a,f,a2,a3,a4,a5,p⟩:=fZ U0 h x j E D;exact⟨a,fun _=>none,f,a2,cH C (p _ fun b u=>by cases u) a5,(fun k o i=>by cases i),(fun k o i=>by cases i)⟩
  .rename_i q gs m1 x;split at d
   .rename_i g m2 z;cases d;have y:=M2 z;obtain⟨J,f,a2,a3,a4,a5,p⟩:=fZ U0 h x (j.less y.1) E (by rw[<- y.2.1];exact D);obtain⟨ρ2,lg,t,L,N,s,A,K⟩:=dM f.hr z (j.step f);have e:=(t.hr.atl s A).1.2;exact⟨ρ2,lg.G,St.trans j f t,by rw[y.2.1];exact a2,cH C (p _ fun b u l I=>K b u l I) a5,e,fun k o i=>⟨g,_,lg,t.hr.dom _ _ s,A,s,⟨rfl,.inr ⟨rfl,o,i⟩⟩,rfl⟩⟩
   .cases d
  .cases d
 .cases d
def HK{ρ:Ren}{R:Nat->Option Obj}{i t b:Nat}{u:U}{v:Value}(h:Enc R u v)(g:F5 u=t)(he:Ora.env i=u)(k:10<=t->ρ b=some (iS R)):VR ρ (OP i t b) v:=by
 unfold OP;cases e:Nat.blt t 10 with
 | true =>
   have a:t<10:=A1 e;obtain⟨v1,j,_,_⟩:=MO (u:=u) A2
   have:=eL h j;subst this;exact .hole (by rw[he];exact j) (by rw[he];exact g)
 | false =>
   have a:10<=t:=by
    rcases F2 t 10 with f|d
    .rw[show Nat.blt t 10=true from C5 f]at e;cases e
    .exact d
   exact .dat (k a) (by rw[he];exact h) (by rw[he];exact g) a (kJ h)
def EF{ρ:Ren}{R:Nat->Option Obj}{b:Nat}:∀ {a:G5} {us:List U} {cs:C9} {i:Nat},X7 R us cs->us.map F5=a->(∀ j u,us[j]? = some u->Ora.env (i+j)=u)->(∀ t ∈ a,10<=t->ρ b=some (iS R))->LR ρ (SM a i b) cs
 | [],us,cs,i,h,ht,he,hb=>by
   have:us=[]:=by cases us with|nil=>rfl|cons _ _=>simp at ht
   subst this;have:cs=[]:=F6.1 h.1.symm;subst this;exact .nil
 | t::a,[],cs,i,h,ht,he,hb=>by simp at ht
 | t::a,u::us,[],i,h,ht,he,hb=>by have:=h.1;simp at this
 | t::a,u::us,c::cs,i,h,ht,he,hb=>by
   simp only[C4,I5]at ht;refine .cons (HK (h.2 0 u c rfl rfl) ht.1 (he 0 u rfl) (hb t (.head _))) (EF ⟨by have:=h.1;simpa using this,fun j x y g a2=>h.2 (j+1) x y (by simpa using g) (by simpa using a2)⟩ ht.2 (fun j x e=>?_) fun f d=>hb f (.tail _ d))
   have:=he (j+1) x (by simpa using e);rw[show i+1+j=i+(j+1) by omega];exact this
def nQ{ρ:Ren}{R:Nat->Option Obj}{b:Nat}:∀ {g:List Sh} {us:List U} {vs:C9} {i:Nat},ShL R g us vs->(∀ j u,us[j]? = some u->Ora.env (i+j)=u)->(kL g=true->ρ b=some (iS R))->LR ρ (uJ g i b) vs/\us.length=shN g
 | [],us,vs,i,h,he,hb=>by cases h;exact⟨.nil,rfl⟩
 | s::g,us,vs,i,h,he,hb=>by
   cases h with
   | cons h1 w =>
     rename_i f y v vs;have q:∀ t ∈ s.tags,10<=t->ρ b=some (iS R):=fun t d e=>hb (O7.2 ⟨t,B6.2 (.inl d),C5 e⟩)
     have o:kL g=true->ρ b=some (iS R):=fun x=>by
      obtain⟨t,d,e⟩:=O7.1 x;exact hb (O7.2 ⟨t,B6.2 (.inr d),e⟩)
     have p:f.length=s.n:=by
      cases h1 with
      | s _ _=>rfl
      | a _ d=>show _=List.length _;rw[<- d];simp[Sh.tags]
     obtain⟨g1,g2⟩:=nQ (i:=i+s.n) w (fun j u l=>by
      have:=he (f.length+j) u (by rw[D7 A2,U9];exact l);rw[<- p,aY];exact this) o
     refine⟨.cons ?_ g1,by simp[shN,p,g2]⟩;have k:∀ j u,f[j]? = some u->Ora.env (i+j)=u:=fun j u l=>he j u (by rw[E6 (B0.1 l).1];exact l)
     cases h1 with
     | s h d=>exact HK h d (by have:=k 0 _ rfl;simpa using this) (q _ (.head _))
     | a h d =>
       have:=EF (b:=b) h d k q;exact .agg this.1 this.2
def SP{ρ:Ren}{vs:C9}(h:LR ρ vs vs'):VR ρ (tup vs) (tup vs'):=by
 match vs,vs',h with
 | [],vs',h=>rw[h.nil_inv];exact .tuple (a:=[]) (a':=[]) rfl (fun i v v' h1 _=>by simp at h1)
 | [v],vs',h =>
   obtain⟨v',d,rfl,h1,b⟩:=h.tail;cases b.nil_inv;exact h1
 | v::u::r,vs',h =>
   obtain⟨v',d,rfl,h1,b⟩:=h.tail;obtain⟨f,e,rfl,h3,g⟩:=b.tail;exact .tuple h.1 h.2
def St.grown{ρ:Ren}{w w':World}(h:HR P base ρ m.H w)(g:kT w w'):St P base ρ ρ m m w w' :=
 ⟨fun _ _ h=>h,fun b l h1 a=>(by rw[h1]at a;cases a),A6 _,A6 _,fun h=>h,
  ⟨h.dom,fun id hid ab e=>by
    obtain⟨l,h1,a,h3⟩:=h.at_ id hid ab e;exact⟨l,h1,a.mono (fun _ _ h=>h) (fun k d=>g.keep k (a.tc d)),h3⟩⟩,
  fun _ h=>h,fun b h1 a=>absurd h1 a,fun k d _=>g.keep k d,g.size,g.os,fun b l h1 a=>(by rw[h1]at a;cases a),fun _ _ _ _=>rfl,fun _ h=>.inr h⟩
def St.grownLg{ρ:Ren}{w w':World}(h:HR P base ρ m.H w)(g:kT w w')(lg:Lg):St P base ρ ρ m (m.wLg lg) w w':=by
 obtain⟨H,n,W,hi,l⟩:=m;have r:=St.grown (m:=⟨H,n,W,hi,l⟩) h g;exact⟨r.ext,r.new,r.nle,r.hle,r.nhi,r.hr,r.wsub,r.wrw,r.keep,r.size,r.os,r.blk,r.same,r.tch⟩
def St.ret{ρ:Ren}{w w':World}{G:Nat->Option Obj}(h:HR P base ρ m.H w)(g:kT w w')(O:Y1 m .frz (fun _=>undef)=some (undef,m1))(W:J2 ρ m.n m1.hi)(Q:GOk G w')
  (N:∀ k o,G k=some o->w.heap.size<=k∨∃ id ab l,id<=G9/\Hp.get m.H id=some ab/\ρ id=some l/\Tf ab l k/\ab.rw=false):upd ρ m.n (iS G) m.n=some (iS G)/\St P base ρ (upd ρ m.n (iS G)) m m1 w w':=by
 obtain⟨hle,_,rfl⟩:=K6 O;have t:ρ m.n=none:=W m.n (A6 _) (J9 _ _).2;have i:=V4 (l:=iS G) t;refine⟨K8 _ _ _,i,fun b q h1 f=>?_,by simp,(J9 _ _).1,fun _=>X5 (J9 _ _).2,⟨fun b q z=>?_,fun id hid a d=>?_⟩,fun b T=>T,fun b h1 f=>absurd h1 f,fun q z _=>g.keep q z,g.size,g.os,fun b q h1 f p=>?_,fun id hid h1 f=>?_,fun q ⟨id,a,l,hid,d,s,L⟩=>?_⟩
 .obtain⟨rfl,rfl⟩:=T5 h1 f;exact⟨A6 _,I3 _⟩
 .cases h0:ρ b with
  | some S=>exact h.dom b S h0
  | none=>obtain⟨rfl,rfl⟩:=T5 z h0;exact hle
 .rw[E5 _ _ _ _ hle hid]at d;by_cases e:id=m.n
  .rw[A9 e]at d;have d:=A7 d;subst d;subst e;exact⟨iS G,K8 _ _ _,⟨rfl,Q⟩,fun _ p=>(by cases p)⟩
  .rw[A8 e]at d;obtain⟨l0,h1,f,h3⟩:=h.at_ id hid a d;refine⟨l0,i _ _ h1,f.mono i (fun k U=>g.keep k (f.tc U)),fun hr p=>⟨(h3 hr p).1,fun y j A l2 g1 g2 g3=>?_⟩⟩;rw[E5 _ _ _ _ hle j]at g1;by_cases J:y=m.n
   .subst J;rw[K8]at g2
    have:=A7 g2;subst this;rcases g3 with⟨_,g3,_⟩|⟨_,o,g3⟩
    .cases g3
    .rcases N _ o g3 with x|⟨u,a3,E,I,v,K,D,C⟩
     .have:=f.tc (.inl ⟨AB.rw_on hr,p,rfl⟩);omega
     .have:=(h3 hr p).2 u I a3 E v K D.2;subst this;rw[d]at v;have v:=A7 v;subst v;rw[hr]at C;cases C
   .rw[A8 J]at g1;unfold upd at g2;rw[A8 J]at g2;exact(h3 hr p).2 y j A l2 g1 g2 g3
 .obtain⟨rfl,rfl⟩:=T5 h1 f;cases p
 .rw[E5 _ _ _ _ hle hid,A8];intro e;subst e;rcases f with f|f
  .omega
  .have f:upN m.hi m.n<=m.n:=f
   have:=(J9 m.hi m.n).2;omega
 .have d:Hp.get (m.H.set m.n (some .frz)) id=some a:=d;rw[E5 _ _ _ _ hle hid]at d;by_cases e:id=m.n
  .subst e;rw[A9 rfl]at d;have d:=A7 d;subst d;rw[K8]at s;have s:=A7 s;subst s;rcases L.2 with⟨_,h3,_⟩|⟨_,o,h3⟩
   .cases h3
   .rcases N _ o h3 with x|⟨u,a3,E,I,v,K,D,C⟩
    .exact .inl x
    .exact .inr ⟨u,a3,E,I,v,K,D⟩
  .rw[A8 e]at d;unfold upd at s;rw[A8 e]at s;exact .inr ⟨id,a,l,hid,d,s,L⟩
def St.back{ρ:Ren}{w w':World}{hi:Nat}{lg:Lg}(h:HR P base ρ m.H w)(g:kT w w')(hh:m.hi<=hi):St P base ρ ρ m ⟨m.H,m.n,m.W,hi,lg⟩ w w':=by
 have r:=St.grownLg (m:=m) h g lg;refine⟨r.ext,fun b l h1 a=>(by rw[h1]at a;cases a),A6 _,hh,fun h=>B9 h hh,?_,fun _ h=>h,fun b h1 a=>absurd h1 a,fun k d _=>g.keep k d,g.size,g.os,fun b l h1 a=>(by rw[h1]at a;cases a),fun _ _ _ _=>rfl,fun _ h=>.inr h⟩
 have:=r.hr;rw[iY]at this;exact this
theorem A1y{f:FuncId}{ps:List Sh}{spec:bX}{rs:List Sh}(h:M7 P Ora.G f ps spec rs):kU P base gl f (A1z P ps spec rs):=by
 have q:∀ {nx:Nat} {m m':Mem} {v:Value},kL rs=true->QR rs nx m=some (v,m')->m'.lg=m.lg/\m.hi<=m'.hi/\m.n<=m'.n:=fun{nx m m' v} a hr=>by
  unfold QR at hr;rw[a]at hr;simp only[D8]at hr;split at hr
  .rename_i x;cases hr;obtain⟨m2,z,J,_⟩:=P6 x;cases J;obtain⟨_,_,rfl⟩:=K6 z;exact⟨rfl,(J9 _ _).1,Y3 _⟩
  .cases hr
 have g:∀ {vs xs:C9} {m m1:Mem},nX P ps vs m=some (xs,m1)->m.lg.le m1.lg/\m.hi<=m1.hi:=fun{vs xs m m1} h1=>by
  unfold nX at h1;split at h1
  .split at h1
   .rename_i a;cases h1;exact⟨(R1 U0 a).2.1,(R1 U0 a).1⟩
   .rename_i a;split at h1
    .rename_i K;cases h1;exact⟨by rw[(M2 K).2.1];exact(R1 U0 a).2.1,B9 (R1 U0 a).1 (M2 K).1⟩
    .cases h1
   .cases h1
  .cases h1
 refine⟨fun vs m m' v hr=>?_,fun ρ m m' w vs vs' v hr L d hl=>.inl ?_⟩
 .obtain⟨xs,m1,h1,⟨a,i⟩|⟨a,_,rfl⟩⟩:=PN hr
  .rw[(q a i).1,Z1];exact(g h1).1.trans ⟨[_],rfl⟩
  .exact(g h1).1.trans ⟨[_],rfl⟩
 .obtain⟨xs,m1,h1,i⟩:=PN hr;have E:m'.lg=⟨m1.lg.nx+shN rs,m1.lg.pi,.con spec xs m1.lg.nx 0 (shN rs)::m1.lg.log⟩/\m1.hi<=m'.hi:=by
   rcases i with⟨a,i⟩|⟨a,_,rfl⟩
   .obtain⟨r1,u,_⟩:=q a i;simp only[Z1,JF]at r1 u;exact⟨r1,u⟩
   .exact⟨rfl,A6 _⟩
  obtain⟨r1,u⟩:=E;have s:c8.con spec xs m1.lg.nx 0 (shN rs) ∈ m'.lg.log:=by rw[r1];exact B1
  have A:Sat m1.lg:=Q8.le L (by rw[r1];exact⟨[_],rfl⟩);obtain⟨t,R,H,a2,a3,a4,a5⟩:=EP d.hr h1 (d.fr.less u) hl A;obtain⟨outs,h3,h4,O⟩:=L _ s;obtain⟨W,h7⟩:=h _ outs w vs' R a3 h3 (fun k o I=>(d.gf k o I).2) a4;refine⟨W,h7.mono fun e w' ⟨r,Y,g1,g2,g3,g4,g5⟩=>?_⟩;rcases i with⟨a,i⟩|⟨a,rfl,rfl⟩
  .let j:Lg:=⟨m1.lg.nx+shN rs,m1.lg.pi,.con spec xs m1.lg.nx 0 (shN rs)::m1.lg.log⟩
   have i:QR rs m1.lg.nx (m1.wLg j)=some (v,m'):=i;have p:St P base ρ t m (m1.wLg j) w w:=St.trans (d.fr.less (by simpa using u)) H (St.wLg H.hr j);have D:J2 t (m1.wLg j).n m'.hi:=by simpa using d.fr.step H
   unfold QR at i;rw[a]at i;simp only[D8]at i;split at i
   .rename_i v0 b m2 x;cases i;obtain⟨m3,z,J,_⟩:=P6 x;cases J;obtain⟨Q,S⟩:=St.ret (G:=Y) p.hr g3 z D g4 fun k o I=>by
     rcases g5 k o I with y|⟨o',C⟩
     .exact .inl y
     .obtain⟨id,ab,l,p1,Z,p3,U,T⟩:=a5 k o' C;exact .inr ⟨id,ab,l,p1,by rw[iY];exact Z,p3,U,T⟩
    exact⟨_,_,g2,SP (nQ g1 O fun _=>Q).1,St.trans d.fr p S⟩
   .cases i
  .exact⟨_,ρ,g2,SP (nQ g1 O fun N=>by rw[a]at N;cases N).1,St.back d.hr g3 (g h1).2⟩
end
end
end Go.Sx
