import Derived.Test.YtbbicpheoakeeaaGreatDoorX6
import Derived.Lib.Bytealg
import Derived.Lib.MakeNoZero
set_option linter.all false
set_option maxRecDepth 100000
set_option maxHeartbeats 4000000
namespace Go.Sx
variable {m m' m1 m2:Mem}{c:Cls}{r:Option (Nat×AB)}{rs:List Rec}{op:OpC}{fn:Func}{vs' vs2:C9}
section
open Go
variable [Ora]
def A1w(ops:Array Oper)(X:Nat->Qs)(i:Nat)(o:Oper):Bool:=HE o.op i ((Y1 ops.toList []).getD i []) ((Y1 ops.toList []).drop (i+1)) (ops.toList.drop (i+1)) (X i)
structure Rg (P:Program) (base gl nt:Nat) (call:O2) (ops:Array Oper) (F:Nat->Fr) (M:Nat->Mem) (V:Nat->Value) (R:Nat->List Rec) (X:Nat->Qs) (B:Nat->Bool):Prop where
 st:∀ i o,ops[i]? = some o->FX P nt gl call ops.toList ((Y1 ops.toList []).getD i []) (R i) (B i) o (F i) (F (i+1)) (M i) (M (i+1)) (V i)
 rc:∀ i o,ops[i]? = some o->(R (i+1)=R i/\∃ lg,M (i+1)=(M i).wLg lg)∨(B i=true/\R (i+1)=[])∨R (i+1)=⟨i,(M i).n,(M (i+1)).n⟩::R i
 qs:∀ i o,ops[i]? = some o->QsN (B i) i nt ops.toList (W3 P call o) ((Y1 ops.toList []).getD i []) (R i) (F i) o (M i) (M (i+1)) (V i) (X i) (X (i+1))
 sb:∀ i o,ops[i]? = some o->B i=true->A1w ops X i o=true
 x0:X 0=[]
 ok:II ops.toList (Y1 ops.toList []) ops.toList 0=true
structure Ph (ops:Array Oper) (B:Nat->Bool) (M:Nat->Mem) (lo up:Nat):Prop where
 le:lo<=up
 sz:up<=ops.size
 nh:(M lo).n<=(M lo).hi
 mx:∀ i o,lo<=i->i<up->ops[i]? = some o->B i=false
section
variable {P:Program} {base gl nt:Nat} {call:O2} {ops:Array Oper} {F:Nat->Fr} {M:Nat->Mem} {V:Nat->Value} {R:Nat->List Rec} {X:Nat->Qs} {B:Nat->Bool} {lo up:Nat}
def P2{i:Nat}(h:i<ops.size):∃ o,ops[i]? = some o:=⟨ops[i],by simp[h]⟩
def Rg.one(g:Rg P base gl nt call ops F M V R X B){i:Nat}{o:Oper}(l:ops[i]? = some o)(b:B i=false)(a:(M i).n<=(M i).hi):(M i).n<=(M (i+1)).n/\(M i).hi<=(M (i+1)).hi/\(M (i+1)).n<=(M (i+1)).hi/\(M (i+1)).W=(M i).W /\
  ∀ id,id<=H5->(id<(M i).n∨(M (i+1)).n<=id)->Hp.get (M (i+1)).H id=Hp.get (M i).H id:=by
 obtain⟨_,_,_,h⟩:=g.st i o l;rcases h with⟨_,lg,_,_,h⟩|⟨_,lg,f,_,_,h⟩|⟨h,_⟩|⟨_,_,lg,_,mv,m',_,_,_,d,hm⟩
 .rw[h];exact⟨A7 _,A7 _,a,rfl,fun _ _ _=>rfl⟩
 .rw[h];exact⟨A7 _,A7 _,a,rfl,fun _ _ _=>rfl⟩
 .rw[b]at h;cases h
 .obtain⟨h1,j,h3,e,_,_,_,k⟩:=IP hm a d;exact⟨h1,j,h3,e,fun id hid hh=>by rw[k id hid,A6 (by show ¬ ((M i).n<=id/\_);omega)];rfl⟩
def Rg.allD(g:Rg P base gl nt call ops F M V R X B)(a:Ph ops B M lo up):∀ d,lo+d<=up->(M lo).n<=(M (lo+d)).n/\(M lo).hi<=(M (lo+d)).hi/\(M (lo+d)).n<=(M (lo+d)).hi/\(M (lo+d)).W=(M lo).W /\
  ∀ id,id<=H5->(id<(M lo).n∨(M (lo+d)).n<=id)->Hp.get (M (lo+d)).H id=Hp.get (M lo).H id
 | 0,_=>⟨A7 _,A7 _,a.nh,rfl,fun _ _ _=>rfl⟩
 | d+1,h=>by
   obtain⟨h1,l,h3,e,p⟩:=g.allD a d A2;obtain⟨o,b⟩:=P2 (ops:=ops) (i:=lo+d) (by have:=a.sz;omega);obtain⟨s,j,k,q,f⟩:=g.one b (a.mx _ o A2 A2 b) h3;exact⟨B8 h1 s,B8 l j,k,q.trans e,fun id hid hh=>by
    rw[show lo+(d+1)=lo+d+1 by omega]at hh ⊢;rw[f id hid A2,p id hid A2]⟩
def Rg.all(g:Rg P base gl nt call ops F M V R X B)(a:Ph ops B M lo up){i:Nat}(h0:lo<=i)(h:i<=up):(M lo).n<=(M i).n/\(M lo).hi<=(M i).hi/\(M i).n<=(M i).hi/\(M i).W=(M lo).W /\
  ∀ id,id<=H5->(id<(M lo).n∨(M i).n<=id)->Hp.get (M i).H id=Hp.get (M lo).H id:=by
 have:=g.allD a (i-lo) A2
 rwa[show lo+(i-lo)=i by omega]at this
def Rg.mono(g:Rg P base gl nt call ops F M V R X B)(a:Ph ops B M lo up){i:Nat}(h0:lo<=i):∀ d,i+d<=up->(M i).n<=(M (i+d)).n/\(M i).hi<=(M (i+d)).hi/\∀ id,id<=H5->id<(M i).n->Hp.get (M (i+d)).H id=Hp.get (M i).H id
 | 0,_=>⟨A7 _,A7 _,fun _ _ _=>rfl⟩
 | d+1,h=>by
   obtain⟨h1,j,k⟩:=g.mono a h0 d A2;obtain⟨o,b⟩:=P2 (ops:=ops) (i:=i+d) (by have:=a.sz;omega);obtain⟨l,f,p,q,e⟩:=g.one b (a.mx _ o A2 A2 b) (g.all a (i:=i+d) A2 A2).2.2.1;exact⟨B8 h1 l,B8 j f,fun id hid hh=>by rw[show i+(d+1)=i+d+1 by omega,e id hid A2,k id hid hh]⟩
def Rg.le(g:Rg P base gl nt call ops F M V R X B)(a:Ph ops B M lo up){i j:Nat}(h0:lo<=i)(h:i<=j)(b:j<=up):(M i).n<=(M j).n/\(M i).hi<=(M j).hi/\∀ id,id<=H5->id<(M i).n->Hp.get (M j).H id=Hp.get (M i).H id:=by
 have:=g.mono a h0 (j-i) A2
 rwa[show i+(j-i)=j by omega]at this
def OP{mv:Mem}{us:List Rec}(h:AM m c us=some mv):mv.lg=m.lg:=by
 obtain⟨H,n,W,hi,lg⟩:=m;unfold AM at h;simp only at h;cases c with
 | free=>cases h;rfl
 | one b =>
   simp only at h;cases a:u9 (Y8 us) b || !(Nat.ble b H5)with
   | true=>rw[a]at h;cases h
   | false=>rw[a,eD]at h;cases h;rfl
 | all =>
   simp only at h;obtain⟨d,h⟩:=A3 h;cases h;rfl
def IQ(h:kY m m'=some m2):m2.lg=m'.lg:=by
 unfold kY at h;cases a:Nat.ble m'.hi m.n with
 | true=>rw[a]at h;cases h;rfl
 | false =>
   rw[a]at h;obtain⟨_,h⟩:=A3 h;simp only[E5,dQ]at h;cases h;rfl
def mI{a b:Addr}(h:DN a b=true):a=b:=by
 unfold DN at h;split at h
 .obtain⟨h1,d⟩:=B4 h;rw[A0 h1,A0 d]
 .cases h
def TD{a b:Fn}(h:MJ a b=true):a=b:=by
 unfold MJ at h;split at h
 .rw[A0 h]
 .rw[A0 h]
 .cases h
def pL{s:Value->Value->Bool}(d:∀ a b,s a b=true->a=b):∀ {l r:C9},AU s l r=true->l=r
 | [],[],_=>rfl
 | [],_::_,h=>by cases h
 | _::_,[],h=>by cases h
 | a::l,b::r,h=>by
   obtain⟨h1,e⟩:=B4 (show(s a b && AU s l r)=true from h);rw[d a b h1,pL d e]
def A83{a b:V9}(h:a.toList=b.toList):a=b:=by cases a;cases b;cases h;rfl
def WF:∀ (d:Nat) (v w:Value),wP d v w=true->v=w:=by
 intro d;induction d with
 | zero =>
   intro v w h;unfold wP at h;split at h
   .rw[eq_of_beq h]
   .obtain⟨h1,e⟩:=B4 h;rw[bX]at e;rw[gT h1,eq_of_beq e]
   .obtain⟨h1,e⟩:=B4 h;rw[A0 h1,A0 e]
   .obtain⟨h1,e⟩:=B4 h;rw[A0 h1,A0 e]
   .rename_i s t;have h1:=G6 h;cases s with|mk s=>cases t with|mk t=>cases s;cases t;cases h1;rfl
   .rfl
   .rw[mI h]
   .obtain⟨h1,e⟩:=B4 h;rw[A0 h1,A0 e]
   .obtain⟨h0,h⟩:=B4 h;obtain⟨h1,e⟩:=B4 h;rw[mI h0,A0 h1,A0 e]
   .rfl
   .rw[A0 h]
   .rfl
   .rfl
   all_goals first|cases h|(rename_i hh;cases hh)
 | succ d i =>
   intro v w h;unfold wP at h;split at h
   .rw[eq_of_beq h]
   .obtain⟨h1,e⟩:=B4 h;rw[bX]at e;rw[gT h1,eq_of_beq e]
   .obtain⟨h1,e⟩:=B4 h;rw[A0 h1,A0 e]
   .obtain⟨h1,e⟩:=B4 h;rw[A0 h1,A0 e]
   .rename_i s t;have h1:=G6 h;cases s with|mk s=>cases t with|mk t=>cases s;cases t;cases h1;rfl
   .rfl
   .rw[mI h]
   .obtain⟨h1,e⟩:=B4 h;rw[A0 h1,A0 e]
   .obtain⟨h0,h⟩:=B4 h;obtain⟨h1,e⟩:=B4 h;rw[mI h0,A0 h1,A0 e]
   .rfl
   .rw[A0 h]
   .rfl
   .rfl
   .rename_i j f a b g a' b' he;cases he;obtain⟨h0,h⟩:=B4 h;obtain⟨h1,e⟩:=B4 h;rw[TD h0,A83 (pL i h1),A83 (pL i e)]
   .rename_i j t v u w he;cases he;obtain⟨h1,e⟩:=B4 h;rw[A0 h1,i _ _ e]
   .cases h
def WJ{a b:AB}(h:WK a b=true):a=b:=by
 unfold WK at h;split at h
 .rfl
 .obtain⟨h0,h⟩:=B4 h;obtain⟨h1,d⟩:=B4 h;rw[pL (WF 6) h0,A0 h1,eq_of_beq d]
 .cases h
def xZ{H:Hp AB}{b:Nat}{ab:AB}(h:yA H b ab=true):Hp.get H b=some ab/\b<=H5:=by
 unfold yA at h;split at h
 .rename_i x d;obtain⟨h1,a⟩:=B4 h;exact⟨by rw[d,WJ a],A1 h1⟩
 .cases h
def rW{mv:Mem}{us:List Rec}(h:DV m r us=some mv):mv.n=rO/\mv.hi=rO/\mv.W=[]/\mv.lg=m.lg/\(∀ id,id<=H5->∀ ab,Hp.get mv.H id=some ab->r=some (id,ab))/\∀ b ab,r=some (b,ab)->yA m.H b ab=true/\b ∉ Y8 us:=by
 obtain⟨H,n,W,hi,lg⟩:=m;unfold DV at h;simp only at h;cases r with
 | none =>
   cases h;exact⟨rfl,rfl,rfl,rfl,fun id _ ab a=>(by rw[qT]at a;cases a),fun b ab i=>by cases i⟩
 | some p =>
   obtain⟨b,f⟩:=p;simp only at h;cases d:u9 (Y8 us) b || !(yA H b f)with
   | true=>rw[d]at h;cases h
   | false =>
     rw[d,eD]at h;cases h;simp only[Z0,Bool.not_eq_false']at d;have i:=(xZ d.2).2;refine⟨rfl,rfl,rfl,rfl,fun id hid ab a=>?_,fun b' ab' g=>?_⟩
     .have a:Hp.get (Hp.set hp0 b (some f)) id=some ab:=a;rw[E8 _ _ _ _ i hid]at a;by_cases e:id=b
      .subst e;rw[A9 rfl]at a;cases a;rfl
      .rw[A6 e,qT]at a;cases a
     .cases g;exact⟨d.2,fun hm=>by rw[V6.2 hm]at d;exact absurd d.1 (by simp)⟩
def kP{fr:Fr}{o:Oper}{b:G9}{v:Value}{lg:Lg}(h:kS fr m o b rs op=some (v,lg)):∃ mv m',DV m (JP m.H fr o.op) (BL b rs)=some mv/\op.run fr mv=some (v,m')/\m'.W=[]/\m'.hi=rO/\m'.lg=lg:=by
 unfold kS at h;split at h
 .rename_i mv hv;split at h
  .rename_i v' H n hi d hr;obtain⟨h1,a⟩:=A3 h;cases a;exact⟨mv,_,hv,hr,rfl,A0 h1,rfl⟩
  .cases h
 .cases h
def AP{all:List Oper}{b:G9}{j:Bool}{o:Oper}{fr d:Fr}{v:Value}(a:V2 P base gl call)(h:FX P nt gl call all b rs j o fr d m m2 v):m.lg.le m2.lg:=by
 obtain⟨_,_,_,h⟩:=h;rcases h with⟨_,lg,hw,_,h⟩|⟨_,lg,f,hw,e,h⟩|⟨_,lg,hw,hr,_⟩|⟨_,_,lg,hw,mv,m',hv,hr,_,g,hm⟩
 .rw[h];exact gJ hw
 .obtain⟨mv,m',hv,hr,_,_,i⟩:=kP e;have h1:=x9 a hr;rw[(rW hv).2.2.2.1,i]at h1;rw[h];exact(gJ hw).trans h1
 .have h1:=x9 a hr;rw[Z8]at h1;exact(gJ hw).trans h1
 .rw[IQ hm];have h1:=x9 a hr;rw[OP hv]at h1;exact(gJ hw).trans h1
def Rg.lgs(g:Rg P base gl nt call ops F M V R X B)(a:V2 P base gl call){i:Nat}:∀ d,i+d<=ops.size->(M i).lg.le (M (i+d)).lg
 | 0,_=>.refl _
 | d+1,h=>by
   obtain⟨o,b⟩:=P2 (ops:=ops) (i:=i+d) A2;exact(g.lgs a d A2).trans (AP a (g.st (i+d) o b))
def Rg.who(g:Rg P base gl nt call ops F M V R X B)(f:Ph ops B M lo up):∀ d,lo+d<=up->∀ b,(M lo).n<=b->b<(M (lo+d)).n->∃ k,lo<=k/\k<lo+d/\(M k).n<=b/\b<(M (k+1)).n
 | 0,_,b,h1,a=>by have a:b<(M lo).n:=a;omega
 | d+1,h,b,h1,a=>by
   rcases F6 b (M (lo+d)).n with h3|h3
   .obtain⟨k,e,j,i⟩:=g.who f d A2 b h1 h3;exact⟨k,e,A2,i⟩
   .exact⟨lo+d,A2,A2,h3,a⟩
def xJ:∀ {rs:List Rec} {b:Nat},b ∈ Y8 rs↔∃ r ∈ rs,r.lo<=b/\b<r.hi
 | [],b=>by simp[Y8]
 | r::rs,b=>by
   simp only[Y8,B7,kZ,xJ (rs:=rs),B3];constructor
   .rintro(h|⟨d,h1,a⟩)
    .exact⟨r,.inl rfl,A2⟩
    .exact⟨d,.inr h1,a⟩
   .rintro⟨d,rfl|h1,a⟩
    .exact .inl A2
    .exact .inr ⟨d,h1,a⟩
def Rg.recs(g:Rg P base gl nt call ops F M V R X B)(l:Ph ops B M lo up):∀ d,lo+d<=up->∀ k,lo<=k->k<lo+d->∀ b,(M k).n<=b->b<(M (k+1)).n->⟨k,(M k).n,(M (k+1)).n⟩ ∈ R (lo+d)
 | 0,_,k,_,h,_,_,_=>by omega
 | d+1,hi,k,hk,h,b,h1,f=>by
   obtain⟨o,j⟩:=P2 (ops:=ops) (i:=lo+d) (by have:=l.sz;omega);have a:=l.mx _ o A2 A2 j;show _ ∈ R (lo+d+1);by_cases e:k=lo+d
   .subst e;rcases g.rc (lo+d) o j with⟨_,lg,h3⟩|⟨h3,_⟩|h3
    .rw[h3]at f;have f:b<(M (lo+d)).n:=f;omega
    .rw[a]at h3;cases h3
    .rw[h3];exact B2
   .have:=g.recs l d A2 k hk A2 b h1 f;rcases g.rc (lo+d) o j with⟨h3,_⟩|⟨h3,_⟩|h3
    .rw[h3];exact this
    .rw[a]at h3;cases h3
    .rw[h3];exact C3 _ this
def A1n{mv:Mem}{us:List Rec}(h:AM m c us=some mv):mv.n=m.n/\mv.hi=m.hi/\mv.W=[]/\mv.lg=m.lg/\∀ id,id<=H5->∀ ab,Hp.get mv.H id=some ab->Hp.get m.H id=some ab/\id ∉ Y8 us:=by
 obtain⟨H,n,W,hi,lg⟩:=m;unfold AM at h;simp only at h;cases c with
 | free =>
   cases h;exact⟨rfl,rfl,rfl,rfl,fun id _ ab a=>by rw[qT]at a;cases a⟩
 | one b =>
   simp only at h;cases d:u9 (Y8 us) b || !(Nat.ble b H5)with
   | true=>rw[d]at h;cases h
   | false =>
     rw[d,eD]at h;cases h;simp only[Z0,Bool.not_eq_false']at d;have f:=A1 d.2;refine⟨rfl,rfl,rfl,rfl,fun id hid ab a=>?_⟩;have a:Hp.get (Hp.set hp0 b (Hp.get H b)) id=some ab:=a;rw[E8 _ _ _ _ f hid]at a;by_cases e:id=b
     .subst e;rw[A9 rfl]at a;exact⟨a,fun hm=>by rw[V6.2 hm]at d;exact absurd d.1 (by simp)⟩
     .rw[A6 e,qT]at a;cases a
 | all =>
   simp only at h;obtain⟨f,h⟩:=A3 h;cases h;refine⟨rfl,rfl,rfl,rfl,fun id hid ab a=>?_⟩;have a:Hp.get (BY H (Y8 us)) id=some ab:=a;rw[BX _ _ (tA f) id hid]at a;by_cases e:id ∈ Y8 us
   .rw[A9 e]at a;cases a
   .rw[A6 e]at a;exact⟨a,e⟩
def fY(M:Nat->Mem)(D:Nat->Bool)(b:Nat):Nat->Bool
 | 0=>false
 | n+1=>(D n && Nat.ble (M n).n b && Nat.blt b (M (n+1)).n) || fY M D b n
def U2{D:Nat->Bool}{b:Nat}:∀ n,fY M D b n=true↔∃ k,k<n/\D k=true/\(M k).n<=b/\b<(M (k+1)).n
 | 0=>by simp[fY]
 | n+1=>by
   simp only[fY,I5,G8,U2 n];constructor
   .rintro(⟨⟨h1,a⟩,h3⟩|⟨k,h1,a⟩)
    .exact⟨n,A2,h1,A1 a,A1 h3⟩
    .exact⟨k,A2,a⟩
   .rintro⟨k,h1,a,h3,d⟩
    by_cases e:k=n
    .subst e;exact .inl ⟨⟨a,C4 h3⟩,C4 d⟩
    .exact .inr ⟨k,A2,a,h3,d⟩
def Dr(lo:Nat)(D:Nat->Bool)(k:Nat):Bool:=Nat.ble lo k && D k
def X7{lo:Nat}{D:Nat->Bool}{k:Nat}:Dr lo D k=true↔lo<=k/\D k=true:=by
 unfold Dr;rw[G8];exact⟨fun h=>⟨A1 h.1,h.2⟩,fun h=>⟨C4 h.1,h.2⟩⟩
def GD(M:Nat->Mem)(lo N:Nat)(D:Nat->Bool)(b:Nat):Option AB:=bif fY M (Dr lo D) b N then Hp.get (M N).H b else Hp.get (M lo).H b
structure Inv (z:Zn) (P:Program) (base gl nt:Nat) (ops:Array Oper) (F:Nat->Fr) (M:Nat->Mem) (V:Nat->Value) (lo up:Nat) (ρ0:Ren) (w0:World) (D:Nat->Bool) (ρ:Ren) (a:Act) (w:World):Prop where
 ext:∀ b l,ρ0 b=some l->ρ b=some l
 new:∀ b l,ρ b=some l->ρ0 b=none->fY M (Dr lo D) b up=true/\(l.on=true->w0.heap.size<=l.blk)
 hr:HRf P base ρ (GD M lo up D) w
 keep:∀ k,k<w0.heap.size->w.heap[k]? = w0.heap[k]?
 size:w0.heap.size<=w.heap.size
 os:w.os=w0.os/\w.tape=w0.tape/\w.output=w0.output
 tch:∀ k,Ff ρ (GD M lo up D) k->w0.heap.size<=k∨Fp ρ0 (M lo).H k
 tsz:a.tmps.size=nt
 dfr:ZR z ρ nt (F 0) a.defers
 frm:∀ t,t<nt->VR ρ (aF D (fun k=>(ops[k]?).bind (·.dst)) V (F 0).get t ops.size) (a.tmps.getD t undef)
def R9{i:Nat}{o:Oper}(h:ops[i]? = some o):ops.toList[i]? = some o:=by simpa using h
def gX{ops:List Oper}{a:List G9}:∀ (r:List Oper) (i:Nat),II ops a r i=true->∀ j o,r[j]? = some o->mY (i+j) o.after.toList=true/\rV a (i+j) (V3 ops o) ops 0=true
 | [],i,h,j,o,hj=>by simp at hj
 | x::r,i,h,j,o,hj=>by
   obtain⟨h1,b⟩:=B4 (show(mY i x.after.toList && (rV a i (V3 ops x) ops 0 && II ops a r (i+1)))=true from h);obtain⟨b,h3⟩:=B4 b;cases j with
   | zero=>simp at hj;subst hj;exact⟨h1,b⟩
   | succ j =>
     have:=gX r (i+1) h3 j o (by simpa using hj)
     rwa[show i+1+j=i+(j+1) by omega]at this
def eR:∀ {es:List Edge} {i:Nat},mY i es=true->∀ e ∈ es,Region.binds .any e=true->e.on<i
 | [],i,h,e,he,_=>by cases he
 | x::r,i,h,e,he,hb=>by
   obtain⟨h1,a⟩:=B4 (show((!(Region.binds .any x) || Nat.blt x.on i) && mY i r)=true from h);rcases B3.1 he with rfl|he
   .rw[hb]at h1;have h1:Nat.blt e.on i=true:=by simpa only [P7,P8]using h1
    exact A1 h1
   .exact eR a e he hb
def AR{b:List G9}{i:Nat}{d:List Tmp}:∀ (r:List Oper) (a:Nat),rV b i d r a=true->∀ j p t,r[j]? = some p->a+j≠i->p.dst=some t->t ∈ d->A2I b i (a+j)=true
 | [],a,h,j,p,t,hj,_,_,_=>by simp at hj
 | x::r,a,h,j,p,t,hj,hne,hd,ht=>by
   obtain⟨h1,e⟩:=B4 (show((Nat.beq a i || (match x.dst with|none=>true|some t=>!(u9 d t) || A2I b i a)) && rV b i d r (a+1))=true from h);cases j with
   | zero =>
     simp at hj;subst hj;have g:Nat.beq a i=false:=by
      cases f:Nat.beq a i with
      | false=>rfl
      | true=>exact absurd (A0 f) hne
     rw[g,hd,P8]at h1;simp only[V6.2 ht,P7,P8]at h1;exact h1
   | succ j =>
     have:=AR r (a+1) e j p t (by simpa using hj) A2 hd ht
     rwa[show a+1+j=a+(j+1) by omega]at this
def Rg.slot(g:Rg P base gl nt call ops F M V R X B){D:Nat->Bool}(l:mA ops.toList fun k=>D k=true)(u:∀ k,D k=true->k<ops.size){i:Nat}{o:Oper}(f:ops[i]? = some o)(hi:D i=false)
  (hr:∀ e ∈ o.after.toList,Region.binds .any e=true->D e.on=true) {t:Tmp} (v:t ∈ V3 ops.toList o):∀ k p,ops[k]? = some p->k≠i->p.dst=some t->(D k=true↔k<i):=fun k p hp j w=>by
 have s:∀ (i:Nat) (o:Oper),ops.toList[i]? = some o->∀ e ∈ o.after.toList,Region.binds .any e=true->e.on<i:=fun i o f=>by
  have:=(gX _ 0 g.ok i o f).1;rw[F1]at this;exact eR this
 have h1:=(gX _ 0 g.ok i o (R9 f)).2;have a:=AR _ 0 h1 k p t (R9 hp) A2 w v;rw[F1,F1]at a;unfold A2I at a;rcases Nat.lt_trichotomy k i with d|heq|q
 .have b:Nat.blt i k=false:=by
   cases b:Nat.blt i k with
   | false=>rfl
   | true=>have:i<k:=A1 b;omega
  rw[b]at a;have hm:=V6.1 (by simpa using a);exact⟨fun _=>d,fun _=>zH l s (i+1) i k o (I9 i) (R9 f) hr hm⟩
 .exact absurd heq j
 .have b:Nat.blt i k=true:=C4 q;rw[b]at a;have hm:=V6.1 (by simpa using a);refine⟨fun x=>?_,fun h=>by omega⟩
  have:=zH l s (k+1) k i p (I9 k) (R9 hp) (fun e he n=>l k p (R9 hp) x e he n) hm;rw[hi]at this;cases this
def Rg.frame(g:Rg P base gl nt call ops F M V R X B)(a:nt<=512){t:Tmp}(f:t<nt):∀ i,i<=ops.size->(F i).get t=aF (fun k=>Nat.blt k i) (fun k=>(ops[k]?).bind (·.dst)) V (F 0).get t i
 | 0,_=>rfl
 | i+1,h=>by
   obtain⟨o,j⟩:=P2 (ops:=ops) (i:=i) A2;obtain⟨h1,_,h3,_⟩:=g.st i o j;have l:=g.frame a f i A2;have n:aF (fun k=>Nat.blt k (i+1)) (fun k=>(ops[k]?).bind (·.dst)) V (F 0).get t i=aF (fun k=>Nat.blt k i) (fun k=>(ops[k]?).bind (·.dst)) V (F 0).get t i:=eP i fun k s _=>by
    rw[show Nat.blt k (i+1)=true from C4 A2,show Nat.blt k i=true from C4 s]
   have q:Nat.blt i (i+1)=true:=C4 (A7 _);rw[h3];unfold aF;rw[n,<- l];simp only[q,j,J6,true_and];cases p:o.dst with
   | none=>simp[uV]
   | some d =>
     rw[p]at h1;have b:d<nt:=A1 h1;simp only[uV,D2];rw[L6 _ _ _ _ (D4 b a) (D4 f a)];by_cases e:t=d
     .subst e;simp
     .rw[A6 e,A6 (fun h=>e h.symm)]
def Rg.look(g:Rg P base gl nt call ops F M V R X B)(b:nt<=512){D:Nat->Bool}(v:mA ops.toList fun k=>D k=true)(a:∀ k,D k=true->k<ops.size){i:Nat}{o:Oper}(l:ops[i]? = some o)(hi:D i=false)
  (hr:∀ e ∈ o.after.toList,Region.binds .any e=true->D e.on=true) {t:Tmp} (q:t ∈ V3 ops.toList o) (j:t<nt):aF D (fun k=>(ops[k]?).bind (·.dst)) V (F 0).get t ops.size=(F i).get t:=by
 have y:i<ops.size:=(C6.1 l).1;rw[g.frame b j i A2];have w:=g.slot v a l hi hr q;have u:aF D (fun k=>(ops[k]?).bind (·.dst)) V (F 0).get t ops.size=aF (fun k=>Nat.blt k i) (fun k=>(ops[k]?).bind (·.dst)) V (F 0).get t ops.size:=eP _ fun k z f=>by
  obtain⟨p,hp⟩:=P2 (ops:=ops) z;rw[hp]at f;by_cases e:k=i
  .subst e;rw[hi];symm;cases s:Nat.blt k k with
   | false=>rfl
   | true=>have:k<k:=A1 s;omega
  .have:=w k p hp e f;rw[J7,this];exact⟨fun h=>C4 h,fun h=>A1 h⟩
 rw[u];have x:∀ d,i+d<=ops.size->aF (fun k=>Nat.blt k i) (fun k=>(ops[k]?).bind (·.dst)) V (F 0).get t (i+d)=aF (fun k=>Nat.blt k i) (fun k=>(ops[k]?).bind (·.dst)) V (F 0).get t i:=by
  intro d;induction d with
  | zero=>intro _;rfl
  | succ d n =>
    intro f;rw[show i+(d+1)=(i+d)+1 by omega];rw[aF,A6 (fun hh=>by have:i+d<i:=A1 hh.1;omega)];exact n A2
 have:=x (ops.size-i) A2
 rwa[show i+(ops.size-i)=ops.size by omega]at this
def vY{o:Oper}{x:Operand}{t:Tmp}(hx:x ∈ o.op.operands.toList)(a:x=.tmp t):t ∈ V3 ops.toList o:=by
 unfold V3;refine B7.2 (.inr (B7.2 (.inl (List.mem_flatMap.2 ⟨x,hx,?_⟩))));subst a;simp[oZ]
def Rg.see{z:Zn}(g:Rg P base gl nt call ops F M V R X B)(b:Ph ops B M lo up){h ρ:Ren}{w0 w:World}{D:Nat->Bool}{a:Act}{i:Nat}{o:Oper}
  (q:At P base gl h (M lo) (M up).hi w0) (I:mA ops.toList fun k=>D k=true) (p:lo<=i) (C:i<up) (y:ops[i]? = some o)
  (hr:∀ e ∈ o.after.toList,Region.binds .any e=true->D e.on=true):∀ id,id<=H5->∀ ab,Hp.get (M i).H id=some ab->id ∉ Y8 (BL ((Y1 ops.toList []).getD i []) (R i))->GD M lo up D id=some ab:=fun id hid ab h1 L=>by
 unfold GD;by_cases d:(M lo).n<=id/\id<(M i).n
 .obtain⟨k,u,K,s,t⟩:∃ k,lo<=k/\k<i/\(M k).n<=id/\id<(M (k+1)).n:=by
   have:=g.who b (i-lo) A2 id d.1 (by rw[show lo+(i-lo)=i by omega];exact d.2)
   rwa[show lo+(i-lo)=i by omega]at this
  have x:D k=true:=by
   have f:(⟨k,(M k).n,(M (k+1)).n⟩:Rec) ∈ R i:=by
    have:=g.recs b (i-lo) A2 k u A2 id s t
    rwa[show lo+(i-lo)=i by omega]at this
   by_cases E:k ∈ (Y1 ops.toList []).getD i []
   .exact zH I (fun i o y=>by
     have:=(gX _ 0 g.ok i o y).1;rw[F1]at this;exact eR this) (i+1) i k o (I9 i) (R9 y) hr E
   .exfalso;refine L (xJ.2 ⟨_,O6.2 ⟨f,?_⟩,s,t⟩);cases v:u9 ((Y1 ops.toList []).getD i []) k with
    | false=>rfl
    | true=>exact absurd (V6.1 v) E
  have hu:fY M (Dr lo D) id up=true:=(U2 _).2 ⟨k,A2,X7.2 ⟨u,x⟩,s,t⟩;rw[hu];simp only[E1];rw[(g.le b (i:=i) (j:=up) p A2 (A7 _)).2.2 id hid d.2];exact h1
 .have Q:=(g.all b p A2).2.2.2.2 id hid A2;rw[Q]at h1;have hu:fY M (Dr lo D) id up=false:=by
   cases v:fY M (Dr lo D) id up with
   | false=>rfl
   | true =>
     exfalso;obtain⟨k,K,G,s,t⟩:=(U2 _).1 v;have u:=(X7.1 G).1;obtain⟨l,A,_⟩:=q.hr.at_ id hid ab h1;have J:=g.le b (i:=lo) (j:=k) (A7 _) u A2;have N:=g.le b (i:=k+1) (j:=up) A2 A2 (A7 _);have O:=(g.all b b.le (A7 _)).2.2.1;rw[q.fr id A2 A2]at A;cases A
  rw[hu];exact h1
def Rg.quiet{z:Zn}(g:Rg P base gl nt call ops F M V R X B)(J:V2 P base gl call){L ρ:Ren}{w0 w:World}{D D':Nat->Bool}{a:Act}{i:Nat}{o:Oper}{Q:Exit->Act->World->Prop}{K:Act->World->Prop}
  (u:At P base gl L (M lo) (M up).hi w0) (hS:Sat (M (i+1)).lg) (ad:nt<=512) (inv:Inv z P base gl nt ops F M V lo up L w0 D ρ a w) (hc:mA ops.toList fun k=>D k=true) (av:∀ k,D k=true->k<ops.size) (W:ops[i]? = some o) (hi:D i=false)
  (hr:∀ e ∈ o.after.toList,Region.binds .any e=true->D e.on=true) (hD:∀ k,k≠i->D' k=D k) (af:D' i=true)
  (ax:dI nt ops.toList (W3 P call o) ((Y1 ops.toList []).getD i []) (R i) (F i) o (M i) (M (i+1)) (V i) r) (al:∀ b ab,r=some (b,ab)->GD M lo up D b=some ab)
  (hK:∀ q a' w',Inv z P base gl nt ops F M V lo up L w0 D' q a' w'->K a' w'):gI P z.rd ops Q i K a w:=by
 have aa:i<ops.size:=(C6.1 W).1;obtain⟨bx,aj,hF,_⟩:=g.st i o W;have G:∀ t,t ∈ V3 ops.toList o->t<nt->VR ρ ((F i).get t) (a.tmps.getD t undef):=fun t S aq=>by
  rw[<- g.look ad hc av W hi hr S aq];exact inv.frm t aq
 have an:FR ρ (F i) a.eval o.op:=fun x hx=>by
  have ay:okX nt gl x=true:=D3.1 aj x hx;cases x with
  | tmp t=>exact G t (vY hx rfl) (A1 ay)
  | const v=>exact VR.ofC ay
  | global gg=>exact VR.ptr (o:=0) (inv.ext _ _ (u.gr gg (A1 ay)))
  | func f=>exact .func (a:=[]) (b:=[]) (a':=[]) (b':=[]) rfl rfl (fun i v v' h=>by simp at h) (fun i v v' h=>by simp at h)
 have I:∀ lg b,aW nt (F i) (M i).lg ops.toList o=some (b,lg)->Sat lg->Region.wanted o (yielded ops a.tmps)=b:=fun lg b hw C=>by
  unfold aW at hw;split at hw
  .rename_i hg;cases hw;simp[Region.wanted,hg]
  .rename_i j want hg;split at hw
   .rename_i p hp;split at hw
    .rename_i t S;obtain⟨h1,s⟩:=A3 hw;have h1:t<nt:=A1 h1;have hv:=G t (by
      unfold V3;refine B7.2 (.inr (B7.2 (.inr ?_)));simp[hg,hp,S]) h1
     exact mD hg hp S (by rw[inv.tsz];exact h1) (oU s hv C)
    .cases hw
   .cases hw
 have y:∀ (q:Ren) (v':Value),(∀ b l,ρ b=some l->q b=some l)->VR q (V i) v'->∀ t,t<nt->VR q (aF D' (fun k=>(ops[k]?).bind (·.dst)) V (F 0).get t ops.size) ((a.put o.dst v').tmps.getD t undef):=fun q v' he hv t S=>by
  by_cases hd:o.dst=some t
  .have T:∀ k,i<k->k<ops.size->(ops[k]?).bind (·.dst)=some t->D k=false:=fun k bw A aw=>by
    obtain⟨p,hp⟩:=P2 (ops:=ops) A;rw[hp]at aw
    have:=g.slot hc av W hi hr (t:=t) (by unfold V3;simp[hd]) k p hp A2 aw;cases hq:D k with
    | false=>rfl
    | true=>have:=this.1 hq;omega
   rw[qY hD af ops.size aa (by simp[W,hd]) T];simp only[hd,Act.put,B6];rw[F8,A9 rfl,A9 (by rw[inv.tsz];exact S)];exact hv
  .rw[nZ hD (by simp[W];exact hd)];have h1:=(inv.frm t S).mono he;cases Y:o.dst with
   | none=>exact h1
   | some d =>
     have ae:d≠t:=fun e=>hd (e▸Y)
     simp only[Act.put,B6]at h1 ⊢;rw[F8,A6 ae];exact h1
 have hM:∃ lg,M (i+1)=(M i).wLg lg:=by
  rcases ax with⟨lg,_,_,h,_⟩|⟨_,au,_,_,h,_⟩
  .exact⟨lg,h⟩
  .exact⟨au,h⟩
 have hG:GD M lo up D'=GD M lo up D:=by
  funext b;unfold GD;have:fY M (Dr lo D') b up=fY M (Dr lo D) b up:=by
   obtain⟨lg,hm⟩:=hM;rw[J7,U2,U2];constructor
   .rintro⟨k,h1,s,h3,h4⟩
    have e:k≠i:=fun e=>by
     subst e;rw[hm]at h4;have h4:b<(M k).n:=h4;omega
    obtain⟨az,s⟩:=X7.1 s;rw[hD k e]at s;exact⟨k,h1,X7.2 ⟨az,s⟩,h3,h4⟩
   .rintro⟨k,h1,s,h3⟩
    obtain⟨az,s⟩:=X7.1 s;have e:k≠i:=fun e=>by subst e;rw[hi]at s;cases s
    exact⟨k,h1,X7.2 ⟨az,by rw[hD k e];exact s⟩,h3⟩
  rw[this]
 have O:∀ b l,ρ b=some l->L b=none->fY M (Dr lo D') b up=true/\(l.on=true->w0.heap.size<=l.blk):=fun b l h1 s=>by
  obtain⟨k1,k2⟩:=inv.new b l h1 s;obtain⟨k,q1,q2,q3⟩:=(U2 _).1 k1;obtain⟨ak,q2⟩:=X7.1 q2;have e:k≠i:=fun e=>by subst e;rw[hi]at q2;cases q2
  exact⟨(U2 _).2 ⟨k,q1,X7.2 ⟨ak,by rw[hD k e];exact q2⟩,q3⟩,k2⟩
 unfold gI;simp only[W];rcases ax with⟨lg,hw,hv,hm,_⟩|⟨lg,au,hw,hq,hm,ao⟩
 .have C:Sat lg:=by rw[hm]at hS;exact hS
  rw[I lg false hw C];simp only[J3,if_false];refine hK ρ _ w ⟨inv.ext,O,hG▸inv.hr,inv.keep,inv.size,inv.os,hG▸inv.tch,?_,?_,y ρ undef (fun _ _ h=>h) (hv▸oW ρ)⟩
  .cases Y:o.dst<;>simp[Act.put,inv.tsz]
  .rw[eE];exact inv.dfr
 .obtain⟨mv,m',Z,N,hW,ai,hl⟩:=kP hq;obtain⟨v1,v2,v3,v4,v5,_⟩:=rW Z;have ar:Sat m'.lg:=by rw[hm]at hS;rw[hl];exact hS
  have C:Sat lg:=R2.le ar (by have:=x9 J N;rw[v4]at this;exact this);rw[I lg true hw C];simp only[if_true];have ag:HR P base ρ mv.H w:=inv.hr.hr fun id hid ab U=>al id ab (ao.trans (v5 id hid ab U))
  have ah:At P base gl ρ mv m'.hi w:=⟨ag,B8 u.bs inv.size,fun b h1 s=>(by rw[v1]at h1;rw[ai]at s;omega),u.gr.mono inv.ext,(by rw[v1,v2];exact A7 _),fun b hb=>(by rw[v3]at hb;cases hb),fun k o A=>⟨(u.gf k o A).1,(inv.keep k (D4 (u.gf k o A).1 u.bs)).trans (u.gf k o A).2⟩⟩;refine pI J N ar ah an fun v' q w' hv st=>?_
  have bz:q=ρ:=by
   funext b;cases h0:ρ b with
   | some l=>exact st.ext b l h0
   | none =>
     cases h1:q b with
     | none=>rfl
     | some l =>
       exfalso;have s:=(st.new b l h1 h0).1;have h3:=st.hr.dom b l h1;rw[v1]at s;unfold rO at s;unfold H5 at h3;omega
  subst bz;have E:∀ k,k<w.heap.size->w'.heap[k]? = w.heap[k]? := fun k A=>st.keep k A fun b hb=>by rw[hW]at hb;cases hb
  refine hK q _ w' ⟨inv.ext,O,hG▸⟨inv.hr.dom,fun id hid ab U=>?_⟩,fun k A=>by rw[E k (D4 A inv.size),inv.keep k A],B8 inv.size st.size,⟨st.os.1.trans inv.os.1,st.os.2.1.trans inv.os.2.1,st.os.2.2.trans inv.os.2.2⟩,hG▸inv.tch,?_,?_,y q v' (fun _ _ h=>h) hv⟩
  .obtain⟨l,e1,e2,e3⟩:=inv.hr.at_ id hid ab U;exact⟨l,e1,e2.mono (fun _ _ h=>h) (fun k A=>E _ (e2.tc A)),e3⟩
  .cases Y:o.dst<;>simp[Act.put,inv.tsz]
  .rw[eE];exact inv.dfr
def Rg.step{z:Zn}(g:Rg P base gl nt call ops F M V R X B)(ph:Ph ops B M lo up)(S:V2 P base gl call){an ρ:Ren}{w0 w:World}{D D':Nat->Bool}{a:Act}{i:Nat}{o:Oper}{Q:Exit->Act->World->Prop}{K:Act->World->Prop}
  (J:At P base gl an (M lo) (M up).hi w0) (hS:Sat (M up).lg) (cz:nt<=512) (inv:Inv z P base gl nt ops F M V lo up an w0 D ρ a w) (hc:mA ops.toList fun k=>D k=true) (bu:∀ k,D k=true->k<ops.size) (ay:lo<=i) (av:i<up) (Y:ops[i]? = some o) (hi:D i=false)
  (hr:∀ e ∈ o.after.toList,Region.binds .any e=true->D e.on=true) (hD:∀ k,k≠i->D' k=D k) (bq:D' i=true)
  (bn:¬∃ r,dI nt ops.toList (W3 P call o) ((Y1 ops.toList []).getD i []) (R i) (F i) o (M i) (M (i+1)) (V i) r)
  (hK:∀ C a' w',Inv z P base gl nt ops F M V lo up an w0 D' C a' w'->K a' w'):gI P z.rd ops Q i K a w:=by
 have cy:i<ops.size:=(C6.1 Y).1;obtain⟨cu,bh,hF,ak⟩:=g.st i o Y;have bz:=ph.mx i o ay av Y;have cq:=ph.sz;have cp:=g.le ph (i:=lo) (j:=i) (A7 _) ay A2;have ba:=g.le ph (i:=i+1) (j:=up) A2 A2 (A7 _);have cw:=g.one Y bz (g.all ph ay A2).2.2.1;have aw:∀ t,t ∈ V3 ops.toList o->t<nt->VR ρ ((F i).get t) (a.tmps.getD t undef):=fun t ht bp=>by
  rw[<- g.look cz hc bu Y hi hr ht bp];exact inv.frm t bp
 have bl:FR ρ (F i) a.eval o.op:=fun x hx=>by
  have ae:okX nt gl x=true:=D3.1 bh x hx;cases x with
  | tmp t=>exact aw t (vY hx rfl) (A1 ae)
  | const v=>exact VR.ofC ae
  | global gg=>exact VR.ptr (o:=0) (inv.ext _ _ (J.gr gg (A1 ae)))
  | func f=>exact .func (a:=[]) (b:=[]) (a':=[]) (b':=[]) rfl rfl (fun i v v' h=>by simp at h) (fun i v v' h=>by simp at h)
 have ah:∀ lg b,aW nt (F i) (M i).lg ops.toList o=some (b,lg)->Sat lg->Region.wanted o (yielded ops a.tmps)=b:=fun lg b hw ai=>by
  unfold aW at hw;split at hw
  .rename_i hg;cases hw;simp[Region.wanted,hg]
  .rename_i j want hg;split at hw
   .rename_i p hp;split at hw
    .rename_i t ht;obtain⟨h1,u⟩:=A3 hw;have h1:t<nt:=A1 h1;have hv:=aw t (by
      unfold V3;refine B7.2 (.inr (B7.2 (.inr ?_)));simp[hg,hp,ht]) h1
     exact mD hg hp ht (by rw[inv.tsz];exact h1) (oU u hv ai)
    .cases hw
   .cases hw
 have ao:∀ (C:Ren) (v':Value),(∀ b l,ρ b=some l->C b=some l)->VR C (V i) v'->∀ t,t<nt->VR C (aF D' (fun k=>(ops[k]?).bind (·.dst)) V (F 0).get t ops.size) ((a.put o.dst v').tmps.getD t undef):=fun C v' he hv t ht=>by
  by_cases hd:o.dst=some t
  .have aj:∀ k,i<k->k<ops.size->(ops[k]?).bind (·.dst)=some t->D k=false:=fun k ct U bw=>by
    obtain⟨p,hp⟩:=P2 (ops:=ops) U;rw[hp]at bw
    have:=g.slot hc bu Y hi hr (t:=t) (by unfold V3;simp[hd]) k p hp A2 bw;cases hq:D k with
    | false=>rfl
    | true=>have:=this.1 hq;omega
   rw[qY hD bq ops.size cy (by simp[Y,hd]) aj];simp only[hd,Act.put,B6];rw[F8,A9 rfl,A9 (by rw[inv.tsz];exact ht)];exact hv
  .rw[nZ hD (by simp[Y];exact hd)];have h1:=(inv.frm t ht).mono he;cases bt:o.dst with
   | none=>exact h1
   | some d =>
     have bb:d≠t:=fun e=>hd (e▸bt)
     simp only[Act.put,B6]at h1 ⊢;rw[F8,A6 bb];exact h1
 have I:∀ b,fY M (Dr lo D') b up=true↔(fY M (Dr lo D) b up=true∨((M i).n<=b/\b<(M (i+1)).n)):=fun b=>by
  rw[U2,U2];constructor
  .rintro⟨k,h1,u,h3⟩
   obtain⟨af,u⟩:=X7.1 u;by_cases e:k=i
   .subst e;exact .inr h3
   .rw[hD k e]at u;exact .inl ⟨k,h1,X7.2 ⟨af,u⟩,h3⟩
  .rintro(⟨k,h1,u,h3⟩|h3)
   .obtain⟨af,u⟩:=X7.1 u;have e:k≠i:=fun e=>by subst e;rw[hi]at u;cases u
    exact⟨k,h1,X7.2 ⟨af,by rw[hD k e];exact u⟩,h3⟩
   .exact⟨i,av,X7.2 ⟨ay,bq⟩,h3⟩
 unfold gI;simp only[Y];have ad:Sat (M (i+1)).lg:=R2.le hS (by have:=g.lgs S (i:=i+1) (up-(i+1)) A2;rwa[show i+1+(up-(i+1))=up by omega]at this);rcases ak with⟨_,lg,hw,hv,hm⟩|⟨_,lg,bd,hw,hq,hm⟩|⟨bx,_⟩|⟨_,_,lg,hw,mv,m',au,al,hW,bg,Z⟩
 .exact absurd ⟨_,.inl ⟨lg,hw,hv,hm,rfl⟩⟩ bn
 .exact absurd ⟨_,.inr ⟨lg,bd,hw,hq,hm,rfl⟩⟩ bn
 .rw[bz]at bx;cases bx
 .have br:Sat m'.lg:=by rw[IQ Z]at ad;exact ad
  have ai:Sat lg:=R2.le br (by have:=x9 S al;rw[OP au]at this;exact this);rw[ah lg true hw ai];simp only[if_true];obtain⟨v1,v2,v3,_,v4⟩:=A1n au;have v1:mv.n=(M i).n:=v1;have v2:mv.hi=(M i).hi:=v2;have v4:∀ id,id<=H5->∀ ab,Hp.get mv.H id=some ab->Hp.get (M i).H id=some ab/\id ∉ Y8 (BL ((Y1 ops.toList []).getD i []) (R i)):=v4;have ag:=(g.all ph ay A2).2.2.1;obtain⟨q1,q2,q3,q4,q5,q6,_,q7⟩:=IP Z ag bg;have q1:(M i).n<=(M (i+1)).n:=q1;have q5:(M (i+1)).n=m'.hi∨((M (i+1)).n=(M i).n/\m'.hi<=(M i).n):=q5;have q7:∀ id,id<=H5->Hp.get (M (i+1)).H id=if(M i).n<=id/\id<(M (i+1)).n then Hp.get m'.H id else Hp.get (M i).H id:=q7
  have O:∀ id,id<=H5->∀ ab,Hp.get mv.H id=some ab->GD M lo up D id=some ab:=fun id hid ab y=>by
   obtain⟨h1,u⟩:=v4 id hid ab y;exact g.see (z:=z) (a:=a) (ρ:=ρ) (w:=w) ph J hc ay av Y hr id hid ab h1 u
  have bc:HR P base ρ mv.H w:=inv.hr.hr O;have T:J9 ρ mv.n m'.hi:=fun b h1 u=>by
   rw[v1]at h1;cases hb:ρ b with
   | none=>rfl
   | some l =>
     exfalso;cases h0:an b with
     | some l0 =>
       rw[J.fr b A2 A2]at h0;cases h0
     | none =>
       obtain⟨k,k1,k2,k3,k4⟩:=(U2 _).1 (inv.new b l hb h0).1;obtain⟨k0,k2⟩:=X7.1 k2;have cr:k≠i:=fun e=>by subst e;rw[hi]at k2;cases k2
       rcases F6 k i with aa|aa
       .have:=(g.le ph (i:=k+1) (j:=i) A2 A2 A2).1;omega
       .have:=(g.le ph (i:=i+1) (j:=k) A2 A2 A2).1;rcases q5 with q5|⟨_,q5⟩<;>omega
  have bf:At P base gl ρ mv m'.hi w:=⟨bc,B8 J.bs inv.size,T,J.gr.mono inv.ext,(by rw[v1,v2];exact ag),fun b hb=>(by rw[v3]at hb;cases hb),fun k o U=>⟨(J.gf k o U).1,(inv.keep k (D4 (J.gf k o U).1 J.bs)).trans (J.gf k o U).2⟩⟩;refine pI S al br bf bl fun v' C w' hv st=>hK C _ w' ?_
  have ax:∀ k,k<w.heap.size->w'.heap[k]? = w.heap[k]? := fun k U=>st.keep k U fun b hb=>by rw[hW]at hb;cases hb
  have cv:m'.n<=m'.hi:=st.nhi (by rw[v1,v2];exact ag);have ar:∀ b l,C b=some l->ρ b=none->((M i).n<=b/\b<(M (i+1)).n)/\(l.on=true->w.heap.size<=l.blk):=fun b l h1 u=>by
   have h3:=st.new b l h1 u;rw[v1]at h3;refine⟨⟨h3.1,?_⟩,?_⟩
   .rcases q5 with q5|⟨_,q5⟩<;>omega
   .intro Y;rcases st.blk b l h1 u Y with h|⟨b0,h,_⟩
    .exact h
    .rw[hW]at h;cases h
  have aq:∀ id,id<=H5->(M i).n<=id->id<(M (i+1)).n->GD M lo up D' id=Hp.get m'.H id/\ρ id=none:=fun id hid h1 u=>by
   constructor
   .unfold GD;rw[(I id).2 (.inr ⟨h1,u⟩)];simp only[E1];rw[ba.2.2 id hid u,q7 id hid,A9 ⟨h1,u⟩]
   .refine T id (by rw[v1];exact h1) ?_;rcases q5 with q5|⟨q5,_⟩
    .omega
    .rw[q5]at u;omega
  have W:∀ id,¬ ((M i).n<=id/\id<(M (i+1)).n)->GD M lo up D' id=GD M lo up D id:=fun id hid=>by
   unfold GD;have:fY M (Dr lo D') id up=fY M (Dr lo D) id up:=by
    rw[J7,I id];exact⟨fun h=>h.elim (fun h=>h) (fun h=>absurd h hid),.inl⟩
   rw[this]
  have bk:∀ k,Ff C (GD M lo up D') k->w.heap.size<=k∨Ff ρ (GD M lo up D) k:=fun k ⟨id,ab,l,hid,y,hl,ht⟩=>by
   by_cases hI:(M i).n<=id/\id<(M (i+1)).n
   .rw[(aq id hid hI.1 hI.2).1]at y;rcases st.tch k ⟨id,ab,l,hid,y,hl,ht⟩with h|⟨A,az,l0,e1,e2,e3,e4⟩
    .exact .inl h
    .exact .inr ⟨A,az,l0,e1,O A e1 az e2,e3,e4⟩
   .rw[W id hI]at y;obtain⟨l3,c1,_⟩:=inv.hr.at_ id hid ab y;rw[st.ext id l3 c1]at hl
    have:=A8 hl;subst this;exact .inr ⟨id,ab,l3,hid,y,c1,ht⟩
  refine⟨fun b l h=>st.ext b l (inv.ext b l h),fun b l h1 u=>?_,⟨st.hr.dom,fun id hid ab y=>?_⟩,fun k U=>by rw[ax k (D4 U inv.size),inv.keep k U],B8 inv.size st.size,⟨st.os.1.trans inv.os.1,st.os.2.1.trans inv.os.2.1,st.os.2.2.trans inv.os.2.2⟩,fun k U=>(bk k U).elim (fun h=>.inl (B8 inv.size h)) (inv.tch k),?_,?_,ao C v' st.ext hv⟩
  .cases h0:ρ b with
   | some l1 =>
     rw[st.ext b l1 h0]at h1
     have:=A8 h1;subst this;exact⟨(I b).2 (.inl (inv.new b l1 h0 u).1),(inv.new b l1 h0 u).2⟩
   | none =>
     have:=ar b l h1 h0;exact⟨(I b).2 (.inr this.1),fun Y=>B8 inv.size (this.2 Y)⟩
  .by_cases hI:(M i).n<=id/\id<(M (i+1)).n
   .obtain⟨h1,u⟩:=aq id hid hI.1 hI.2;rw[h1]at y;obtain⟨l,e1,e2,e3⟩:=st.hr.at_ id hid ab y;refine⟨l,e1,e2,fun L E=>⟨(e3 L E).1,fun q s N l2 f1 f2 f3=>?_⟩⟩;by_cases G:(M i).n<=q/\q<(M (i+1)).n
    .rw[(aq q s G.1 G.2).1]at f1;exact(e3 L E).2 q s N l2 f1 f2 f3
    .rw[W q G]at f1;obtain⟨l3,c1,c2,_⟩:=inv.hr.at_ q s N f1;rw[st.ext q l3 c1]at f2
     have:=A8 f2;subst this;have h5:=c2.tc f3;have h6:=(ar id l e1 u).2 E;omega
   .rw[W id hI]at y;obtain⟨l,e1,e2,e3⟩:=inv.hr.at_ id hid ab y;refine⟨l,st.ext _ _ e1,e2.mono st.ext (fun k U=>ax _ (e2.tc U)),fun L E=>⟨(e3 L E).1,fun q s N l2 f1 f2 f3=>?_⟩⟩;by_cases G:(M i).n<=q/\q<(M (i+1)).n
    .exfalso;rw[(aq q s G.1 G.2).1]at f1;have bm:N.fr=true:=by
      cases hq:N.fr with
      | true=>rfl
      | false =>
        exfalso;rcases f3 with⟨_,h1,u⟩|⟨h1,_⟩
        .have h5:=(ar q l2 f2 (aq q s G.1 G.2).2).2 h1;have h6:=e2.tc (.inl ⟨AB.rw_on L,E,rfl⟩);omega
        .rw[h1]at hq;cases hq
     rcases st.tch _ ⟨q,N,l2,s,f1,f2,bm,f3⟩with h|⟨A,az,l0,c1,c2,c3,_,c4⟩
     .have:=e2.tc (.inl ⟨AB.rw_on L,E,rfl⟩);omega
     .have h7:=(e3 L E).2 A c1 az l0 (O A c1 az c2) c3 c4;subst h7;have h8:=O A c1 az c2;rw[y]at h8;have h8:=A8 h8;subst h8;have h9:A<mv.n∨m'.hi<=A:=by
       rcases F6 A mv.n with h|h
       .exact .inl h
       .rcases F6 A m'.hi with h'|h'
        .rw[T A h h']at e1;cases e1
        .exact .inr h'
      have bo:=st.same A c1 (by rw[hW];simp) h9;rw[c2]at bo;obtain⟨_,bj⟩:=st.hr.atl (st.ext _ _ e1) bo
      have:=(bj L E).2 q s N l2 f1 f2 f3;subst this;exact hI G
    .rw[W q G]at f1;obtain⟨l3,c1,_⟩:=inv.hr.at_ q s N f1;rw[st.ext q l3 c1]at f2
     have:=A8 f2;subst this;exact(e3 L E).2 q s N l3 f1 c1 f3
  .cases bt:o.dst<;>simp[Act.put,inv.tsz]
  .rw[eE];exact inv.dfr.congr st.ext fun _=>⟨rfl,rfl⟩
end
end
section
open Go
variable [Ora]
def CJ:∀ (l:List Bool) (i:Nat),l[i]? = some false->(l.set i true).countP (fun b=>!b)+1=l.countP (fun b=>!b)
 | [],i,h=>by simp at h
 | b::r,0,h=>by simp at h;subst h;simp
 | b::r,i+1,h=>by
   have:=CJ r i (by simpa using h);rw[List.set_cons_succ,List.countP_cons,List.countP_cons];omega
def NV{l:List Bool}(h:l.countP (fun b=>!b)=0):∀ i,i<l.length->l[i]? = some true:=fun i hi=>by
 rw[List.countP_eq_zero]at h
 have:=h l[i] (N1 hi);rw[A5 hi];cases a:l[i]with
 | true=>rfl
 | false=>rw[a]at this;exact absurd rfl this
section
variable {P:Program} {base gl:Nat} {call:O2}
def YW(h:kY m m'=some m2)(a:m.hi<=m'.hi):m.hi<=m2.hi:=by
 unfold kY at h;cases b:Nat.ble m'.hi m.n with
 | true=>rw[b]at h;cases h;exact A7 _
 | false =>
   rw[b]at h;obtain⟨_,h⟩:=A3 h;simp only[E5,dQ]at h;cases h;exact a
def zF:∀ {n:Nat} {b:G9} {a:Qs},FU n b a=true->∀ k,k<n->k ∈ b∨∃ q ∈ a,q.1=k
 | 0,_,_,_,k,h=>by omega
 | n+1,b,a,h,k,hk=>by
   obtain⟨h1,d⟩:=B4 (show((u9 b n || a.any fun q=>Nat.beq n q.1) && FU n b a)=true from h);by_cases e:k=n
   .subst e;rcases I5 _ _▸h1 with h1|h1
    .exact .inl (V6.1 h1)
    .obtain⟨q,g,f⟩:=P3.1 h1;exact .inr ⟨q,g,(A0 f).symm⟩
   .exact zF d k A2
def xS:∀ {i:Nat} {bs:List G9} {r:List Oper},EL i bs r=true->∀ (j:Nat) (c:List Nat) (o:Oper),bs[j]? = some c->r[j]? = some o->i ∈ c∨y5 o.op=true
 | _,[],_,_,j,c,o,h,_=>by simp at h
 | _,_::_,[],_,j,c,o,_,h=>by simp at h
 | i,c0::bs,o0::r,h,j,c,o,h1,h2=>by
   obtain⟨a,b⟩:=B4 (show((u9 c0 i || y5 o0.op) && EL i bs r)=true from h);cases j with
   | zero =>
     simp at h1 h2;subst h1;subst h2;rcases I5 _ _▸a with a|a
     .exact .inl (V6.1 a)
     .exact .inr a
   | succ j=>exact xS b j c o (by simpa using h1) (by simpa using h2)
def DL{ops:Array Oper}{X:Nat->Qs}{i:Nat}{o:Oper}(h:A1w ops X i o=true):y5 o.op=false:=by
 obtain⟨h,_⟩:=B4 (show(wrO o.op && _)=true from h);cases a:o.op<;>rw[a]at h<;>first
  | rfl
  | cases h
def MF{ops:Array Oper}{X:Nat->Qs}{i:Nat}{o:Oper}(h:A1w ops X i o=true):∀ k,k<i->k ∈ (Y1 ops.toList []).getD i []∨∃ q ∈ X i,q.1=k:=by
 obtain⟨_,h⟩:=B4 (show(wrO o.op && _)=true from h);obtain⟨h,_⟩:=B4 h;exact zF h
def ME{ops:Array Oper}{X:Nat->Qs}{i:Nat}{o:Oper}(h:A1w ops X i o=true):∀ j p,i<j->ops[j]? = some p->i ∈ (Y1 ops.toList []).getD j []∨y5 p.op=true:=fun j p e hp=>by
 obtain⟨_,h⟩:=B4 (show(wrO o.op && _)=true from h);obtain⟨_,h⟩:=B4 h;obtain⟨f,b,d,_⟩:=tD ops.toList [];have hlen:(Y1 ops.toList []).length=ops.size:=by rw[b];simpa using d
 have g:j<ops.size:=(C6.1 hp).1;have a:j<(Y1 ops.toList []).length:=A2
 have:=xS h (j-(i+1)) (Y1 ops.toList [])[j] p (by rw[H7,show i+1+(j-(i+1))=j by omega,A5 a]) (by rw[H7,show i+1+(j-(i+1))=j by omega];exact R9 hp);rw[B1,A5 a];exact this
def sB(ops:Array Oper)(B:Nat->Bool):∀ (d lo:Nat),lo+d=ops.size->∃ up,lo<=up/\up<=ops.size/\(∀ i o,lo<=i->i<up->ops[i]? = some o->B i=false)/\(up<ops.size->∃ o,ops[up]? = some o/\B up=true)
 | 0,lo,h=>⟨lo,A7 _,A2,fun i o h1 f=>by omega,fun f=>by omega⟩
 | d+1,lo,h=>by
   obtain⟨o,k⟩:=P2 (ops:=ops) (i:=lo) A2;cases g:B lo with
   | true=>exact⟨lo,A7 _,A2,fun i o h1 f=>by omega,fun _=>⟨o,k,g⟩⟩
   | false =>
     obtain⟨up,h1,f,h3,j⟩:=sB ops B d (lo+1) A2;refine⟨up,A2,f,fun i o' a b c=>?_,j⟩;by_cases e:i=lo
     .subst e;exact g
     .exact h3 i o' A2 b c
section
variable {nt:Nat} {ops:Array Oper} {F:Nat->Fr} {M:Nat->Mem} {V:Nat->Value} {R:Nat->List Rec} {X:Nat->Qs} {B:Nat->Bool} {lo up:Nat}
def Rg.frameUp(g:Rg P base gl nt call ops F M V R X B)(a:nt<=512){t:Tmp}(e:t<nt){i:Nat}(hi:i<=ops.size):aF (fun k=>Nat.blt k i) (fun k=>(ops[k]?).bind (·.dst)) V (F 0).get t ops.size=(F i).get t:=by
 rw[g.frame a e i hi];have f:∀ d,i+d<=ops.size->aF (fun k=>Nat.blt k i) (fun k=>(ops[k]?).bind (·.dst)) V (F 0).get t (i+d)=aF (fun k=>Nat.blt k i) (fun k=>(ops[k]?).bind (·.dst)) V (F 0).get t i:=by
  intro d;induction d with
  | zero=>intro _;rfl
  | succ d b =>
    intro j;rw[show i+(d+1)=(i+d)+1 by omega];rw[aF,A6 (fun hh=>by have:i+d<i:=A1 hh.1;omega)];exact b A2
 have:=f (ops.size-i) A2
 rwa[show i+(ops.size-i)=ops.size by omega]at this
def B02{k i:Nat}:Nat.blt k i=true↔k<i:=⟨fun h=>A1 h,fun h=>C4 h⟩
def Rg.own(g:Rg P base gl nt call ops F M V R X B)(f:nt<=510):∀ (i:Nat),i<=ops.size->(F i).get 510=(F 0).get 510/\(F i).get 511=(F 0).get 511
 | 0,_=>⟨rfl,rfl⟩
 | i+1,hi=>by
   obtain⟨o,l⟩:=P2 (ops:=ops) (i:=i) A2;obtain⟨d1,_,d3,_⟩:=g.st i o l;have b:=g.own f i A2;have key:∀ t,510<=t->t<512->(F (i+1)).get t=(F i).get t:=fun t h1 j=>by
    rw[d3];cases k:o.dst with
    | none=>rfl
    | some d =>
      rw[k]at d1;have a:d<nt:=A1 d1;show((F i).set d _).get t=_;rw[L6 _ _ _ _ (D4 a A2) j,A6 (fun e=>by subst e;exact absurd a (Nat.not_lt.2 (B8 f h1)))]
   exact⟨(key 510 F5 F5).trans b.1,(key 511 F5 F5).trans b.2⟩
def Rg.inX(g:Rg P base gl nt call ops F M V R X B):∀ (j:Nat),j<=ops.size->∀ q ∈ X j,q.1<j/\q ∈ X (q.1+1)/\∃ o,ops[q.1]? = some o/\dI nt ops.toList (W3 P call o) ((Y1 ops.toList []).getD q.1 []) (R q.1) (F q.1) o (M q.1) (M (q.1+1)) (V q.1) q.2
 | 0,_,q,hq=>by rw[g.x0]at hq;cases hq
 | j+1,hj,q,hq=>by
   obtain⟨o,d⟩:=P2 (ops:=ops) (i:=j) A2;have old:q ∈ X j->q.1<j+1/\q ∈ X (q.1+1)/\∃ o,ops[q.1]? = some o/\dI nt ops.toList (W3 P call o) ((Y1 ops.toList []).getD q.1 []) (R q.1) (F q.1) o (M q.1) (M (q.1+1)) (V q.1) q.2:=fun h=>by
    obtain⟨h1,a⟩:=g.inX j A2 q h;exact⟨A2,a⟩
   rcases g.qs j o d with⟨_,h,_⟩|⟨_,h⟩|⟨_,r,h,a⟩
   .exact old (h▸hq)
   .exact old (h▸hq)
   .have b:=hq;rw[h]at hq;rcases B3.1 hq with e|e
    .subst e;exact⟨I9 _,b,o,d,a⟩
    .exact old e
def BD{all:List Oper}{b:G9}{fr:Fr}{o:Oper}{v:Value}(h:dI nt all op b rs fr o m m2 v r):∃ lg,m2=m.wLg lg:=by
 rcases h with⟨lg,_,_,h,_⟩|⟨_,a,_,_,h,_⟩
 .exact⟨lg,h⟩
 .exact⟨a,h⟩
def Rg.kind(g:Rg P base gl nt call ops F M V R X B){i:Nat}{o:Oper}(f:ops[i]? = some o)(a:y5 o.op=true):dI nt ops.toList (W3 P call o) ((Y1 ops.toList []).getD i []) (R i) (F i) o (M i) (M (i+1)) (V i) none:=by
 obtain⟨_,_,_,h⟩:=g.st i o f;have j:JP (M i).H (F i) o.op=none:=by
  cases d:o.op<;>rw[d]at a<;>first|rfl|cases a
 rcases h with⟨_,lg,h1,b,h3⟩|⟨_,lg,e,h1,b,h3⟩|⟨h,_⟩|⟨_,h,_⟩
 .exact .inl ⟨lg,h1,b,h3,rfl⟩
 .exact .inr ⟨lg,e,h1,b,h3,j.symm⟩
 .rw[DL (g.sb i o f h)]at a;cases a
 .rw[a]at h;cases h
def Rg.heap{z:Zn}(g:Rg P base gl nt call ops F M V R X B)(f:Ph ops B M lo up){D:Nat->Bool}{p ρ:Ren}{a:Act}{v w':World}(hD:∀ k,lo<=k->k<up->D k=false->∃ lg,M (k+1)=(M k).wLg lg)(inv:Inv z P base gl nt ops F M V lo up p v D ρ a w'):St P base p ρ (M lo) (M up) v w':=by
 have y:∀ id,id<=H5->GD M lo up D id=Hp.get (M up).H id:=fun id hid=>by
  unfold GD;cases hu:fY M (Dr lo D) id up with
  | true=>rfl
  | false =>
    simp only[D7];refine((g.all f f.le (A7 _)).2.2.2.2 id hid ?_).symm;rcases F6 id (M lo).n with h1|h1
    .exact .inl h1
    .rcases F6 id (M up).n with e|e
     .exfalso;have hle:=f.le;obtain⟨k,q,K,w,o⟩:=g.who f (up-lo) A2 id h1 (by rw[show lo+(up-lo)=up by omega];exact e);have u:D k=true:=by
       cases C:D k with
       | true=>rfl
       | false =>
         obtain⟨lg,hm⟩:=hD k q A2 C;rw[hm]at o;have o:id<(M k).n:=o;omega
      rw[(U2 (M:=M) (D:=Dr lo D) up).2 ⟨k,A2,X7.2 ⟨q,u⟩,w,o⟩]at hu;cases hu
     .exact .inr e
 have d:=g.all f f.le (A7 _);refine⟨inv.ext,fun b l h1 e=>?_,d.1,d.2.1,fun _=>d.2.2.1,inv.hr.hr fun id hid ab s=>by rw[y id hid];exact s,fun b h=>by rw[d.2.2.2.1];exact h,fun b h1 e=>by rw[d.2.2.2.1]at h1;exact absurd h1 e,
     fun k I _=>inv.keep k I,inv.size,inv.os,fun b l h1 e J=>.inl ((inv.new b l h1 e).2 J),fun id hid h1 e=>?_,fun k ⟨id,ab,l,t,x,A,G⟩=>inv.tch k ⟨id,ab,l,t,(y id t).trans x,A,G⟩⟩
 .obtain⟨k,K,E,w,o⟩:=(U2 _).1 (inv.new b l h1 e).1;have q:=(X7.1 E).1;have t:=(g.le f (i:=lo) (j:=k) (A7 _) q A2).1;have x:=(g.le f (i:=k+1) (j:=up) A2 A2 (A7 _)).1;omega
 .refine d.2.2.2.2 id hid ?_;rcases e with e|e
  .exact .inl e
  .exact .inr (by have:=d.2.2.1;omega)
def Rg.last{z:Zn}(g:Rg P base gl nt call ops F M V R X B)(b:nt<=512){D:Nat->Bool}{d ρ:Ren}{a:Act}{l w':World}(hD:∀ i,i<ops.size->D i=true)(inv:Inv z P base gl nt ops F M V lo up d l D ρ a w'):FrR z ρ nt (F ops.size) a:=by
 have j:=inv.dfr.congr (fun _ _ h=>h) (fun n=>g.own n ops.size (A7 _));refine⟨inv.tsz,b,j.1,j.2,fun t e=>?_⟩;have h1:=inv.frm t e;rw[<- g.frameUp b e (A7 _)]
 rwa[eP (D':=fun k=>Nat.blt k ops.size) ops.size (fun k f _=>by rw[hD k f];exact(B02.2 f).symm)]at h1
def Rg.fresh{z:Zn}(g:Rg P base gl nt call ops F M V R X B){D:Nat->Bool}{ρ:Ren}{a:Act}{w:World}(hD:∀ k,lo<=k->D k=true->∃ lg,M (k+1)=(M k).wLg lg)(hr:HR P base ρ (M lo).H w)(e:a.tmps.size=nt)(q:ZR z ρ nt (F 0) a.defers)
  (j:∀ t,t<nt->VR ρ (aF D (fun k=>(ops[k]?).bind (·.dst)) V (F 0).get t ops.size) (a.tmps.getD t undef)):Inv z P base gl nt ops F M V lo up ρ w D ρ a w:=by
 have hu:∀ b n,fY M (Dr lo D) b n=false:=fun b n=>by
  cases u:fY M (Dr lo D) b n with
  | false=>rfl
  | true =>
    obtain⟨k,_,h,A,p⟩:=(U2 _).1 u;obtain⟨h1,o⟩:=X7.1 h;obtain⟨lg,hm⟩:=hD k h1 o;rw[hm]at p;have p:b<(M k).n:=p;omega
 have i:∀ id ab,GD M lo up D id=some ab->Hp.get (M lo).H id=some ab:=fun id ab d=>by
  unfold GD at d;rw[hu]at d;exact d
 exact⟨fun _ _ h=>h,fun b l h1 o=>(by rw[h1]at o;cases o),hr.f fun id hid ab d=>i id ab d,fun _ _=>rfl,A7 _,⟨rfl,rfl,rfl⟩,fun k ⟨id,ab,l,v,x,s,y⟩=>.inr ⟨id,ab,l,v,i id ab x,s,y⟩,e,q,j⟩
def Rg.old{z:Zn}(g:Rg P base gl nt call ops F M V R X B)(d:Ph ops B M lo up){e:Ren}{w0:World}{D:Nat->Bool}(a:At P base gl e (M lo) (M up).hi w0){b:Nat}{ab:AB}(u:yA (M lo).H b ab=true):GD M lo up D b=some ab:=by
 obtain⟨h1,hid⟩:=xZ u;unfold GD;have hu:fY M (Dr lo D) b up=false:=by
  cases n:fY M (Dr lo D) b up with
  | false=>rfl
  | true =>
    exfalso;obtain⟨k,x,o,v,w⟩:=(U2 _).1 n;have p:=(X7.1 o).1;obtain⟨l,f,_⟩:=a.hr.at_ b hid _ h1;have q:=g.le d (i:=lo) (j:=k) (A7 _) p A2;have s:=g.le d (i:=k+1) (j:=up) A2 A2 (A7 _);have t:=(g.all d d.le (A7 _)).2.2.1;rw[a.fr b A2 A2]at f;cases f
 rw[hu];exact h1
end
def A0v(hm:P.follows .mixedOrders=true)(T:V2 P base gl call):fT P base gl call:=by
 refine⟨hm,?_⟩;intro nt ops bq s s' cf;obtain⟨F,M,V,R,X,B,f1,f2,f3,du,f4,f5,f6⟩:=A3d ops.toList 0 _ _ _ s s' cf;simp only[F1,Q9]at f4 f5 f6;have cu:∀ i,i<=ops.size->∀ d,i+d<=ops.size->(M i).hi<=(M (i+d)).hi/\(M i).lg.le (M (i+d)).lg:=by
  intro i _ d;induction d with
  | zero=>intro _;exact⟨A7 _,.refl _⟩
  | succ d ih =>
    intro h;have h1:=ih A2;obtain⟨o,C⟩:=P2 (ops:=ops) (i:=i+d) A2;obtain⟨bp,_⟩:=f6 (i+d) o (R9 C);refine⟨?_,h1.2.trans (AP T bp)⟩;obtain⟨_,_,_,O⟩:=bp;rcases O with⟨_,_,_,_,O⟩|⟨_,_,_,_,_,O⟩|⟨_,_,_,_,O⟩|⟨_,_,_,_,mv,m',_,_,_,cl,O⟩
    .show _<=(M (i+d+1)).hi;rw[O];exact h1.1
    .show _<=(M (i+d+1)).hi;rw[O];exact h1.1
    .exact B8 h1.1 O
    .exact B8 h1.1 (YW O cl)
 have E:∀ i j,i<=j->j<=ops.size->(M i).hi<=(M j).hi/\(M i).lg.le (M j).lg:=fun i j h1 O=>by
  have:=cu i A2 (j-i) A2
  rwa[show i+(j-i)=j by omega]at this
 constructor
 .have:=E 0 ops.size A2 (A7 _);rw[f2,f5]at this;exact this
 .intro z an a0 w id Q cr aw ak hQ;have g:Rg P base gl nt call ops F M V R X B:=⟨fun i o C=>(f6 i o (R9 C)).1,fun i o C=>(f6 i o (R9 C)).2.2.1,fun i o C=>(f6 i o (R9 C)).2.2.2,fun i o C=>(f6 i o (R9 C)).2.1,du,bq⟩;have cm:∀ i o,ops[i]? = some o->∀ e ∈ o.after.toList,Region.binds .any e=true->e.on<i:=fun i o C=>by
   have:=(gX _ 0 g.ok i o (R9 C)).1;rw[F1]at this;exact eR this
  refine kF hm ?_;generalize cj:({ w with drawn:=w.drawn+1 }:World)=w1;have ao:w1.heap=w.heap:=by rw[<- cj]
  have cy:w1.os=w.os/\w1.tape=w.tape/\w1.output=w.output:=by rw[<- cj];exact⟨rfl,rfl,rfl⟩
  have au:At P base gl an (M 0) (M ops.size).hi w1:=by
   rw[f2,f5];exact⟨⟨fun b l h=>aw.hr.dom b l h,fun id hid ab dr=>by
    obtain⟨l,e1,e2,e3⟩:=aw.hr.at_ id hid ab dr;exact⟨l,e1,e2.mono (fun _ _ h=>h) (fun _ _=>by rw[ao]),e3⟩⟩,by rw[ao];exact aw.bs,aw.fr,aw.gr,aw.nh,aw.wb,fun k o A=>by rw[ao];exact aw.gf k o A⟩
  have ah:∀ i,i<=ops.size->Sat (M i).lg:=fun i hi=>R2.le cr (by rw[<- f5];exact(E i ops.size hi (A7 _)).2)
  have az:J9 an (M 0).n (M ops.size).hi:=au.fr;have fin:∀ (ρ:Ren) (a:Act) (w':World),FrR z ρ nt (F ops.size) a->St P base an ρ (M 0) (M ops.size) w1 w'->Q .normal a w':=fun ρ a w' hf st=>by
   refine hQ ρ a w' (by rw[<- f4];exact hf) ?_;rw[<- f2,<- f5];exact⟨st.ext,st.new,st.nle,st.hle,st.nhi,st.hr,st.wsub,st.wrw,fun k A hb=>by rw[st.keep k (by rw[ao];exact A) hb,ao],by rw[<- ao];exact st.size,⟨st.os.1.trans cy.1,st.os.2.1.trans cy.2.1,st.os.2.2.trans cy.2.2⟩,fun b l h1 O h3=>by rw[<- ao];exact st.blk b l h1 O h3,st.same,fun k A=>by rw[<- ao];exact st.tch k A⟩
  have main:∀ (fuel:Nat) (listed:Array Bool) (lo up:Nat) (K ρ:Ren) (a:Act) (wL w':World),listed.size=ops.size->listed.toList.countP (fun b=>!b)=fuel->mA ops.toList (fun k=>listed.getD k false=true) ->
    Ph ops B M lo up->(up<ops.size->∃ o,ops[up]? = some o/\B up=true)->St P base an K (M 0) (M lo) w1 wL->At P base gl K (M lo) (M ops.size).hi wL->(∀ q ∈ X lo,listed.getD q.1 false=false->A4i (M lo).H q.2=true)->(∀ k,k<lo->listed.getD k false=false->∃ q ∈ X lo,q.1=k)->(∀ k o,up<=k->ops[k]? = some o->listed.getD k false=true->y5 o.op=true) ->
    Inv z P base gl nt ops F M V lo up K wL (fun k=>listed.getD k false) ρ a w'->iF P z.rd .any ops Q fuel listed a w':=by
   have done:∀ (listed:Array Bool) (lo up:Nat) (K ρ:Ren) (a:Act) (wL w':World),(∀ i,i<ops.size->listed.getD i false=true)->Ph ops B M lo up->(up<ops.size->∃ o,ops[up]? = some o/\B up=true)->St P base an K (M 0) (M lo) w1 wL->(∀ k o,up<=k->ops[k]? = some o->listed.getD k false=true->y5 o.op=true) ->
     Inv z P base gl nt ops F M V lo up K wL (fun k=>listed.getD k false) ρ a w'->Q .normal a w':=fun listed lo up K ρ a wL w' W ph I aj L inv=>by
    have cq:up=ops.size:=by
     rcases F6 up ops.size with h|h
     .obtain⟨o,C,hs⟩:=I h
      have:=L up o (A7 _) C (W up h);rw[DL (g.sb up o C hs)]at this;cases this
     .have:=ph.sz;omega
    subst cq;exact fin ρ a w' (g.last ak.le W inv) (St.trans az aj (g.heap ph (fun k _ h1 O=>by have O:listed.getD k false=false:=O;rw[W k h1]at O;cases O) inv))
   intro fuel;induction fuel with
   | zero =>
     intro listed lo up K ρ a wL w' cv bf aq ph I aj af ct bw L inv;have W:∀ i,i<ops.size->listed.getD i false=true:=fun i hi=>by
      have:=NV bf i (by simpa [cv]using hi);have O:listed[i]? = some true:=by simpa using this
      simp[B6,O]
     refine⟨?_,done listed lo up K ρ a wL w' W ph I aj L inv⟩;rw[bQ];intro j hj;obtain⟨h1,o,O,_⟩:=mem_ready.1 hj;have av:j<ops.size:=(C6.1 O).1;have h3:=W j av;have bb:j<listed.size:=A2;simp[B6,bb]at h1 h3;rw[h1]at h3;cases h3
   | succ fuel ih =>
     intro listed lo up K ρ a wL w' cv bf aq ph I aj af ct bw L inv;refine⟨fun dm=>?_,fun i hi=>?_⟩
     ·
      have key:∀ n i,i<n->i<ops.size->listed.getD i false=true:=by
       intro n;induction n with
       | zero=>intro i h;omega
       | succ n bo =>
         intro i dh bl;by_cases h:i<n
         .exact bo i h bl
         .cases Y:listed.getD i false with
          | true=>rfl
          | false =>
            exfalso;obtain⟨o,C⟩:=P2 (ops:=ops) bl;have bj:i ∈ Region.ready .any ops listed:=mem_ready.2 ⟨by
             have bb:i<listed.size:=A2;simp[B6,bb]at Y ⊢;exact Y,o,C,fun e he hb=>by
             have av:=cm i o C e (by simpa using he) hb;exact bo e.on A2 A2⟩
            rw[dm]at bj;cases bj
      exact done listed lo up K ρ a wL w' (fun i hi=>key (i+1) i (I9 i) hi) ph I aj L inv
     .obtain⟨h1,o,C,O⟩:=mem_ready.1 hi;have bl:i<ops.size:=(C6.1 C).1;have ag:i<listed.size:=A2;have Z:listed.getD i false=false:=by
       simp[B6,ag]at h1 ⊢;exact h1
      have u:∀ k,k≠i->(listed.setIfInBounds i true).getD k false=listed.getD k false:=fun k A=>by
       simp only[B6,F8];rw[A6 (fun e=>A e.symm)]
      have J:(listed.setIfInBounds i true).getD i false=true:=by
       simp[B6,F8,ag]
      have hr:∀ e ∈ o.after.toList,Region.binds .any e=true->listed.getD e.on false=true:=fun e he hb=>O e (by simpa using he) hb
      have bg:(listed.setIfInBounds i true).size=ops.size:=by simpa using cv
      have br:(listed.setIfInBounds i true).toList.countP (fun b=>!b)=fuel:=by
       have hg:listed.toList[i]? = some false:=by
        simp[B6,ag]at Z;simp[ag,Z]
       have:=CJ listed.toList i hg;rw[Array.toList_setIfInBounds];omega
      have bh:mA ops.toList (fun k=>(listed.setIfInBounds i true).getD k false=true):=by
       intro k o' bc A e he hb;by_cases e1:e.on=i
       .rw[e1];exact J
       .show(listed.setIfInBounds i true).getD e.on false=true;rw[u e.on e1];by_cases e2:k=i
        .subst e2;have:ops.toList[k]? = some o:=R9 C;rw[this]at bc;cases bc;exact hr e he hb
        .have A:(listed.setIfInBounds i true).getD k false=true:=A;rw[u k e2]at A;exact aq k o' bc A e he hb
      have bt:∀ k,k ∈ (Y1 ops.toList []).getD i []->listed.getD k false=true:=fun k A=>zH aq (fun i o C=>by
        have:=(gX _ 0 g.ok i o C).1;rw[F1]at this;exact eR this) (i+1) i k o (I9 i) (R9 C) hr A
      have av:∀ k,listed.getD k false=true->k<ops.size:=fun k A=>by
       rcases F6 k ops.size with h|h
       .exact h
       .have S:listed[k]? = none:=Array.getElem?_eq_none_iff.2 A2;rw[B6,S]at A;cases A
      have ae:At P base gl K (M lo) (M up).hi wL:=af.less (E up ops.size ph.sz (A7 _)).1;have go:∀ (y:Ren) (a':Act) (G:World),(up<=i->y5 o.op=true)->Inv z P base gl nt ops F M V lo up K wL (fun k=>(listed.setIfInBounds i true).getD k false) y a' G->iF P z.rd .any ops Q fuel (listed.setIfInBounds i true) a' G:=fun y a' G Y ay =>
       ih (listed.setIfInBounds i true) lo up K y a' wL G bg br bh ph I aj af (fun q Y S=>ct q Y (by
        by_cases e:q.1=i
        .rw[e,J]at S;cases S
        .rw[u _ e]at S;exact S)) (fun k A S=>by
        by_cases e:k=i
        .subst e;rw[J]at S;cases S
        .rw[u k e]at S;exact bw k A S) (fun k p A hp hl=>by
        by_cases e:k=i
        .subst e;rw[C]at hp;cases hp;exact Y A
        .rw[u k e]at hl;exact L k p A hp hl) ay
      have quiet:∀ r,(up<=i->y5 o.op=true)->dI nt ops.toList (W3 P call o) ((Y1 ops.toList []).getD i []) (R i) (F i) o (M i) (M (i+1)) (V i) r->(∀ b ab,r=some (b,ab)->GD M lo up (fun k=>listed.getD k false) b=some ab)->gI P z.rd ops Q i (fun a' G=>iF P z.rd .any ops Q fuel (listed.setIfInBounds i true) a' G) a w':=fun r Y U ds =>
       g.quiet T ae (ah (i+1) A2) ak.le inv aq av C Z hr u J U ds fun y a' G ay=>go y a' G Y ay
      rcases F6 i lo with aa|aa
      ·
       obtain⟨q,cp,ca⟩:=bw i aa Z;obtain⟨_,_,p,hp,U⟩:=g.inX lo (by have:=ph.sz;have:=ph.le;omega) q cp;rw[ca]at hp U;rw[C]at hp;cases hp;refine quiet q.2 (fun h=>by have:=ph.le;omega) U fun b ab hb=>?_
       refine g.old (z:=z) ph ae ?_
       have:=ct q cp (by rw[ca];exact Z);rw[hb]at this;exact this
      .rcases F6 i up with cz|cz
       ·
        by_cases hex:∃ r,dI nt ops.toList (W3 P call o) ((Y1 ops.toList []).getD i []) (R i) (F i) o (M i) (M (i+1)) (V i) r
        .obtain⟨r,U⟩:=hex;refine quiet r (fun h=>by omega) U fun b ab hb=>?_
         rcases U with⟨_,_,_,_,dt⟩|⟨lg,di,hw,Y,hm,dx⟩
         .rw[dt]at hb;cases hb
         .obtain⟨mv,m',cw,_⟩:=kP Y;obtain⟨h3,h4⟩:=(rW cw).2.2.2.2.2 b ab (dx.symm.trans hb);obtain⟨h5,h6⟩:=xZ h3;exact g.see (z:=z) (a:=a) (ρ:=ρ) (w:=w') ph ae aq aa cz C hr b h6 _ h5 h4
        .exact g.step ph T ae (ah up ph.sz) ak.le inv aq av aa cz C Z hr u J hex fun y a' G ay=>go y a' G (fun h=>by omega) ay
       .obtain⟨os,bx,ax⟩:=I A2;rcases F6 up i with dq|dj
        ·
         have A:y5 o.op=true:=by
          rcases ME (g.sb up os bx ax) i o dq C with h|h
          .have h3:=L up os (A7 _) bx (bt up h);rw[DL (g.sb up os bx ax)]at h3;cases h3
          .exact h
         exact quiet none (fun _=>A) (g.kind C A) fun b ab hb=>by cases hb
        ·
         have cn:i=up:=A2;subst cn;rw[C]at bx;cases bx;have ad:∀ k,k<i->listed.getD k false=false->∃ q ∈ X i,q.1=k:=fun k A S=>by
          rcases MF (g.sb i o C ax) k A with h|h
          .rw[bt k h]at S;cases S
          .exact h
         have q2:=g.heap ph (fun k _ A S=>by
          obtain⟨q,Y,e⟩:=ad k A S;obtain⟨_,_,p,hp,U⟩:=g.inX i A2 q Y;rw[e]at U;exact BD U) inv
         have dy:St P base an ρ (M 0) (M i) w1 w':=St.trans (az.less (E i ops.size A2 (A7 _)).1) aj q2;have ar:At P base gl ρ (M i) (M ops.size).hi w':=af.step q2;obtain⟨d1,d2,d3,bp⟩:=g.st i o C;have bu:∀ t,t ∈ V3 ops.toList o->t<nt->VR ρ ((F i).get t) (a.tmps.getD t undef):=fun t ht cb=>by
          rw[<- g.look ak.le aq av C Z hr ht cb];exact inv.frm t cb
         have dw:FR ρ (F i) a.eval o.op:=fun x hx=>by
          have bq:okX nt gl x=true:=D3.1 d2 x hx;cases x with
          | tmp t=>exact bu t (vY hx rfl) (A1 bq)
          | const v=>exact VR.ofC bq
          | global gg=>exact VR.ptr (o:=0) (ar.gr gg (A1 bq))
          | func f=>exact .func (a:=[]) (b:=[]) (a':=[]) (b':=[]) rfl rfl (fun i v v' h=>by simp at h) (fun i v v' h=>by simp at h)
         have ba:∀ lg b,aW nt (F i) (M i).lg ops.toList o=some (b,lg)->Sat lg->Region.wanted o (yielded ops a.tmps)=b:=fun lg b hw bd=>by
          unfold aW at hw;split at hw
          .rename_i hg;cases hw;simp[Region.wanted,hg]
          .rename_i j want hg;split at hw
           .rename_i p hp;split at hw
            .rename_i t ht;obtain⟨h1,O⟩:=A3 hw;have h1:t<nt:=A1 h1;have hv:=bu t (by
              unfold V3;refine B7.2 (.inr (B7.2 (.inr ?_)));simp[hg,hp,ht]) h1
             exact mD hg hp ht (by rw[inv.tsz];exact h1) (oU O hv bd)
            .cases hw
           .cases hw
         have bm:∀ (y:Ren) (v':Value),(∀ b l,ρ b=some l->y b=some l)->VR y (V i) v'->∀ t,t<nt->VR y (aF (fun k=>(listed.setIfInBounds i true).getD k false) (fun k=>(ops[k]?).bind (·.dst)) V (F 0).get t ops.size) ((a.put o.dst v').tmps.getD t undef):=fun y v' he hv t ht=>by
          by_cases hd:o.dst=some t
          .have al:∀ k,i<k->k<ops.size->(ops[k]?).bind (·.dst)=some t->listed.getD k false=false:=fun k dk A ck=>by
            obtain⟨p,hp⟩:=P2 (ops:=ops) A;rw[hp]at ck
            have:=g.slot aq av C Z hr (t:=t) (by unfold V3;simp[hd]) k p hp A2 ck;cases Y:listed.getD k false with
            | false=>rfl
            | true=>have:=this.1 Y;omega
           rw[qY (D:=fun k=>listed.getD k false) u J ops.size bl (by simp[C,hd]) al];simp only[hd,Act.put,B6];rw[F8,A9 rfl,A9 (by rw[inv.tsz];exact ht)];exact hv
          .rw[nZ (D:=fun k=>listed.getD k false) u (by simp[C];exact hd)];have h1:=(inv.frm t ht).mono he;cases ch:o.dst with
           | none=>exact h1
           | some d =>
             have dp:d≠t:=fun e=>hd (e▸ch)
             simp only[Act.put,B6]at h1 ⊢;rw[F8,A6 dp];exact h1
         have hX:X (i+1)=X i/\ZO ((Y1 ops.toList []).getD i []) (M (i+1)).H (X i)=true:=by
          rcases g.qs i o C with⟨_,h3,h4⟩|⟨h3,_⟩|⟨h3,_⟩
          .exact⟨h3,h4⟩
          .rw[ax]at h3;cases h3
          .rw[ax]at h3;cases h3
         have al:∀ (y:Ren) (v':Value) (G:World),VR y (V i) v'->St P base ρ y (M i) (M (i+1)) w' G->iF P z.rd .any ops Q fuel (listed.setIfInBounds i true) (a.put o.dst v') G:=fun y v' G hv ai=>by
          obtain⟨dn,u1,u2,u3,u4⟩:=sB ops B (ops.size-(i+1)) (i+1) A2;have bk:=ar.step ai;refine ih (listed.setIfInBounds i true) (i+1) dn y y _ G G bg br bh ⟨u1,u2,bk.nh,u3⟩ u4 (St.trans (az.less (E (i+1) ops.size A2 (A7 _)).1) dy ai) bk (fun q Y S=>?_) (fun k A S=>?_) (fun k p A hp hl=>?_)
           (g.fresh (fun k A hl=>?_) ai.hr ?_ ?_ (bm y v' ai.ext hv))
          .rw[hX.1]at Y;have h5:=D3.1 hX.2 q Y;rcases I5 _ _▸h5 with h5|h5
           .exfalso;have h6:=bt q.1 (V6.1 h5);by_cases e:q.1=i
            .rw[e,Z]at h6;cases h6
            .rw[u _ e,h6]at S;cases S
           .exact h5
          .rw[hX.1];by_cases e:k=i
           .subst e;rw[J]at S;cases S
           .rw[u k e]at S;exact ad k A2 S
          .rw[u k A2]at hl;exact L k p A2 hp hl
          .have hl:(listed.setIfInBounds i true).getD k false=true:=hl;rw[u k A2]at hl;obtain⟨p,hp⟩:=P2 (ops:=ops) (av k hl);exact BD (g.kind hp (L k p A2 hp hl))
          .cases ch:o.dst<;>simp[Act.put,inv.tsz]
          .rw[eE];exact inv.dfr.congr ai.ext fun _=>⟨rfl,rfl⟩
         unfold gI;simp only[C];rcases bp with⟨N,_⟩|⟨N,_⟩|⟨_,lg,hw,bz,cl⟩|⟨N,_⟩
         .rw[ax]at N;cases N
         .rw[ax]at N;cases N
         .have cd:=ah (i+1) A2;have bd:Sat lg:=R2.le cd (by have:=x9 T bz;rw[Z8]at this;exact this);rw[ba lg true hw bd];simp only[if_true];have cg:At P base gl ρ ((M i).wLg lg) (M (i+1)).hi w':=(ar.wLg lg).less (E (i+1) ops.size A2 (A7 _)).1;refine pI T bz cd cg dw fun v' y G hv ai=>al y v' G hv ?_
          have dz:=St.wLg (m:=M i) ar.hr lg;exact St.trans (by have:=ar.fr;exact this.less (E (i+1) ops.size A2 (A7 _)).1) dz ai
         .rw[ax]at N;cases N
  obtain⟨up,u1,u2,u3,u4⟩:=sB ops B ops.size 0 A2;have bn:∀ k,(Array.replicate ops.size false).getD k false=false:=fun k=>by
   simp only[B6,gG];split<;>simp
  refine main ops.size _ 0 up an an a0 w1 w1 (by simp) (by simp[List.countP_replicate]) (fun k o C A=>by have A:(Array.replicate ops.size false).getD k false=true:=A;rw[bn k]at A;cases A) ⟨u1,u2,au.nh,u3⟩ u4 (St.refl au.hr) au (fun q Y=>by rw[g.x0]at Y;cases Y) (fun k A=>by omega) (fun k o A C hl=>by rw[bn k]at hl;cases hl)
   (g.fresh (fun k _ hl=>by have hl:(Array.replicate ops.size false).getD k false=true:=hl;rw[bn k]at hl;cases hl) au.hr ak.size (by rw[f1];exact ak.zr) fun t ht=>?_)
  have h0:∀ n,aF (fun k=>(Array.replicate ops.size false).getD k false) (fun k=>(ops[k]?).bind (·.dst)) V (F 0).get t n=(F 0).get t:=by
   intro n;induction n with
   | zero=>rfl
   | succ n bo=>rw[aF,A6 (fun hh=>by rw[bn n]at hh;exact absurd hh.1 (by simp)),bo]
  rw[h0,f1];exact ak.get t ht
end
end
section
open Go
variable [Ora]
section
variable {P:Program} {base gl:Nat}
def vN{f:FuncId}{e:V9->Sem Value}{args:V9}{w w':World}{v:Value}(d:P.funcs[f]? = some fn)(b:(fn.name == "runtime.NumGoroutine")=false)(i:fn.body=none)(g:Extern.findNext fn=none)(he:Extern.find fn=some e)
  (hr:(e args).run P w=.ok v w'):(callFunc f args).run P w=.ok (.value v) w':=by
 have a:fn.name ≠ "runtime.NumGoroutine":=by simpa using b
 simp[callFunc,A4,run_program,Result.andThen,d,a,i,g,he,mark,Sem.run,hr]
def lP{k:EK}{vs:C9}{v:Value}(h:oC k vs m=some (v,m')) :
  (k=.noEscape/\vs=[v]/\m'=m) ∨
  (k=.indexByteString/\∃ s c,vs=[.string s,.int .u8 (.ofNat c)]/\v=.int .i64 (sM s.data.toList (UInt8.ofNat c) 0)/\m'=m) ∨
  (k=.countString/\∃ s c,vs=[.string s,.int .u8 (.ofNat c)]/\v=.int .i64 (sX (UInt8.ofNat c) s.data.toList 0)/\m'=m) ∨
  (∃ e n,k=.makeNoZero e/\vs=[.int .i64 (.ofNat n)]/\n<=1000000000/\Y6 m (.cells [] e false) (fun b=>.slice (some ⟨b,0,none⟩) n M5)=some (v,m')):=by
 unfold oC at h;split at h
 .cases h;exact .inl ⟨rfl,rfl,rfl⟩
 .cases h;exact .inr (.inl ⟨rfl,_,_,rfl,rfl,rfl⟩)
 .cases h;exact .inr (.inr (.inl ⟨rfl,_,_,rfl,rfl,rfl⟩))
 .obtain⟨h1,h⟩:=A3 h;exact .inr (.inr (.inr ⟨_,_,rfl,rfl,A1 h1,h⟩))
 .cases h
def vO{k:EK}{vs:C9}{v:Value}(h:(FnC.mk (oC k)).run vs m=some (v,m')):m.lg.le m'.lg:=by
 have h:oC k vs m=some (v,m'):=h;rcases lP h with⟨_,_,rfl⟩|⟨_,_,_,_,_,rfl⟩|⟨_,_,_,_,_,rfl⟩|⟨_,_,_,_,_,h⟩
 .exact .refl _
 .exact .refl _
 .exact .refl _
 .obtain⟨_,_,rfl⟩:=L3 h;exact .refl _
def IM{f:FuncId}(e:P.funcs[f]? = some fn)(a:(fn.name == "runtime.NumGoroutine")=false)(j:fn.body=none)(d:Extern.findNext fn=none)(he:Extern.find fn=some Extern.AbiNoEscape.same):lZ P base gl f ⟨oC .noEscape⟩:=by
 refine⟨fun vs m m' v hr=>vO hr,?_⟩;intro ρ m m' w vs vs' v hr k b i;have hr:oC .noEscape vs m=some (v,m'):=hr;rcases lP hr with⟨_,rfl,rfl⟩|⟨h,_⟩|⟨h,_⟩|⟨_,_,h,_⟩
 .obtain⟨v',l,rfl,h1,g⟩:=i.tail;cases g.nil_inv;exact .inr ⟨v',ρ,w,vN e a j d he rfl,h1,.refl b.hr⟩
 .cases h
 .cases h
 .cases h
def BV(c:UInt8):∀ (l:List UInt8) (k:Nat),sM l c k=if Lib.indexByte l c == -1 then -1 else Lib.indexByte l c+k
 | [],k=>rfl
 | x::r,k=>by
   have f:=Lib.indexByte_ge r c;have b:=BV c r (k+1);rw[sM,Lib.indexByte];by_cases e:x=c
   .subst e;simp
   .have d:(x == c)=false:=by simpa using e
    simp only[d,E7 e,D7];rw[b];by_cases h:Lib.indexByte r c = -1
    .simp[h]
    .have a:(Lib.indexByte r c == -1)=false:=by simpa using h
     have h3:(Lib.indexByte r c+1 == -1)=false:=by simp;omega
     simp only[a,h3,J3,if_false];omega
def NL(c:UInt8)(l:List UInt8):sM l c 0=Lib.indexByte l c:=by
 rw[BV];by_cases h:Lib.indexByte l c = -1
 .simp[h]
 .have a:(Lib.indexByte l c == -1)=false:=by simpa using h
  simp[a]
def oF(c:UInt8):∀ (l:List UInt8) (n:Nat),sX c l n=n+l.count c
 | [],n=>rfl
 | x::r,n=>by
   rw[sX,List.count_cons];by_cases e:x=c
   .subst e;simp only[decide_true,E1,E5,beq_self_eq_true,if_true];rw[oF x r (n+1)];omega
   .have a:(x == c)=false:=by simpa using e
    simp only[E7 e,D7,a,J3,if_false];rw[oF c r n];omega
def EQ{f:FuncId}(g:P.funcs[f]? = some fn)(a:(fn.name == "runtime.NumGoroutine")=false)(k:fn.body=none)(e:Extern.findNext fn=none)(he:Extern.find fn=some Extern.BytealgIndexByte.indexByte):lZ P base gl f ⟨oC .indexByteString⟩:=by
 refine⟨fun vs m m' v hr=>vO hr,?_⟩;intro ρ m m' w vs vs' v hr l b j;have hr:oC .indexByteString vs m=some (v,m'):=hr;rcases lP hr with⟨h,_⟩|⟨_,s,c,rfl,rfl,rfl⟩|⟨h,_⟩|⟨_,_,h,_⟩
 .cases h
 .obtain⟨v1,r1,rfl,h1,i⟩:=j.tail;obtain⟨v2,n,rfl,h3,d⟩:=i.tail;cases d.nil_inv;cases U5 h1;cases J1 h3;refine .inr ⟨_,ρ,w,vN g a k e he (Lib.run_indexByteString s (.ofNat c) w),?_,.refl b.hr⟩;rw[NL];exact .pure rfl
 .cases h
 .cases h
def yQ{f:FuncId}(g:P.funcs[f]? = some fn)(a:(fn.name == "runtime.NumGoroutine")=false)(k:fn.body=none)(e:Extern.findNext fn=none)(he:Extern.find fn=some Extern.BytealgCount.count):lZ P base gl f ⟨oC .countString⟩:=by
 refine⟨fun vs m m' v hr=>vO hr,?_⟩;intro ρ m m' w vs vs' v hr l b j;have hr:oC .countString vs m=some (v,m'):=hr;rcases lP hr with⟨h,_⟩|⟨h,_⟩|⟨_,s,c,rfl,rfl,rfl⟩|⟨_,_,h,_⟩
 .cases h
 .cases h
 .obtain⟨v1,r1,rfl,h1,i⟩:=j.tail;obtain⟨v2,n,rfl,h3,d⟩:=i.tail;cases d.nil_inv;cases U5 h1;cases J1 h3;refine .inr ⟨_,ρ,w,vN g a k e he (Lib.run_countString s (.ofNat c) w),?_,.refl b.hr⟩;rw[oF,F1];exact .pure rfl
 .cases h
def AD{f:FuncId}{ps:Array TypeId}{t e:TypeId}(x:P.funcs[f]? = some fn)(g:(fn.name == "runtime.NumGoroutine")=false)(z:fn.body=none)(k:Extern.findNext fn=none)(he:Extern.find fn=some (Extern.BytealgMakeNoZero.makeNoZero ps #[t]))
  (hu:P.underlying t=some (.slice e)) (hi:(P.info? e).map (·.size)=some 1):lZ P base gl f ⟨oC (.makeNoZero e)⟩:=by
 refine⟨fun vs m m' v hr=>vO hr,?_⟩;intro ρ m m' w vs vs' v hr A a y;have hr:oC (.makeNoZero e) vs m=some (v,m'):=hr;rcases lP hr with⟨h,_⟩|⟨h,_⟩|⟨h,_⟩|⟨e',n,h,rfl,l,hr⟩
 .cases h
 .cases h
 .cases h
 .cases h;obtain⟨v1,r1,rfl,h1,j⟩:=y.tail;cases j.nil_inv;cases J1 h1;obtain⟨cs,d,hle,_⟩:=Lib.run_makeNoZero (P:=P) w ps t e hu n A2;obtain⟨q,s,p⟩:=dN (wd:=w.drew.drew) (fz:=(0,0)) (cap:=cs.size) (C:=cs) (cs':=[]) a.hr a.bs hr a.fr (.nil) (fun i u hi=>by simp at hi) NF.zero
   (fun inf j=>by rw[j]at hi;have hi:some inf.size=some 1:=hi;have hi:=A8 hi;rw[hi];omega) ⟨rfl,rfl,rfl⟩ rfl
  refine .inr ⟨_,_,_,vN x g z k he d,?_,p⟩;rw[q]
  have:=VR.op (ρ:=upd ρ m.n (lc w.heap.size 0 cs.size)) (b:=m.n) (o:=0) (n:=n) (m:=M5) (m':=cs.size) s (A7 _) hle (fun _ _=>rfl)
  simpa using this
end
end
section
open Go
variable [Ora]
structure zK (P:Program) (f:FuncId) (k:EK):Prop where
 row:∃ fn,P.funcs[f]? = some fn/\(fn.name == "runtime.NumGoroutine")=false/\fn.body=none/\Extern.findNext fn=none /\
  ((k=.noEscape/\Extern.find fn=some Extern.AbiNoEscape.same)∨(k=.indexByteString/\Extern.find fn=some Extern.BytealgIndexByte.indexByte)∨(k=.countString/\Extern.find fn=some Extern.BytealgCount.count) ∨
    (∃ e ps t,k=.makeNoZero e/\Extern.find fn=some (Extern.BytealgMakeNoZero.makeNoZero ps #[t])/\P.underlying t=some (.slice e)/\(P.info? e).map (·.size)=some 1))
def zK.ok{P:Program}{f:FuncId}{k:EK}{base gl:Nat}(h:zK P f k):lZ P base gl f ⟨oC k⟩:=by
 obtain⟨fn,h1,b,h3,d,a⟩:=h.row;rcases a with⟨rfl,a⟩|⟨rfl,a⟩|⟨rfl,a⟩|⟨e,ps,t,rfl,a,i,g⟩
 .exact IM h1 b h3 d a
 .exact EQ h1 b h3 d a
 .exact yQ h1 b h3 d a
 .exact AD h1 b h3 d a i g
def CD:∀ {l:List (FuncId×EK)} {f:FuncId} {k:EK},JW l f=some k->(f,k) ∈ l
 | (g,j)::r,f,k,h=>by
   rw[JW]at h;cases e:Nat.beq g f with
   | true =>
     rw[e]at h;cases h;rw[A0 e];exact .head _
   | false =>
     rw[e]at h;exact .tail _ (CD h)
theorem A26{P:Program}{ext:List (FuncId×EK)}{gl base:Nat}{con:FuncId->Option FnC}{lp:FuncId->LpT}(hm:P.follows .mixedOrders=true)(a:FY P)(he:∀ p ∈ ext,zK P p.1 p.2)
  (b:∀ f c,con f=some c->lZ P base gl f c) (d:∀ f fn body,P.funcs[f]? = some fn->fn.body=some body->OL P base gl fn.ntmps body (lp f)) :
  A3Y ⟨P,ext,gl,con,lp⟩ base :=
 { names:=a,ext:=fun f k fn _ _ h=>(he _ (CD h)).ok,con:=b,lp:=d,draws:=fun _ h=>A0v hm h }
end
section
open Go
inductive Sh where
 | s (t:Nat)
 | a (ts:List Nat)
def GM(t:Nat)(u:U):Q0:=if F9 u=t then toV u else none
def SP:G9->List U->Option (C9×List U)
 | [],us=>some ([],us)
 | t::ts,u::us=>match GM t u,SP ts us with
   | some v,some (vs,r)=>some (v::vs,r)
   | _,_=>none
 | _::_,[]=>none
def GL:Sh->List U->Option (Value×List U)
 | .s t,u::us=>match GM t u with
   | some v=>some (v,us)
   | none=>none
 | .s _,[]=>none
 | .a ts,us=>match SP ts us with
   | some (vs,r)=>some (.agg ⟨vs⟩,r)
   | none=>none
def SO:List Sh->List U->Option C9
 | [],[]=>some []
 | [],_::_=>none
 | h::hs,us=>match GL h us with
   | some (v,r)=>match SO hs r with
     | some vs=>some (v::vs)
     | none=>none
   | none=>none
def tup:C9->Value
 | [v]=>v
 | vs=>.tuple ⟨vs⟩
structure lY (w w':World):Prop where
 os:w'.os=w.os/\w'.tape=w.tape/\w'.output=w.output
 size:w.heap.size<=w'.heap.size
 keep:∀ k,k<w.heap.size->w'.heap[k]? = w.heap[k]?
def GOk(G:Nat->Option Obj)(w:World):Prop:=∀ k o,G k=some o->w.heap[k]? = some o
def GOk.lt{G:Nat->Option Obj}{w:World}(h:GOk G w){k:Nat}{o:Obj}(a:G k=some o):k<w.heap.size:=by
 have:=h k o a;rcases F6 k w.heap.size with h1|h1
 .exact h1
 .rw[Array.getElem?_eq_none h1]at this;cases this
abbrev cT:=List U->Option (Nat×List U)
def Sh.tags:Sh->G9
 | .s t=>[t]
 | .a ts=>ts
def AO:List Sh->G9
 | []=>[]
 | s::ss=>s.tags++AO ss
def Sh.n(s:Sh):Nat:=s.tags.length
def shN:List Sh->Nat
 | []=>0
 | h::hs=>h.n+shN hs
def lS(a:List Sh):Bool:=(AO a).any (Nat.ble 10)
inductive ShR (R:Nat->Option Obj):Sh->List U->Value->Prop
 | s {t u v} (h:Enc R u v) (ht:F9 u=t):ShR R (.s t) [u] v
 | a {ts us cs} (h:Y2 R us cs) (ht:us.map F9=ts):ShR R (.a ts) us (.agg ⟨cs⟩)
inductive ShL (R:Nat->Option Obj):List Sh->List U->C9->Prop
 | nil:ShL R [] [] []
 | cons {s ss us us2 v vs} (h:ShR R s us v) (k:ShL R ss us2 vs):ShL R (s::ss) (us++us2) (v::vs)
def Y2.append{R:Nat->Option Obj}{us a:List U}{vs:C9}(h:Y2 R us vs)(k:Y2 R a vs2):Y2 R (us++a) (vs++vs2):=by
 refine⟨by simp[h.1,k.1],fun i u v h1 d=>?_⟩;rcases F6 i us.length with b|b
 .rw[E9 b]at h1;rw[E9 (h.1▸b)]at d;exact h.2 i u v h1 d
 .rw[E0 b]at h1;rw[E0 (h.1▸b),<- h.1]at d;exact k.2 _ u v h1 d
def Y2.split{R:Nat->Option Obj}:∀ {vs vs2:C9} {us:List U},Y2 R us (vs++vs2)->∃ a b,us=a++b/\Y2 R a vs/\Y2 R b vs2
 | [],vs2,us,h=>⟨[],us,rfl,.nil,h⟩
 | v::vs,vs2,[],h=>by have:=h.1;simp at this
 | v::vs,vs2,u::us,h=>by
   obtain⟨a,b,rfl,h1,d⟩:=Y2.split (vs:=vs) (vs2:=vs2) (us:=us) ⟨by have:=h.1;simpa using this,fun i x y e a2=>h.2 (i+1) x y (by simpa using e) (by simpa using a2)⟩;exact⟨u::a,b,rfl,.cons (h.2 0 u v rfl rfl) h1,d⟩
def Y2.mono{R d:Nat->Option Obj}{us:List U}{vs:C9}(h:Y2 R us vs)(k:Sub R d):Y2 d us vs:=⟨h.1,fun i u v a b=>(h.2 i u v a b).mono k⟩
def GO{R:Nat->Option Obj}:∀ {ts:G9} {us r:List U} {vs:C9},SP ts us=some (vs,r)->∃ a,us=a++r/\Y2 R a vs/\a.map F9=ts
 | [],us,r,vs,h=>by cases h;exact⟨[],rfl,.nil,rfl⟩
 | t::ts,u::us,r,vs,h=>by
   unfold SP at h;split at h
   .rename_i v e i h1 b;cases h;obtain⟨a,rfl,f,g⟩:=GO (R:=R) b;unfold GM at h1;split at h1
    .rename_i d;exact⟨u::a,rfl,.cons (.sc h1) f,by simp[d,g]⟩
    .cases h1
   .cases h
 | _::_,[],_,_,h=>by cases h
def SN{R:Nat->Option Obj}{s:Sh}{us r:List U}{v:Value}(h:GL s us=some (v,r)):∃ a,us=a++r/\ShR R s a v:=by
 cases s with
 | s t =>
   cases us with
   | nil=>cases h
   | cons u us =>
     simp only[GL]at h;split at h
     .rename_i v1 hv;cases h;unfold GM at hv;split at hv
      .rename_i b;exact⟨[u],rfl,.s (.sc hv) b⟩
      .cases hv
     .cases h
 | a ts =>
   simp only[GL]at h;split at h
   .rename_i vs g hv;cases h;obtain⟨a,e,f,d⟩:=GO (R:=R) hv;exact⟨a,e,.a f d⟩
   .cases h
def wJ{R:Nat->Option Obj}:∀ {b:List Sh} {us:List U} {vs:C9},SO b us=some vs->ShL R b us vs
 | [],[],vs,h=>by cases h;exact .nil
 | [],_::_,_,h=>by cases h
 | s::b,us,vs,h=>by
   unfold SO at h;split at h
   .rename_i v r hv;split at h
    .rename_i d e;cases h;obtain⟨a,rfl,f⟩:=SN (R:=R) hv;exact .cons f (wJ e)
    .cases h
   .cases h
def A0r{R:Nat->Option Obj}{us:List U}{vs:C9}(h:Y2 R us vs)(b:vs2.length=us.length)(k:∀ (i:Nat) (u:U) (v:Value),us[i]? = some u->vs2[i]? = some v->toV u=some v):vs=vs2:=by
 refine aT fun i=>?_
 rcases F6 i us.length with hi|hi
 .have h1:us[i]? = some us[i]:=A5 hi;have a:vs[i]? = some (vs[i]'(h.1▸hi)):=A5 _;have h3:vs2[i]? = some (vs2[i]'(b▸hi)):=A5 _;rw[a,h3,fP (h.2 i _ _ h1 a) (k i _ _ h1 h3)]
 .rw[T5 (by rw[<- h.1];exact hi),T5 (by rw[b];exact hi)]
def GN:∀ {ts:G9} {us r:List U} {vs:C9},SP ts us=some (vs,r)->∃ a,us=a++r/\vs.length=a.length/\a.length=ts.length/\∀ (i:Nat) (u:U) (v:Value),a[i]? = some u->vs[i]? = some v->toV u=some v
 | [],us,r,vs,h=>by cases h;exact⟨[],rfl,rfl,rfl,fun i u v h=>by simp at h⟩
 | t::ts,u::us,r,vs,h=>by
   unfold SP at h;split at h
   .rename_i v d k h1 j;cases h;obtain⟨a,rfl,f,g,e⟩:=GN j;unfold GM at h1;split at h1
    .refine⟨u::a,rfl,by simp[f],by simp[g],fun i x y b a2=>?_⟩;cases i with
     | zero=>simp at b a2;subst b;subst a2;exact h1
     | succ i=>exact e i x y (by simpa using b) (by simpa using a2)
    .cases h1
   .cases h
 | _::_,[],_,_,h=>by cases h
def U8{R:Nat->Option Obj}:∀ {g:List Sh} {us:List U} {vs vs2:C9},ShL R g us vs->SO g us=some vs2->vs=vs2
 | [],us,vs,vs2,h,k=>by cases h;cases k;rfl
 | s::g,us,vs,vs2,h,k=>by
   cases h with
   | cons h1 l =>
     rename_i d f v vs;unfold SO at k;split at k
     .rename_i v1 r hv;split at k
      .rename_i o n;cases k;have j:d++f=d++f:=rfl;cases h1 with
       | s he i =>
         rename_i t u;have b:(match GM t u with|some v=>some (v,f)|none=>none)=some (v1,r):=hv;cases e:GM t u with
         | none=>rw[e]at b;cases b
         | some w =>
           rw[e]at b;cases b;unfold GM at e;rw[A9 i]at e;rw[fP he e,U8 l n]
       | a he i =>
         rename_i ts cs;simp only[GL]at hv;split at hv
         .rename_i z C x;cases hv;obtain⟨a,q,y,p,A⟩:=GN x;have hlen:a.length=d.length:=by rw[p,<- i];simp
          obtain⟨rfl,rfl⟩:=List.append_inj q hlen.symm;rw[A0r he y A,U8 l n]
         .cases hv
      .cases k
     .cases k
def L2(P:Program)(G:Nat->Option Obj)(f:FuncId)(ps:List Sh)(spec:cT)(rs:List Sh):Prop :=
 ∀ (us outs:List U) (w:World) (vs:List Value) (R:Nat->Option Obj),ShL R ps us vs->spec us=some (0,outs)->GOk G w->GOk R w ->
  (callFunc f ⟨vs⟩).run P w=.ok (.enter f ⟨vs⟩) w/\Calls P f ⟨vs⟩ w (fun e w'=>∃ r a,ShL a rs outs r/\e=.returned (tup r)/\lY w w'/\GOk a w'/\∀ k o,a k=some o->w.heap.size<=k∨∃ o',R k=some o')
def unA:List Sh->C9->Option C9
 | [],[]=>some []
 | .s _::ss,v::vs=>match unA ss vs with
   | some r=>some (v::r)
   | none=>none
 | .a ts::ss,.agg cs::vs=>bif Nat.beq cs.toList.length ts.length then match unA ss vs with
   | some r=>some (cs.toList++r)
   | none=>none else none
 | _,_=>none
def pD(P:Program)(ps:List Sh)(vs:List Value)(m:Mem):Option (C9×Mem) :=
 match unA ps vs with
 | some cs=>match zO (tdP P) (AO ps) cs m with
   | some (xs,[],m)=>some (xs,m)
   | some (xs,gs,m)=>match jR gs m with
     | some (_,m)=>some (xs,m)
     | none=>none
   | none=>none
 | none=>none
def RG(i t b:Nat):Value:=bif Nat.blt t 10 then hole i t else dat b i t
def UZ:G9->Nat->Nat->C9
 | [],_,_=>[]
 | t::ts,i,b=>RG i t b::UZ ts (i+1) b
def A5r:Sh->Nat->Nat->Value
 | .s t,i,b=>RG i t b
 | .a ts,i,b=>.agg ⟨UZ ts i b⟩
def vW:List Sh->Nat->Nat->C9
 | [],_,_=>[]
 | h::hs,i,b=>A5r h i b::vW hs (i+h.n) b
def TH(rs:List Sh)(nx:Nat)(m:Mem):Res :=
 bif lS rs then match fZ m fun b m=>some (tup (vW rs nx b),b,m)with
  | some (v,_,m)=>some (v,m)
  | none=>none
 else some (tup (vW rs nx 0),m)
def A80(m:Mem)(hi:Nat)(v:Value)(lg:Lg):Res :=
 match m with
 | ⟨H,n,W,_,_⟩=>some (v,⟨H,n,W,hi,lg⟩)
def A3B(P:Program)(ps:List Sh)(spec:cT)(rs:List Sh):FnC:=⟨fun vs m =>
 match pD P ps vs m with
 | some (xs,⟨H,n,W,hi,⟨nx,pi,log⟩⟩)=>J4 nx fun nx=>Q5 xs fun xs=>J4 (nx+shN rs) fun a=>bif lS rs then TH rs nx ⟨H,n,W,hi,⟨a,pi,.con spec xs nx 0 (shN rs)::log⟩⟩else A80 m hi (tup (vW rs nx 0)) ⟨a,pi,.con spec xs nx 0 (shN rs)::log⟩
 | none=>none⟩
def SE{P:Program}{ps:List Sh}{spec:cT}{rs:List Sh}{vs:C9}{v:Value}(h:(A3B P ps spec rs).run vs m=some (v,m')) :
  ∃ xs m1,pD P ps vs m=some (xs,m1)/\((lS rs=true/\TH rs m1.lg.nx (m1.wLg ⟨m1.lg.nx+shN rs,m1.lg.pi,.con spec xs m1.lg.nx 0 (shN rs)::m1.lg.log⟩)=some (v,m'))∨(lS rs=false/\v=tup (vW rs m1.lg.nx 0)/\m'=⟨m.H,m.n,m.W,m1.hi,⟨m1.lg.nx+shN rs,m1.lg.pi,.con spec xs m1.lg.nx 0 (shN rs)::m1.lg.log⟩⟩)):=by
 unfold A3B at h;simp only at h;split at h
 .rename_i xs H n W hi nx pi log hx;simp only[E5,H8]at h;refine⟨xs,_,hx,?_⟩;cases a:lS rs with
  | true=>rw[a]at h;exact .inl ⟨rfl,h⟩
  | false =>
    rw[a]at h;obtain⟨g,e,f,d,b⟩:=m;cases h;exact .inr ⟨rfl,rfl,rfl⟩
 .cases h
variable [Ora]
def LO{ρ:Ren}:∀ {b:List Sh} {vs vs' cs:C9},unA b vs=some cs->LR ρ vs vs'->∃ cs',unA b vs'=some cs'/\LR ρ cs cs'
 | [],[],vs',cs,h,hl=>by cases h;rw[hl.nil_inv];exact⟨[],rfl,.nil⟩
 | [],_::_,_,_,h,_=>by cases h
 | .s t::b,[],_,_,h,_=>by cases h
 | .a t::b,[],_,_,h,_=>by cases h
 | .s t::b,v::vs,vs',cs,h,hl=>by
   obtain⟨v',k,rfl,h1,g⟩:=hl.tail;unfold unA at h;split at h
   .rename_i r hr;cases h;obtain⟨cs',e,f⟩:=LO hr g;exact⟨v'::cs',by simp[unA,e],.cons h1 f⟩
   .cases h
 | .a ts::b,v::vs,vs',cs,h,hl=>by
   obtain⟨v',k,rfl,h1,g⟩:=hl.tail;cases v with
   | agg c =>
     unfold unA at h;obtain⟨hlen,h⟩:=A3 h;split at h
     .rename_i r hr;cases h;obtain⟨cs',e,f⟩:=LO hr g;obtain⟨i,rfl,j⟩:=V4 h1;refine⟨i++cs',?_,j.append f⟩;have d:Nat.beq i.length ts.length=true:=by rw[<- j.1];exact hlen
      simp[unA,e,d]
     .cases h
   | _=>cases h
def dE{R:Nat->Option Obj}:∀ {e:List Sh} {vs cs:C9} {us:List U},unA e vs=some cs->Y2 R us cs->us.map F9=AO e->ShL R e us vs
 | [],[],cs,us,h,he,ht=>by
   cases h;have:us=[]:=G1.1 he.1;subst this;exact .nil
 | [],_::_,_,_,h,_,_=>by cases h
 | .s t::e,[],_,_,h,_,_=>by cases h
 | .a t::e,[],_,_,h,_,_=>by cases h
 | .s t::e,v::vs,cs,us,h,he,ht=>by
   unfold unA at h;split at h
   .rename_i r hr;cases h;obtain⟨a,b,rfl,d,f⟩:=Y2.split (vs:=[v]) (vs2:=r) he
    match a,d with
    | [u],d =>
      simp only[List.singleton_append,B9,AO,Sh.tags,R7,G3,J2]at ht;exact .cons (.s (d.2 0 u v rfl rfl) ht.1) (dE hr f ht.2)
    | [],d=>have:=d.1;simp at this
    | _::_::_,d=>have:=d.1;simp at this
   .cases h
 | .a ts::e,v::vs,cs,us,h,he,ht=>by
   cases v with
   | agg c =>
     unfold unA at h;obtain⟨hlen,h⟩:=A3 h;have hlen:=A0 hlen;split at h
     .rename_i r hr;cases h;obtain⟨a,b,rfl,d,f⟩:=Y2.split he;simp only[Q6,AO,Sh.tags]at ht;obtain⟨t1,t2⟩:=List.append_inj ht (by simp[d.1,hlen]);obtain⟨l⟩:=c;exact .cons (.a d t1) (dE hr f t2)
     .cases h
   | _=>cases h
section
variable {P:Program} {base gl:Nat}
def A9p(ρ:Ren)(m:Mem)(R:Nat->Option Obj):Prop:=∀ k o,R k=some o->∃ id ab l,id<=H5/\Hp.get m.H id=some ab/\ρ id=some l/\Tf ab l k/\ab.rw=false
def GT{ρ:Ren}{w:World}{ps:List Sh}{vs xs:C9}(h:HR P base ρ m.H w)(d:pD P ps vs m=some (xs,m'))(j:J9 ρ m.n m'.hi)(hv:LR ρ vs vs')(z:Sat m'.lg) :
  ∃ a R,St P base ρ a m m' w w/\m.lg.le m'.lg/\ShL R ps (xs.map (D6 Ora.env)) vs'/\GOk R w/\A9p a m' R:=by
 unfold pD at d;split at d
 .rename_i cs p;obtain⟨cs',A,D⟩:=LO p hv;split at d
  .rename_i t m1 u;cases d;obtain⟨a,e,a2,a3,a4,a5,q⟩:=iG U9 h u j D z;exact⟨a,fun _=>none,e,a2,dE A (q _ fun b y=>by cases y) a5,(fun k o i=>by cases i),(fun k o i=>by cases i)⟩
  .rename_i t gs m1 u;split at d
   .rename_i g m2 C;cases d;have v:=M6 C;obtain⟨K,e,a2,a3,a4,a5,q⟩:=iG U9 h u (j.less v.1) D (by rw[<- v.2.1];exact z);obtain⟨ρ2,lg,s,L,N,x,E,I⟩:=eL e.hr C (j.step e);have f:=(s.hr.atl x E).1.2;exact⟨ρ2,lg.G,St.trans j e s,by rw[v.2.1];exact a2,dE A (q _ fun b y l J=>I b y l J) a5,f,fun k o i=>⟨g,_,lg,s.hr.dom _ _ x,E,x,⟨rfl,.inr ⟨rfl,o,i⟩⟩,rfl⟩⟩
   .cases d
  .cases d
 .cases d
def JN{ρ:Ren}{R:Nat->Option Obj}{i t b:Nat}{u:U}{v:Value}(h:Enc R u v)(g:F9 u=t)(he:Ora.env i=u)(k:10<=t->ρ b=some (kB R)):VR ρ (RG i t b) v:=by
 unfold RG;cases f:Nat.blt t 10 with
 | true =>
   have a:t<10:=A1 f;obtain⟨v1,j,_,_⟩:=OT (u:=u) A2
   have:=fP h j;subst this;exact .hole (by rw[he];exact j) (by rw[he];exact g)
 | false =>
   have a:10<=t:=by
    rcases F6 t 10 with e|d
    .rw[show Nat.blt t 10=true from C4 e]at f;cases f
    .exact d
   exact .dat (k a) (by rw[he];exact h) (by rw[he];exact g) a (lR h)
def GK{ρ:Ren}{R:Nat->Option Obj}{b:Nat}:∀ {ts:G9} {us:List U} {cs:C9} {i:Nat},Y2 R us cs->us.map F9=ts->(∀ j u,us[j]? = some u->Ora.env (i+j)=u)->(∀ t ∈ ts,10<=t->ρ b=some (kB R))->LR ρ (UZ ts i b) cs
 | [],us,cs,i,h,ht,he,hb=>by
   have:us=[]:=by cases us with|nil=>rfl|cons _ _=>simp at ht
   subst this;have:cs=[]:=G1.1 h.1.symm;subst this;exact .nil
 | t::ts,[],cs,i,h,ht,he,hb=>by simp at ht
 | t::ts,u::us,[],i,h,ht,he,hb=>by have:=h.1;simp at this
 | t::ts,u::us,c::cs,i,h,ht,he,hb=>by
   simp only[B9,J2]at ht;refine .cons (JN (h.2 0 u c rfl rfl) ht.1 (he 0 u rfl) (hb t (.head _))) (GK ⟨by have:=h.1;simpa using this,fun j x y f a2=>h.2 (j+1) x y (by simpa using f) (by simpa using a2)⟩ ht.2 (fun j x d=>?_) fun e a=>hb e (.tail _ a))
   have:=he (j+1) x (by simpa using d);rw[show i+1+j=i+(j+1) by omega];exact this
def oV{ρ:Ren}{R:Nat->Option Obj}{b:Nat}:∀ {g:List Sh} {us:List U} {vs:C9} {i:Nat},ShL R g us vs->(∀ j u,us[j]? = some u->Ora.env (i+j)=u)->(lS g=true->ρ b=some (kB R))->LR ρ (vW g i b) vs/\us.length=shN g
 | [],us,vs,i,h,he,hb=>by cases h;exact⟨.nil,rfl⟩
 | s::g,us,vs,i,h,he,hb=>by
   cases h with
   | cons h1 y =>
     rename_i e x v vs;have q:∀ t ∈ s.tags,10<=t->ρ b=some (kB R):=fun t d f=>hb (P3.2 ⟨t,B7.2 (.inl d),C4 f⟩)
     have o:lS g=true->ρ b=some (kB R):=fun w=>by
      obtain⟨t,d,f⟩:=P3.1 w;exact hb (P3.2 ⟨t,B7.2 (.inr d),f⟩)
     have p:e.length=s.n:=by
      cases h1 with
      | s _ _=>rfl
      | a _ d=>show _=List.length _;rw[<- d];simp[Sh.tags]
     obtain⟨g1,g2⟩:=oV (i:=i+s.n) y (fun j u l=>by
      have:=he (e.length+j) u (by rw[E0 A2,W1];exact l);rw[<- p,bY];exact this) o
     refine⟨.cons ?_ g1,by simp[shN,p,g2]⟩;have k:∀ j u,e[j]? = some u->Ora.env (i+j)=u:=fun j u l=>he j u (by rw[E9 (B0.1 l).1];exact l)
     cases h1 with
     | s h d=>exact JN h d (by have:=k 0 _ rfl;simpa using this) (q _ (.head _))
     | a h d =>
       have:=GK (b:=b) h d k q;exact .agg this.1 this.2
def VB{ρ:Ren}{vs:C9}(h:LR ρ vs vs'):VR ρ (tup vs) (tup vs'):=by
 match vs,vs',h with
 | [],vs',h=>rw[h.nil_inv];exact .tuple (a:=[]) (a':=[]) rfl (fun i v v' h1 _=>by simp at h1)
 | [v],vs',h =>
   obtain⟨v',d,rfl,h1,b⟩:=h.tail;cases b.nil_inv;exact h1
 | v::u::r,vs',h =>
   obtain⟨v',d,rfl,h1,b⟩:=h.tail;obtain⟨f,g,rfl,h3,e⟩:=b.tail;exact .tuple h.1 h.2
def St.grown{ρ:Ren}{w w':World}(h:HR P base ρ m.H w)(g:lY w w'):St P base ρ ρ m m w w' :=
 ⟨fun _ _ h=>h,fun b l h1 a=>(by rw[h1]at a;cases a),A7 _,A7 _,fun h=>h,
  ⟨h.dom,fun id hid ab e=>by
    obtain⟨l,h1,a,h3⟩:=h.at_ id hid ab e;exact⟨l,h1,a.mono (fun _ _ h=>h) (fun k d=>g.keep k (a.tc d)),h3⟩⟩,
  fun _ h=>h,fun b h1 a=>absurd h1 a,fun k d _=>g.keep k d,g.size,g.os,fun b l h1 a=>(by rw[h1]at a;cases a),fun _ _ _ _=>rfl,fun _ h=>.inr h⟩
def St.grownLg{ρ:Ren}{w w':World}(h:HR P base ρ m.H w)(g:lY w w')(lg:Lg):St P base ρ ρ m (m.wLg lg) w w':=by
 obtain⟨H,n,W,hi,l⟩:=m;have r:=St.grown (m:=⟨H,n,W,hi,l⟩) h g;exact⟨r.ext,r.new,r.nle,r.hle,r.nhi,r.hr,r.wsub,r.wrw,r.keep,r.size,r.os,r.blk,r.same,r.tch⟩
def St.ret{ρ:Ren}{w w':World}{G:Nat->Option Obj}(h:HR P base ρ m.H w)(g:lY w w')(O:Y6 m .frz (fun _=>undef)=some (undef,m1))(S:J9 ρ m.n m1.hi)(T:GOk G w')
  (N:∀ k o,G k=some o->w.heap.size<=k∨∃ id ab l,id<=H5/\Hp.get m.H id=some ab/\ρ id=some l/\Tf ab l k/\ab.rw=false):upd ρ m.n (kB G) m.n=some (kB G)/\St P base ρ (upd ρ m.n (kB G)) m m1 w w':=by
 obtain⟨hle,_,rfl⟩:=L3 O;have s:ρ m.n=none:=S m.n (A7 _) (K7 _ _).2;have i:=W5 (l:=kB G) s;refine⟨L5 _ _ _,i,fun b q h1 f=>?_,by simp,(K7 _ _).1,fun _=>Y0 (K7 _ _).2,⟨fun b q D=>?_,fun id hid a d=>?_⟩,fun b W=>W,fun b h1 f=>absurd h1 f,fun q D _=>g.keep q D,g.size,g.os,fun b q h1 f p=>?_,fun id hid h1 f=>?_,fun q ⟨id,a,l,hid,d,u,L⟩=>?_⟩
 .obtain⟨rfl,rfl⟩:=U3 h1 f;exact⟨A7 _,I9 _⟩
 .cases h0:ρ b with
  | some Q=>exact h.dom b Q h0
  | none=>obtain⟨rfl,rfl⟩:=U3 D h0;exact hle
 .rw[E8 _ _ _ _ hle hid]at d;by_cases e:id=m.n
  .rw[A9 e]at d;have d:=A8 d;subst d;subst e;exact⟨kB G,L5 _ _ _,⟨rfl,T⟩,fun _ p=>(by cases p)⟩
  .rw[A6 e]at d;obtain⟨l0,h1,f,h3⟩:=h.at_ id hid a d;refine⟨l0,i _ _ h1,f.mono i (fun k U=>g.keep k (f.tc U)),fun hr p=>⟨(h3 hr p).1,fun x j A l2 g1 g2 g3=>?_⟩⟩;rw[E8 _ _ _ _ hle j]at g1;by_cases J:x=m.n
   .subst J;rw[L5]at g2
    have:=A8 g2;subst this;rcases g3 with⟨_,g3,_⟩|⟨_,o,g3⟩
    .cases g3
    .rcases N _ o g3 with y|⟨v,a3,C,I,t,K,E,z⟩
     .have:=f.tc (.inl ⟨AB.rw_on hr,p,rfl⟩);omega
     .have:=(h3 hr p).2 v I a3 C t K E.2;subst this;rw[d]at t;have t:=A8 t;subst t;rw[hr]at z;cases z
   .rw[A6 J]at g1;unfold upd at g2;rw[A6 J]at g2;exact(h3 hr p).2 x j A l2 g1 g2 g3
 .obtain⟨rfl,rfl⟩:=U3 h1 f;cases p
 .rw[E8 _ _ _ _ hle hid,A6];intro e;subst e;rcases f with f|f
  .omega
  .have f:upN m.hi m.n<=m.n:=f
   have:=(K7 m.hi m.n).2;omega
 .have d:Hp.get (m.H.set m.n (some .frz)) id=some a:=d;rw[E8 _ _ _ _ hle hid]at d;by_cases e:id=m.n
  .subst e;rw[A9 rfl]at d;have d:=A8 d;subst d;rw[L5]at u;have u:=A8 u;subst u;rcases L.2 with⟨_,h3,_⟩|⟨_,o,h3⟩
   .cases h3
   .rcases N _ o h3 with y|⟨v,a3,C,I,t,K,E,z⟩
    .exact .inl y
    .exact .inr ⟨v,a3,C,I,t,K,E⟩
  .rw[A6 e]at d;unfold upd at u;rw[A6 e]at u;exact .inr ⟨id,a,l,hid,d,u,L⟩
def St.back{ρ:Ren}{w w':World}{hi:Nat}{lg:Lg}(h:HR P base ρ m.H w)(g:lY w w')(hh:m.hi<=hi):St P base ρ ρ m ⟨m.H,m.n,m.W,hi,lg⟩ w w':=by
 have r:=St.grownLg (m:=m) h g lg;refine⟨r.ext,fun b l h1 a=>(by rw[h1]at a;cases a),A7 _,hh,fun h=>B8 h hh,?_,fun _ h=>h,fun b h1 a=>absurd h1 a,fun k d _=>g.keep k d,g.size,g.os,fun b l h1 a=>(by rw[h1]at a;cases a),fun _ _ _ _=>rfl,fun _ h=>.inr h⟩
 have:=r.hr;rw[kG]at this;exact this
theorem A3A{f:FuncId}{ps:List Sh}{spec:cT}{rs:List Sh}(h:L2 P Ora.G f ps spec rs):lZ P base gl f (A3B P ps spec rs):=by
 have q:∀ {nx:Nat} {m m':Mem} {v:Value},lS rs=true->TH rs nx m=some (v,m')->m'.lg=m.lg/\m.hi<=m'.hi/\m.n<=m'.n:=fun{nx m m' v} a hr=>by
  unfold TH at hr;rw[a]at hr;simp only[E1]at hr;split at hr
  .rename_i x;cases hr;obtain⟨m2,y,C,_⟩:=Q1 x;cases C;obtain⟨_,_,rfl⟩:=L3 y;exact⟨rfl,(K7 _ _).1,Y9 _⟩
  .cases hr
 have i:∀ {vs xs:C9} {m m1:Mem},pD P ps vs m=some (xs,m1)->m.lg.le m1.lg/\m.hi<=m1.hi:=fun{vs xs m m1} h1=>by
  unfold pD at h1;split at h1
  .split at h1
   .rename_i a;cases h1;exact⟨(R6 U9 a).2.1,(R6 U9 a).1⟩
   .rename_i a;split at h1
    .rename_i L;cases h1;exact⟨by rw[(M6 L).2.1];exact(R6 U9 a).2.1,B8 (R6 U9 a).1 (M6 L).1⟩
    .cases h1
   .cases h1
  .cases h1
 refine⟨fun vs m m' v hr=>?_,fun ρ m m' w vs vs' v hr K g T=>.inl ?_⟩
 .obtain⟨xs,m1,h1,⟨a,d⟩|⟨a,_,rfl⟩⟩:=SE hr
  .rw[(q a d).1,Z8];exact(i h1).1.trans ⟨[_],rfl⟩
  .exact(i h1).1.trans ⟨[_],rfl⟩
 .obtain⟨xs,m1,h1,d⟩:=SE hr;have J:m'.lg=⟨m1.lg.nx+shN rs,m1.lg.pi,.con spec xs m1.lg.nx 0 (shN rs)::m1.lg.log⟩/\m1.hi<=m'.hi:=by
   rcases d with⟨a,d⟩|⟨a,_,rfl⟩
   .obtain⟨r1,t,_⟩:=q a d;simp only[Z8,LL]at r1 t;exact⟨r1,t⟩
   .exact⟨rfl,A7 _⟩
  obtain⟨r1,t⟩:=J;have s:i7.con spec xs m1.lg.nx 0 (shN rs) ∈ m'.lg.log:=by rw[r1];exact B2
  have I:Sat m1.lg:=R2.le K (by rw[r1];exact⟨[_],rfl⟩);obtain⟨u,R,D,a2,a3,a4,a5⟩:=GT g.hr h1 (g.fr.less t) T I;obtain⟨outs,h3,h4,N⟩:=K _ s;obtain⟨Q,h7⟩:=h _ outs w vs' R a3 h3 (fun k o A=>(g.gf k o A).2) a4;refine⟨Q,h7.mono fun e w' ⟨r,W,g1,g2,g3,g4,g5⟩=>?_⟩;rcases d with⟨a,d⟩|⟨a,rfl,rfl⟩
  .let j:Lg:=⟨m1.lg.nx+shN rs,m1.lg.pi,.con spec xs m1.lg.nx 0 (shN rs)::m1.lg.log⟩
   have d:TH rs m1.lg.nx (m1.wLg j)=some (v,m'):=d;have p:St P base ρ u m (m1.wLg j) w w:=St.trans (g.fr.less (by simpa using t)) D (St.wLg D.hr j);have z:J9 u (m1.wLg j).n m'.hi:=by simpa using g.fr.step D
   unfold TH at d;rw[a]at d;simp only[E1]at d;split at d
   .rename_i v0 b m2 x;cases d;obtain⟨m3,y,C,_⟩:=Q1 x;cases C;obtain⟨e1,S⟩:=St.ret (G:=W) p.hr g3 y z g4 fun k o A=>by
     rcases g5 k o A with H|⟨o',E⟩
     .exact .inl H
     .obtain⟨id,ab,l,p1,U,Y,Z,p5⟩:=a5 k o' E;exact .inr ⟨id,ab,l,p1,by rw[kG];exact U,Y,Z,p5⟩
    exact⟨_,_,g2,VB (oV g1 N fun _=>e1).1,St.trans g.fr p S⟩
   .cases d
  .exact⟨_,ρ,g2,VB (oV g1 N fun O=>by rw[a]at O;cases O).1,St.back g.hr g3 (i h1).2⟩
end
end
end Go.Sx
