import Derived.Test.YtdkdbjgkedahfaaGreatDoorX6
import Derived.Lib.Bytealg
import Derived.Lib.MakeNoZero
set_option linter.all false
set_option maxRecDepth 100000
set_option maxHeartbeats 4000000
namespace Go.Sx
open Go
variable {m m' m1 m2:Mem}{c:Cls}{r:Option (Nat×AB)}{rs:List Rec}{op:OpC}{fn:Func}{vs' vs2:E0}
section
open Go
variable [Ora]
def A17(ops:Array Oper)(X:Nat->Qs)(i:Nat)(o:Oper):Bool:=KK o.op i ((u6 ops.toList []).getD i []) ((u6 ops.toList []).drop (i+1)) (ops.toList.drop (i+1)) (X i)
structure Rg (P:Program) (base gl nt:Nat) (call:Q5) (ops:Array Oper) (F:Nat->Fr) (M:Nat->Mem) (V:Nat->Value) (R:Nat->List Rec) (X:Nat->Qs) (B:Nat->Bool):Prop where
 st:∀ i o,ops[i]? = some o->JI P nt gl call ops.toList ((u6 ops.toList []).getD i []) (R i) (B i) o (F i) (F (i+1)) (M i) (M (i+1)) (V i)
 rc:∀ i o,ops[i]? = some o->(R (i+1)=R i/\∃ lg,M (i+1)=(M i).wLg lg)∨(B i=true/\R (i+1)=[])∨R (i+1)=⟨i,(M i).n,(M (i+1)).n⟩::R i
 qs:∀ i o,ops[i]? = some o->QsN (B i) i nt ops.toList (d8 P call o) ((u6 ops.toList []).getD i []) (R i) (F i) o (M i) (M (i+1)) (V i) (X i) (X (i+1))
 sb:∀ i o,ops[i]? = some o->B i=true->A17 ops X i o=true
 x0:X 0=[]
 ok:LL ops.toList (u6 ops.toList []) ops.toList 0=true
structure Ph (ops:Array Oper) (B:Nat->Bool) (M:Nat->Mem) (lo up:Nat):Prop where
 le:lo<=up
 sz:up<=ops.size
 nh:(M lo).n<=(M lo).hi
 mx:∀ i o,lo<=i->i<up->ops[i]? = some o->B i=false
section
variable {P:Program} {base gl nt:Nat} {call:Q5} {ops:Array Oper} {F:Nat->Fr} {M:Nat->Mem} {V:Nat->Value} {R:Nat->List Rec} {X:Nat->Qs} {B:Nat->Bool} {lo up:Nat}
def R9{i:Nat}(h:i<ops.size):∃ o,ops[i]? = some o:=⟨ops[i],by simp[h]⟩
def Rg.one(g:Rg P base gl nt call ops F M V R X B){i:Nat}{o:Oper}(k:ops[i]? = some o)(a:B i=false)(d:(M i).n<=(M i).hi):(M i).n<=(M (i+1)).n/\(M i).hi<=(M (i+1)).hi/\(M (i+1)).n<=(M (i+1)).hi/\(M (i+1)).W=(M i).W /\
  ∀ id,id<=J0->(id<(M i).n∨(M (i+1)).n<=id)->Hp.get (M (i+1)).H id=Hp.get (M i).H id:=by
 obtain⟨_,_,_,h⟩:=g.st i o k;rcases h with⟨_,lg,_,_,h⟩|⟨_,lg,l,_,_,h⟩|⟨h,_⟩|⟨_,_,lg,_,mv,m',_,_,_,b,hm⟩
 .rw[h];exact⟨A7 _,A7 _,d,rfl,fun _ _ _=>rfl⟩
 .rw[h];exact⟨A7 _,A7 _,d,rfl,fun _ _ _=>rfl⟩
 .rw[a]at h;cases h
 .obtain⟨e,j,h3,f,_,_,_,p⟩:=LU hm d b;exact⟨e,j,h3,f,fun id hid hh=>by rw[p id hid,A9 (by show ¬ ((M i).n<=id/\_);omega)];rfl⟩
def Rg.allD(g:Rg P base gl nt call ops F M V R X B)(a:Ph ops B M lo up):∀ d,lo+d<=up->(M lo).n<=(M (lo+d)).n/\(M lo).hi<=(M (lo+d)).hi/\(M (lo+d)).n<=(M (lo+d)).hi/\(M (lo+d)).W=(M lo).W /\
  ∀ id,id<=J0->(id<(M lo).n∨(M (lo+d)).n<=id)->Hp.get (M (lo+d)).H id=Hp.get (M lo).H id
 | 0,_=>⟨A7 _,A7 _,a.nh,rfl,fun _ _ _=>rfl⟩
 | d+1,h=>by
   obtain⟨j,l,h3,k,t⟩:=g.allD a d A0;obtain⟨o,b⟩:=R9 (ops:=ops) (i:=lo+d) (by have:=a.sz;omega);obtain⟨q,f,s,e,p⟩:=g.one b (a.mx _ o A0 A0 b) h3;exact⟨C3 j q,C3 l f,s,e.trans k,fun id hid hh=>by
    rw[show lo+(d+1)=lo+d+1 by omega]at hh ⊢;rw[p id hid A0,t id hid A0]⟩
def Rg.all(g:Rg P base gl nt call ops F M V R X B)(a:Ph ops B M lo up){i:Nat}(b:lo<=i)(h:i<=up):(M lo).n<=(M i).n/\(M lo).hi<=(M i).hi/\(M i).n<=(M i).hi/\(M i).W=(M lo).W /\
  ∀ id,id<=J0->(id<(M lo).n∨(M i).n<=id)->Hp.get (M i).H id=Hp.get (M lo).H id:=by
 have:=g.allD a (i-lo) A0
 rwa[show lo+(i-lo)=i by omega]at this
def Rg.mono(g:Rg P base gl nt call ops F M V R X B)(a:Ph ops B M lo up){i:Nat}(p:lo<=i):∀ d,i+d<=up->(M i).n<=(M (i+d)).n/\(M i).hi<=(M (i+d)).hi/\∀ id,id<=J0->id<(M i).n->Hp.get (M (i+d)).H id=Hp.get (M i).H id
 | 0,_=>⟨A7 _,A7 _,fun _ _ _=>rfl⟩
 | d+1,h=>by
   obtain⟨f,j,q⟩:=g.mono a p d A0;obtain⟨o,b⟩:=R9 (ops:=ops) (i:=i+d) (by have:=a.sz;omega);obtain⟨l,e,t,s,k⟩:=g.one b (a.mx _ o A0 A0 b) (g.all a (i:=i+d) A0 A0).2.2.1;exact⟨C3 f l,C3 j e,fun id hid hh=>by rw[show i+(d+1)=i+d+1 by omega,k id hid A0,q id hid hh]⟩
def Rg.le(g:Rg P base gl nt call ops F M V R X B)(b:Ph ops B M lo up){i j:Nat}(a:lo<=i)(h:i<=j)(d:j<=up):(M i).n<=(M j).n/\(M i).hi<=(M j).hi/\∀ id,id<=J0->id<(M i).n->Hp.get (M j).H id=Hp.get (M i).H id:=by
 have:=g.mono b a (j-i) A0
 rwa[show i+(j-i)=j by omega]at this
def RB{mv:Mem}{us:List Rec}(h:DN m c us=some mv):mv.lg=m.lg:=by
 obtain⟨H,n,W,hi,lg⟩:=m;unfold DN at h;simp only at h;cases c with
 | free=>cases h;rfl
 | one b =>
   simp only at h;cases a:bY (w9 us) b || !(Nat.ble b J0)with
   | true=>rw[a]at h;cases h
   | false=>rw[a,gB]at h;cases h;rfl
 | all =>
   simp only at h;obtain⟨d,h⟩:=A3 h;cases h;rfl
def LV(h:nR m m'=some m2):m2.lg=m'.lg:=by
 unfold nR at h;cases a:Nat.ble m'.hi m.n with
 | true=>rw[a]at h;cases h;rfl
 | false =>
   rw[a]at h;obtain⟨_,h⟩:=A3 h;simp only[F5,fQ]at h;cases h;rfl
def pA{a b:Addr}(h:GY a b=true):a=b:=by
 unfold GY at h;split at h
 .obtain⟨e,d⟩:=B3 h;rw[A1 e,A1 d]
 .cases h
def UT{a b:Fn}(h:PK a b=true):a=b:=by
 unfold PK at h;split at h
 .rw[A1 h]
 .rw[A1 h]
 .cases h
def sV{s:Value->Value->Bool}(d:∀ a b,s a b=true->a=b):∀ {l r:E0},DV s l r=true->l=r
 | [],[],_=>rfl
 | [],_::_,h=>by cases h
 | _::_,[],h=>by cases h
 | a::l,b::r,h=>by
   obtain⟨f,e⟩:=B3 (show(s a b && DV s l r)=true from h);rw[d a b f,sV d e]
def A7K{a b:c9}(h:a.toList=b.toList):a=b:=by cases a;cases b;cases h;rfl
def YX:∀ (d:Nat) (v w:Value),zN d v w=true->v=w:=by
 intro d;induction d with
 | zero =>
   intro v w h;unfold zN at h;split at h
   .rw[eq_of_beq h]
   .obtain⟨e,i⟩:=B3 h;rw[dW]at i;rw[kA e,eq_of_beq i]
   .obtain⟨e,i⟩:=B3 h;rw[A1 e,A1 i]
   .obtain⟨e,i⟩:=B3 h;rw[A1 e,A1 i]
   .rename_i s t;have e:=F8 h;cases s with|mk s=>cases t with|mk t=>cases s;cases t;cases e;rfl
   .rfl
   .rw[pA h]
   .obtain⟨e,i⟩:=B3 h;rw[A1 e,A1 i]
   .obtain⟨j,h⟩:=B3 h;obtain⟨e,i⟩:=B3 h;rw[pA j,A1 e,A1 i]
   .rfl
   .rw[A1 h]
   .rfl
   .rfl
   all_goals first|cases h|(rename_i hh;cases hh)
 | succ d k =>
   intro v w h;unfold zN at h;split at h
   .rw[eq_of_beq h]
   .obtain⟨e,i⟩:=B3 h;rw[dW]at i;rw[kA e,eq_of_beq i]
   .obtain⟨e,i⟩:=B3 h;rw[A1 e,A1 i]
   .obtain⟨e,i⟩:=B3 h;rw[A1 e,A1 i]
   .rename_i s t;have e:=F8 h;cases s with|mk s=>cases t with|mk t=>cases s;cases t;cases e;rfl
   .rfl
   .rw[pA h]
   .obtain⟨e,i⟩:=B3 h;rw[A1 e,A1 i]
   .obtain⟨j,h⟩:=B3 h;obtain⟨e,i⟩:=B3 h;rw[pA j,A1 e,A1 i]
   .rfl
   .rw[A1 h]
   .rfl
   .rfl
   .rename_i l f a b g a' b' he;cases he;obtain⟨j,h⟩:=B3 h;obtain⟨e,i⟩:=B3 h;rw[UT j,A7K (sV k e),A7K (sV k i)]
   .rename_i l t v u w he;cases he;obtain⟨e,i⟩:=B3 h;rw[A1 e,k _ _ i]
   .cases h
def ZB{a b:AB}(h:ZC a b=true):a=b:=by
 unfold ZC at h;split at h
 .rfl
 .obtain⟨d,h⟩:=B3 h;obtain⟨f,e⟩:=B3 h;rw[sV (YX 6) d,A1 f,eq_of_beq e]
 .cases h
def AO{H:Hp AB}{b:Nat}{ab:AB}(h:AP H b ab=true):Hp.get H b=some ab/\b<=J0:=by
 unfold AP at h;split at h
 .rename_i x a;obtain⟨e,d⟩:=B3 h;exact⟨by rw[a,ZB d],A2 e⟩
 .cases h
def uO{mv:Mem}{us:List Rec}(h:HH m r us=some mv):mv.n=uG/\mv.hi=uG/\mv.W=[]/\mv.lg=m.lg/\(∀ id,id<=J0->∀ ab,Hp.get mv.H id=some ab->r=some (id,ab))/\∀ b ab,r=some (b,ab)->AP m.H b ab=true/\b ∉ w9 us:=by
 obtain⟨H,n,W,hi,lg⟩:=m;unfold HH at h;simp only at h;cases r with
 | none =>
   cases h;exact⟨rfl,rfl,rfl,rfl,fun id _ ab a=>(by rw[tN]at a;cases a),fun b ab g=>by cases g⟩
 | some p =>
   obtain⟨b,f⟩:=p;simp only at h;cases d:bY (w9 us) b || !(AP H b f)with
   | true=>rw[d]at h;cases h
   | false =>
     rw[d,gB]at h;cases h;simp only[Y9,Bool.not_eq_false']at d;have g:=(AO d.2).2;refine⟨rfl,rfl,rfl,rfl,fun id hid ab a=>?_,fun b' ab' i=>?_⟩
     .have a:Hp.get (Hp.set hp0 b (some f)) id=some ab:=a;rw[F6 _ _ _ _ g hid]at a;by_cases e:id=b
      .subst e;rw[B0 rfl]at a;cases a;rfl
      .rw[A9 e,tN]at a;cases a
     .cases i;exact⟨d.2,fun hm=>by rw[Z9.2 hm]at d;exact absurd d.1 (by simp)⟩
def nJ{fr:Fr}{o:Oper}{b:I7}{v:Value}{lg:Lg}(h:nK fr m o b rs op=some (v,lg)):∃ mv m',HH m (MT m.H fr o.op) (EM b rs)=some mv/\op.run fr mv=some (v,m')/\m'.W=[]/\m'.hi=uG/\m'.lg=lg:=by
 unfold nK at h;split at h
 .rename_i mv d;split at h
  .rename_i v' H n hi a hr;obtain⟨e,f⟩:=A3 h;cases f;exact⟨mv,_,d,hr,rfl,A1 e,rfl⟩
  .cases h
 .cases h
def DR{all:List Oper}{b:I7}{l:Bool}{o:Oper}{fr e:Fr}{v:Value}(d:Z2 P base gl call)(h:JI P nt gl call all b rs l o fr e m m2 v):m.lg.le m2.lg:=by
 obtain⟨_,_,_,h⟩:=h;rcases h with⟨_,lg,hw,_,h⟩|⟨_,lg,k,hw,g,h⟩|⟨_,lg,hw,hr,_⟩|⟨_,_,lg,hw,mv,m',f,hr,_,j,hm⟩
 .rw[h];exact jV hw
 .obtain⟨mv,m',f,hr,_,_,i⟩:=nJ g;have a:=cF d hr;rw[(uO f).2.2.2.1,i]at a;rw[h];exact(jV hw).trans a
 .have a:=cF d hr;rw[aH]at a;exact(jV hw).trans a
 .rw[LV hm];have a:=cF d hr;rw[RB f]at a;exact(jV hw).trans a
def Rg.lgs(g:Rg P base gl nt call ops F M V R X B)(a:Z2 P base gl call){i:Nat}:∀ d,i+d<=ops.size->(M i).lg.le (M (i+d)).lg
 | 0,_=>.refl _
 | d+1,h=>by
   obtain⟨o,b⟩:=R9 (ops:=ops) (i:=i+d) A0;exact(g.lgs a d A0).trans (DR a (g.st (i+d) o b))
def Rg.who(g:Rg P base gl nt call ops F M V R X B)(i:Ph ops B M lo up):∀ d,lo+d<=up->∀ b,(M lo).n<=b->b<(M (lo+d)).n->∃ k,lo<=k/\k<lo+d/\(M k).n<=b/\b<(M (k+1)).n
 | 0,_,b,h1,a=>by have a:b<(M lo).n:=a;omega
 | d+1,h,b,h1,a=>by
   rcases G9 b (M (lo+d)).n with h3|h3
   .obtain⟨k,f,j,e⟩:=g.who i d A0 b h1 h3;exact⟨k,f,A0,e⟩
   .exact⟨lo+d,A0,A0,h3,a⟩
def AD:∀ {rs:List Rec} {b:Nat},b ∈ w9 rs↔∃ r ∈ rs,r.lo<=b/\b<r.hi
 | [],b=>by simp[w9]
 | r::rs,b=>by
   simp only[w9,B7,nS,AD (rs:=rs),C4];constructor
   .rintro(h|⟨d,e,a⟩)
    .exact⟨r,.inl rfl,A0⟩
    .exact⟨d,.inr e,a⟩
   .rintro⟨d,rfl|e,a⟩
    .exact .inl A0
    .exact .inr ⟨d,e,a⟩
def Rg.recs(g:Rg P base gl nt call ops F M V R X B)(j:Ph ops B M lo up):∀ d,lo+d<=up->∀ k,lo<=k->k<lo+d->∀ b,(M k).n<=b->b<(M (k+1)).n->⟨k,(M k).n,(M (k+1)).n⟩ ∈ R (lo+d)
 | 0,_,k,_,h,_,_,_=>by omega
 | d+1,hi,k,hk,h,b,h1,f=>by
   obtain⟨o,l⟩:=R9 (ops:=ops) (i:=lo+d) (by have:=j.sz;omega);have a:=j.mx _ o A0 A0 l;show _ ∈ R (lo+d+1);by_cases e:k=lo+d
   .subst e;rcases g.rc (lo+d) o l with⟨_,lg,h3⟩|⟨h3,_⟩|h3
    .rw[h3]at f;have f:b<(M (lo+d)).n:=f;omega
    .rw[a]at h3;cases h3
    .rw[h3];exact B6
   .have:=g.recs j d A0 k hk A0 b h1 f;rcases g.rc (lo+d) o l with⟨h3,_⟩|⟨h3,_⟩|h3
    .rw[h3];exact this
    .rw[a]at h3;cases h3
    .rw[h3];exact D1 _ this
def A10{mv:Mem}{us:List Rec}(h:DN m c us=some mv):mv.n=m.n/\mv.hi=m.hi/\mv.W=[]/\mv.lg=m.lg/\∀ id,id<=J0->∀ ab,Hp.get mv.H id=some ab->Hp.get m.H id=some ab/\id ∉ w9 us:=by
 obtain⟨H,n,W,hi,lg⟩:=m;unfold DN at h;simp only at h;cases c with
 | free =>
   cases h;exact⟨rfl,rfl,rfl,rfl,fun id _ ab a=>by rw[tN]at a;cases a⟩
 | one b =>
   simp only at h;cases d:bY (w9 us) b || !(Nat.ble b J0)with
   | true=>rw[d]at h;cases h
   | false =>
     rw[d,gB]at h;cases h;simp only[Y9,Bool.not_eq_false']at d;have f:=A2 d.2;refine⟨rfl,rfl,rfl,rfl,fun id hid ab a=>?_⟩;have a:Hp.get (Hp.set hp0 b (Hp.get H b)) id=some ab:=a;rw[F6 _ _ _ _ f hid]at a;by_cases e:id=b
     .subst e;rw[B0 rfl]at a;exact⟨a,fun hm=>by rw[Z9.2 hm]at d;exact absurd d.1 (by simp)⟩
     .rw[A9 e,tN]at a;cases a
 | all =>
   simp only at h;obtain⟨f,h⟩:=A3 h;cases h;refine⟨rfl,rfl,rfl,rfl,fun id hid ab a=>?_⟩;have a:Hp.get (FB H (w9 us)) id=some ab:=a;rw[FA _ _ (vS f) id hid]at a;by_cases e:id ∈ w9 us
   .rw[B0 e]at a;cases a
   .rw[A9 e]at a;exact⟨a,e⟩
def jJ(M:Nat->Mem)(D:Nat->Bool)(b:Nat):Nat->Bool
 | 0=>false
 | n+1=>(D n && Nat.ble (M n).n b && Nat.blt b (M (n+1)).n) || jJ M D b n
def Y4{D:Nat->Bool}{b:Nat}:∀ n,jJ M D b n=true↔∃ k,k<n/\D k=true/\(M k).n<=b/\b<(M (k+1)).n
 | 0=>by simp[jJ]
 | n+1=>by
   simp only[jJ,J9,J5,Y4 n];constructor
   .rintro(⟨⟨d,a⟩,h3⟩|⟨k,d,a⟩)
    .exact⟨n,A0,d,A2 a,A2 h3⟩
    .exact⟨k,A0,a⟩
   .rintro⟨k,d,a,h3,f⟩
    by_cases e:k=n
    .subst e;exact .inl ⟨⟨a,C5 h3⟩,C5 f⟩
    .exact .inr ⟨k,A0,a,h3,f⟩
def Dr(lo:Nat)(D:Nat->Bool)(k:Nat):Bool:=Nat.ble lo k && D k
def o9{lo:Nat}{D:Nat->Bool}{k:Nat}:Dr lo D k=true↔lo<=k/\D k=true:=by
 unfold Dr;rw[J5];exact⟨fun h=>⟨A2 h.1,h.2⟩,fun h=>⟨C5 h.1,h.2⟩⟩
def GD(M:Nat->Mem)(lo N:Nat)(D:Nat->Bool)(b:Nat):Option AB:=bif jJ M (Dr lo D) b N then Hp.get (M N).H b else Hp.get (M lo).H b
structure Inv (z:Zn) (P:Program) (base gl nt:Nat) (ops:Array Oper) (F:Nat->Fr) (M:Nat->Mem) (V:Nat->Value) (lo up:Nat) (ρ0:Ren) (w0:World) (D:Nat->Bool) (ρ:Ren) (a:Act) (w:World):Prop where
 ext:∀ b l,ρ0 b=some l->ρ b=some l
 new:∀ b l,ρ b=some l->ρ0 b=none->jJ M (Dr lo D) b up=true/\(l.on=true->w0.heap.size<=l.blk)
 hr:HRf P base ρ (GD M lo up D) w
 keep:∀ k,k<w0.heap.size->w.heap[k]? = w0.heap[k]?
 size:w0.heap.size<=w.heap.size
 os:w.os=w0.os/\w.tape=w0.tape/\w.output=w0.output
 tch:∀ k,Ff ρ (GD M lo up D) k->w0.heap.size<=k∨Fp ρ0 (M lo).H k
 tsz:a.tmps.size=nt
 dfr:ZR z ρ nt (F 0) a.defers
 frm:∀ t,t<nt->VR ρ (cS D (fun k=>(ops[k]?).bind (·.dst)) V (F 0).get t ops.size) (a.tmps.getD t undef)
def W4{i:Nat}{o:Oper}(h:ops[i]? = some o):ops.toList[i]? = some o:=by simpa using h
def kG{ops:List Oper}{a:List I7}:∀ (r:List Oper) (i:Nat),LL ops a r i=true->∀ j o,r[j]? = some o->pT (i+j) o.after.toList=true/\uM a (i+j) (Z6 ops o) ops 0=true
 | [],i,h,j,o,hj=>by simp at hj
 | x::r,i,h,j,o,hj=>by
   obtain⟨d,b⟩:=B3 (show(pT i x.after.toList && (uM a i (Z6 ops x) ops 0 && LL ops a r (i+1)))=true from h);obtain⟨b,h3⟩:=B3 b;cases j with
   | zero=>simp at hj;subst hj;exact⟨d,b⟩
   | succ j =>
     have:=kG r (i+1) h3 j o (by simpa using hj)
     rwa[show i+1+j=i+(j+1) by omega]at this
def gP:∀ {es:List Edge} {i:Nat},pT i es=true->∀ e ∈ es,Region.binds .any e=true->e.on<i
 | [],i,h,e,he,_=>by cases he
 | x::r,i,h,e,he,hb=>by
   obtain⟨a,b⟩:=B3 (show((!(Region.binds .any x) || Nat.blt x.on i) && pT i r)=true from h);rcases C4.1 he with rfl|he
   .rw[hb]at a;have a:Nat.blt e.on i=true:=by simpa only [S5,Z3]using a
    exact A2 a
   .exact gP b e he hb
def DS{b:List I7}{i:Nat}{d:List Tmp}:∀ (r:List Oper) (a:Nat),uM b i d r a=true->∀ j p t,r[j]? = some p->a+j≠i->p.dst=some t->t ∈ d->A2F b i (a+j)=true
 | [],a,h,j,p,t,hj,_,_,_=>by simp at hj
 | x::r,a,h,j,p,t,hj,hne,hd,ht=>by
   obtain⟨e,g⟩:=B3 (show((Nat.beq a i || (match x.dst with|none=>true|some t=>!(bY d t) || A2F b i a)) && uM b i d r (a+1))=true from h);cases j with
   | zero =>
     simp at hj;subst hj;have k:Nat.beq a i=false:=by
      cases f:Nat.beq a i with
      | false=>rfl
      | true=>exact absurd (A1 f) hne
     rw[k,hd,Z3]at e;simp only[Z9.2 ht,S5,Z3]at e;exact e
   | succ j =>
     have:=DS r (a+1) g j p t (by simpa using hj) A0 hd ht
     rwa[show a+1+j=a+(j+1) by omega]at this
def Rg.slot(g:Rg P base gl nt call ops F M V R X B){D:Nat->Bool}(j:oS ops.toList fun k=>D k=true)(v:∀ k,D k=true->k<ops.size){i:Nat}{o:Oper}(f:ops[i]? = some o)(hi:D i=false)
  (hr:∀ e ∈ o.after.toList,Region.binds .any e=true->D e.on=true) {t:Tmp} (y:t ∈ Z6 ops.toList o):∀ k p,ops[k]? = some p->k≠i->p.dst=some t->(D k=true↔k<i):=fun k p hp n w=>by
 have s:∀ (i:Nat) (o:Oper),ops.toList[i]? = some o->∀ e ∈ o.after.toList,Region.binds .any e=true->e.on<i:=fun i o f=>by
  have:=(kG _ 0 g.ok i o f).1;rw[F9]at this;exact gP this
 have u:=(kG _ 0 g.ok i o (W4 f)).2;have a:=DS _ 0 u k p t (W4 hp) A0 w y;rw[F9,F9]at a;unfold A2F at a;rcases Nat.lt_trichotomy k i with d|heq|l
 .have b:Nat.blt i k=false:=by
   cases b:Nat.blt i k with
   | false=>rfl
   | true=>have:i<k:=A2 b;omega
  rw[b]at a;have hm:=Z9.1 (by simpa using a);exact⟨fun _=>d,fun _=>CB j s (i+1) i k o (K1 i) (W4 f) hr hm⟩
 .exact absurd heq n
 .have b:Nat.blt i k=true:=C5 l;rw[b]at a;have hm:=Z9.1 (by simpa using a);refine⟨fun x=>?_,fun h=>by omega⟩
  have:=CB j s (k+1) k i p (K1 k) (W4 hp) (fun e he q=>j k p (W4 hp) x e he q) hm;rw[hi]at this;cases this
def Rg.frame(g:Rg P base gl nt call ops F M V R X B)(a:nt<=512){t:Tmp}(l:t<nt):∀ i,i<=ops.size->(F i).get t=cS (fun k=>Nat.blt k i) (fun k=>(ops[k]?).bind (·.dst)) V (F 0).get t i
 | 0,_=>rfl
 | i+1,h=>by
   obtain⟨o,j⟩:=R9 (ops:=ops) (i:=i) A0;obtain⟨f,_,h3,_⟩:=g.st i o j;have n:=g.frame a l i A0;have q:cS (fun k=>Nat.blt k (i+1)) (fun k=>(ops[k]?).bind (·.dst)) V (F 0).get t i=cS (fun k=>Nat.blt k i) (fun k=>(ops[k]?).bind (·.dst)) V (F 0).get t i:=gM i fun k u _=>by
    rw[show Nat.blt k (i+1)=true from C5 A0,show Nat.blt k i=true from C5 u]
   have p:Nat.blt i (i+1)=true:=C5 (A7 _);rw[h3];unfold cS;rw[q,<- n];simp only[p,j,G2,true_and];cases s:o.dst with
   | none=>simp[xJ]
   | some d =>
     rw[s]at f;have b:d<nt:=A2 f;simp only[xJ,D9];rw[N3 _ _ _ _ (E1 b a) (E1 l a)];by_cases e:t=d
     .subst e;simp
     .rw[A9 e,A9 (fun h=>e h.symm)]
def Rg.look(g:Rg P base gl nt call ops F M V R X B)(b:nt<=512){D:Nat->Bool}(n:oS ops.toList fun k=>D k=true)(f:∀ k,D k=true->k<ops.size){i:Nat}{o:Oper}(l:ops[i]? = some o)(hi:D i=false)
  (hr:∀ e ∈ o.after.toList,Region.binds .any e=true->D e.on=true) {t:Tmp} (z:t ∈ Z6 ops.toList o) (a:t<nt):cS D (fun k=>(ops[k]?).bind (·.dst)) V (F 0).get t ops.size=(F i).get t:=by
 have y:i<ops.size:=(D5.1 l).1;rw[g.frame b a i A0];have v:=g.slot n f l hi hr z;have w:cS D (fun k=>(ops[k]?).bind (·.dst)) V (F 0).get t ops.size=cS (fun k=>Nat.blt k i) (fun k=>(ops[k]?).bind (·.dst)) V (F 0).get t ops.size:=gM _ fun k x j=>by
  obtain⟨p,hp⟩:=R9 (ops:=ops) x;rw[hp]at j;by_cases e:k=i
  .subst e;rw[hi];symm;cases q:Nat.blt k k with
   | false=>rfl
   | true=>have:k<k:=A2 q;omega
  .have:=v k p hp e j;rw[M2,this];exact⟨fun h=>C5 h,fun h=>A2 h⟩
 rw[w];have u:∀ d,i+d<=ops.size->cS (fun k=>Nat.blt k i) (fun k=>(ops[k]?).bind (·.dst)) V (F 0).get t (i+d)=cS (fun k=>Nat.blt k i) (fun k=>(ops[k]?).bind (·.dst)) V (F 0).get t i:=by
  intro d;induction d with
  | zero=>intro _;rfl
  | succ d s =>
    intro j;rw[show i+(d+1)=(i+d)+1 by omega];rw[cS,A9 (fun hh=>by have:i+d<i:=A2 hh.1;omega)];exact s A0
 have:=u (ops.size-i) A0
 rwa[show i+(ops.size-i)=ops.size by omega]at this
def yZ{o:Oper}{x:Operand}{t:Tmp}(a:x ∈ o.op.operands.toList)(b:x=.tmp t):t ∈ Z6 ops.toList o:=by
 unfold Z6;refine B7.2 (.inr (B7.2 (.inl (List.mem_flatMap.2 ⟨x,a,?_⟩))));subst b;simp[sO]
def Rg.see{z:Zn}(g:Rg P base gl nt call ops F M V R X B)(b:Ph ops B M lo up){A ρ:Ren}{w0 w:World}{D:Nat->Bool}{a:Act}{i:Nat}{o:Oper}
  (p:At P base gl A (M lo) (M up).hi w0) (I:oS ops.toList fun k=>D k=true) (f:lo<=i) (C:i<up) (h:ops[i]? = some o)
  (hr:∀ e ∈ o.after.toList,Region.binds .any e=true->D e.on=true):∀ id,id<=J0->∀ ab,Hp.get (M i).H id=some ab->id ∉ w9 (EM ((u6 ops.toList []).getD i []) (R i))->GD M lo up D id=some ab:=fun id hid ab t N=>by
 unfold GD;by_cases d:(M lo).n<=id/\id<(M i).n
 .obtain⟨k,u,O,s,v⟩:∃ k,lo<=k/\k<i/\(M k).n<=id/\id<(M (k+1)).n:=by
   have:=g.who b (i-lo) A0 id d.1 (by rw[show lo+(i-lo)=i by omega];exact d.2)
   rwa[show lo+(i-lo)=i by omega]at this
  have y:D k=true:=by
   have q:(⟨k,(M k).n,(M (k+1)).n⟩:Rec) ∈ R i:=by
    have:=g.recs b (i-lo) A0 k u A0 id s v
    rwa[show lo+(i-lo)=i by omega]at this
   by_cases G:k ∈ (u6 ops.toList []).getD i []
   .exact CB I (fun i o h=>by
     have:=(kG _ 0 g.ok i o h).1;rw[F9]at this;exact gP this) (i+1) i k o (K1 i) (W4 h) hr G
   .exfalso;refine N (AD.2 ⟨_,U3.2 ⟨q,?_⟩,s,v⟩);cases x:bY ((u6 ops.toList []).getD i []) k with
    | false=>rfl
    | true=>exact absurd (Z9.1 x) G
  have hu:jJ M (Dr lo D) id up=true:=(Y4 _).2 ⟨k,A0,o9.2 ⟨u,y⟩,s,v⟩;rw[hu];simp only[F1];rw[(g.le b (i:=i) (j:=up) f A0 (A7 _)).2.2 id hid d.2];exact t
 .have S:=(g.all b f A0).2.2.2.2 id hid A0;rw[S]at t;have hu:jJ M (Dr lo D) id up=false:=by
   cases x:jJ M (Dr lo D) id up with
   | false=>rfl
   | true =>
     exfalso;obtain⟨k,O,Q,s,v⟩:=(Y4 _).1 x;have u:=(o9.1 Q).1;obtain⟨l,E,_⟩:=p.hr.at_ id hid ab t;have K:=g.le b (i:=lo) (j:=k) (A7 _) u A0;have L:=g.le b (i:=k+1) (j:=up) A0 A0 (A7 _);have J:=(g.all b b.le (A7 _)).2.2.1;rw[p.fr id A0 A0]at E;cases E
  rw[hu];exact t
def Rg.quiet{z:Zn}(g:Rg P base gl nt call ops F M V R X B)(I:Z2 P base gl call){N ρ:Ren}{w0 w:World}{D D':Nat->Bool}{a:Act}{i:Nat}{o:Oper}{Q:Exit->Act->World->Prop}{K:Act->World->Prop}
  (y:At P base gl N (M lo) (M up).hi w0) (hS:Sat (M (i+1)).lg) (ae:nt<=512) (inv:Inv z P base gl nt ops F M V lo up N w0 D ρ a w) (hc:oS ops.toList fun k=>D k=true) (ao:∀ k,D k=true->k<ops.size) (ho:ops[i]? = some o) (hi:D i=false)
  (hr:∀ e ∈ o.after.toList,Region.binds .any e=true->D e.on=true) (hD:∀ k,k≠i->D' k=D k) (ag:D' i=true)
  (aw:fK nt ops.toList (d8 P call o) ((u6 ops.toList []).getD i []) (R i) (F i) o (M i) (M (i+1)) (V i) r) (ak:∀ b ab,r=some (b,ab)->GD M lo up D b=some ab)
  (hK:∀ q a' w',Inv z P base gl nt ops F M V lo up N w0 D' q a' w'->K a' w'):jU P z.rd ops Q i K a w:=by
 have bx:i<ops.size:=(D5.1 ho).1;obtain⟨bw,af,hF,_⟩:=g.st i o ho;have G:∀ t,t ∈ Z6 ops.toList o->t<nt->VR ρ ((F i).get t) (a.tmps.getD t undef):=fun t U aq=>by
  rw[<- g.look ae hc ao ho hi hr U aq];exact inv.frm t aq
 have ai:FR ρ (F i) a.eval o.op:=fun x hx=>by
  have az:okX nt gl x=true:=E8.1 af x hx;cases x with
  | tmp t=>exact G t (yZ hx rfl) (A2 az)
  | const v=>exact VR.ofC az
  | global gg=>exact VR.ptr (o:=0) (inv.ext _ _ (y.gr gg (A2 az)))
  | func f=>exact .func (a:=[]) (b:=[]) (a':=[]) (b':=[]) rfl rfl (fun i v v' h=>by simp at h) (fun i v v' h=>by simp at h)
 have E:∀ lg b,dF nt (F i) (M i).lg ops.toList o=some (b,lg)->Sat lg->Region.wanted o (yielded ops a.tmps)=b:=fun lg b hw L=>by
  unfold dF at hw;split at hw
  .rename_i hg;cases hw;simp[Region.wanted,hg]
  .rename_i j want hg;split at hw
   .rename_i p hp;split at hw
    .rename_i t U;obtain⟨s,u⟩:=A3 hw;have s:t<nt:=A2 s;have W:=G t (by
      unfold Z6;refine B7.2 (.inr (B7.2 (.inr ?_)));simp[hg,hp,U]) s
     exact oV hg hp U (by rw[inv.tsz];exact s) (sE u W L)
    .cases hw
   .cases hw
 have A:∀ (q:Ren) (v':Value),(∀ b l,ρ b=some l->q b=some l)->VR q (V i) v'->∀ t,t<nt->VR q (cS D' (fun k=>(ops[k]?).bind (·.dst)) V (F 0).get t ops.size) ((a.put o.dst v').tmps.getD t undef):=fun q v' he W t U=>by
  by_cases hd:o.dst=some t
  .have T:∀ k,i<k->k<ops.size->(ops[k]?).bind (·.dst)=some t->D k=false:=fun k bu C au=>by
    obtain⟨p,hp⟩:=R9 (ops:=ops) C;rw[hp]at au
    have:=g.slot hc ao ho hi hr (t:=t) (by unfold Z6;simp[hd]) k p hp A0 au;cases hq:D k with
    | false=>rfl
    | true=>have:=this.1 hq;omega
   rw[tR hD ag ops.size bx (by simp[ho,hd]) T];simp only[hd,Act.put,B5];rw[G5,B0 rfl,B0 (by rw[inv.tsz];exact U)];exact W
  .rw[rD hD (by simp[ho];exact hd)];have s:=(inv.frm t U).mono he;cases ax:o.dst with
   | none=>exact s
   | some d =>
     have al:d≠t:=fun e=>hd (e▸ax)
     simp only[Act.put,B5]at s ⊢;rw[G5,A9 al];exact s
 have hM:∃ lg,M (i+1)=(M i).wLg lg:=by
  rcases aw with⟨lg,_,_,h,_⟩|⟨_,ar,_,_,h,_⟩
  .exact⟨lg,h⟩
  .exact⟨ar,h⟩
 have hG:GD M lo up D'=GD M lo up D:=by
  funext b;unfold GD;have:jJ M (Dr lo D') b up=jJ M (Dr lo D) b up:=by
   obtain⟨lg,hm⟩:=hM;rw[M2,Y4,Y4];constructor
   .rintro⟨k,s,u,h3,h4⟩
    have e:k≠i:=fun e=>by
     subst e;rw[hm]at h4;have h4:b<(M k).n:=h4;omega
    obtain⟨ay,u⟩:=o9.1 u;rw[hD k e]at u;exact⟨k,s,o9.2 ⟨ay,u⟩,h3,h4⟩
   .rintro⟨k,s,u,h3⟩
    obtain⟨ay,u⟩:=o9.1 u;have e:k≠i:=fun e=>by subst e;rw[hi]at u;cases u
    exact⟨k,s,o9.2 ⟨ay,by rw[hD k e];exact u⟩,h3⟩
  rw[this]
 have O:∀ b l,ρ b=some l->N b=none->jJ M (Dr lo D') b up=true/\(l.on=true->w0.heap.size<=l.blk):=fun b l s u=>by
  obtain⟨k1,k2⟩:=inv.new b l s u;obtain⟨k,q1,q2,q3⟩:=(Y4 _).1 k1;obtain⟨an,q2⟩:=o9.1 q2;have e:k≠i:=fun e=>by subst e;rw[hi]at q2;cases q2
  exact⟨(Y4 _).2 ⟨k,q1,o9.2 ⟨an,by rw[hD k e];exact q2⟩,q3⟩,k2⟩
 unfold jU;simp only[ho];rcases aw with⟨lg,hw,W,hm,_⟩|⟨lg,ar,hw,hq,hm,aa⟩
 .have L:Sat lg:=by rw[hm]at hS;exact hS
  rw[E lg false hw L];simp only[K5,if_false];refine hK ρ _ w ⟨inv.ext,O,hG▸inv.hr,inv.keep,inv.size,inv.os,hG▸inv.tch,?_,?_,A ρ undef (fun _ _ h=>h) (W▸sH ρ)⟩
  .cases ax:o.dst<;>simp[Act.put,inv.tsz]
  .rw[gC];exact inv.dfr
 .obtain⟨mv,m',Z,S,hW,aj,hl⟩:=nJ hq;obtain⟨v1,v2,v3,v4,v5,_⟩:=uO Z;have av:Sat m'.lg:=by rw[hm]at hS;rw[hl];exact hS
  have L:Sat lg:=V2.le av (by have:=cF I S;rw[v4]at this;exact this);rw[E lg true hw L];simp only[if_true];have ad:HR P base ρ mv.H w:=inv.hr.hr fun id hid ab Y=>ak id ab (aa.trans (v5 id hid ab Y))
  have ah:At P base gl ρ mv m'.hi w:=⟨ad,C3 y.bs inv.size,fun b s u=>(by rw[v1]at s;rw[aj]at u;omega),y.gr.mono inv.ext,(by rw[v1,v2];exact A7 _),fun b hb=>(by rw[v3]at hb;cases hb),fun k o C=>⟨(y.gf k o C).1,(inv.keep k (E1 (y.gf k o C).1 y.bs)).trans (y.gf k o C).2⟩⟩;refine sT I S av ah ai fun v' q w' W st=>?_
  have bz:q=ρ:=by
   funext b;cases h0:ρ b with
   | some l=>exact st.ext b l h0
   | none =>
     cases s:q b with
     | none=>rfl
     | some l =>
       exfalso;have u:=(st.new b l s h0).1;have h3:=st.hr.dom b l s;rw[v1]at u;unfold uG at u;unfold J0 at h3;omega
  subst bz;have J:∀ k,k<w.heap.size->w'.heap[k]? = w.heap[k]? := fun k C=>st.keep k C fun b hb=>by rw[hW]at hb;cases hb
  refine hK q _ w' ⟨inv.ext,O,hG▸⟨inv.hr.dom,fun id hid ab Y=>?_⟩,fun k C=>by rw[J k (E1 C inv.size),inv.keep k C],C3 inv.size st.size,⟨st.os.1.trans inv.os.1,st.os.2.1.trans inv.os.2.1,st.os.2.2.trans inv.os.2.2⟩,hG▸inv.tch,?_,?_,A q v' (fun _ _ h=>h) W⟩
  .obtain⟨l,e1,e2,e3⟩:=inv.hr.at_ id hid ab Y;exact⟨l,e1,e2.mono (fun _ _ h=>h) (fun k C=>J _ (e2.tc C)),e3⟩
  .cases ax:o.dst<;>simp[Act.put,inv.tsz]
  .rw[gC];exact inv.dfr
def Rg.step{z:Zn}(g:Rg P base gl nt call ops F M V R X B)(ph:Ph ops B M lo up)(U:Z2 P base gl call){an ρ:Ren}{w0 w:World}{D D':Nat->Bool}{a:Act}{i:Nat}{o:Oper}{Q:Exit->Act->World->Prop}{K:Act->World->Prop}
  (S:At P base gl an (M lo) (M up).hi w0) (hS:Sat (M up).lg) (bc:nt<=512) (inv:Inv z P base gl nt ops F M V lo up an w0 D ρ a w) (hc:oS ops.toList fun k=>D k=true) (bp:∀ k,D k=true->k<ops.size) (ay:lo<=i) (av:i<up) (Y:ops[i]? = some o) (hi:D i=false)
  (hr:∀ e ∈ o.after.toList,Region.binds .any e=true->D e.on=true) (hD:∀ k,k≠i->D' k=D k) (bt:D' i=true)
  (bz:¬∃ r,fK nt ops.toList (d8 P call o) ((u6 ops.toList []).getD i []) (R i) (F i) o (M i) (M (i+1)) (V i) r)
  (hK:∀ E a' w',Inv z P base gl nt ops F M V lo up an w0 D' E a' w'->K a' w'):jU P z.rd ops Q i K a w:=by
 have cy:i<ops.size:=(D5.1 Y).1;obtain⟨ct,bd,hF,ai⟩:=g.st i o Y;have br:=ph.mx i o ay av Y;have cq:=ph.sz;have cp:=g.le ph (i:=lo) (j:=i) (A7 _) ay A0;have bf:=g.le ph (i:=i+1) (j:=up) A0 A0 (A7 _);have cv:=g.one Y br (g.all ph ay A0).2.2.1;have ar:∀ t,t ∈ Z6 ops.toList o->t<nt->VR ρ ((F i).get t) (a.tmps.getD t undef):=fun t ht bq=>by
  rw[<- g.look bc hc bp Y hi hr ht bq];exact inv.frm t bq
 have bj:FR ρ (F i) a.eval o.op:=fun x hx=>by
  have ae:okX nt gl x=true:=E8.1 bd x hx;cases x with
  | tmp t=>exact ar t (yZ hx rfl) (A2 ae)
  | const v=>exact VR.ofC ae
  | global gg=>exact VR.ptr (o:=0) (inv.ext _ _ (S.gr gg (A2 ae)))
  | func f=>exact .func (a:=[]) (b:=[]) (a':=[]) (b':=[]) rfl rfl (fun i v v' h=>by simp at h) (fun i v v' h=>by simp at h)
 have ah:∀ lg b,dF nt (F i) (M i).lg ops.toList o=some (b,lg)->Sat lg->Region.wanted o (yielded ops a.tmps)=b:=fun lg b hw ag=>by
  unfold dF at hw;split at hw
  .rename_i hg;cases hw;simp[Region.wanted,hg]
  .rename_i j want hg;split at hw
   .rename_i p hp;split at hw
    .rename_i t ht;obtain⟨s,y⟩:=A3 hw;have s:t<nt:=A2 s;have hv:=ar t (by
      unfold Z6;refine B7.2 (.inr (B7.2 (.inr ?_)));simp[hg,hp,ht]) s
     exact oV hg hp ht (by rw[inv.tsz];exact s) (sE y hv ag)
    .cases hw
   .cases hw
 have al:∀ (E:Ren) (v':Value),(∀ b l,ρ b=some l->E b=some l)->VR E (V i) v'->∀ t,t<nt->VR E (cS D' (fun k=>(ops[k]?).bind (·.dst)) V (F 0).get t ops.size) ((a.put o.dst v').tmps.getD t undef):=fun E v' he hv t ht=>by
  by_cases hd:o.dst=some t
  .have aj:∀ k,i<k->k<ops.size->(ops[k]?).bind (·.dst)=some t->D k=false:=fun k cn Z bu=>by
    obtain⟨p,hp⟩:=R9 (ops:=ops) Z;rw[hp]at bu
    have:=g.slot hc bp Y hi hr (t:=t) (by unfold Z6;simp[hd]) k p hp A0 bu;cases hq:D k with
    | false=>rfl
    | true=>have:=this.1 hq;omega
   rw[tR hD bt ops.size cy (by simp[Y,hd]) aj];simp only[hd,Act.put,B5];rw[G5,B0 rfl,B0 (by rw[inv.tsz];exact ht)];exact hv
  .rw[rD hD (by simp[Y];exact hd)];have s:=(inv.frm t ht).mono he;cases bm:o.dst with
   | none=>exact s
   | some d =>
     have bl:d≠t:=fun e=>hd (e▸bm)
     simp only[Act.put,B5]at s ⊢;rw[G5,A9 bl];exact s
 have L:∀ b,jJ M (Dr lo D') b up=true↔(jJ M (Dr lo D) b up=true∨((M i).n<=b/\b<(M (i+1)).n)):=fun b=>by
  rw[Y4,Y4];constructor
  .rintro⟨k,s,y,h3⟩
   obtain⟨ad,y⟩:=o9.1 y;by_cases e:k=i
   .subst e;exact .inr h3
   .rw[hD k e]at y;exact .inl ⟨k,s,o9.2 ⟨ad,y⟩,h3⟩
  .rintro(⟨k,s,y,h3⟩|h3)
   .obtain⟨ad,y⟩:=o9.1 y;have e:k≠i:=fun e=>by subst e;rw[hi]at y;cases y
    exact⟨k,s,o9.2 ⟨ad,by rw[hD k e];exact y⟩,h3⟩
   .exact⟨i,av,o9.2 ⟨ay,bt⟩,h3⟩
 unfold jU;simp only[Y];have aa:Sat (M (i+1)).lg:=V2.le hS (by have:=g.lgs U (i:=i+1) (up-(i+1)) A0;rwa[show i+1+(up-(i+1))=up by omega]at this);rcases ai with⟨_,lg,hw,hv,hm⟩|⟨_,lg,bg,hw,hq,hm⟩|⟨bx,_⟩|⟨_,_,lg,hw,mv,m',aq,ak,hW,bk,W⟩
 .exact absurd ⟨_,.inl ⟨lg,hw,hv,hm,rfl⟩⟩ bz
 .exact absurd ⟨_,.inr ⟨lg,bg,hw,hq,hm,rfl⟩⟩ bz
 .rw[br]at bx;cases bx
 .have bw:Sat m'.lg:=by rw[LV W]at aa;exact aa
  have ag:Sat lg:=V2.le bw (by have:=cF U ak;rw[RB aq]at this;exact this);rw[ah lg true hw ag];simp only[if_true];obtain⟨v1,v2,v3,_,v4⟩:=A10 aq;have v1:mv.n=(M i).n:=v1;have v2:mv.hi=(M i).hi:=v2;have v4:∀ id,id<=J0->∀ ab,Hp.get mv.H id=some ab->Hp.get (M i).H id=some ab/\id ∉ w9 (EM ((u6 ops.toList []).getD i []) (R i)):=v4;have af:=(g.all ph ay A0).2.2.1;obtain⟨q1,q2,q3,q4,q5,q6,_,q7⟩:=LU W af bk;have q1:(M i).n<=(M (i+1)).n:=q1;have q5:(M (i+1)).n=m'.hi∨((M (i+1)).n=(M i).n/\m'.hi<=(M i).n):=q5;have q7:∀ id,id<=J0->Hp.get (M (i+1)).H id=if(M i).n<=id/\id<(M (i+1)).n then Hp.get m'.H id else Hp.get (M i).H id:=q7
  have J:∀ id,id<=J0->∀ ab,Hp.get mv.H id=some ab->GD M lo up D id=some ab:=fun id hid ab A=>by
   obtain⟨s,y⟩:=v4 id hid ab A;exact g.see (z:=z) (a:=a) (ρ:=ρ) (w:=w) ph S hc ay av Y hr id hid ab s y
  have ba:HR P base ρ mv.H w:=inv.hr.hr J;have T:L1 ρ mv.n m'.hi:=fun b s y=>by
   rw[v1]at s;cases hb:ρ b with
   | none=>rfl
   | some l =>
     exfalso;cases h0:an b with
     | some l0 =>
       rw[S.fr b A0 A0]at h0;cases h0
     | none =>
       obtain⟨k,k1,k2,k3,k4⟩:=(Y4 _).1 (inv.new b l hb h0).1;obtain⟨k0,k2⟩:=o9.1 k2;have cr:k≠i:=fun e=>by subst e;rw[hi]at k2;cases k2
       rcases G9 k i with bn|bn
       .have:=(g.le ph (i:=k+1) (j:=i) A0 A0 A0).1;omega
       .have:=(g.le ph (i:=i+1) (j:=k) A0 A0 A0).1;rcases q5 with q5|⟨_,q5⟩<;>omega
  have bh:At P base gl ρ mv m'.hi w:=⟨ba,C3 S.bs inv.size,T,S.gr.mono inv.ext,(by rw[v1,v2];exact af),fun b hb=>(by rw[v3]at hb;cases hb),fun k o Z=>⟨(S.gf k o Z).1,(inv.keep k (E1 (S.gf k o Z).1 S.bs)).trans (S.gf k o Z).2⟩⟩;refine sT U ak bw bh bj fun v' E w' hv st=>hK E _ w' ?_
  have ao:∀ k,k<w.heap.size->w'.heap[k]? = w.heap[k]? := fun k Z=>st.keep k Z fun b hb=>by rw[hW]at hb;cases hb
  have cu:m'.n<=m'.hi:=st.nhi (by rw[v1,v2];exact af);have au:∀ b l,E b=some l->ρ b=none->((M i).n<=b/\b<(M (i+1)).n)/\(l.on=true->w.heap.size<=l.blk):=fun b l s y=>by
   have h3:=st.new b l s y;rw[v1]at h3;refine⟨⟨h3.1,?_⟩,?_⟩
   .rcases q5 with q5|⟨_,q5⟩<;>omega
   .intro Y;rcases st.blk b l s y Y with h|⟨b0,h,_⟩
    .exact h
    .rw[hW]at h;cases h
  have aw:∀ id,id<=J0->(M i).n<=id->id<(M (i+1)).n->GD M lo up D' id=Hp.get m'.H id/\ρ id=none:=fun id hid s y=>by
   constructor
   .unfold GD;rw[(L id).2 (.inr ⟨s,y⟩)];simp only[F1];rw[bf.2.2 id hid y,q7 id hid,B0 ⟨s,y⟩]
   .refine T id (by rw[v1];exact s) ?_;rcases q5 with q5|⟨q5,_⟩
    .omega
    .rw[q5]at y;omega
  have az:∀ id,¬ ((M i).n<=id/\id<(M (i+1)).n)->GD M lo up D' id=GD M lo up D id:=fun id hid=>by
   unfold GD;have:jJ M (Dr lo D') id up=jJ M (Dr lo D) id up:=by
    rw[M2,L id];exact⟨fun h=>h.elim (fun h=>h) (fun h=>absurd h hid),.inl⟩
   rw[this]
  have bb:∀ k,Ff E (GD M lo up D') k->w.heap.size<=k∨Ff ρ (GD M lo up D) k:=fun k ⟨id,ab,l,hid,A,hl,ht⟩=>by
   by_cases hI:(M i).n<=id/\id<(M (i+1)).n
   .rw[(aw id hid hI.1 hI.2).1]at A;rcases st.tch k ⟨id,ab,l,hid,A,hl,ht⟩with h|⟨C,ax,l0,e1,e2,e3,e4⟩
    .exact .inl h
    .exact .inr ⟨C,ax,l0,e1,J C e1 ax e2,e3,e4⟩
   .rw[az id hI]at A;obtain⟨l3,c1,_⟩:=inv.hr.at_ id hid ab A;rw[st.ext id l3 c1]at hl
    have:=A8 hl;subst this;exact .inr ⟨id,ab,l3,hid,A,c1,ht⟩
  refine⟨fun b l h=>st.ext b l (inv.ext b l h),fun b l s y=>?_,⟨st.hr.dom,fun id hid ab A=>?_⟩,fun k Z=>by rw[ao k (E1 Z inv.size),inv.keep k Z],C3 inv.size st.size,⟨st.os.1.trans inv.os.1,st.os.2.1.trans inv.os.2.1,st.os.2.2.trans inv.os.2.2⟩,fun k Z=>(bb k Z).elim (fun h=>.inl (C3 inv.size h)) (inv.tch k),?_,?_,al E v' st.ext hv⟩
  .cases h0:ρ b with
   | some l1 =>
     rw[st.ext b l1 h0]at s
     have:=A8 s;subst this;exact⟨(L b).2 (.inl (inv.new b l1 h0 y).1),(inv.new b l1 h0 y).2⟩
   | none =>
     have:=au b l s h0;exact⟨(L b).2 (.inr this.1),fun Y=>C3 inv.size (this.2 Y)⟩
  .by_cases hI:(M i).n<=id/\id<(M (i+1)).n
   .obtain⟨s,y⟩:=aw id hid hI.1 hI.2;rw[s]at A;obtain⟨l,e1,e2,e3⟩:=st.hr.at_ id hid ab A;refine⟨l,e1,e2,fun N G=>⟨(e3 N G).1,fun q u O l2 f1 f2 f3=>?_⟩⟩;by_cases I:(M i).n<=q/\q<(M (i+1)).n
    .rw[(aw q u I.1 I.2).1]at f1;exact(e3 N G).2 q u O l2 f1 f2 f3
    .rw[az q I]at f1;obtain⟨l3,c1,c2,_⟩:=inv.hr.at_ q u O f1;rw[st.ext q l3 c1]at f2
     have:=A8 f2;subst this;have h5:=c2.tc f3;have h6:=(au id l e1 y).2 G;omega
   .rw[az id hI]at A;obtain⟨l,e1,e2,e3⟩:=inv.hr.at_ id hid ab A;refine⟨l,st.ext _ _ e1,e2.mono st.ext (fun k Z=>ao _ (e2.tc Z)),fun N G=>⟨(e3 N G).1,fun q u O l2 f1 f2 f3=>?_⟩⟩;by_cases I:(M i).n<=q/\q<(M (i+1)).n
    .exfalso;rw[(aw q u I.1 I.2).1]at f1;have cz:O.fr=true:=by
      cases hq:O.fr with
      | true=>rfl
      | false =>
        exfalso;rcases f3 with⟨_,s,y⟩|⟨s,_⟩
        .have h5:=(au q l2 f2 (aw q u I.1 I.2).2).2 s;have h6:=e2.tc (.inl ⟨AB.rw_on N,G,rfl⟩);omega
        .rw[s]at hq;cases hq
     rcases st.tch _ ⟨q,O,l2,u,f1,f2,cz,f3⟩with h|⟨C,ax,l0,c1,c2,c3,_,c4⟩
     .have:=e2.tc (.inl ⟨AB.rw_on N,G,rfl⟩);omega
     .have h7:=(e3 N G).2 C c1 ax l0 (J C c1 ax c2) c3 c4;subst h7;have h8:=J C c1 ax c2;rw[A]at h8;have h8:=A8 h8;subst h8;have h9:C<mv.n∨m'.hi<=C:=by
       rcases G9 C mv.n with h|h
       .exact .inl h
       .rcases G9 C m'.hi with h'|h'
        .rw[T C h h']at e1;cases e1
        .exact .inr h'
      have bo:=st.same C c1 (by rw[hW];simp) h9;rw[c2]at bo;obtain⟨_,cw⟩:=st.hr.atl (st.ext _ _ e1) bo
      have:=(cw N G).2 q u O l2 f1 f2 f3;subst this;exact hI I
    .rw[az q I]at f1;obtain⟨l3,c1,_⟩:=inv.hr.at_ q u O f1;rw[st.ext q l3 c1]at f2
     have:=A8 f2;subst this;exact(e3 N G).2 q u O l3 f1 c1 f3
  .cases bm:o.dst<;>simp[Act.put,inv.tsz]
  .rw[gC];exact inv.dfr.congr st.ext fun _=>⟨rfl,rfl⟩
end
end
section
open Go
variable [Ora]
def FL:∀ (l:List Bool) (i:Nat),l[i]? = some false->(l.set i true).countP (fun b=>!b)+1=l.countP (fun b=>!b)
 | [],i,h=>by simp at h
 | b::r,0,h=>by simp at h;subst h;simp
 | b::r,i+1,h=>by
   have:=FL r i (by simpa using h);rw[List.set_cons_succ,List.countP_cons,List.countP_cons];omega
def QN{l:List Bool}(h:l.countP (fun b=>!b)=0):∀ i,i<l.length->l[i]? = some true:=fun i hi=>by
 rw[List.countP_eq_zero]at h
 have:=h l[i] (P4 hi);rw[A6 hi];cases a:l[i]with
 | true=>rfl
 | false=>rw[a]at this;exact absurd rfl this
section
variable {P:Program} {base gl:Nat} {call:Q5}
def A0N(h:nR m m'=some m2)(a:m.hi<=m'.hi):m.hi<=m2.hi:=by
 unfold nR at h;cases b:Nat.ble m'.hi m.n with
 | true=>rw[b]at h;cases h;exact A7 _
 | false =>
   rw[b]at h;obtain⟨_,h⟩:=A3 h;simp only[F5,fQ]at h;cases h;exact a
def CA:∀ {n:Nat} {b:I7} {a:Qs},JE n b a=true->∀ k,k<n->k ∈ b∨∃ q ∈ a,q.1=k
 | 0,_,_,_,k,h=>by omega
 | n+1,b,a,h,k,hk=>by
   obtain⟨d,g⟩:=B3 (show((bY b n || a.any fun q=>Nat.beq n q.1) && JE n b a)=true from h);by_cases e:k=n
   .subst e;rcases J9 _ _▸d with d|d
    .exact .inl (Z9.1 d)
    .obtain⟨q,f,i⟩:=W1.1 d;exact .inr ⟨q,f,(A1 i).symm⟩
   .exact CA g k A0
def AK:∀ {i:Nat} {bs:List I7} {r:List Oper},HY i bs r=true->∀ (j:Nat) (c:List Nat) (o:Oper),bs[j]? = some c->r[j]? = some o->i ∈ c∨cJ o.op=true
 | _,[],_,_,j,c,o,h,_=>by simp at h
 | _,_::_,[],_,j,c,o,_,h=>by simp at h
 | i,c0::bs,o0::r,h,j,c,o,h1,h2=>by
   obtain⟨a,b⟩:=B3 (show((bY c0 i || cJ o0.op) && HY i bs r)=true from h);cases j with
   | zero =>
     simp at h1 h2;subst h1;subst h2;rcases J9 _ _▸a with a|a
     .exact .inl (Z9.1 a)
     .exact .inr a
   | succ j=>exact AK b j c o (by simpa using h1) (by simpa using h2)
def GW{ops:Array Oper}{X:Nat->Qs}{i:Nat}{o:Oper}(h:A17 ops X i o=true):cJ o.op=false:=by
 obtain⟨h,_⟩:=B3 (show(wrO o.op && _)=true from h);cases a:o.op<;>rw[a]at h<;>first
  | rfl
  | cases h
def PF{ops:Array Oper}{X:Nat->Qs}{i:Nat}{o:Oper}(h:A17 ops X i o=true):∀ k,k<i->k ∈ (u6 ops.toList []).getD i []∨∃ q ∈ X i,q.1=k:=by
 obtain⟨_,h⟩:=B3 (show(wrO o.op && _)=true from h);obtain⟨h,_⟩:=B3 h;exact CA h
def PE{ops:Array Oper}{X:Nat->Qs}{i:Nat}{o:Oper}(h:A17 ops X i o=true):∀ j p,i<j->ops[j]? = some p->i ∈ (u6 ops.toList []).getD j []∨cJ p.op=true:=fun j p g hp=>by
 obtain⟨_,h⟩:=B3 (show(wrO o.op && _)=true from h);obtain⟨_,h⟩:=B3 h;obtain⟨e,d,b,_⟩:=vU ops.toList [];have hlen:(u6 ops.toList []).length=ops.size:=by rw[d];simpa using b
 have f:j<ops.size:=(D5.1 hp).1;have a:j<(u6 ops.toList []).length:=A0
 have:=AK h (j-(i+1)) (u6 ops.toList [])[j] p (by rw[J2,show i+1+(j-(i+1))=j by omega,A6 a]) (by rw[J2,show i+1+(j-(i+1))=j by omega];exact W4 hp);rw[C6,A6 a];exact this
def uS(ops:Array Oper)(B:Nat->Bool):∀ (d lo:Nat),lo+d=ops.size->∃ up,lo<=up/\up<=ops.size/\(∀ i o,lo<=i->i<up->ops[i]? = some o->B i=false)/\(up<ops.size->∃ o,ops[up]? = some o/\B up=true)
 | 0,lo,h=>⟨lo,A7 _,A0,fun i o g f=>by omega,fun f=>by omega⟩
 | d+1,lo,h=>by
   obtain⟨o,l⟩:=R9 (ops:=ops) (i:=lo) A0;cases j:B lo with
   | true=>exact⟨lo,A7 _,A0,fun i o g f=>by omega,fun _=>⟨o,l,j⟩⟩
   | false =>
     obtain⟨up,g,f,h3,k⟩:=uS ops B d (lo+1) A0;refine⟨up,A0,f,fun i o' a b c=>?_,k⟩;by_cases e:i=lo
     .subst e;exact j
     .exact h3 i o' A0 b c
section
variable {nt:Nat} {ops:Array Oper} {F:Nat->Fr} {M:Nat->Mem} {V:Nat->Value} {R:Nat->List Rec} {X:Nat->Qs} {B:Nat->Bool} {lo up:Nat}
def Rg.frameUp(g:Rg P base gl nt call ops F M V R X B)(a:nt<=512){t:Tmp}(e:t<nt){i:Nat}(hi:i<=ops.size):cS (fun k=>Nat.blt k i) (fun k=>(ops[k]?).bind (·.dst)) V (F 0).get t ops.size=(F i).get t:=by
 rw[g.frame a e i hi];have f:∀ d,i+d<=ops.size->cS (fun k=>Nat.blt k i) (fun k=>(ops[k]?).bind (·.dst)) V (F 0).get t (i+d)=cS (fun k=>Nat.blt k i) (fun k=>(ops[k]?).bind (·.dst)) V (F 0).get t i:=by
  intro d;induction d with
  | zero=>intro _;rfl
  | succ d b =>
    intro j;rw[show i+(d+1)=(i+d)+1 by omega];rw[cS,A9 (fun hh=>by have:i+d<i:=A2 hh.1;omega)];exact b A0
 have:=f (ops.size-i) A0
 rwa[show i+(ops.size-i)=ops.size by omega]at this
def A76{k i:Nat}:Nat.blt k i=true↔k<i:=⟨fun h=>A2 h,fun h=>C5 h⟩
def Rg.own(g:Rg P base gl nt call ops F M V R X B)(b:nt<=510):∀ (i:Nat),i<=ops.size->(F i).get 510=(F 0).get 510/\(F i).get 511=(F 0).get 511
 | 0,_=>⟨rfl,rfl⟩
 | i+1,hi=>by
   obtain⟨o,l⟩:=R9 (ops:=ops) (i:=i) A0;obtain⟨d1,_,d3,_⟩:=g.st i o l;have f:=g.own b i A0;have key:∀ t,510<=t->t<512->(F (i+1)).get t=(F i).get t:=fun t n k=>by
    rw[d3];cases j:o.dst with
    | none=>rfl
    | some d =>
      rw[j]at d1;have a:d<nt:=A2 d1;show((F i).set d _).get t=_;rw[N3 _ _ _ _ (E1 a A0) k,A9 (fun e=>by subst e;exact absurd a (Nat.not_lt.2 (C3 b n)))]
   exact⟨(key 510 C8 C8).trans f.1,(key 511 C8 C8).trans f.2⟩
def Rg.inX(g:Rg P base gl nt call ops F M V R X B):∀ (j:Nat),j<=ops.size->∀ q ∈ X j,q.1<j/\q ∈ X (q.1+1)/\∃ o,ops[q.1]? = some o/\fK nt ops.toList (d8 P call o) ((u6 ops.toList []).getD q.1 []) (R q.1) (F q.1) o (M q.1) (M (q.1+1)) (V q.1) q.2
 | 0,_,q,hq=>by rw[g.x0]at hq;cases hq
 | j+1,hj,q,hq=>by
   obtain⟨o,d⟩:=R9 (ops:=ops) (i:=j) A0;have old:q ∈ X j->q.1<j+1/\q ∈ X (q.1+1)/\∃ o,ops[q.1]? = some o/\fK nt ops.toList (d8 P call o) ((u6 ops.toList []).getD q.1 []) (R q.1) (F q.1) o (M q.1) (M (q.1+1)) (V q.1) q.2:=fun h=>by
    obtain⟨f,b⟩:=g.inX j A0 q h;exact⟨A0,b⟩
   rcases g.qs j o d with⟨_,h,_⟩|⟨_,h⟩|⟨_,r,h,b⟩
   .exact old (h▸hq)
   .exact old (h▸hq)
   .have a:=hq;rw[h]at hq;rcases C4.1 hq with e|e
    .subst e;exact⟨K1 _,a,o,d,b⟩
    .exact old e
def EE{all:List Oper}{b:I7}{fr:Fr}{o:Oper}{v:Value}(h:fK nt all op b rs fr o m m2 v r):∃ lg,m2=m.wLg lg:=by
 rcases h with⟨lg,_,_,h,_⟩|⟨_,a,_,_,h,_⟩
 .exact⟨lg,h⟩
 .exact⟨a,h⟩
def Rg.kind(g:Rg P base gl nt call ops F M V R X B){i:Nat}{o:Oper}(j:ops[i]? = some o)(a:cJ o.op=true):fK nt ops.toList (d8 P call o) ((u6 ops.toList []).getD i []) (R i) (F i) o (M i) (M (i+1)) (V i) none:=by
 obtain⟨_,_,_,h⟩:=g.st i o j;have k:MT (M i).H (F i) o.op=none:=by
  cases d:o.op<;>rw[d]at a<;>first|rfl|cases a
 rcases h with⟨_,lg,f,e,h3⟩|⟨_,lg,b,f,e,h3⟩|⟨h,_⟩|⟨_,h,_⟩
 .exact .inl ⟨lg,f,e,h3,rfl⟩
 .exact .inr ⟨lg,b,f,e,h3,k.symm⟩
 .rw[GW (g.sb i o j h)]at a;cases a
 .rw[a]at h;cases h
def Rg.heap{z:Zn}(g:Rg P base gl nt call ops F M V R X B)(o:Ph ops B M lo up){D:Nat->Bool}{p ρ:Ren}{a:Act}{w w':World}(G:∀ k,lo<=k->k<up->D k=false->∃ lg,M (k+1)=(M k).wLg lg)(inv:Inv z P base gl nt ops F M V lo up p w D ρ a w'):St P base p ρ (M lo) (M up) w w':=by
 have y:∀ id,id<=J0->GD M lo up D id=Hp.get (M up).H id:=fun id hid=>by
  unfold GD;cases hu:jJ M (Dr lo D) id up with
  | true=>rfl
  | false =>
    simp only[E7];refine((g.all o o.le (A7 _)).2.2.2.2 id hid ?_).symm;rcases G9 id (M lo).n with f|f
    .exact .inl f
    .rcases G9 id (M up).n with e|e
     .exfalso;have hle:=o.le;obtain⟨k,s,J,x,q⟩:=g.who o (up-lo) A0 id f (by rw[show lo+(up-lo)=up by omega];exact e);have t:D k=true:=by
       cases A:D k with
       | true=>rfl
       | false =>
         obtain⟨lg,hm⟩:=G k s A0 A;rw[hm]at q;have q:id<(M k).n:=q;omega
      rw[(Y4 (M:=M) (D:=Dr lo D) up).2 ⟨k,A0,o9.2 ⟨s,t⟩,x,q⟩]at hu;cases hu
     .exact .inr e
 have d:=g.all o o.le (A7 _);refine⟨inv.ext,fun b l f e=>?_,d.1,d.2.1,fun _=>d.2.2.1,inv.hr.hr fun id hid ab u=>by rw[y id hid];exact u,fun b C=>by rw[d.2.2.2.1];exact C,fun b f e=>by rw[d.2.2.2.1]at f;exact absurd f e,
     fun k L _=>inv.keep k L,inv.size,inv.os,fun b l f e I=>.inl ((inv.new b l f e).2 I),fun id hid f e=>?_,fun k ⟨id,ab,l,v,h,E,K⟩=>inv.tch k ⟨id,ab,l,v,(y id v).trans h,E,K⟩⟩
 .obtain⟨k,J,N,x,q⟩:=(Y4 _).1 (inv.new b l f e).1;have s:=(o9.1 N).1;have v:=(g.le o (i:=lo) (j:=k) (A7 _) s A0).1;have h:=(g.le o (i:=k+1) (j:=up) A0 A0 (A7 _)).1;omega
 .refine d.2.2.2.2 id hid ?_;rcases e with e|e
  .exact .inl e
  .exact .inr (by have:=d.2.2.1;omega)
def Rg.last{z:Zn}(g:Rg P base gl nt call ops F M V R X B)(b:nt<=512){D:Nat->Bool}{d ρ:Ren}{a:Act}{l w':World}(o:∀ i,i<ops.size->D i=true)(inv:Inv z P base gl nt ops F M V lo up d l D ρ a w'):FrR z ρ nt (F ops.size) a:=by
 have j:=inv.dfr.congr (fun _ _ h=>h) (fun p=>g.own p ops.size (A7 _));refine⟨inv.tsz,b,j.1,j.2,fun t f=>?_⟩;have n:=inv.frm t f;rw[<- g.frameUp b f (A7 _)]
 rwa[gM (D':=fun k=>Nat.blt k ops.size) ops.size (fun k e _=>by rw[o k e];exact(A76.2 e).symm)]at n
def Rg.fresh{z:Zn}(g:Rg P base gl nt call ops F M V R X B){D:Nat->Bool}{ρ:Ren}{a:Act}{w:World}(y:∀ k,lo<=k->D k=true->∃ lg,M (k+1)=(M k).wLg lg)(hr:HR P base ρ (M lo).H w)(j:a.tmps.size=nt)(q:ZR z ρ nt (F 0) a.defers)
  (e:∀ t,t<nt->VR ρ (cS D (fun k=>(ops[k]?).bind (·.dst)) V (F 0).get t ops.size) (a.tmps.getD t undef)):Inv z P base gl nt ops F M V lo up ρ w D ρ a w:=by
 have hu:∀ b n,jJ M (Dr lo D) b n=false:=fun b n=>by
  cases u:jJ M (Dr lo D) b n with
  | false=>rfl
  | true =>
    obtain⟨k,_,h,E,s⟩:=(Y4 _).1 u;obtain⟨p,o⟩:=o9.1 h;obtain⟨lg,hm⟩:=y k p o;rw[hm]at s;have s:b<(M k).n:=s;omega
 have i:∀ id ab,GD M lo up D id=some ab->Hp.get (M lo).H id=some ab:=fun id ab d=>by
  unfold GD at d;rw[hu]at d;exact d
 exact⟨fun _ _ h=>h,fun b l p o=>(by rw[p]at o;cases o),hr.f fun id hid ab d=>i id ab d,fun _ _=>rfl,A7 _,⟨rfl,rfl,rfl⟩,fun k ⟨id,ab,l,A,x,v,C⟩=>.inr ⟨id,ab,l,A,i id ab x,v,C⟩,j,q,e⟩
def Rg.old{z:Zn}(g:Rg P base gl nt call ops F M V R X B)(d:Ph ops B M lo up){e:Ren}{w0:World}{D:Nat->Bool}(a:At P base gl e (M lo) (M up).hi w0){b:Nat}{ab:AB}(s:AP (M lo).H b ab=true):GD M lo up D b=some ab:=by
 obtain⟨f,hid⟩:=AO s;unfold GD;have hu:jJ M (Dr lo D) b up=false:=by
  cases p:jJ M (Dr lo D) b up with
  | false=>rfl
  | true =>
    exfalso;obtain⟨k,x,v,w,y⟩:=(Y4 _).1 p;have u:=(o9.1 v).1;obtain⟨l,n,_⟩:=a.hr.at_ b hid _ f;have q:=g.le d (i:=lo) (j:=k) (A7 _) u A0;have t:=g.le d (i:=k+1) (j:=up) A0 A0 (A7 _);have o:=(g.all d d.le (A7 _)).2.2.1;rw[a.fr b A0 A0]at n;cases n
 rw[hu];exact f
end
def A1D(hm:P.follows .mixedOrders=true)(U:Z2 P base gl call):jB P base gl call:=by
 refine⟨hm,?_⟩;intro nt ops bp s s' ch;obtain⟨F,M,V,R,X,B,f1,f2,f3,dn,f4,f5,f6⟩:=A35 ops.toList 0 _ _ _ s s' ch;simp only[F9,U6]at f4 f5 f6;have cw:∀ i,i<=ops.size->∀ d,i+d<=ops.size->(M i).hi<=(M (i+d)).hi/\(M i).lg.le (M (i+d)).lg:=by
  intro i _ d;induction d with
  | zero=>intro _;exact⟨A7 _,.refl _⟩
  | succ d ih =>
    intro h;have O:=ih A0;obtain⟨o,A⟩:=R9 (ops:=ops) (i:=i+d) A0;obtain⟨bn,_⟩:=f6 (i+d) o (W4 A);refine⟨?_,O.2.trans (DR U bn)⟩;obtain⟨_,_,_,S⟩:=bn;rcases S with⟨_,_,_,_,S⟩|⟨_,_,_,_,_,S⟩|⟨_,_,_,_,S⟩|⟨_,_,_,_,mv,m',_,_,_,cl,S⟩
    .show _<=(M (i+d+1)).hi;rw[S];exact O.1
    .show _<=(M (i+d+1)).hi;rw[S];exact O.1
    .exact C3 O.1 S
    .exact C3 O.1 (A0N S cl)
 have E:∀ i j,i<=j->j<=ops.size->(M i).hi<=(M j).hi/\(M i).lg.le (M j).lg:=fun i j O S=>by
  have:=cw i A0 (j-i) A0
  rwa[show i+(j-i)=j by omega]at this
 constructor
 .have:=E 0 ops.size A0 (A7 _);rw[f2,f5]at this;exact this
 .intro z aw a0 w id Q cd al ag hQ;have g:Rg P base gl nt call ops F M V R X B:=⟨fun i o A=>(f6 i o (W4 A)).1,fun i o A=>(f6 i o (W4 A)).2.2.1,fun i o A=>(f6 i o (W4 A)).2.2.2,fun i o A=>(f6 i o (W4 A)).2.1,dn,bp⟩;have cb:∀ i o,ops[i]? = some o->∀ e ∈ o.after.toList,Region.binds .any e=true->e.on<i:=fun i o A=>by
   have:=(kG _ 0 g.ok i o (W4 A)).1;rw[F9]at this;exact gP this
  refine mX hm ?_;generalize ck:({ w with drawn:=w.drawn+1 }:World)=w1;have aq:w1.heap=w.heap:=by rw[<- ck]
  have ba:w1.os=w.os/\w1.tape=w.tape/\w1.output=w.output:=by rw[<- ck];exact⟨rfl,rfl,rfl⟩
  have au:At P base gl aw (M 0) (M ops.size).hi w1:=by
   rw[f2,f5];exact⟨⟨fun b l h=>al.hr.dom b l h,fun id hid ab ds=>by
    obtain⟨l,e1,e2,e3⟩:=al.hr.at_ id hid ab ds;exact⟨l,e1,e2.mono (fun _ _ h=>h) (fun _ _=>by rw[aq]),e3⟩⟩,by rw[aq];exact al.bs,al.fr,al.gr,al.nh,al.wb,fun k o C=>by rw[aq];exact al.gf k o C⟩
  have ah:∀ i,i<=ops.size->Sat (M i).lg:=fun i hi=>V2.le cd (by rw[<- f5];exact(E i ops.size hi (A7 _)).2)
  have az:L1 aw (M 0).n (M ops.size).hi:=au.fr;have fin:∀ (ρ:Ren) (a:Act) (w':World),FrR z ρ nt (F ops.size) a->St P base aw ρ (M 0) (M ops.size) w1 w'->Q .normal a w':=fun ρ a w' hf st=>by
   refine hQ ρ a w' (by rw[<- f4];exact hf) ?_;rw[<- f2,<- f5];exact⟨st.ext,st.new,st.nle,st.hle,st.nhi,st.hr,st.wsub,st.wrw,fun k C hb=>by rw[st.keep k (by rw[aq];exact C) hb,aq],by rw[<- aq];exact st.size,⟨st.os.1.trans ba.1,st.os.2.1.trans ba.2.1,st.os.2.2.trans ba.2.2⟩,fun b l O S h3=>by rw[<- aq];exact st.blk b l O S h3,st.same,fun k C=>by rw[<- aq];exact st.tch k C⟩
  have main:∀ (fuel:Nat) (listed:Array Bool) (lo up:Nat) (K ρ:Ren) (a:Act) (wL w':World),listed.size=ops.size->listed.toList.countP (fun b=>!b)=fuel->oS ops.toList (fun k=>listed.getD k false=true) ->
    Ph ops B M lo up->(up<ops.size->∃ o,ops[up]? = some o/\B up=true)->St P base aw K (M 0) (M lo) w1 wL->At P base gl K (M lo) (M ops.size).hi wL->(∀ q ∈ X lo,listed.getD q.1 false=false->A4e (M lo).H q.2=true)->(∀ k,k<lo->listed.getD k false=false->∃ q ∈ X lo,q.1=k)->(∀ k o,up<=k->ops[k]? = some o->listed.getD k false=true->cJ o.op=true) ->
    Inv z P base gl nt ops F M V lo up K wL (fun k=>listed.getD k false) ρ a w'->kU P z.rd .any ops Q fuel listed a w':=by
   have done:∀ (listed:Array Bool) (lo up:Nat) (K ρ:Ren) (a:Act) (wL w':World),(∀ i,i<ops.size->listed.getD i false=true)->Ph ops B M lo up->(up<ops.size->∃ o,ops[up]? = some o/\B up=true)->St P base aw K (M 0) (M lo) w1 wL->(∀ k o,up<=k->ops[k]? = some o->listed.getD k false=true->cJ o.op=true) ->
     Inv z P base gl nt ops F M V lo up K wL (fun k=>listed.getD k false) ρ a w'->Q .normal a w':=fun listed lo up K ρ a wL w' Z ph J ai L inv=>by
    have cc:up=ops.size:=by
     rcases G9 up ops.size with h|h
     .obtain⟨o,A,hs⟩:=J h
      have:=L up o (A7 _) A (Z up h);rw[GW (g.sb up o A hs)]at this;cases this
     .have:=ph.sz;omega
    subst cc;exact fin ρ a w' (g.last ag.le Z inv) (St.trans az ai (g.heap ph (fun k _ O S=>by have S:listed.getD k false=false:=S;rw[Z k O]at S;cases S) inv))
   intro fuel;induction fuel with
   | zero =>
     intro listed lo up K ρ a wL w' cy bd an ph J ai ae bb bq L inv;have Z:∀ i,i<ops.size->listed.getD i false=true:=fun i hi=>by
      have:=QN bd i (by simpa [cy]using hi);have S:listed[i]? = some true:=by simpa using this
      simp[B5,S]
     refine⟨?_,done listed lo up K ρ a wL w' Z ph J ai L inv⟩;rw[dT];intro j hj;obtain⟨O,o,S,_⟩:=mem_ready.1 hj;have ar:j<ops.size:=(D5.1 S).1;have h3:=Z j ar;have bc:j<listed.size:=A0;simp[B5,bc]at O h3;rw[O]at h3;cases h3
   | succ fuel ih =>
     intro listed lo up K ρ a wL w' cy bd an ph J ai ae bb bq L inv;refine⟨fun dt=>?_,fun i hi=>?_⟩
     ·
      have key:∀ n i,i<n->i<ops.size->listed.getD i false=true:=by
       intro n;induction n with
       | zero=>intro i h;omega
       | succ n bo =>
         intro i dk bk;by_cases h:i<n
         .exact bo i h bk
         .cases Y:listed.getD i false with
          | true=>rfl
          | false =>
            exfalso;obtain⟨o,A⟩:=R9 (ops:=ops) bk;have bj:i ∈ Region.ready .any ops listed:=mem_ready.2 ⟨by
             have bc:i<listed.size:=A0;simp[B5,bc]at Y ⊢;exact Y,o,A,fun e he hb=>by
             have ar:=cb i o A e (by simpa using he) hb;exact bo e.on A0 A0⟩
            rw[dt]at bj;cases bj
      exact done listed lo up K ρ a wL w' (fun i hi=>key (i+1) i (K1 i) hi) ph J ai L inv
     .obtain⟨O,o,A,S⟩:=mem_ready.1 hi;have bk:i<ops.size:=(D5.1 A).1;have ad:i<listed.size:=A0;have ay:listed.getD i false=false:=by
       simp[B5,ad]at O ⊢;exact O
      have u:∀ k,k≠i->(listed.setIfInBounds i true).getD k false=listed.getD k false:=fun k C=>by
       simp only[B5,G5];rw[A9 (fun e=>C e.symm)]
      have I:(listed.setIfInBounds i true).getD i false=true:=by
       simp[B5,G5,ad]
      have hr:∀ e ∈ o.after.toList,Region.binds .any e=true->listed.getD e.on false=true:=fun e he hb=>S e (by simpa using he) hb
      have bh:(listed.setIfInBounds i true).size=ops.size:=by simpa using cy
      have br:(listed.setIfInBounds i true).toList.countP (fun b=>!b)=fuel:=by
       have hg:listed.toList[i]? = some false:=by
        simp[B5,ad]at ay;simp[ad,ay]
       have:=FL listed.toList i hg;rw[Array.toList_setIfInBounds];omega
      have bg:oS ops.toList (fun k=>(listed.setIfInBounds i true).getD k false=true):=by
       intro k o' ct C e he hb;by_cases e1:e.on=i
       .rw[e1];exact I
       .show(listed.setIfInBounds i true).getD e.on false=true;rw[u e.on e1];by_cases e2:k=i
        .subst e2;have:ops.toList[k]? = some o:=W4 A;rw[this]at ct;cases ct;exact hr e he hb
        .have C:(listed.setIfInBounds i true).getD k false=true:=C;rw[u k e2]at C;exact an k o' ct C e he hb
      have bt:∀ k,k ∈ (u6 ops.toList []).getD i []->listed.getD k false=true:=fun k C=>CB an (fun i o A=>by
        have:=(kG _ 0 g.ok i o A).1;rw[F9]at this;exact gP this) (i+1) i k o (K1 i) (W4 A) hr C
      have ar:∀ k,listed.getD k false=true->k<ops.size:=fun k C=>by
       rcases G9 k ops.size with h|h
       .exact h
       .have T:listed[k]? = none:=Array.getElem?_eq_none_iff.2 A0;rw[B5,T]at C;cases C
      have bz:At P base gl K (M lo) (M up).hi wL:=ae.less (E up ops.size ph.sz (A7 _)).1;have go:∀ (y:Ren) (a':Act) (G:World),(up<=i->cJ o.op=true)->Inv z P base gl nt ops F M V lo up K wL (fun k=>(listed.setIfInBounds i true).getD k false) y a' G->kU P z.rd .any ops Q fuel (listed.setIfInBounds i true) a' G:=fun y a' G Y ax =>
       ih (listed.setIfInBounds i true) lo up K y a' wL G bh br bg ph J ai ae (fun q Y T=>bb q Y (by
        by_cases e:q.1=i
        .rw[e,I]at T;cases T
        .rw[u _ e]at T;exact T)) (fun k C T=>by
        by_cases e:k=i
        .subst e;rw[I]at T;cases T
        .rw[u k e]at T;exact bq k C T) (fun k p C hp hl=>by
        by_cases e:k=i
        .subst e;rw[A]at hp;cases hp;exact Y C
        .rw[u k e]at hl;exact L k p C hp hl) ax
      have quiet:∀ r,(up<=i->cJ o.op=true)->fK nt ops.toList (d8 P call o) ((u6 ops.toList []).getD i []) (R i) (F i) o (M i) (M (i+1)) (V i) r->(∀ b ab,r=some (b,ab)->GD M lo up (fun k=>listed.getD k false) b=some ab)->jU P z.rd ops Q i (fun a' G=>kU P z.rd .any ops Q fuel (listed.setIfInBounds i true) a' G) a w':=fun r Y W du =>
       g.quiet U bz (ah (i+1) A0) ag.le inv an ar A ay hr u I W du fun y a' G ax=>go y a' G Y ax
      rcases G9 i lo with aa|aa
      ·
       obtain⟨q,cj,ca⟩:=bq i aa ay;obtain⟨_,_,p,hp,W⟩:=g.inX lo (by have:=ph.sz;have:=ph.le;omega) q cj;rw[ca]at hp W;rw[A]at hp;cases hp;refine quiet q.2 (fun h=>by have:=ph.le;omega) W fun b ab hb=>?_
       refine g.old (z:=z) ph bz ?_
       have:=bb q cj (by rw[ca];exact ay);rw[hb]at this;exact this
      .rcases G9 i up with cr|cr
       ·
        by_cases hex:∃ r,fK nt ops.toList (d8 P call o) ((u6 ops.toList []).getD i []) (R i) (F i) o (M i) (M (i+1)) (V i) r
        .obtain⟨r,W⟩:=hex;refine quiet r (fun h=>by omega) W fun b ab hb=>?_
         rcases W with⟨_,_,_,_,dq⟩|⟨lg,dj,hw,Y,hm,dm⟩
         .rw[dq]at hb;cases hb
         .obtain⟨mv,m',cv,_⟩:=nJ Y;obtain⟨h3,h4⟩:=(uO cv).2.2.2.2.2 b ab (dm.symm.trans hb);obtain⟨h5,h6⟩:=AO h3;exact g.see (z:=z) (a:=a) (ρ:=ρ) (w:=w') ph bz an aa cr A hr b h6 _ h5 h4
        .exact g.step ph U bz (ah up ph.sz) ag.le inv an ar aa cr A ay hr u I hex fun y a' G ax=>go y a' G (fun h=>by omega) ax
       .obtain⟨os,bw,av⟩:=J A0;rcases G9 up i with dy|di
        ·
         have C:cJ o.op=true:=by
          rcases PE (g.sb up os bw av) i o dy A with h|h
          .have h3:=L up os (A7 _) bw (bt up h);rw[GW (g.sb up os bw av)]at h3;cases h3
          .exact h
         exact quiet none (fun _=>C) (g.kind A C) fun b ab hb=>by cases hb
        ·
         have cq:i=up:=A0;subst cq;rw[A]at bw;cases bw;have af:∀ k,k<i->listed.getD k false=false->∃ q ∈ X i,q.1=k:=fun k C T=>by
          rcases PF (g.sb i o A av) k C with h|h
          .rw[bt k h]at T;cases T
          .exact h
         have q2:=g.heap ph (fun k _ C T=>by
          obtain⟨q,Y,e⟩:=af k C T;obtain⟨_,_,p,hp,W⟩:=g.inX i A0 q Y;rw[e]at W;exact EE W) inv
         have dx:St P base aw ρ (M 0) (M i) w1 w':=St.trans (az.less (E i ops.size A0 (A7 _)).1) ai q2;have ao:At P base gl ρ (M i) (M ops.size).hi w':=ae.step q2;obtain⟨d1,d2,d3,bn⟩:=g.st i o A;have bu:∀ t,t ∈ Z6 ops.toList o->t<nt->VR ρ ((F i).get t) (a.tmps.getD t undef):=fun t ht cf=>by
          rw[<- g.look ag.le an ar A ay hr ht cf];exact inv.frm t cf
         have dr:FR ρ (F i) a.eval o.op:=fun x hx=>by
          have bp:okX nt gl x=true:=E8.1 d2 x hx;cases x with
          | tmp t=>exact bu t (yZ hx rfl) (A2 bp)
          | const v=>exact VR.ofC bp
          | global gg=>exact VR.ptr (o:=0) (ao.gr gg (A2 bp))
          | func f=>exact .func (a:=[]) (b:=[]) (a':=[]) (b':=[]) rfl rfl (fun i v v' h=>by simp at h) (fun i v v' h=>by simp at h)
         have cz:∀ lg b,dF nt (F i) (M i).lg ops.toList o=some (b,lg)->Sat lg->Region.wanted o (yielded ops a.tmps)=b:=fun lg b hw cu=>by
          unfold dF at hw;split at hw
          .rename_i hg;cases hw;simp[Region.wanted,hg]
          .rename_i j want hg;split at hw
           .rename_i p hp;split at hw
            .rename_i t ht;obtain⟨O,S⟩:=A3 hw;have O:t<nt:=A2 O;have hv:=bu t (by
              unfold Z6;refine B7.2 (.inr (B7.2 (.inr ?_)));simp[hg,hp,ht]) O
             exact oV hg hp ht (by rw[inv.tsz];exact O) (sE S hv cu)
            .cases hw
           .cases hw
         have bl:∀ (y:Ren) (v':Value),(∀ b l,ρ b=some l->y b=some l)->VR y (V i) v'->∀ t,t<nt->VR y (cS (fun k=>(listed.setIfInBounds i true).getD k false) (fun k=>(ops[k]?).bind (·.dst)) V (F 0).get t ops.size) ((a.put o.dst v').tmps.getD t undef):=fun y v' he hv t ht=>by
          by_cases hd:o.dst=some t
          .have ak:∀ k,i<k->k<ops.size->(ops[k]?).bind (·.dst)=some t->listed.getD k false=false:=fun k dh C cm=>by
            obtain⟨p,hp⟩:=R9 (ops:=ops) C;rw[hp]at cm
            have:=g.slot an ar A ay hr (t:=t) (by unfold Z6;simp[hd]) k p hp A0 cm;cases Y:listed.getD k false with
            | false=>rfl
            | true=>have:=this.1 Y;omega
           rw[tR (D:=fun k=>listed.getD k false) u I ops.size bk (by simp[A,hd]) ak];simp only[hd,Act.put,B5];rw[G5,B0 rfl,B0 (by rw[inv.tsz];exact ht)];exact hv
          .rw[rD (D:=fun k=>listed.getD k false) u (by simp[A];exact hd)];have O:=(inv.frm t ht).mono he;cases dz:o.dst with
           | none=>exact O
           | some d =>
             have dw:d≠t:=fun e=>hd (e▸dz)
             simp only[Act.put,B5]at O ⊢;rw[G5,A9 dw];exact O
         have hX:X (i+1)=X i/\A0f ((u6 ops.toList []).getD i []) (M (i+1)).H (X i)=true:=by
          rcases g.qs i o A with⟨_,h3,h4⟩|⟨h3,_⟩|⟨h3,_⟩
          .exact⟨h3,h4⟩
          .rw[av]at h3;cases h3
          .rw[av]at h3;cases h3
         have ak:∀ (y:Ren) (v':Value) (G:World),VR y (V i) v'->St P base ρ y (M i) (M (i+1)) w' G->kU P z.rd .any ops Q fuel (listed.setIfInBounds i true) (a.put o.dst v') G:=fun y v' G hv aj=>by
          obtain⟨dp,u1,u2,u3,u4⟩:=uS ops B (ops.size-(i+1)) (i+1) A0;have bf:=ao.step aj;refine ih (listed.setIfInBounds i true) (i+1) dp y y _ G G bh br bg ⟨u1,u2,bf.nh,u3⟩ u4 (St.trans (az.less (E (i+1) ops.size A0 (A7 _)).1) dx aj) bf (fun q Y T=>?_) (fun k C T=>?_) (fun k p C hp hl=>?_)
           (g.fresh (fun k C hl=>?_) aj.hr ?_ ?_ (bl y v' aj.ext hv))
          .rw[hX.1]at Y;have h5:=E8.1 hX.2 q Y;rcases J9 _ _▸h5 with h5|h5
           .exfalso;have h6:=bt q.1 (Z9.1 h5);by_cases e:q.1=i
            .rw[e,ay]at h6;cases h6
            .rw[u _ e,h6]at T;cases T
           .exact h5
          .rw[hX.1];by_cases e:k=i
           .subst e;rw[I]at T;cases T
           .rw[u k e]at T;exact af k A0 T
          .rw[u k A0]at hl;exact L k p A0 hp hl
          .have hl:(listed.setIfInBounds i true).getD k false=true:=hl;rw[u k A0]at hl;obtain⟨p,hp⟩:=R9 (ops:=ops) (ar k hl);exact EE (g.kind hp (L k p A0 hp hl))
          .cases dz:o.dst<;>simp[Act.put,inv.tsz]
          .rw[gC];exact inv.dfr.congr aj.ext fun _=>⟨rfl,rfl⟩
         unfold jU;simp only[A];rcases bn with⟨N,_⟩|⟨N,_⟩|⟨_,lg,hw,bx,cl⟩|⟨N,_⟩
         .rw[av]at N;cases N
         .rw[av]at N;cases N
         .have cn:=ah (i+1) A0;have cu:Sat lg:=V2.le cn (by have:=cF U bx;rw[aH]at this;exact this);rw[cz lg true hw cu];simp only[if_true];have cg:At P base gl ρ ((M i).wLg lg) (M (i+1)).hi w':=(ao.wLg lg).less (E (i+1) ops.size A0 (A7 _)).1;refine sT U bx cn cg dr fun v' y G hv aj=>ak y v' G hv ?_
          have cp:=St.wLg (m:=M i) ao.hr lg;exact St.trans (by have:=ao.fr;exact this.less (E (i+1) ops.size A0 (A7 _)).1) cp aj
         .rw[av]at N;cases N
  obtain⟨up,u1,u2,u3,u4⟩:=uS ops B ops.size 0 A0;have bm:∀ k,(Array.replicate ops.size false).getD k false=false:=fun k=>by
   simp only[B5,jT];split<;>simp
  refine main ops.size _ 0 up aw aw a0 w1 w1 (by simp) (by simp[List.countP_replicate]) (fun k o A C=>by have C:(Array.replicate ops.size false).getD k false=true:=C;rw[bm k]at C;cases C) ⟨u1,u2,au.nh,u3⟩ u4 (St.refl au.hr) au (fun q Y=>by rw[g.x0]at Y;cases Y) (fun k C=>by omega) (fun k o C A hl=>by rw[bm k]at hl;cases hl)
   (g.fresh (fun k _ hl=>by have hl:(Array.replicate ops.size false).getD k false=true:=hl;rw[bm k]at hl;cases hl) au.hr ag.size (by rw[f1];exact ag.zr) fun t ht=>?_)
  have h0:∀ n,cS (fun k=>(Array.replicate ops.size false).getD k false) (fun k=>(ops[k]?).bind (·.dst)) V (F 0).get t n=(F 0).get t:=by
   intro n;induction n with
   | zero=>rfl
   | succ n bo=>rw[cS,A9 (fun hh=>by rw[bm n]at hh;exact absurd hh.1 (by simp)),bo]
  rw[h0,f1];exact ag.get t ht
end
end
section
open Go
variable [Ora]
section
variable {P:Program} {base gl:Nat}
def yI{f:FuncId}{e:c9->Sem Value}{args:c9}{w w':World}{v:Value}(g:P.funcs[f]? = some fn)(b:(fn.name == "runtime.NumGoroutine")=false)(i:fn.body=none)(d:Extern.findNext fn=none)(he:Extern.find fn=some e)
  (hr:(e args).run P w=.ok v w'):(callFunc f args).run P w=.ok (.value v) w':=by
 have a:fn.name ≠ "runtime.NumGoroutine":=by simpa using b
 simp[callFunc,A5,run_program,Result.andThen,g,a,i,d,he,mark,Sem.run,hr]
def oE{k:EK}{vs:E0}{v:Value}(h:rG k vs m=some (v,m')) :
  (k=.noEscape/\vs=[v]/\m'=m) ∨
  (k=.indexByteString/\∃ s c,vs=[.string s,.int .u8 (.ofNat c)]/\v=.int .i64 (vC s.data.toList (UInt8.ofNat c) 0)/\m'=m) ∨
  (k=.countString/\∃ s c,vs=[.string s,.int .u8 (.ofNat c)]/\v=.int .i64 (vN (UInt8.ofNat c) s.data.toList 0)/\m'=m) ∨
  (∃ e n,k=.makeNoZero e/\vs=[.int .i64 (.ofNat n)]/\n<=1000000000/\w8 m (.cells [] e false) (fun b=>.slice (some ⟨b,0,none⟩) n O7)=some (v,m')):=by
 unfold rG at h;split at h
 .cases h;exact .inl ⟨rfl,rfl,rfl⟩
 .cases h;exact .inr (.inl ⟨rfl,_,_,rfl,rfl,rfl⟩)
 .cases h;exact .inr (.inr (.inl ⟨rfl,_,_,rfl,rfl,rfl⟩))
 .obtain⟨a,h⟩:=A3 h;exact .inr (.inr (.inr ⟨_,_,rfl,rfl,A2 a,h⟩))
 .cases h
def yJ{k:EK}{vs:E0}{v:Value}(h:(FnC.mk (rG k)).run vs m=some (v,m')):m.lg.le m'.lg:=by
 have h:rG k vs m=some (v,m'):=h;rcases oE h with⟨_,_,rfl⟩|⟨_,_,_,_,_,rfl⟩|⟨_,_,_,_,_,rfl⟩|⟨_,_,_,_,_,h⟩
 .exact .refl _
 .exact .refl _
 .exact .refl _
 .obtain⟨_,_,rfl⟩:=N0 h;exact .refl _
def LP{f:FuncId}(j:P.funcs[f]? = some fn)(b:(fn.name == "runtime.NumGoroutine")=false)(e:fn.body=none)(k:Extern.findNext fn=none)(he:Extern.find fn=some Extern.AbiNoEscape.same):oR P base gl f ⟨rG .noEscape⟩:=by
 refine⟨fun vs m m' v hr=>yJ hr,?_⟩;intro ρ m m' w vs vs' v hr l a d;have hr:rG .noEscape vs m=some (v,m'):=hr;rcases oE hr with⟨_,rfl,rfl⟩|⟨h,_⟩|⟨h,_⟩|⟨_,_,h,_⟩
 .obtain⟨v',n,rfl,g,i⟩:=d.tail;cases i.nil_inv;exact .inr ⟨v',ρ,w,yI j b e k he rfl,g,.refl a.hr⟩
 .cases h
 .cases h
 .cases h
def EX(c:UInt8):∀ (l:List UInt8) (k:Nat),vC l c k=if Lib.indexByte l c == -1 then -1 else Lib.indexByte l c+k
 | [],k=>rfl
 | x::r,k=>by
   have f:=Lib.indexByte_ge r c;have a:=EX c r (k+1);rw[vC,Lib.indexByte];by_cases e:x=c
   .subst e;simp
   .have b:(x == c)=false:=by simpa using e
    simp only[b,U2 e,E7];rw[a];by_cases h:Lib.indexByte r c = -1
    .simp[h]
    .have d:(Lib.indexByte r c == -1)=false:=by simpa using h
     have h3:(Lib.indexByte r c+1 == -1)=false:=by simp;omega
     simp only[d,h3,K5,if_false];omega
def QF(c:UInt8)(l:List UInt8):vC l c 0=Lib.indexByte l c:=by
 rw[EX];by_cases h:Lib.indexByte l c = -1
 .simp[h]
 .have a:(Lib.indexByte l c == -1)=false:=by simpa using h
  simp[a]
def rH(c:UInt8):∀ (l:List UInt8) (n:Nat),vN c l n=n+l.count c
 | [],n=>rfl
 | x::r,n=>by
   rw[vN,List.count_cons];by_cases e:x=c
   .subst e;simp only[decide_true,F1,F5,beq_self_eq_true,if_true];rw[rH x r (n+1)];omega
   .have a:(x == c)=false:=by simpa using e
    simp only[U2 e,E7,a,K5,if_false];rw[rH c r n];omega
def ID{f:FuncId}(k:P.funcs[f]? = some fn)(b:(fn.name == "runtime.NumGoroutine")=false)(e:fn.body=none)(l:Extern.findNext fn=none)(he:Extern.find fn=some Extern.BytealgIndexByte.indexByte):oR P base gl f ⟨rG .indexByteString⟩:=by
 refine⟨fun vs m m' v hr=>yJ hr,?_⟩;intro ρ m m' w vs vs' v hr o a d;have hr:rG .indexByteString vs m=some (v,m'):=hr;rcases oE hr with⟨h,_⟩|⟨_,s,c,rfl,rfl,rfl⟩|⟨h,_⟩|⟨_,_,h,_⟩
 .cases h
 .obtain⟨v1,r1,rfl,g,j⟩:=d.tail;obtain⟨v2,n,rfl,h3,i⟩:=j.tail;cases i.nil_inv;cases Y7 g;cases K2 h3;refine .inr ⟨_,ρ,w,yI k b e l he (Lib.run_indexByteString s (.ofNat c) w),?_,.refl a.hr⟩;rw[QF];exact .pure rfl
 .cases h
 .cases h
def BH{f:FuncId}(k:P.funcs[f]? = some fn)(b:(fn.name == "runtime.NumGoroutine")=false)(e:fn.body=none)(l:Extern.findNext fn=none)(he:Extern.find fn=some Extern.BytealgCount.count):oR P base gl f ⟨rG .countString⟩:=by
 refine⟨fun vs m m' v hr=>yJ hr,?_⟩;intro ρ m m' w vs vs' v hr o a d;have hr:rG .countString vs m=some (v,m'):=hr;rcases oE hr with⟨h,_⟩|⟨h,_⟩|⟨_,s,c,rfl,rfl,rfl⟩|⟨_,_,h,_⟩
 .cases h
 .cases h
 .obtain⟨v1,r1,rfl,g,j⟩:=d.tail;obtain⟨v2,n,rfl,h3,i⟩:=j.tail;cases i.nil_inv;cases Y7 g;cases K2 h3;refine .inr ⟨_,ρ,w,yI k b e l he (Lib.run_countString s (.ofNat c) w),?_,.refl a.hr⟩;rw[rH,F9];exact .pure rfl
 .cases h
def DB{f:FuncId}{ps:Array TypeId}{t e:TypeId}(y:P.funcs[f]? = some fn)(j:(fn.name == "runtime.NumGoroutine")=false)(l:fn.body=none)(A:Extern.findNext fn=none)(he:Extern.find fn=some (Extern.BytealgMakeNoZero.makeNoZero ps #[t]))
  (hu:P.underlying t=some (.slice e)) (hi:(P.info? e).map (·.size)=some 1):oR P base gl f ⟨rG (.makeNoZero e)⟩:=by
 refine⟨fun vs m m' v hr=>yJ hr,?_⟩;intro ρ m m' w vs vs' v hr D a k;have hr:rG (.makeNoZero e) vs m=some (v,m'):=hr;rcases oE hr with⟨h,_⟩|⟨h,_⟩|⟨h,_⟩|⟨e',n,h,rfl,x,hr⟩
 .cases h
 .cases h
 .cases h
 .cases h;obtain⟨v1,r1,rfl,p,g⟩:=k.tail;cases g.nil_inv;cases K2 p;obtain⟨cs,d,hle,_⟩:=Lib.run_makeNoZero (P:=P) w ps t e hu n A0;obtain⟨z,s,q⟩:=fN (wd:=w.drew.drew) (fz:=(0,0)) (cap:=cs.size) (C:=cs) (cs':=[]) a.hr a.bs hr a.fr (.nil) (fun i u hi=>by simp at hi) NF.zero
   (fun inf g=>by rw[g]at hi;have hi:some inf.size=some 1:=hi;have hi:=A8 hi;rw[hi];omega) ⟨rfl,rfl,rfl⟩ rfl
  refine .inr ⟨_,_,_,yI y j l A he d,?_,q⟩;rw[z]
  have:=VR.op (ρ:=upd ρ m.n (lc w.heap.size 0 cs.size)) (b:=m.n) (o:=0) (n:=n) (m:=O7) (m':=cs.size) s (A7 _) hle (fun _ _=>rfl)
  simpa using this
end
end
section
open Go
variable [Ora]
structure CH (P:Program) (f:FuncId) (k:EK):Prop where
 row:∃ fn,P.funcs[f]? = some fn/\(fn.name == "runtime.NumGoroutine")=false/\fn.body=none/\Extern.findNext fn=none /\
  ((k=.noEscape/\Extern.find fn=some Extern.AbiNoEscape.same)∨(k=.indexByteString/\Extern.find fn=some Extern.BytealgIndexByte.indexByte)∨(k=.countString/\Extern.find fn=some Extern.BytealgCount.count) ∨
    (∃ e ps t,k=.makeNoZero e/\Extern.find fn=some (Extern.BytealgMakeNoZero.makeNoZero ps #[t])/\P.underlying t=some (.slice e)/\(P.info? e).map (·.size)=some 1))
def CH.ok{P:Program}{f:FuncId}{k:EK}{base gl:Nat}(h:CH P f k):oR P base gl f ⟨rG k⟩:=by
 obtain⟨fn,g,d,h3,b,a⟩:=h.row;rcases a with⟨rfl,a⟩|⟨rfl,a⟩|⟨rfl,a⟩|⟨e,ps,t,rfl,a,j,i⟩
 .exact LP g d h3 b a
 .exact ID g d h3 b a
 .exact BH g d h3 b a
 .exact DB g d h3 b a j i
def FH:∀ {l:List (FuncId×EK)} {f:FuncId} {k:EK},MZ l f=some k->(f,k) ∈ l
 | (g,j)::r,f,k,h=>by
   rw[MZ]at h;cases e:Nat.beq g f with
   | true =>
     rw[e]at h;cases h;rw[A1 e];exact .head _
   | false =>
     rw[e]at h;exact .tail _ (FH h)
theorem A2t{P:Program}{ext:List (FuncId×EK)}{gl base:Nat}{con:FuncId->Option FnC}{lp:FuncId->LpT}(hm:P.follows .mixedOrders=true)(d:JJ P)(he:∀ p ∈ ext,CH P p.1 p.2)
  (a:∀ f c,con f=some c->oR P base gl f c) (b:∀ f fn body,P.funcs[f]? = some fn->fn.body=some body->QW P base gl fn.ntmps body (lp f)) :
  A2_ ⟨P,ext,gl,con,lp⟩ base :=
 { names:=d,ext:=fun f k fn _ _ h=>(he _ (FH h)).ok,con:=a,lp:=b,draws:=fun _ h=>A1D hm h }
end
section
open Go
inductive Sh where
 | s (t:Nat)
 | a (ts:List Nat)
def JT(t:Nat)(u:U):S8:=if H7 u=t then toV u else none
def UF:I7->List U->Option (E0×List U)
 | [],us=>some ([],us)
 | t::ts,u::us=>match JT t u,UF ts us with
   | some v,some (vs,r)=>some (v::vs,r)
   | _,_=>none
 | _::_,[]=>none
def JS:Sh->List U->Option (Value×List U)
 | .s t,u::us=>match JT t u with
   | some v=>some (v,us)
   | none=>none
 | .s _,[]=>none
 | .a ts,us=>match UF ts us with
   | some (vs,r)=>some (.agg ⟨vs⟩,r)
   | none=>none
def UE:List Sh->List U->Option E0
 | [],[]=>some []
 | [],_::_=>none
 | h::hs,us=>match JS h us with
   | some (v,r)=>match UE hs r with
     | some vs=>some (v::vs)
     | none=>none
   | none=>none
def tup:E0->Value
 | [v]=>v
 | vs=>.tuple ⟨vs⟩
structure oQ (w w':World):Prop where
 os:w'.os=w.os/\w'.tape=w.tape/\w'.output=w.output
 size:w.heap.size<=w'.heap.size
 keep:∀ k,k<w.heap.size->w'.heap[k]? = w.heap[k]?
def GOk(G:Nat->Option Obj)(w:World):Prop:=∀ k o,G k=some o->w.heap[k]? = some o
def GOk.lt{G:Nat->Option Obj}{w:World}(h:GOk G w){k:Nat}{o:Obj}(b:G k=some o):k<w.heap.size:=by
 have:=h k o b;rcases G9 k w.heap.size with a|a
 .exact a
 .rw[Array.getElem?_eq_none a]at this;cases this
abbrev gY:=List U->Option (Nat×List U)
def Sh.tags:Sh->I7
 | .s t=>[t]
 | .a b=>b
def DQ:List Sh->I7
 | []=>[]
 | s::ss=>s.tags++DQ ss
def Sh.n(s:Sh):Nat:=s.tags.length
def shN:List Sh->Nat
 | []=>0
 | h::hs=>h.n+shN hs
def oH(a:List Sh):Bool:=(DQ a).any (Nat.ble 10)
inductive ShR (R:Nat->Option Obj):Sh->List U->Value->Prop
 | s {t u v} (h:Enc R u v) (ht:H7 u=t):ShR R (.s t) [u] v
 | a {ts us cs} (h:u9 R us cs) (ht:us.map H7=ts):ShR R (.a ts) us (.agg ⟨cs⟩)
inductive ShL (R:Nat->Option Obj):List Sh->List U->E0->Prop
 | nil:ShL R [] [] []
 | cons {s ss us us2 v vs} (h:ShR R s us v) (k:ShL R ss us2 vs):ShL R (s::ss) (us++us2) (v::vs)
def u9.append{R:Nat->Option Obj}{us a:List U}{vs:E0}(h:u9 R us vs)(k:u9 R a vs2):u9 R (us++a) (vs++vs2):=by
 refine⟨by simp[h.1,k.1],fun i u v e d=>?_⟩;rcases G9 i us.length with b|b
 .rw[F7 b]at e;rw[F7 (h.1▸b)]at d;exact h.2 i u v e d
 .rw[E9 b]at e;rw[E9 (h.1▸b),<- h.1]at d;exact k.2 _ u v e d
def u9.split{R:Nat->Option Obj}:∀ {vs vs2:E0} {us:List U},u9 R us (vs++vs2)->∃ a b,us=a++b/\u9 R a vs/\u9 R b vs2
 | [],vs2,us,h=>⟨[],us,rfl,.nil,h⟩
 | v::vs,vs2,[],h=>by have:=h.1;simp at this
 | v::vs,vs2,u::us,h=>by
   obtain⟨a,b,rfl,f,e⟩:=u9.split (vs:=vs) (vs2:=vs2) (us:=us) ⟨by have:=h.1;simpa using this,fun i x y d a2=>h.2 (i+1) x y (by simpa using d) (by simpa using a2)⟩;exact⟨u::a,b,rfl,.cons (h.2 0 u v rfl rfl) f,e⟩
def u9.mono{R d:Nat->Option Obj}{us:List U}{vs:E0}(h:u9 R us vs)(k:Sub R d):u9 d us vs:=⟨h.1,fun i u v a b=>(h.2 i u v a b).mono k⟩
def JV{R:Nat->Option Obj}:∀ {d:I7} {us r:List U} {vs:E0},UF d us=some (vs,r)->∃ a,us=a++r/\u9 R a vs/\a.map H7=d
 | [],us,r,vs,h=>by cases h;exact⟨[],rfl,.nil,rfl⟩
 | t::d,u::us,r,vs,h=>by
   unfold UF at h;split at h
   .rename_i v j k b i;cases h;obtain⟨a,rfl,g,e⟩:=JV (R:=R) i;unfold JT at b;split at b
    .rename_i f;exact⟨u::a,rfl,.cons (.sc b) g,by simp[f,e]⟩
    .cases b
   .cases h
 | _::_,[],_,_,h=>by cases h
def UD{R:Nat->Option Obj}{s:Sh}{us r:List U}{v:Value}(h:JS s us=some (v,r)):∃ a,us=a++r/\ShR R s a v:=by
 cases s with
 | s t =>
   cases us with
   | nil=>cases h
   | cons u us =>
     simp only[JS]at h;split at h
     .rename_i v1 b;cases h;unfold JT at b;split at b
      .rename_i f;exact⟨[u],rfl,.s (.sc b) f⟩
      .cases b
     .cases h
 | a i =>
   simp only[JS]at h;split at h
   .rename_i vs j b;cases h;obtain⟨a,g,e,d⟩:=JV (R:=R) b;exact⟨a,g,.a e d⟩
   .cases h
def zI{R:Nat->Option Obj}:∀ {b:List Sh} {us:List U} {vs:E0},UE b us=some vs->ShL R b us vs
 | [],[],vs,h=>by cases h;exact .nil
 | [],_::_,_,h=>by cases h
 | s::b,us,vs,h=>by
   unfold UE at h;split at h
   .rename_i v r e;split at h
    .rename_i g f;cases h;obtain⟨a,rfl,d⟩:=UD (R:=R) e;exact .cons d (zI f)
    .cases h
   .cases h
def A1B{R:Nat->Option Obj}{us:List U}{vs:E0}(h:u9 R us vs)(d:vs2.length=us.length)(k:∀ (i:Nat) (u:U) (v:Value),us[i]? = some u->vs2[i]? = some v->toV u=some v):vs=vs2:=by
 refine dC fun i=>?_
 rcases G9 i us.length with hi|hi
 .have b:us[i]? = some us[i]:=A6 hi;have a:vs[i]? = some (vs[i]'(h.1▸hi)):=A6 _;have h3:vs2[i]? = some (vs2[i]'(d▸hi)):=A6 _;rw[a,h3,pQ (h.2 i _ _ b a) (k i _ _ b h3)]
 .rw[X3 (by rw[<- h.1];exact hi),X3 (by rw[d];exact hi)]
def JU:∀ {d:I7} {us r:List U} {vs:E0},UF d us=some (vs,r)->∃ a,us=a++r/\vs.length=a.length/\a.length=d.length/\∀ (i:Nat) (u:U) (v:Value),a[i]? = some u->vs[i]? = some v->toV u=some v
 | [],us,r,vs,h=>by cases h;exact⟨[],rfl,rfl,rfl,fun i u v h=>by simp at h⟩
 | t::d,u::us,r,vs,h=>by
   unfold UF at h;split at h
   .rename_i v f n b k;cases h;obtain⟨a,rfl,l,j,g⟩:=JU k;unfold JT at b;split at b
    .refine⟨u::a,rfl,by simp[l],by simp[j],fun i x y e a2=>?_⟩;cases i with
     | zero=>simp at e a2;subst e;subst a2;exact b
     | succ i=>exact g i x y (by simpa using e) (by simpa using a2)
    .cases b
   .cases h
 | _::_,[],_,_,h=>by cases h
def fU{R:Nat->Option Obj}:∀ {i:List Sh} {us:List U} {vs vs2:E0},ShL R i us vs->UE i us=some vs2->vs=vs2
 | [],us,vs,vs2,h,k=>by cases h;cases k;rfl
 | s::i,us,vs,vs2,h,k=>by
   cases h with
   | cons x o =>
     rename_i d f v vs;unfold UE at k;split at k
     .rename_i v1 r g;split at k
      .rename_i q l;cases k;have n:d++f=d++f:=rfl;cases x with
       | s he j =>
         rename_i t u;have b:(match JT t u with|some v=>some (v,f)|none=>none)=some (v1,r):=g;cases e:JT t u with
         | none=>rw[e]at b;cases b
         | some w =>
           rw[e]at b;cases b;unfold JT at e;rw[B0 j]at e;rw[pQ he e,fU o l]
       | a he j =>
         rename_i E cs;simp only[JS]at g;split at g
         .rename_i y G p;cases g;obtain⟨a,C,A,z,D⟩:=JU p;have hlen:a.length=d.length:=by rw[z,<- j];simp
          obtain⟨rfl,rfl⟩:=List.append_inj C hlen.symm;rw[A1B he A D,fU o l]
         .cases g
      .cases k
     .cases k
def t6(P:Program)(G:Nat->Option Obj)(f:FuncId)(ps:List Sh)(spec:gY)(rs:List Sh):Prop :=
 ∀ (us outs:List U) (w:World) (vs:List Value) (R:Nat->Option Obj),ShL R ps us vs->spec us=some (0,outs)->GOk G w->GOk R w ->
  (callFunc f ⟨vs⟩).run P w=.ok (.enter f ⟨vs⟩) w/\Calls P f ⟨vs⟩ w (fun e w'=>∃ r a,ShL a rs outs r/\e=.returned (tup r)/\oQ w w'/\GOk a w'/\∀ k o,a k=some o->w.heap.size<=k∨∃ o',R k=some o')
def unA:List Sh->E0->Option E0
 | [],[]=>some []
 | .s _::ss,v::vs=>match unA ss vs with
   | some r=>some (v::r)
   | none=>none
 | .a ts::ss,.agg cs::vs=>bif Nat.beq cs.toList.length ts.length then match unA ss vs with
   | some r=>some (cs.toList++r)
   | none=>none else none
 | _,_=>none
def sQ(P:Program)(ps:List Sh)(vs:List Value)(m:Mem):Option (E0×Mem) :=
 match unA ps vs with
 | some cs=>match CM (tdP P) (DQ ps) cs m with
   | some (xs,[],m)=>some (xs,m)
   | some (xs,gs,m)=>match mM gs m with
     | some (_,m)=>some (xs,m)
     | none=>none
   | none=>none
 | none=>none
def SZ(i t b:Nat):Value:=bif Nat.blt t 10 then hole i t else dat b i t
def XS:I7->Nat->Nat->E0
 | [],_,_=>[]
 | t::ts,i,b=>SZ i t b::XS ts (i+1) b
def A5X:Sh->Nat->Nat->Value
 | .s t,i,b=>SZ i t b
 | .a ts,i,b=>.agg ⟨XS ts i b⟩
def yX:List Sh->Nat->Nat->E0
 | [],_,_=>[]
 | h::hs,i,b=>A5X h i b::yX hs (i+h.n) b
def UZ(rs:List Sh)(nx:Nat)(m:Mem):Res :=
 bif oH rs then match jN m fun b m=>some (tup (yX rs nx b),b,m)with
  | some (v,_,m)=>some (v,m)
  | none=>none
 else some (tup (yX rs nx 0),m)
def A7J(m:Mem)(hi:Nat)(v:Value)(lg:Lg):Res :=
 match m with
 | ⟨H,n,W,_,_⟩=>some (v,⟨H,n,W,hi,lg⟩)
def A2w(P:Program)(ps:List Sh)(spec:gY)(rs:List Sh):FnC:=⟨fun vs m =>
 match sQ P ps vs m with
 | some (xs,⟨H,n,W,hi,⟨nx,pi,log⟩⟩)=>K3 nx fun nx=>U0 xs fun xs=>K3 (nx+shN rs) fun a=>bif oH rs then UZ rs nx ⟨H,n,W,hi,⟨a,pi,.con spec xs nx 0 (shN rs)::log⟩⟩else A7J m hi (tup (yX rs nx 0)) ⟨a,pi,.con spec xs nx 0 (shN rs)::log⟩
 | none=>none⟩
def TQ{P:Program}{ps:List Sh}{spec:gY}{rs:List Sh}{vs:E0}{v:Value}(h:(A2w P ps spec rs).run vs m=some (v,m')) :
  ∃ xs m1,sQ P ps vs m=some (xs,m1)/\((oH rs=true/\UZ rs m1.lg.nx (m1.wLg ⟨m1.lg.nx+shN rs,m1.lg.pi,.con spec xs m1.lg.nx 0 (shN rs)::m1.lg.log⟩)=some (v,m'))∨(oH rs=false/\v=tup (yX rs m1.lg.nx 0)/\m'=⟨m.H,m.n,m.W,m1.hi,⟨m1.lg.nx+shN rs,m1.lg.pi,.con spec xs m1.lg.nx 0 (shN rs)::m1.lg.log⟩⟩)):=by
 unfold A2w at h;simp only at h;split at h
 .rename_i xs H n W hi nx pi log e;simp only[F5,J4]at h;refine⟨xs,_,e,?_⟩;cases a:oH rs with
  | true=>rw[a]at h;exact .inl ⟨rfl,h⟩
  | false =>
    rw[a]at h;obtain⟨i,g,f,b,d⟩:=m;cases h;exact .inr ⟨rfl,rfl,rfl⟩
 .cases h
variable [Ora]
def OS{ρ:Ren}:∀ {b:List Sh} {vs vs' cs:E0},unA b vs=some cs->LR ρ vs vs'->∃ cs',unA b vs'=some cs'/\LR ρ cs cs'
 | [],[],vs',cs,h,hl=>by cases h;rw[hl.nil_inv];exact⟨[],rfl,.nil⟩
 | [],_::_,_,_,h,_=>by cases h
 | .s t::b,[],_,_,h,_=>by cases h
 | .a t::b,[],_,_,h,_=>by cases h
 | .s t::b,v::vs,vs',cs,h,hl=>by
   obtain⟨v',l,rfl,d,f⟩:=hl.tail;unfold unA at h;split at h
   .rename_i r hr;cases h;obtain⟨cs',i,e⟩:=OS hr f;exact⟨v'::cs',by simp[unA,i],.cons d e⟩
   .cases h
 | .a ts::b,v::vs,vs',cs,h,hl=>by
   obtain⟨v',l,rfl,d,f⟩:=hl.tail;cases v with
   | agg c =>
     unfold unA at h;obtain⟨hlen,h⟩:=A3 h;split at h
     .rename_i r hr;cases h;obtain⟨cs',i,e⟩:=OS hr f;obtain⟨k,rfl,j⟩:=Z7 d;refine⟨k++cs',?_,j.append e⟩;have g:Nat.beq k.length ts.length=true:=by rw[<- j.1];exact hlen
      simp[unA,i,g]
     .cases h
   | _=>cases h
def fE{R:Nat->Option Obj}:∀ {e:List Sh} {vs cs:E0} {us:List U},unA e vs=some cs->u9 R us cs->us.map H7=DQ e->ShL R e us vs
 | [],[],cs,us,h,he,ht=>by
   cases h;have:us=[]:=H3.1 he.1;subst this;exact .nil
 | [],_::_,_,_,h,_,_=>by cases h
 | .s t::e,[],_,_,h,_,_=>by cases h
 | .a t::e,[],_,_,h,_,_=>by cases h
 | .s t::e,v::vs,cs,us,h,he,ht=>by
   unfold unA at h;split at h
   .rename_i r hr;cases h;obtain⟨a,b,rfl,d,f⟩:=u9.split (vs:=[v]) (vs2:=r) he
    match a,d with
    | [u],d =>
      simp only[List.singleton_append,E4,DQ,Sh.tags,aF,R1,D4]at ht;exact .cons (.s (d.2 0 u v rfl rfl) ht.1) (fE hr f ht.2)
    | [],d=>have:=d.1;simp at this
    | _::_::_,d=>have:=d.1;simp at this
   .cases h
 | .a ts::e,v::vs,cs,us,h,he,ht=>by
   cases v with
   | agg c =>
     unfold unA at h;obtain⟨hlen,h⟩:=A3 h;have hlen:=A1 hlen;split at h
     .rename_i r hr;cases h;obtain⟨a,b,rfl,d,f⟩:=u9.split he;simp only[Y3,DQ,Sh.tags]at ht;obtain⟨t1,t2⟩:=List.append_inj ht (by simp[d.1,hlen]);obtain⟨l⟩:=c;exact .cons (.a d t1) (fE hr f t2)
     .cases h
   | _=>cases h
section
variable {P:Program} {base gl:Nat}
def A7q(ρ:Ren)(m:Mem)(R:Nat->Option Obj):Prop:=∀ k o,R k=some o->∃ id ab l,id<=J0/\Hp.get m.H id=some ab/\ρ id=some l/\Tf ab l k/\ab.rw=false
def JY{ρ:Ren}{w:World}{ps:List Sh}{vs xs:E0}(h:HR P base ρ m.H w)(a:sQ P ps vs m=some (xs,m'))(j:L1 ρ m.n m'.hi)(I:LR ρ vs vs')(C:Sat m'.lg) :
  ∃ d R,St P base ρ d m m' w w/\m.lg.le m'.lg/\ShL R ps (xs.map (F3 Ora.env)) vs'/\GOk R w/\A7q d m' R:=by
 unfold sQ at a;split at a
 .rename_i cs q;obtain⟨cs',D,z⟩:=OS q I;split at a
  .rename_i s m1 x;cases a;obtain⟨d,f,a2,a3,a4,a5,v⟩:=lC Z0 h x j z C;exact⟨d,fun _=>none,f,a2,fE D (v _ fun b p=>by cases p) a5,(fun k o e=>by cases e),(fun k o e=>by cases e)⟩
  .rename_i s gs m1 x;split at a
   .rename_i g m2 E;cases a;have y:=P0 E;obtain⟨L,f,a2,a3,a4,a5,v⟩:=lC Z0 h x (j.less y.1) z (by rw[<- y.2.1];exact C);obtain⟨ρ2,lg,u,O,N,t,A,K⟩:=gJ f.hr E (j.step f);have i:=(u.hr.atl t A).1.2;exact⟨ρ2,lg.G,St.trans j f u,by rw[y.2.1];exact a2,fE D (v _ fun b p l J=>K b p l J) a5,i,fun k o e=>⟨g,_,lg,u.hr.dom _ _ t,A,t,⟨rfl,.inr ⟨rfl,o,e⟩⟩,rfl⟩⟩
   .cases a
  .cases a
 .cases a
def MR{ρ:Ren}{R:Nat->Option Obj}{i t b:Nat}{u:U}{v:Value}(h:Enc R u v)(g:H7 u=t)(he:Ora.env i=u)(k:10<=t->ρ b=some (mU R)):VR ρ (SZ i t b) v:=by
 unfold SZ;cases d:Nat.blt t 10 with
 | true =>
   have a:t<10:=A2 d;obtain⟨v1,j,_,_⟩:=RE (u:=u) A0
   have:=pQ h j;subst this;exact .hole (by rw[he];exact j) (by rw[he];exact g)
 | false =>
   have a:10<=t:=by
    rcases G9 t 10 with f|e
    .rw[show Nat.blt t 10=true from C5 f]at d;cases d
    .exact e
   exact .dat (k a) (by rw[he];exact h) (by rw[he];exact g) a (oG h)
def JR{ρ:Ren}{R:Nat->Option Obj}{b:Nat}:∀ {a:I7} {us:List U} {cs:E0} {i:Nat},u9 R us cs->us.map H7=a->(∀ j u,us[j]? = some u->Ora.env (i+j)=u)->(∀ t ∈ a,10<=t->ρ b=some (mU R))->LR ρ (XS a i b) cs
 | [],us,cs,i,h,ht,he,hb=>by
   have:us=[]:=by cases us with|nil=>rfl|cons _ _=>simp at ht
   subst this;have:cs=[]:=H3.1 h.1.symm;subst this;exact .nil
 | t::a,[],cs,i,h,ht,he,hb=>by simp at ht
 | t::a,u::us,[],i,h,ht,he,hb=>by have:=h.1;simp at this
 | t::a,u::us,c::cs,i,h,ht,he,hb=>by
   simp only[E4,D4]at ht;refine .cons (MR (h.2 0 u c rfl rfl) ht.1 (he 0 u rfl) (hb t (.head _))) (JR ⟨by have:=h.1;simpa using this,fun j x y e a2=>h.2 (j+1) x y (by simpa using e) (by simpa using a2)⟩ ht.2 (fun j x g=>?_) fun f d=>hb f (.tail _ d))
   have:=he (j+1) x (by simpa using g);rw[show i+1+j=i+(j+1) by omega];exact this
def sG{ρ:Ren}{R:Nat->Option Obj}{b:Nat}:∀ {g:List Sh} {us:List U} {vs:E0} {i:Nat},ShL R g us vs->(∀ j u,us[j]? = some u->Ora.env (i+j)=u)->(oH g=true->ρ b=some (mU R))->LR ρ (yX g i b) vs/\us.length=shN g
 | [],us,vs,i,h,he,hb=>by cases h;exact⟨.nil,rfl⟩
 | s::g,us,vs,i,h,he,hb=>by
   cases h with
   | cons p y =>
     rename_i e z v vs;have w:∀ t ∈ s.tags,10<=t->ρ b=some (mU R):=fun t d f=>hb (W1.2 ⟨t,B7.2 (.inl d),C5 f⟩)
     have o:oH g=true->ρ b=some (mU R):=fun x=>by
      obtain⟨t,d,f⟩:=W1.1 x;exact hb (W1.2 ⟨t,B7.2 (.inr d),f⟩)
     have q:e.length=s.n:=by
      cases p with
      | s _ _=>rfl
      | a _ d=>show _=List.length _;rw[<- d];simp[Sh.tags]
     obtain⟨g1,g2⟩:=sG (i:=i+s.n) y (fun j u l=>by
      have:=he (e.length+j) u (by rw[E9 A0,d7];exact l);rw[<- q,dX];exact this) o
     refine⟨.cons ?_ g1,by simp[shN,q,g2]⟩;have k:∀ j u,e[j]? = some u->Ora.env (i+j)=u:=fun j u l=>he j u (by rw[F7 (B1.1 l).1];exact l)
     cases p with
     | s h d=>exact MR h d (by have:=k 0 _ rfl;simpa using this) (w _ (.head _))
     | a h d =>
       have:=JR (b:=b) h d k w;exact .agg this.1 this.2
def YA{ρ:Ren}{vs:E0}(h:LR ρ vs vs'):VR ρ (tup vs) (tup vs'):=by
 match vs,vs',h with
 | [],vs',h=>rw[h.nil_inv];exact .tuple (a:=[]) (a':=[]) rfl (fun i v v' b _=>by simp at b)
 | [v],vs',h =>
   obtain⟨v',e,rfl,b,d⟩:=h.tail;cases d.nil_inv;exact b
 | v::u::r,vs',h =>
   obtain⟨v',e,rfl,b,d⟩:=h.tail;obtain⟨g,f,rfl,h3,j⟩:=d.tail;exact .tuple h.1 h.2
def St.grown{ρ:Ren}{w w':World}(h:HR P base ρ m.H w)(g:oQ w w'):St P base ρ ρ m m w w' :=
 ⟨fun _ _ h=>h,fun b l d a=>(by rw[d]at a;cases a),A7 _,A7 _,fun h=>h,
  ⟨h.dom,fun id hid ab f=>by
    obtain⟨l,d,a,h3⟩:=h.at_ id hid ab f;exact⟨l,d,a.mono (fun _ _ h=>h) (fun k e=>g.keep k (a.tc e)),h3⟩⟩,
  fun _ h=>h,fun b d a=>absurd d a,fun k e _=>g.keep k e,g.size,g.os,fun b l d a=>(by rw[d]at a;cases a),fun _ _ _ _=>rfl,fun _ h=>.inr h⟩
def St.grownLg{ρ:Ren}{w w':World}(h:HR P base ρ m.H w)(g:oQ w w')(lg:Lg):St P base ρ ρ m (m.wLg lg) w w':=by
 obtain⟨H,n,W,hi,l⟩:=m;have r:=St.grown (m:=⟨H,n,W,hi,l⟩) h g;exact⟨r.ext,r.new,r.nle,r.hle,r.nhi,r.hr,r.wsub,r.wrw,r.keep,r.size,r.os,r.blk,r.same,r.tch⟩
def St.ret{ρ:Ren}{w w':World}{G:Nat->Option Obj}(h:HR P base ρ m.H w)(g:oQ w w')(Y:w8 m .frz (fun _=>undef)=some (undef,m1))(U:L1 ρ m.n m1.hi)(T:GOk G w')
  (N:∀ k o,G k=some o->w.heap.size<=k∨∃ id ab l,id<=J0/\Hp.get m.H id=some ab/\ρ id=some l/\Tf ab l k/\ab.rw=false):upd ρ m.n (mU G) m.n=some (mU G)/\St P base ρ (upd ρ m.n (mU G)) m m1 w w':=by
 obtain⟨hle,_,rfl⟩:=N0 Y;have x:ρ m.n=none:=U m.n (A7 _) (L8 _ _).2;have i:=i0 (l:=mU G) x;refine⟨N2 _ _ _,i,fun b q j f=>?_,by simp,(L8 _ _).1,fun _=>t7 (L8 _ _).2,⟨fun b q C=>?_,fun id hid a d=>?_⟩,fun b S=>S,fun b j f=>absurd j f,fun q C _=>g.keep q C,g.size,g.os,fun b q j f p=>?_,fun id hid j f=>?_,fun q ⟨id,a,l,hid,d,u,O⟩=>?_⟩
 .obtain⟨rfl,rfl⟩:=Y5 j f;exact⟨A7 _,K1 _⟩
 .cases Q:ρ b with
  | some W=>exact h.dom b W Q
  | none=>obtain⟨rfl,rfl⟩:=Y5 C Q;exact hle
 .rw[F6 _ _ _ _ hle hid]at d;by_cases e:id=m.n
  .rw[B0 e]at d;have d:=A8 d;subst d;subst e;exact⟨mU G,N2 _ _ _,⟨rfl,T⟩,fun _ p=>(by cases p)⟩
  .rw[A9 e]at d;obtain⟨l0,j,f,h3⟩:=h.at_ id hid a d;refine⟨l0,i _ _ j,f.mono i (fun k Z=>g.keep k (f.tc Z)),fun hr p=>⟨(h3 hr p).1,fun y s A l2 g1 g2 g3=>?_⟩⟩;rw[F6 _ _ _ _ hle s]at g1;by_cases D:y=m.n
   .subst D;rw[N2]at g2
    have:=A8 g2;subst this;rcases g3 with⟨_,g3,_⟩|⟨_,o,g3⟩
    .cases g3
    .rcases N _ o g3 with z|⟨t,a3,E,I,v,K,J,L⟩
     .have:=f.tc (.inl ⟨AB.rw_on hr,p,rfl⟩);omega
     .have:=(h3 hr p).2 t I a3 E v K J.2;subst this;rw[d]at v;have v:=A8 v;subst v;rw[hr]at L;cases L
   .rw[A9 D]at g1;unfold upd at g2;rw[A9 D]at g2;exact(h3 hr p).2 y s A l2 g1 g2 g3
 .obtain⟨rfl,rfl⟩:=Y5 j f;cases p
 .rw[F6 _ _ _ _ hle hid,A9];intro e;subst e;rcases f with f|f
  .omega
  .have f:upN m.hi m.n<=m.n:=f
   have:=(L8 m.hi m.n).2;omega
 .have d:Hp.get (m.H.set m.n (some .frz)) id=some a:=d;rw[F6 _ _ _ _ hle hid]at d;by_cases e:id=m.n
  .subst e;rw[B0 rfl]at d;have d:=A8 d;subst d;rw[N2]at u;have u:=A8 u;subst u;rcases O.2 with⟨_,h3,_⟩|⟨_,o,h3⟩
   .cases h3
   .rcases N _ o h3 with z|⟨t,a3,E,I,v,K,J,L⟩
    .exact .inl z
    .exact .inr ⟨t,a3,E,I,v,K,J⟩
  .rw[A9 e]at d;unfold upd at u;rw[A9 e]at u;exact .inr ⟨id,a,l,hid,d,u,O⟩
def St.back{ρ:Ren}{w w':World}{hi:Nat}{lg:Lg}(h:HR P base ρ m.H w)(g:oQ w w')(hh:m.hi<=hi):St P base ρ ρ m ⟨m.H,m.n,m.W,hi,lg⟩ w w':=by
 have r:=St.grownLg (m:=m) h g lg;refine⟨r.ext,fun b l d a=>(by rw[d]at a;cases a),A7 _,hh,fun h=>C3 h hh,?_,fun _ h=>h,fun b d a=>absurd d a,fun k e _=>g.keep k e,g.size,g.os,fun b l d a=>(by rw[d]at a;cases a),fun _ _ _ _=>rfl,fun _ h=>.inr h⟩
 have:=r.hr;rw[mY]at this;exact this
theorem A2v{f:FuncId}{ps:List Sh}{spec:gY}{rs:List Sh}(h:t6 P Ora.G f ps spec rs):oR P base gl f (A2w P ps spec rs):=by
 have s:∀ {nx:Nat} {m m':Mem} {v:Value},oH rs=true->UZ rs nx m=some (v,m')->m'.lg=m.lg/\m.hi<=m'.hi/\m.n<=m'.n:=fun{nx m m' v} a hr=>by
  unfold UZ at hr;rw[a]at hr;simp only[F1]at hr;split at hr
  .rename_i C;cases hr;obtain⟨m2,y,J,_⟩:=T5 C;cases J;obtain⟨_,_,rfl⟩:=N0 y;exact⟨rfl,(L8 _ _).1,x6 _⟩
  .cases hr
 have g:∀ {vs xs:E0} {m m1:Mem},sQ P ps vs m=some (xs,m1)->m.lg.le m1.lg/\m.hi<=m1.hi:=fun{vs xs m m1} d=>by
  unfold sQ at d;split at d
  .split at d
   .rename_i a;cases d;exact⟨(V8 Z0 a).2.1,(V8 Z0 a).1⟩
   .rename_i a;split at d
    .rename_i Q;cases d;exact⟨by rw[(P0 Q).2.1];exact(V8 Z0 a).2.1,C3 (V8 Z0 a).1 (P0 Q).1⟩
    .cases d
   .cases d
  .cases d
 refine⟨fun vs m m' v hr=>?_,fun ρ m m' w vs vs' v hr O i hl=>.inl ?_⟩
 .obtain⟨xs,m1,d,⟨a,j⟩|⟨a,_,rfl⟩⟩:=TQ hr
  .rw[(s a j).1,aH];exact(g d).1.trans ⟨[_],rfl⟩
  .exact(g d).1.trans ⟨[_],rfl⟩
 .obtain⟨xs,m1,d,j⟩:=TQ hr;have z:m'.lg=⟨m1.lg.nx+shN rs,m1.lg.pi,.con spec xs m1.lg.nx 0 (shN rs)::m1.lg.log⟩/\m1.hi<=m'.hi:=by
   rcases j with⟨a,j⟩|⟨a,_,rfl⟩
   .obtain⟨r1,u,_⟩:=s a j;simp only[aH,OP]at r1 u;exact⟨r1,u⟩
   .exact⟨rfl,A7 _⟩
  obtain⟨r1,u⟩:=z;have t:u7.con spec xs m1.lg.nx 0 (shN rs) ∈ m'.lg.log:=by rw[r1];exact B6
  have I:Sat m1.lg:=V2.le O (by rw[r1];exact⟨[_],rfl⟩);obtain⟨x,R,E,a2,a3,a4,a5⟩:=JY i.hr d (i.fr.less u) hl I;obtain⟨outs,h3,h4,L⟩:=O _ t;obtain⟨h6,h7⟩:=h _ outs w vs' R a3 h3 (fun k o D=>(i.gf k o D).2) a4;refine⟨h6,h7.mono fun e w' ⟨r,S,g1,g2,g3,g4,g5⟩=>?_⟩;rcases j with⟨a,j⟩|⟨a,rfl,rfl⟩
  .let p:Lg:=⟨m1.lg.nx+shN rs,m1.lg.pi,.con spec xs m1.lg.nx 0 (shN rs)::m1.lg.log⟩
   have j:UZ rs m1.lg.nx (m1.wLg p)=some (v,m'):=j;have q:St P base ρ x m (m1.wLg p) w w:=St.trans (i.fr.less (by simpa using u)) E (St.wLg E.hr p);have A:L1 x (m1.wLg p).n m'.hi:=by simpa using i.fr.step E
   unfold UZ at j;rw[a]at j;simp only[F1]at j;split at j
   .rename_i v0 b m2 C;cases j;obtain⟨m3,y,J,_⟩:=T5 C;cases J;obtain⟨U,Z⟩:=St.ret (G:=S) q.hr g3 y A g4 fun k o D=>by
     rcases g5 k o D with H|⟨o',K⟩
     .exact .inl H
     .obtain⟨id,ab,l,Y,W,p3,p4,T⟩:=a5 k o' K;exact .inr ⟨id,ab,l,Y,by rw[mY];exact W,p3,p4,T⟩
    exact⟨_,_,g2,YA (sG g1 L fun _=>U).1,St.trans i.fr q Z⟩
   .cases j
  .exact⟨_,ρ,g2,YA (sG g1 L fun N=>by rw[a]at N;cases N).1,St.back i.hr g3 (g d).2⟩
end
end
end Go.Sx
