import Derived.Test.YtjdnjfnhdeplfaaX6
import Derived.Lib.Bytealg
import Derived.Lib.MakeNoZero
set_option linter.all false
set_option maxRecDepth 100000
set_option maxHeartbeats 4000000
namespace Go.Sx
open Go
variable {m m' m1 m2:Mem}{c:Cls}{r:Option (Nat×AB)}{rs:List Rec}{op:OpC}{fn:Func}{vs' vs2:D0}
section
open Go
variable [Ora]
def TU(ops:Array Oper)(X:Nat->Qs)(i:Nat)(o:Oper):Bool:=AZ o.op i ((V8 ops.toList []).getD i []) ((V8 ops.toList []).drop (i+1)) (ops.toList.drop (i+1)) (X i)
structure Rg (P:Program) (base gl nt:Nat) (call:L5) (ops:Array Oper) (F:Nat->Fr) (M:Nat->Mem) (V:Nat->Value) (R:Nat->List Rec) (X:Nat->Qs) (B:Nat->Bool):Prop where
 st:∀ i o,ops[i]? = some o->AG P nt gl call ops.toList ((V8 ops.toList []).getD i []) (R i) (B i) o (F i) (F (i+1)) (M i) (M (i+1)) (V i)
 rc:∀ i o,ops[i]? = some o->(R (i+1)=R i/\∃ lg,M (i+1)=(M i).wLg lg)∨(B i=true/\R (i+1)=[])∨R (i+1)=⟨i,(M i).n,(M (i+1)).n⟩::R i
 qs:∀ i o,ops[i]? = some o->QsN (B i) i nt ops.toList (T6 P call o) ((V8 ops.toList []).getD i []) (R i) (F i) o (M i) (M (i+1)) (V i) (X i) (X (i+1))
 sb:∀ i o,ops[i]? = some o->B i=true->TU ops X i o=true
 x0:X 0=[]
 ok:CB ops.toList (V8 ops.toList []) ops.toList 0=true
structure Ph (ops:Array Oper) (B:Nat->Bool) (M:Nat->Mem) (lo up:Nat):Prop where
 le:lo<=up
 sz:up<=ops.size
 nh:(M lo).n<=(M lo).hi
 mx:∀ i o,lo<=i->i<up->ops[i]? = some o->B i=false
section
variable {P:Program} {base gl nt:Nat} {call:L5} {ops:Array Oper} {F:Nat->Fr} {M:Nat->Mem} {V:Nat->Value} {R:Nat->List Rec} {X:Nat->Qs} {B:Nat->Bool} {lo up:Nat}
def N0{i:Nat}(h:i<ops.size):∃ o,ops[i]? = some o:=⟨ops[i],by simp[h]⟩
def Rg.one(g:Rg P base gl nt call ops F M V R X B){i:Nat}{o:Oper}(j:ops[i]? = some o)(a:B i=false)(b:(M i).n<=(M i).hi):(M i).n<=(M (i+1)).n/\(M i).hi<=(M (i+1)).hi/\(M (i+1)).n<=(M (i+1)).hi/\(M (i+1)).W=(M i).W /\
  ∀ id,id<=G2->(id<(M i).n∨(M (i+1)).n<=id)->Hp.get (M (i+1)).H id=Hp.get (M i).H id:=by
 obtain⟨_,_,_,h⟩:=g.st i o j;rcases h with⟨_,lg,_,_,h⟩|⟨_,lg,e,_,_,h⟩|⟨h,_⟩|⟨_,_,lg,_,mv,m',_,_,_,d,hm⟩
 .rw[h];exact⟨A6 _,A6 _,b,rfl,fun _ _ _=>rfl⟩
 .rw[h];exact⟨A6 _,A6 _,b,rfl,fun _ _ _=>rfl⟩
 .rw[a]at h;cases h
 .obtain⟨h1,k,h3,f,_,_,_,l⟩:=CI hm b d;exact⟨h1,k,h3,f,fun id hid hh=>by rw[l id hid,B1 (by show ¬ ((M i).n<=id/\_);omega)];rfl⟩
def Rg.allD(g:Rg P base gl nt call ops F M V R X B)(a:Ph ops B M lo up):∀ d,lo+d<=up->(M lo).n<=(M (lo+d)).n/\(M lo).hi<=(M (lo+d)).hi/\(M (lo+d)).n<=(M (lo+d)).hi/\(M (lo+d)).W=(M lo).W /\
  ∀ id,id<=G2->(id<(M lo).n∨(M (lo+d)).n<=id)->Hp.get (M (lo+d)).H id=Hp.get (M lo).H id
 | 0,_=>⟨A6 _,A6 _,a.nh,rfl,fun _ _ _=>rfl⟩
 | d+1,h=>by
   obtain⟨h1,p,h3,j,s⟩:=g.allD a d A9;obtain⟨o,b⟩:=N0 (ops:=ops) (i:=lo+d) (by have:=a.sz;omega);obtain⟨k,q,e,l,f⟩:=g.one b (a.mx _ o A9 A9 b) h3;exact⟨B6 h1 k,B6 p q,e,l.trans j,fun id hid hh=>by
    rw[show lo+(d+1)=lo+d+1 by omega]at hh ⊢;rw[f id hid A9,s id hid A9]⟩
def Rg.all(g:Rg P base gl nt call ops F M V R X B)(a:Ph ops B M lo up){i:Nat}(h0:lo<=i)(h:i<=up):(M lo).n<=(M i).n/\(M lo).hi<=(M i).hi/\(M i).n<=(M i).hi/\(M i).W=(M lo).W /\
  ∀ id,id<=G2->(id<(M lo).n∨(M i).n<=id)->Hp.get (M i).H id=Hp.get (M lo).H id:=by
 have:=g.allD a (i-lo) A9
 rwa[show lo+(i-lo)=i by omega]at this
def Rg.mono(g:Rg P base gl nt call ops F M V R X B)(a:Ph ops B M lo up){i:Nat}(h0:lo<=i):∀ d,i+d<=up->(M i).n<=(M (i+d)).n/\(M i).hi<=(M (i+d)).hi/\∀ id,id<=G2->id<(M i).n->Hp.get (M (i+d)).H id=Hp.get (M i).H id
 | 0,_=>⟨A6 _,A6 _,fun _ _ _=>rfl⟩
 | d+1,h=>by
   obtain⟨h1,j,l⟩:=g.mono a h0 d A9;obtain⟨o,b⟩:=N0 (ops:=ops) (i:=i+d) (by have:=a.sz;omega);obtain⟨f,k,p,q,e⟩:=g.one b (a.mx _ o A9 A9 b) (g.all a (i:=i+d) A9 A9).2.2.1;exact⟨B6 h1 f,B6 j k,fun id hid hh=>by rw[show i+(d+1)=i+d+1 by omega,e id hid A9,l id hid hh]⟩
def Rg.le(g:Rg P base gl nt call ops F M V R X B)(a:Ph ops B M lo up){i j:Nat}(h0:lo<=i)(h:i<=j)(b:j<=up):(M i).n<=(M j).n/\(M i).hi<=(M j).hi/\∀ id,id<=G2->id<(M i).n->Hp.get (M j).H id=Hp.get (M i).H id:=by
 have:=g.mono a h0 (j-i) A9
 rwa[show i+(j-i)=j by omega]at this
def HC{mv:Mem}{us:List Rec}(h:vK m c us=some mv):mv.lg=m.lg:=by
 obtain⟨H,n,W,hi,lg⟩:=m;unfold vK at h;simp only at h;cases c with
 | free=>cases h;rfl
 | one b =>
   simp only at h;cases a:m6 (W7 us) b || !(Nat.ble b G2)with
   | true=>rw[a]at h;cases h
   | false=>rw[a,bW]at h;cases h;rfl
 | all =>
   simp only at h;obtain⟨d,h⟩:=A2 h;cases h;rfl
def CJ(h:hO m m'=some m2):m2.lg=m'.lg:=by
 unfold hO at h;cases a:Nat.ble m'.hi m.n with
 | true=>rw[a]at h;cases h;rfl
 | false =>
   rw[a]at h;obtain⟨_,h⟩:=A2 h;simp only[E1,bL]at h;cases h;rfl
def jA{a b:Addr}(h:yK a b=true):a=b:=by
 unfold yK at h;split at h
 .obtain⟨h1,d⟩:=B3 h;rw[A0 h1,A0 d]
 .cases h
def KV{a b:Fn}(h:FH a b=true):a=b:=by
 unfold FH at h;split at h
 .rw[A0 h]
 .rw[A0 h]
 .cases h
def mB{s:Value->Value->Bool}(d:∀ a b,s a b=true->a=b):∀ {l r:D0},vU s l r=true->l=r
 | [],[],_=>rfl
 | [],_::_,h=>by cases h
 | _::_,[],h=>by cases h
 | a::l,b::r,h=>by
   obtain⟨h1,e⟩:=B3 (show(s a b && vU s l r)=true from h);rw[d a b h1,mB d e]
def A2J{a b:Q0}(h:a.toList=b.toList):a=b:=by cases a;cases b;cases h;rfl
def NY:∀ (d:Nat) (v w:Value),sD d v w=true->v=w:=by
 intro d;induction d with
 | zero =>
   intro v w h;unfold sD at h;split at h
   .rw[eq_of_beq h]
   .obtain⟨h1,e⟩:=B3 h;rw[dB]at e;rw[dX h1,eq_of_beq e]
   .obtain⟨h1,e⟩:=B3 h;rw[A0 h1,A0 e]
   .obtain⟨h1,e⟩:=B3 h;rw[A0 h1,A0 e]
   .rename_i s t;have h1:=I9 h;cases s with|mk s=>cases t with|mk t=>cases s;cases t;cases h1;rfl
   .rfl
   .rw[jA h]
   .obtain⟨h1,e⟩:=B3 h;rw[A0 h1,A0 e]
   .obtain⟨h0,h⟩:=B3 h;obtain⟨h1,e⟩:=B3 h;rw[jA h0,A0 h1,A0 e]
   .rfl
   .rw[A0 h]
   .rfl
   .rfl
   all_goals first|cases h|(rename_i hh;cases hh)
 | succ d i =>
   intro v w h;unfold sD at h;split at h
   .rw[eq_of_beq h]
   .obtain⟨h1,e⟩:=B3 h;rw[dB]at e;rw[dX h1,eq_of_beq e]
   .obtain⟨h1,e⟩:=B3 h;rw[A0 h1,A0 e]
   .obtain⟨h1,e⟩:=B3 h;rw[A0 h1,A0 e]
   .rename_i s t;have h1:=I9 h;cases s with|mk s=>cases t with|mk t=>cases s;cases t;cases h1;rfl
   .rfl
   .rw[jA h]
   .obtain⟨h1,e⟩:=B3 h;rw[A0 h1,A0 e]
   .obtain⟨h0,h⟩:=B3 h;obtain⟨h1,e⟩:=B3 h;rw[jA h0,A0 h1,A0 e]
   .rfl
   .rw[A0 h]
   .rfl
   .rfl
   .rename_i d' f a b g a' b' he;cases he;obtain⟨h0,h⟩:=B3 h;obtain⟨h1,e⟩:=B3 h;rw[KV h0,A2J (mB i h1),A2J (mB i e)]
   .rename_i d' t v u w he;cases he;obtain⟨h1,e⟩:=B3 h;rw[A0 h1,i _ _ e]
   .cases h
def OC{a b:AB}(h:OD a b=true):a=b:=by
 unfold OD at h;split at h
 .rfl
 .obtain⟨h0,h⟩:=B3 h;obtain⟨h1,d⟩:=B3 h;rw[mB (NY 6) h0,A0 h1,eq_of_beq d]
 .cases h
def sZ{H:Hp AB}{b:Nat}{ab:AB}(h:tA H b ab=true):Hp.get H b=some ab/\b<=G2:=by
 unfold tA at h;split at h
 .rename_i x d;obtain⟨h1,a⟩:=B3 h;exact⟨by rw[d,OC a],A1 h1⟩
 .cases h
def nZ{mv:Mem}{us:List Rec}(h:yS m r us=some mv):mv.n=nQ/\mv.hi=nQ/\mv.W=[]/\mv.lg=m.lg/\(∀ id,id<=G2->∀ ab,Hp.get mv.H id=some ab->r=some (id,ab))/\∀ b ab,r=some (b,ab)->tA m.H b ab=true/\b ∉ W7 us:=by
 obtain⟨H,n,W,hi,lg⟩:=m;unfold yS at h;simp only at h;cases r with
 | none =>
   cases h;exact⟨rfl,rfl,rfl,rfl,fun id _ ab a=>(by rw[mW]at a;cases a),fun b ab g=>by cases g⟩
 | some p =>
   obtain⟨b,f⟩:=p;simp only at h;cases d:m6 (W7 us) b || !(tA H b f)with
   | true=>rw[d]at h;cases h
   | false =>
     rw[d,bW]at h;cases h;simp only[X1,Bool.not_eq_false']at d;have g:=(sZ d.2).2;refine⟨rfl,rfl,rfl,rfl,fun id hid ab a=>?_,fun b' ab' i=>?_⟩
     .have a:Hp.get (Hp.set hp0 b (some f)) id=some ab:=a;rw[E7 _ _ _ _ g hid]at a;by_cases e:id=b
      .subst e;rw[B2 rfl]at a;cases a;rfl
      .rw[B1 e,mW]at a;cases a
     .cases i;exact⟨d.2,fun hm=>by rw[S3.2 hm]at d;exact absurd d.1 (by simp)⟩
def gV{fr:Fr}{o:Oper}{b:F9}{v:Value}{lg:Lg}(h:gW fr m o b rs op=some (v,lg)):∃ mv m',yS m (DF m.H fr o.op) (wI b rs)=some mv/\op.run fr mv=some (v,m')/\m'.W=[]/\m'.hi=nQ/\m'.lg=lg:=by
 unfold gW at h;split at h
 .rename_i mv a;split at h
  .rename_i v' H n hi e hr;obtain⟨h1,d⟩:=A2 h;cases d;exact⟨mv,_,a,hr,rfl,A0 h1,rfl⟩
  .cases h
 .cases h
def vO{all:List Oper}{b:F9}{i:Bool}{o:Oper}{fr a:Fr}{v:Value}(e:Q4 P base gl call)(h:AG P nt gl call all b rs i o fr a m m2 v):m.lg.le m2.lg:=by
 obtain⟨_,_,_,h⟩:=h;rcases h with⟨_,lg,hw,_,h⟩|⟨_,lg,f,hw,g,h⟩|⟨_,lg,hw,hr,_⟩|⟨_,_,lg,hw,mv,m',d,hr,_,k,hm⟩
 .rw[h];exact dR hw
 .obtain⟨mv,m',d,hr,_,_,j⟩:=gV g;have h1:=n7 e hr;rw[(nZ d).2.2.2.1,j]at h1;rw[h];exact(dR hw).trans h1
 .have h1:=n7 e hr;rw[Y2]at h1;exact(dR hw).trans h1
 .rw[CJ hm];have h1:=n7 e hr;rw[HC d]at h1;exact(dR hw).trans h1
def Rg.lgs(g:Rg P base gl nt call ops F M V R X B)(a:Q4 P base gl call){i:Nat}:∀ d,i+d<=ops.size->(M i).lg.le (M (i+d)).lg
 | 0,_=>.refl _
 | d+1,h=>by
   obtain⟨o,b⟩:=N0 (ops:=ops) (i:=i+d) A9;exact(g.lgs a d A9).trans (vO a (g.st (i+d) o b))
def Rg.who(g:Rg P base gl nt call ops F M V R X B)(e:Ph ops B M lo up):∀ d,lo+d<=up->∀ b,(M lo).n<=b->b<(M (lo+d)).n->∃ k,lo<=k/\k<lo+d/\(M k).n<=b/\b<(M (k+1)).n
 | 0,_,b,h1,a=>by have a:b<(M lo).n:=a;omega
 | d+1,h,b,h1,a=>by
   rcases F2 b (M (lo+d)).n with h3|h3
   .obtain⟨k,i,j,f⟩:=g.who e d A9 b h1 h3;exact⟨k,i,A9,f⟩
   .exact⟨lo+d,A9,A9,h3,a⟩
def sO:∀ {rs:List Rec} {b:Nat},b ∈ W7 rs↔∃ r ∈ rs,r.lo<=b/\b<r.hi
 | [],b=>by simp[W7]
 | r::rs,b=>by
   simp only[W7,B7,hP,sO (rs:=rs),A8];constructor
   .rintro(h|⟨d,h1,a⟩)
    .exact⟨r,.inl rfl,A9⟩
    .exact⟨d,.inr h1,a⟩
   .rintro⟨d,rfl|h1,a⟩
    .exact .inl A9
    .exact .inr ⟨d,h1,a⟩
def Rg.recs(g:Rg P base gl nt call ops F M V R X B)(j:Ph ops B M lo up):∀ d,lo+d<=up->∀ k,lo<=k->k<lo+d->∀ b,(M k).n<=b->b<(M (k+1)).n->⟨k,(M k).n,(M (k+1)).n⟩ ∈ R (lo+d)
 | 0,_,k,_,h,_,_,_=>by omega
 | d+1,hi,k,hk,h,b,h1,f=>by
   obtain⟨o,l⟩:=N0 (ops:=ops) (i:=lo+d) (by have:=j.sz;omega);have a:=j.mx _ o A9 A9 l;show _ ∈ R (lo+d+1);by_cases e:k=lo+d
   .subst e;rcases g.rc (lo+d) o l with⟨_,lg,h3⟩|⟨h3,_⟩|h3
    .rw[h3]at f;have f:b<(M (lo+d)).n:=f;omega
    .rw[a]at h3;cases h3
    .rw[h3];exact B4
   .have:=g.recs j d A9 k hk A9 b h1 f;rcases g.rc (lo+d) o l with⟨h3,_⟩|⟨h3,_⟩|h3
    .rw[h3];exact this
    .rw[a]at h3;cases h3
    .rw[h3];exact C5 _ this
def TN{mv:Mem}{us:List Rec}(h:vK m c us=some mv):mv.n=m.n/\mv.hi=m.hi/\mv.W=[]/\mv.lg=m.lg/\∀ id,id<=G2->∀ ab,Hp.get mv.H id=some ab->Hp.get m.H id=some ab/\id ∉ W7 us:=by
 obtain⟨H,n,W,hi,lg⟩:=m;unfold vK at h;simp only at h;cases c with
 | free =>
   cases h;exact⟨rfl,rfl,rfl,rfl,fun id _ ab a=>by rw[mW]at a;cases a⟩
 | one b =>
   simp only at h;cases d:m6 (W7 us) b || !(Nat.ble b G2)with
   | true=>rw[d]at h;cases h
   | false =>
     rw[d,bW]at h;cases h;simp only[X1,Bool.not_eq_false']at d;have f:=A1 d.2;refine⟨rfl,rfl,rfl,rfl,fun id hid ab a=>?_⟩;have a:Hp.get (Hp.set hp0 b (Hp.get H b)) id=some ab:=a;rw[E7 _ _ _ _ f hid]at a;by_cases e:id=b
     .subst e;rw[B2 rfl]at a;exact⟨a,fun hm=>by rw[S3.2 hm]at d;exact absurd d.1 (by simp)⟩
     .rw[B1 e,mW]at a;cases a
 | all =>
   simp only at h;obtain⟨f,h⟩:=A2 h;cases h;refine⟨rfl,rfl,rfl,rfl,fun id hid ab a=>?_⟩;have a:Hp.get (wV H (W7 us)) id=some ab:=a;rw[wU _ _ (pB f) id hid]at a;by_cases e:id ∈ W7 us
   .rw[B2 e]at a;cases a
   .rw[B1 e]at a;exact⟨a,e⟩
def dL(M:Nat->Mem)(D:Nat->Bool)(b:Nat):Nat->Bool
 | 0=>false
 | n+1=>(D n && Nat.ble (M n).n b && Nat.blt b (M (n+1)).n) || dL M D b n
def Q9{D:Nat->Bool}{b:Nat}:∀ n,dL M D b n=true↔∃ k,k<n/\D k=true/\(M k).n<=b/\b<(M (k+1)).n
 | 0=>by simp[dL]
 | n+1=>by
   simp only[dL,F8,H6,Q9 n];constructor
   .rintro(⟨⟨h1,a⟩,h3⟩|⟨k,h1,a⟩)
    .exact⟨n,A9,h1,A1 a,A1 h3⟩
    .exact⟨k,A9,a⟩
   .rintro⟨k,h1,a,h3,d⟩
    by_cases e:k=n
    .subst e;exact .inl ⟨⟨a,C4 h3⟩,C4 d⟩
    .exact .inr ⟨k,A9,a,h3,d⟩
def Dr(lo:Nat)(D:Nat->Bool)(k:Nat):Bool:=Nat.ble lo k && D k
def V1{lo:Nat}{D:Nat->Bool}{k:Nat}:Dr lo D k=true↔lo<=k/\D k=true:=by
 unfold Dr;rw[H6];exact⟨fun h=>⟨A1 h.1,h.2⟩,fun h=>⟨C4 h.1,h.2⟩⟩
def GD(M:Nat->Mem)(lo N:Nat)(D:Nat->Bool)(b:Nat):Option AB:=bif dL M (Dr lo D) b N then Hp.get (M N).H b else Hp.get (M lo).H b
structure Inv (z:Zn) (P:Program) (base gl nt:Nat) (ops:Array Oper) (F:Nat->Fr) (M:Nat->Mem) (V:Nat->Value) (lo up:Nat) (ρ0:Ren) (w0:World) (D:Nat->Bool) (ρ:Ren) (a:Act) (w:World):Prop where
 ext:∀ b l,ρ0 b=some l->ρ b=some l
 new:∀ b l,ρ b=some l->ρ0 b=none->dL M (Dr lo D) b up=true/\(l.on=true->w0.heap.size<=l.blk)
 hr:HRf P base ρ (GD M lo up D) w
 keep:∀ k,k<w0.heap.size->w.heap[k]? = w0.heap[k]?
 size:w0.heap.size<=w.heap.size
 os:w.os=w0.os/\w.tape=w0.tape/\w.output=w0.output
 tch:∀ k,Ff ρ (GD M lo up D) k->w0.heap.size<=k∨Fp ρ0 (M lo).H k
 tsz:a.tmps.size=nt
 dfr:ZR z ρ nt (F 0) a.defers
 frm:∀ t,t<nt->VR ρ (r8 D (fun k=>(ops[k]?).bind (·.dst)) V (F 0).get t ops.size) (a.tmps.getD t undef)
def P4{i:Nat}{o:Oper}(h:ops[i]? = some o):ops.toList[i]? = some o:=by simpa using h
def eB{ops:List Oper}{a:List F9}:∀ (r:List Oper) (i:Nat),CB ops a r i=true->∀ j o,r[j]? = some o->jT (i+j) o.after.toList=true/\nY a (i+j) (R9 ops o) ops 0=true
 | [],i,h,j,o,hj=>by simp at hj
 | x::r,i,h,j,o,hj=>by
   obtain⟨h1,b⟩:=B3 (show(jT i x.after.toList && (nY a i (R9 ops x) ops 0 && CB ops a r (i+1)))=true from h);obtain⟨b,h3⟩:=B3 b;cases j with
   | zero=>simp at hj;subst hj;exact⟨h1,b⟩
   | succ j =>
     have:=eB r (i+1) h3 j o (by simpa using hj)
     rwa[show i+1+j=i+(j+1) by omega]at this
def cI:∀ {es:List Edge} {i:Nat},jT i es=true->∀ e ∈ es,Region.binds .any e=true->e.on<i
 | [],i,h,e,he,_=>by cases he
 | x::r,i,h,e,he,hb=>by
   obtain⟨h1,a⟩:=B3 (show((!(Region.binds .any x) || Nat.blt x.on i) && jT i r)=true from h);rcases A8.1 he with rfl|he
   .rw[hb]at h1;have h1:Nat.blt e.on i=true:=by simpa only [N6,R7]using h1
    exact A1 h1
   .exact cI a e he hb
def vR{d:List F9}{i:Nat}{b:List Tmp}:∀ (r:List Oper) (a:Nat),nY d i b r a=true->∀ j p t,r[j]? = some p->a+j≠i->p.dst=some t->t ∈ b->UF d i (a+j)=true
 | [],a,h,j,p,t,hj,_,_,_=>by simp at hj
 | x::r,a,h,j,p,t,hj,hne,hd,ht=>by
   obtain⟨h1,f⟩:=B3 (show((Nat.beq a i || (match x.dst with|none=>true|some t=>!(m6 b t) || UF d i a)) && nY d i b r (a+1))=true from h);cases j with
   | zero =>
     simp at hj;subst hj;have e:Nat.beq a i=false:=by
      cases g:Nat.beq a i with
      | false=>rfl
      | true=>exact absurd (A0 g) hne
     rw[e,hd,R7]at h1;simp only[S3.2 ht,N6,R7]at h1;exact h1
   | succ j =>
     have:=vR r (a+1) f j p t (by simpa using hj) A9 hd ht
     rwa[show a+1+j=a+(j+1) by omega]at this
def Rg.slot(g:Rg P base gl nt call ops F M V R X B){D:Nat->Bool}(n:iS ops.toList fun k=>D k=true)(u:∀ k,D k=true->k<ops.size){i:Nat}{o:Oper}(f:ops[i]? = some o)(hi:D i=false)
  (hr:∀ e ∈ o.after.toList,Region.binds .any e=true->D e.on=true) {t:Tmp} (w:t ∈ R9 ops.toList o):∀ k p,ops[k]? = some p->k≠i->p.dst=some t->(D k=true↔k<i):=fun k p hp j v=>by
 have s:∀ (i:Nat) (o:Oper),ops.toList[i]? = some o->∀ e ∈ o.after.toList,Region.binds .any e=true->e.on<i:=fun i o f=>by
  have:=(eB _ 0 g.ok i o f).1;rw[D8]at this;exact cI this
 have h1:=(eB _ 0 g.ok i o (P4 f)).2;have a:=vR _ 0 h1 k p t (P4 hp) A9 v w;rw[D8,D8]at a;unfold UF at a;rcases Nat.lt_trichotomy k i with d|heq|q
 .have b:Nat.blt i k=false:=by
   cases b:Nat.blt i k with
   | false=>rfl
   | true=>have:i<k:=A1 b;omega
  rw[b]at a;have hm:=S3.1 (by simpa using a);exact⟨fun _=>d,fun _=>uF n s (i+1) i k o (H5 i) (P4 f) hr hm⟩
 .exact absurd heq j
 .have b:Nat.blt i k=true:=C4 q;rw[b]at a;have hm:=S3.1 (by simpa using a);refine⟨fun hk=>?_,fun h=>by omega⟩
  have:=uF n s (k+1) k i p (H5 k) (P4 hp) (fun e he l=>n k p (P4 hp) hk e he l) hm;rw[hi]at this;cases this
def Rg.frame(g:Rg P base gl nt call ops F M V R X B)(a:nt<=512){t:Tmp}(j:t<nt):∀ i,i<=ops.size->(F i).get t=r8 (fun k=>Nat.blt k i) (fun k=>(ops[k]?).bind (·.dst)) V (F 0).get t i
 | 0,_=>rfl
 | i+1,h=>by
   obtain⟨o,f⟩:=N0 (ops:=ops) (i:=i) A9;obtain⟨h1,_,h3,_⟩:=g.st i o f;have p:=g.frame a j i A9;have q:r8 (fun k=>Nat.blt k (i+1)) (fun k=>(ops[k]?).bind (·.dst)) V (F 0).get t i=r8 (fun k=>Nat.blt k i) (fun k=>(ops[k]?).bind (·.dst)) V (F 0).get t i:=cF i fun k hk _=>by
    rw[show Nat.blt k (i+1)=true from C4 A9,show Nat.blt k i=true from C4 hk]
   have l:Nat.blt i (i+1)=true:=C4 (A6 _);rw[h3];unfold r8;rw[q,<- p];simp only[l,f,H4,true_and];cases n:o.dst with
   | none=>simp[qK]
   | some d =>
     rw[n]at h1;have b:d<nt:=A1 h1;simp only[qK,C7];rw[K1 _ _ _ _ (C9 b a) (C9 j a)];by_cases e:t=d
     .subst e;simp
     .rw[B1 e,B1 (fun h=>e h.symm)]
def Rg.look(g:Rg P base gl nt call ops F M V R X B)(f:nt<=512){D:Nat->Bool}(u:iS ops.toList fun k=>D k=true)(a:∀ k,D k=true->k<ops.size){i:Nat}{o:Oper}(l:ops[i]? = some o)(hi:D i=false)
  (hr:∀ e ∈ o.after.toList,Region.binds .any e=true->D e.on=true) {t:Tmp} (x:t ∈ R9 ops.toList o) (j:t<nt):r8 D (fun k=>(ops[k]?).bind (·.dst)) V (F 0).get t ops.size=(F i).get t:=by
 have s:i<ops.size:=(B5.1 l).1;rw[g.frame f j i A9];have v:=g.slot u a l hi hr x;have y:r8 D (fun k=>(ops[k]?).bind (·.dst)) V (F 0).get t ops.size=r8 (fun k=>Nat.blt k i) (fun k=>(ops[k]?).bind (·.dst)) V (F 0).get t ops.size:=cF _ fun k hk b=>by
  obtain⟨p,hp⟩:=N0 (ops:=ops) hk;rw[hp]at b;by_cases e:k=i
  .subst e;rw[hi];symm;cases q:Nat.blt k k with
   | false=>rfl
   | true=>have:k<k:=A1 q;omega
  .have:=v k p hp e b;rw[K2,this];exact⟨fun h=>C4 h,fun h=>A1 h⟩
 rw[y];have n:∀ d,i+d<=ops.size->r8 (fun k=>Nat.blt k i) (fun k=>(ops[k]?).bind (·.dst)) V (F 0).get t (i+d)=r8 (fun k=>Nat.blt k i) (fun k=>(ops[k]?).bind (·.dst)) V (F 0).get t i:=by
  intro d;induction d with
  | zero=>intro _;rfl
  | succ d w =>
    intro b;rw[show i+(d+1)=(i+d)+1 by omega];rw[r8,B1 (fun hh=>by have:i+d<i:=A1 hh.1;omega)];exact w A9
 have:=n (ops.size-i) A9
 rwa[show i+(ops.size-i)=ops.size by omega]at this
def rP{o:Oper}{x:Operand}{t:Tmp}(b:x ∈ o.op.operands.toList)(a:x=.tmp t):t ∈ R9 ops.toList o:=by
 unfold R9;refine B7.2 (.inr (B7.2 (.inl (List.mem_flatMap.2 ⟨x,b,?_⟩))));subst a;simp[lU]
def Rg.see{z:Zn}(g:Rg P base gl nt call ops F M V R X B)(b:Ph ops B M lo up){h ρ:Ren}{w0 w:World}{D:Nat->Bool}{a:Act}{i:Nat}{o:Oper}
  (q:At P base gl h (M lo) (M up).hi w0) (L:iS ops.toList fun k=>D k=true) (p:lo<=i) (A:i<up) (v:ops[i]? = some o)
  (hr:∀ e ∈ o.after.toList,Region.binds .any e=true->D e.on=true):∀ id,id<=G2->∀ ab,Hp.get (M i).H id=some ab->id ∉ W7 (wI ((V8 ops.toList []).getD i []) (R i))->GD M lo up D id=some ab:=fun id hid ab h1 J=>by
 unfold GD;by_cases d:(M lo).n<=id/\id<(M i).n
 .obtain⟨k,t,G,u,s⟩:∃ k,lo<=k/\k<i/\(M k).n<=id/\id<(M (k+1)).n:=by
   have:=g.who b (i-lo) A9 id d.1 (by rw[show lo+(i-lo)=i by omega];exact d.2)
   rwa[show lo+(i-lo)=i by omega]at this
  have y:D k=true:=by
   have f:(⟨k,(M k).n,(M (k+1)).n⟩:Rec) ∈ R i:=by
    have:=g.recs b (i-lo) A9 k t A9 id u s
    rwa[show lo+(i-lo)=i by omega]at this
   by_cases hk:k ∈ (V8 ops.toList []).getD i []
   .exact uF L (fun i o v=>by
     have:=(eB _ 0 g.ok i o v).1;rw[D8]at this;exact cI this) (i+1) i k o (H5 i) (P4 v) hr hk
   .exfalso;refine J (sO.2 ⟨_,O7.2 ⟨f,?_⟩,u,s⟩);cases x:m6 ((V8 ops.toList []).getD i []) k with
    | false=>rfl
    | true=>exact absurd (S3.1 x) hk
  have hu:dL M (Dr lo D) id up=true:=(Q9 _).2 ⟨k,A9,V1.2 ⟨t,y⟩,u,s⟩;rw[hu];simp only[D7];rw[(g.le b (i:=i) (j:=up) p A9 (A6 _)).2.2 id hid d.2];exact h1
 .have I:=(g.all b p A9).2.2.2.2 id hid A9;rw[I]at h1;have hu:dL M (Dr lo D) id up=false:=by
   cases x:dL M (Dr lo D) id up with
   | false=>rfl
   | true =>
     exfalso;obtain⟨k,G,O,u,s⟩:=(Q9 _).1 x;have t:=(V1.1 O).1;obtain⟨l,C,_⟩:=q.hr.at_ id hid ab h1;have E:=g.le b (i:=lo) (j:=k) (A6 _) t A9;have K:=g.le b (i:=k+1) (j:=up) A9 A9 (A6 _);have N:=(g.all b b.le (A6 _)).2.2.1;rw[q.fr id A9 A9]at C;cases C
  rw[hu];exact h1
def Rg.quiet{z:Zn}(g:Rg P base gl nt call ops F M V R X B)(C:Q4 P base gl call){I ρ:Ren}{w0 w:World}{D D':Nat->Bool}{a:Act}{i:Nat}{o:Oper}{Q:Exit->Act->World->Prop}{K:Act->World->Prop}
  (s:At P base gl I (M lo) (M up).hi w0) (hS:Sat (M (i+1)).lg) (af:nt<=512) (inv:Inv z P base gl nt ops F M V lo up I w0 D ρ a w) (hc:iS ops.toList fun k=>D k=true) (ay:∀ k,D k=true->k<ops.size) (N:ops[i]? = some o) (hi:D i=false)
  (hr:∀ e ∈ o.after.toList,Region.binds .any e=true->D e.on=true) (hD:∀ k,k≠i->D' k=D k) (ad:D' i=true)
  (au:bF nt ops.toList (T6 P call o) ((V8 ops.toList []).getD i []) (R i) (F i) o (M i) (M (i+1)) (V i) r) (ae:∀ b ab,r=some (b,ab)->GD M lo up D b=some ab)
  (hK:∀ ρ' a' w',Inv z P base gl nt ops F M V lo up I w0 D' ρ' a' w'->K a' w'):i5 P z.rd ops Q i K a w:=by
 have ak:i<ops.size:=(B5.1 N).1;obtain⟨bx,al,hF,_⟩:=g.st i o N;have G:∀ t,t ∈ R9 ops.toList o->t<nt->VR ρ ((F i).get t) (a.tmps.getD t undef):=fun t T av=>by
  rw[<- g.look af hc ay N hi hr T av];exact inv.frm t av
 have ag:FR ρ (F i) a.eval o.op:=fun x hx=>by
  have S:okX nt gl x=true:=D2.1 al x hx;cases x with
  | tmp t=>exact G t (rP hx rfl) (A1 S)
  | const v=>exact VR.ofC S
  | global gg=>exact VR.ptr (o:=0) (inv.ext _ _ (s.gr gg (A1 S)))
  | func f=>exact .func (a:=[]) (b:=[]) (a':=[]) (b':=[]) rfl rfl (fun i v v' h=>by simp at h) (fun i v v' h=>by simp at h)
 have E:∀ lg b,t8 nt (F i) (M i).lg ops.toList o=some (b,lg)->Sat lg->Region.wanted o (yielded ops a.tmps)=b:=fun lg b hw A=>by
  unfold t8 at hw;split at hw
  .rename_i hg;cases hw;simp[Region.wanted,hg]
  .rename_i j want hg;split at hw
   .rename_i p hp;split at hw
    .rename_i t T;obtain⟨h1,q⟩:=A2 hw;have h1:t<nt:=A1 h1;have Z:=G t (by
      unfold R9;refine B7.2 (.inr (B7.2 (.inr ?_)));simp[hg,hp,T]) h1
     exact iX hg hp T (by rw[inv.tsz];exact h1) (lR q Z A)
    .cases hw
   .cases hw
 have u:∀ (ρ':Ren) (v':Value),(∀ b l,ρ b=some l->ρ' b=some l)->VR ρ' (V i) v'->∀ t,t<nt->VR ρ' (r8 D' (fun k=>(ops[k]?).bind (·.dst)) V (F 0).get t ops.size) ((a.put o.dst v').tmps.getD t undef):=fun ρ' v' he Z t T=>by
  by_cases hd:o.dst=some t
  .have Y:∀ k,i<k->k<ops.size->(ops[k]?).bind (·.dst)=some t->D k=false:=fun k bz hk aw=>by
    obtain⟨p,hp⟩:=N0 (ops:=ops) hk;rw[hp]at aw
    have:=g.slot hc ay N hi hr (t:=t) (by unfold R9;simp[hd]) k p hp A9 aw;cases hq:D k with
    | false=>rfl
    | true=>have:=this.1 hq;omega
   rw[nA hD ad ops.size ak (by simp[N,hd]) Y];simp only[hd,Act.put,B0];rw[D1,B2 rfl,B2 (by rw[inv.tsz];exact T)];exact Z
  .rw[kU hD (by simp[N];exact hd)];have h1:=(inv.frm t T).mono he;cases U:o.dst with
   | none=>exact h1
   | some d =>
     have aq:d≠t:=fun e=>hd (e▸U)
     simp only[Act.put,B0]at h1 ⊢;rw[D1,B1 aq];exact h1
 have hM:∃ lg,M (i+1)=(M i).wLg lg:=by
  rcases au with⟨lg,_,_,h,_⟩|⟨_,ar,_,_,h,_⟩
  .exact⟨lg,h⟩
  .exact⟨ar,h⟩
 have hG:GD M lo up D'=GD M lo up D:=by
  funext b;unfold GD;have:dL M (Dr lo D') b up=dL M (Dr lo D) b up:=by
   obtain⟨lg,hm⟩:=hM;rw[K2,Q9,Q9];constructor
   .rintro⟨k,h1,q,h3,h4⟩
    have e:k≠i:=fun e=>by
     subst e;rw[hm]at h4;have h4:b<(M k).n:=h4;omega
    obtain⟨W,q⟩:=V1.1 q;rw[hD k e]at q;exact⟨k,h1,V1.2 ⟨W,q⟩,h3,h4⟩
   .rintro⟨k,h1,q,h3⟩
    obtain⟨W,q⟩:=V1.1 q;have e:k≠i:=fun e=>by subst e;rw[hi]at q;cases q
    exact⟨k,h1,V1.2 ⟨W,by rw[hD k e];exact q⟩,h3⟩
  rw[this]
 have J:∀ b l,ρ b=some l->I b=none->dL M (Dr lo D') b up=true/\(l.on=true->w0.heap.size<=l.blk):=fun b l h1 q=>by
  obtain⟨k1,k2⟩:=inv.new b l h1 q;obtain⟨k,q1,q2,q3⟩:=(Q9 _).1 k1;obtain⟨ai,q2⟩:=V1.1 q2;have e:k≠i:=fun e=>by subst e;rw[hi]at q2;cases q2
  exact⟨(Q9 _).2 ⟨k,q1,V1.2 ⟨ai,by rw[hD k e];exact q2⟩,q3⟩,k2⟩
 unfold i5;simp only[N];rcases au with⟨lg,hw,Z,hm,_⟩|⟨lg,ar,hw,hq,hm,an⟩
 .have A:Sat lg:=by rw[hm]at hS;exact hS
  rw[E lg false hw A];simp only[G9,if_false];refine hK ρ _ w ⟨inv.ext,J,hG▸inv.hr,inv.keep,inv.size,inv.os,hG▸inv.tch,?_,?_,u ρ undef (fun _ _ h=>h) (Z▸lT ρ)⟩
  .cases U:o.dst<;>simp[Act.put,inv.tsz]
  .rw[bX];exact inv.dfr
 .obtain⟨mv,m',az,L,hW,aa,hl⟩:=gV hq;obtain⟨v1,v2,v3,v4,v5,_⟩:=nZ az;have ax:Sat m'.lg:=by rw[hm]at hS;rw[hl];exact hS
  have A:Sat lg:=M5.le ax (by have:=n7 C L;rw[v4]at this;exact this);rw[E lg true hw A];simp only[if_true];have aj:HR P base ρ mv.H w:=inv.hr.hr fun id hid ab O=>ae id ab (an.trans (v5 id hid ab O))
  have ah:At P base gl ρ mv m'.hi w:=⟨aj,B6 s.bs inv.size,fun b h1 q=>(by rw[v1]at h1;rw[aa]at q;omega),s.gr.mono inv.ext,(by rw[v1,v2];exact A6 _),fun b hb=>(by rw[v3]at hb;cases hb),fun k o hk=>⟨(s.gf k o hk).1,(inv.keep k (C9 (s.gf k o hk).1 s.bs)).trans (s.gf k o hk).2⟩⟩;refine lZ C L ax ah ag fun v' ρ' w' Z st=>?_
  have ao:ρ'=ρ:=by
   funext b;cases h0:ρ b with
   | some l=>exact st.ext b l h0
   | none =>
     cases h1:ρ' b with
     | none=>rfl
     | some l =>
       exfalso;have q:=(st.new b l h1 h0).1;have h3:=st.hr.dom b l h1;rw[v1]at q;unfold nQ at q;unfold G2 at h3;omega
  subst ao;have y:∀ k,k<w.heap.size->w'.heap[k]? = w.heap[k]? := fun k hk=>st.keep k hk fun b hb=>by rw[hW]at hb;cases hb
  refine hK ρ' _ w' ⟨inv.ext,J,hG▸⟨inv.hr.dom,fun id hid ab O=>?_⟩,fun k hk=>by rw[y k (C9 hk inv.size),inv.keep k hk],B6 inv.size st.size,⟨st.os.1.trans inv.os.1,st.os.2.1.trans inv.os.2.1,st.os.2.2.trans inv.os.2.2⟩,hG▸inv.tch,?_,?_,u ρ' v' (fun _ _ h=>h) Z⟩
  .obtain⟨l,e1,e2,e3⟩:=inv.hr.at_ id hid ab O;exact⟨l,e1,e2.mono (fun _ _ h=>h) (fun k hk=>y _ (e2.tc hk)),e3⟩
  .cases U:o.dst<;>simp[Act.put,inv.tsz]
  .rw[bX];exact inv.dfr
def Rg.step{z:Zn}(g:Rg P base gl nt call ops F M V R X B)(ph:Ph ops B M lo up)(S:Q4 P base gl call){aq ρ:Ren}{w0 w:World}{D D':Nat->Bool}{a:Act}{i:Nat}{o:Oper}{Q:Exit->Act->World->Prop}{K:Act->World->Prop}
  (L:At P base gl aq (M lo) (M up).hi w0) (hS:Sat (M up).lg) (bg:nt<=512) (inv:Inv z P base gl nt ops F M V lo up aq w0 D ρ a w) (hc:iS ops.toList fun k=>D k=true) (af:∀ k,D k=true->k<ops.size) (Y:lo<=i) (ay:i<up) (T:ops[i]? = some o) (hi:D i=false)
  (hr:∀ e ∈ o.after.toList,Region.binds .any e=true->D e.on=true) (hD:∀ k,k≠i->D' k=D k) (bq:D' i=true)
  (bz:¬∃ r,bF nt ops.toList (T6 P call o) ((V8 ops.toList []).getD i []) (R i) (F i) o (M i) (M (i+1)) (V i) r)
  (hK:∀ ρ' a' w',Inv z P base gl nt ops F M V lo up aq w0 D' ρ' a' w'->K a' w'):i5 P z.rd ops Q i K a w:=by
 have bl:i<ops.size:=(B5.1 T).1;obtain⟨ct,bn,hF,ak⟩:=g.st i o T;have br:=ph.mx i o Y ay T;have cw:=ph.sz;have cv:=g.le ph (i:=lo) (j:=i) (A6 _) Y A9;have ba:=g.le ph (i:=i+1) (j:=up) A9 A9 (A6 _);have cz:=g.one T br (g.all ph Y A9).2.2.1;have au:∀ t,t ∈ R9 ops.toList o->t<nt->VR ρ ((F i).get t) (a.tmps.getD t undef):=fun t ht bu=>by
  rw[<- g.look bg hc af T hi hr ht bu];exact inv.frm t bu
 have bh:FR ρ (F i) a.eval o.op:=fun x hx=>by
  have al:okX nt gl x=true:=D2.1 bn x hx;cases x with
  | tmp t=>exact au t (rP hx rfl) (A1 al)
  | const v=>exact VR.ofC al
  | global gg=>exact VR.ptr (o:=0) (inv.ext _ _ (L.gr gg (A1 al)))
  | func f=>exact .func (a:=[]) (b:=[]) (a':=[]) (b':=[]) rfl rfl (fun i v v' h=>by simp at h) (fun i v v' h=>by simp at h)
 have ai:∀ lg b,t8 nt (F i) (M i).lg ops.toList o=some (b,lg)->Sat lg->Region.wanted o (yielded ops a.tmps)=b:=fun lg b hw aj=>by
  unfold t8 at hw;split at hw
  .rename_i hg;cases hw;simp[Region.wanted,hg]
  .rename_i j want hg;split at hw
   .rename_i p hp;split at hw
    .rename_i t ht;obtain⟨h1,u⟩:=A2 hw;have h1:t<nt:=A1 h1;have hv:=au t (by
      unfold R9;refine B7.2 (.inr (B7.2 (.inr ?_)));simp[hg,hp,ht]) h1
     exact iX hg hp ht (by rw[inv.tsz];exact h1) (lR u hv aj)
    .cases hw
   .cases hw
 have ar:∀ (ρ':Ren) (v':Value),(∀ b l,ρ b=some l->ρ' b=some l)->VR ρ' (V i) v'->∀ t,t<nt->VR ρ' (r8 D' (fun k=>(ops[k]?).bind (·.dst)) V (F 0).get t ops.size) ((a.put o.dst v').tmps.getD t undef):=fun ρ' v' he hv t ht=>by
  by_cases hd:o.dst=some t
  .have ag:∀ k,i<k->k<ops.size->(ops[k]?).bind (·.dst)=some t->D k=false:=fun k cu hk bx=>by
    obtain⟨p,hp⟩:=N0 (ops:=ops) hk;rw[hp]at bx
    have:=g.slot hc af T hi hr (t:=t) (by unfold R9;simp[hd]) k p hp A9 bx;cases hq:D k with
    | false=>rfl
    | true=>have:=this.1 hq;omega
   rw[nA hD bq ops.size bl (by simp[T,hd]) ag];simp only[hd,Act.put,B0];rw[D1,B2 rfl,B2 (by rw[inv.tsz];exact ht)];exact hv
  .rw[kU hD (by simp[T];exact hd)];have h1:=(inv.frm t ht).mono he;cases bt:o.dst with
   | none=>exact h1
   | some d =>
     have bo:d≠t:=fun e=>hd (e▸bt)
     simp only[Act.put,B0]at h1 ⊢;rw[D1,B1 bo];exact h1
 have I:∀ b,dL M (Dr lo D') b up=true↔(dL M (Dr lo D) b up=true∨((M i).n<=b/\b<(M (i+1)).n)):=fun b=>by
  rw[Q9,Q9];constructor
  .rintro⟨k,h1,u,h3⟩
   obtain⟨ah,u⟩:=V1.1 u;by_cases e:k=i
   .subst e;exact .inr h3
   .rw[hD k e]at u;exact .inl ⟨k,h1,V1.2 ⟨ah,u⟩,h3⟩
  .rintro(⟨k,h1,u,h3⟩|h3)
   .obtain⟨ah,u⟩:=V1.1 u;have e:k≠i:=fun e=>by subst e;rw[hi]at u;cases u
    exact⟨k,h1,V1.2 ⟨ah,by rw[hD k e];exact u⟩,h3⟩
   .exact⟨i,ay,V1.2 ⟨Y,bq⟩,h3⟩
 unfold i5;simp only[T];have bw:Sat (M (i+1)).lg:=M5.le hS (by have:=g.lgs S (i:=i+1) (up-(i+1)) A9;rwa[show i+1+(up-(i+1))=up by omega]at this);rcases ak with⟨_,lg,hw,hv,hm⟩|⟨_,lg,bd,hw,hq,hm⟩|⟨aa,_⟩|⟨_,_,lg,hw,mv,m',av,ao,hW,bc,W⟩
 .exact absurd ⟨_,.inl ⟨lg,hw,hv,hm,rfl⟩⟩ bz
 .exact absurd ⟨_,.inr ⟨lg,bd,hw,hq,hm,rfl⟩⟩ bz
 .rw[br]at aa;cases aa
 .have ae:Sat m'.lg:=by rw[CJ W]at bw;exact bw
  have aj:Sat lg:=M5.le ae (by have:=n7 S ao;rw[HC av]at this;exact this);rw[ai lg true hw aj];simp only[if_true];obtain⟨v1,v2,v3,_,v4⟩:=TN av;have v1:mv.n=(M i).n:=v1;have v2:mv.hi=(M i).hi:=v2;have v4:∀ id,id<=G2->∀ ab,Hp.get mv.H id=some ab->Hp.get (M i).H id=some ab/\id ∉ W7 (wI ((V8 ops.toList []).getD i []) (R i)):=v4;have an:=(g.all ph Y A9).2.2.1;obtain⟨q1,q2,q3,q4,q5,q6,_,q7⟩:=CI W an bc;have q1:(M i).n<=(M (i+1)).n:=q1;have q5:(M (i+1)).n=m'.hi∨((M (i+1)).n=(M i).n/\m'.hi<=(M i).n):=q5;have q7:∀ id,id<=G2->Hp.get (M (i+1)).H id=if(M i).n<=id/\id<(M (i+1)).n then Hp.get m'.H id else Hp.get (M i).H id:=q7
  have N:∀ id,id<=G2->∀ ab,Hp.get mv.H id=some ab->GD M lo up D id=some ab:=fun id hid ab y=>by
   obtain⟨h1,u⟩:=v4 id hid ab y;exact g.see (z:=z) (a:=a) (ρ:=ρ) (w:=w) ph L hc Y ay T hr id hid ab h1 u
  have bk:HR P base ρ mv.H w:=inv.hr.hr N;have O:I2 ρ mv.n m'.hi:=fun b h1 u=>by
   rw[v1]at h1;cases hb:ρ b with
   | none=>rfl
   | some l =>
     exfalso;cases h0:aq b with
     | some l0 =>
       rw[L.fr b A9 A9]at h0;cases h0
     | none =>
       obtain⟨k,k1,k2,k3,k4⟩:=(Q9 _).1 (inv.new b l hb h0).1;obtain⟨k0,k2⟩:=V1.1 k2;have cr:k≠i:=fun e=>by subst e;rw[hi]at k2;cases k2
       rcases F2 k i with ad|ad
       .have:=(g.le ph (i:=k+1) (j:=i) A9 A9 A9).1;omega
       .have:=(g.le ph (i:=i+1) (j:=k) A9 A9 A9).1;rcases q5 with q5|⟨_,q5⟩<;>omega
  have bj:At P base gl ρ mv m'.hi w:=⟨bk,B6 L.bs inv.size,O,L.gr.mono inv.ext,(by rw[v1,v2];exact an),fun b hb=>(by rw[v3]at hb;cases hb),fun k o hk=>⟨(L.gf k o hk).1,(inv.keep k (C9 (L.gf k o hk).1 L.bs)).trans (L.gf k o hk).2⟩⟩;refine lZ S ao ae bj bh fun v' ρ' w' hv st=>hK ρ' _ w' ?_
  have az:∀ k,k<w.heap.size->w'.heap[k]? = w.heap[k]? := fun k hk=>st.keep k hk fun b hb=>by rw[hW]at hb;cases hb
  have cy:m'.n<=m'.hi:=st.nhi (by rw[v1,v2];exact an);have ax:∀ b l,ρ' b=some l->ρ b=none->((M i).n<=b/\b<(M (i+1)).n)/\(l.on=true->w.heap.size<=l.blk):=fun b l h1 u=>by
   have h3:=st.new b l h1 u;rw[v1]at h3;refine⟨⟨h3.1,?_⟩,?_⟩
   .rcases q5 with q5|⟨_,q5⟩<;>omega
   .intro T;rcases st.blk b l h1 u T with h|⟨b0,h,_⟩
    .exact h
    .rw[hW]at h;cases h
  have aw:∀ id,id<=G2->(M i).n<=id->id<(M (i+1)).n->GD M lo up D' id=Hp.get m'.H id/\ρ id=none:=fun id hid h1 u=>by
   constructor
   .unfold GD;rw[(I id).2 (.inr ⟨h1,u⟩)];simp only[D7];rw[ba.2.2 id hid u,q7 id hid,B2 ⟨h1,u⟩]
   .refine O id (by rw[v1];exact h1) ?_;rcases q5 with q5|⟨q5,_⟩
    .omega
    .rw[q5]at u;omega
  have U:∀ id,¬ ((M i).n<=id/\id<(M (i+1)).n)->GD M lo up D' id=GD M lo up D id:=fun id hid=>by
   unfold GD;have:dL M (Dr lo D') id up=dL M (Dr lo D) id up:=by
    rw[K2,I id];exact⟨fun h=>h.elim (fun h=>h) (fun h=>absurd h hid),.inl⟩
   rw[this]
  have bm:∀ k,Ff ρ' (GD M lo up D') k->w.heap.size<=k∨Ff ρ (GD M lo up D) k:=fun k ⟨id,ab,l,hid,y,hl,ht⟩=>by
   by_cases hI:(M i).n<=id/\id<(M (i+1)).n
   .rw[(aw id hid hI.1 hI.2).1]at y;rcases st.tch k ⟨id,ab,l,hid,y,hl,ht⟩with h|⟨A,Z,l0,e1,e2,e3,e4⟩
    .exact .inl h
    .exact .inr ⟨A,Z,l0,e1,N A e1 Z e2,e3,e4⟩
   .rw[U id hI]at y;obtain⟨l3,c1,_⟩:=inv.hr.at_ id hid ab y;rw[st.ext id l3 c1]at hl
    have:=A5 hl;subst this;exact .inr ⟨id,ab,l3,hid,y,c1,ht⟩
  refine⟨fun b l h=>st.ext b l (inv.ext b l h),fun b l h1 u=>?_,⟨st.hr.dom,fun id hid ab y=>?_⟩,fun k hk=>by rw[az k (C9 hk inv.size),inv.keep k hk],B6 inv.size st.size,⟨st.os.1.trans inv.os.1,st.os.2.1.trans inv.os.2.1,st.os.2.2.trans inv.os.2.2⟩,fun k hk=>(bm k hk).elim (fun h=>.inl (B6 inv.size h)) (inv.tch k),?_,?_,ar ρ' v' st.ext hv⟩
  .cases h0:ρ b with
   | some l1 =>
     rw[st.ext b l1 h0]at h1
     have:=A5 h1;subst this;exact⟨(I b).2 (.inl (inv.new b l1 h0 u).1),(inv.new b l1 h0 u).2⟩
   | none =>
     have:=ax b l h1 h0;exact⟨(I b).2 (.inr this.1),fun T=>B6 inv.size (this.2 T)⟩
  .by_cases hI:(M i).n<=id/\id<(M (i+1)).n
   .obtain⟨h1,u⟩:=aw id hid hI.1 hI.2;rw[h1]at y;obtain⟨l,e1,e2,e3⟩:=st.hr.at_ id hid ab y;refine⟨l,e1,e2,fun G E=>⟨(e3 G E).1,fun q s J l2 f1 f2 f3=>?_⟩⟩;by_cases C:(M i).n<=q/\q<(M (i+1)).n
    .rw[(aw q s C.1 C.2).1]at f1;exact(e3 G E).2 q s J l2 f1 f2 f3
    .rw[U q C]at f1;obtain⟨l3,c1,c2,_⟩:=inv.hr.at_ q s J f1;rw[st.ext q l3 c1]at f2
     have:=A5 f2;subst this;have h5:=c2.tc f3;have h6:=(ax id l e1 u).2 E;omega
   .rw[U id hI]at y;obtain⟨l,e1,e2,e3⟩:=inv.hr.at_ id hid ab y;refine⟨l,st.ext _ _ e1,e2.mono st.ext (fun k hk=>az _ (e2.tc hk)),fun G E=>⟨(e3 G E).1,fun q s J l2 f1 f2 f3=>?_⟩⟩;by_cases C:(M i).n<=q/\q<(M (i+1)).n
    .exfalso;rw[(aw q s C.1 C.2).1]at f1;have bf:J.fr=true:=by
      cases hq:J.fr with
      | true=>rfl
      | false =>
        exfalso;rcases f3 with⟨_,h1,u⟩|⟨h1,_⟩
        .have h5:=(ax q l2 f2 (aw q s C.1 C.2).2).2 h1;have h6:=e2.tc (.inl ⟨AB.rw_on G,E,rfl⟩);omega
        .rw[h1]at hq;cases hq
     rcases st.tch _ ⟨q,J,l2,s,f1,f2,bf,f3⟩with h|⟨A,Z,l0,c1,c2,c3,_,c4⟩
     .have:=e2.tc (.inl ⟨AB.rw_on G,E,rfl⟩);omega
     .have h7:=(e3 G E).2 A c1 Z l0 (N A c1 Z c2) c3 c4;subst h7;have h8:=N A c1 Z c2;rw[y]at h8;have h8:=A5 h8;subst h8;have h9:A<mv.n∨m'.hi<=A:=by
       rcases F2 A mv.n with h|h
       .exact .inl h
       .rcases F2 A m'.hi with h'|h'
        .rw[O A h h']at e1;cases e1
        .exact .inr h'
      have bp:=st.same A c1 (by rw[hW];simp) h9;rw[c2]at bp;obtain⟨_,bb⟩:=st.hr.atl (st.ext _ _ e1) bp
      have:=(bb G E).2 q s J l2 f1 f2 f3;subst this;exact hI C
    .rw[U q C]at f1;obtain⟨l3,c1,_⟩:=inv.hr.at_ q s J f1;rw[st.ext q l3 c1]at f2
     have:=A5 f2;subst this;exact(e3 G E).2 q s J l3 f1 c1 f3
  .cases bt:o.dst<;>simp[Act.put,inv.tsz]
  .rw[bX];exact inv.dfr.congr st.ext fun _=>⟨rfl,rfl⟩
end
end
section
open Go
variable [Ora]
def oZ:∀ (l:List Bool) (i:Nat),l[i]? = some false->(l.set i true).countP (fun b=>!b)+1=l.countP (fun b=>!b)
 | [],i,h=>by simp at h
 | b::r,0,h=>by simp at h;subst h;simp
 | b::r,i+1,h=>by
   have:=oZ r i (by simpa using h);rw[List.set_cons_succ,List.countP_cons,List.countP_cons];omega
def tN{l:List Bool}(h:l.countP (fun b=>!b)=0):∀ i,i<l.length->l[i]? = some true:=fun i hi=>by
 rw[List.countP_eq_zero]at h
 have:=h l[i] (L6 hi);rw[A4 hi];cases a:l[i]with
 | true=>rfl
 | false=>rw[a]at this;exact absurd rfl this
section
variable {P:Program} {base gl:Nat} {call:L5}
def PJ(h:hO m m'=some m2)(a:m.hi<=m'.hi):m.hi<=m2.hi:=by
 unfold hO at h;cases b:Nat.ble m'.hi m.n with
 | true=>rw[b]at h;cases h;exact A6 _
 | false =>
   rw[b]at h;obtain⟨_,h⟩:=A2 h;simp only[E1,bL]at h;cases h;exact a
def uE:∀ {n:Nat} {b:F9} {a:Qs},AD n b a=true->∀ k,k<n->k ∈ b∨∃ q ∈ a,q.1=k
 | 0,_,_,_,k,h=>by omega
 | n+1,b,a,h,k,hk=>by
   obtain⟨h1,f⟩:=B3 (show((m6 b n || a.any fun q=>Nat.beq n q.1) && AD n b a)=true from h);by_cases e:k=n
   .subst e;rcases F8 _ _▸h1 with h1|h1
    .exact .inl (S3.1 h1)
    .obtain⟨q,g,d⟩:=N2.1 h1;exact .inr ⟨q,g,(A0 d).symm⟩
   .exact uE f k A9
def sU:∀ {i:Nat} {bs:List F9} {r:List Oper},zE i bs r=true->∀ (j:Nat) (c:List Nat) (o:Oper),bs[j]? = some c->r[j]? = some o->i ∈ c∨o8 o.op=true
 | _,[],_,_,j,c,o,h,_=>by simp at h
 | _,_::_,[],_,j,c,o,_,h=>by simp at h
 | i,c0::bs,o0::r,h,j,c,o,h1,h2=>by
   obtain⟨a,b⟩:=B3 (show((m6 c0 i || o8 o0.op) && zE i bs r)=true from h);cases j with
   | zero =>
     simp at h1 h2;subst h1;subst h2;rcases F8 _ _▸a with a|a
     .exact .inl (S3.1 a)
     .exact .inr a
   | succ j=>exact sU b j c o (by simpa using h1) (by simpa using h2)
def yH{ops:Array Oper}{X:Nat->Qs}{i:Nat}{o:Oper}(h:TU ops X i o=true):o8 o.op=false:=by
 obtain⟨h,_⟩:=B3 (show(wrO o.op && _)=true from h);cases a:o.op<;>rw[a]at h<;>first
  | rfl
  | cases h
def FC{ops:Array Oper}{X:Nat->Qs}{i:Nat}{o:Oper}(h:TU ops X i o=true):∀ k,k<i->k ∈ (V8 ops.toList []).getD i []∨∃ q ∈ X i,q.1=k:=by
 obtain⟨_,h⟩:=B3 (show(wrO o.op && _)=true from h);obtain⟨h,_⟩:=B3 h;exact uE h
def FB{ops:Array Oper}{X:Nat->Qs}{i:Nat}{o:Oper}(h:TU ops X i o=true):∀ j p,i<j->ops[j]? = some p->i ∈ (V8 ops.toList []).getD j []∨o8 p.op=true:=fun j p e hp=>by
 obtain⟨_,h⟩:=B3 (show(wrO o.op && _)=true from h);obtain⟨_,h⟩:=B3 h;obtain⟨f,d,b,_⟩:=pD ops.toList [];have hlen:(V8 ops.toList []).length=ops.size:=by rw[d];simpa using b
 have g:j<ops.size:=(B5.1 hp).1;have a:j<(V8 ops.toList []).length:=A9
 have:=sU h (j-(i+1)) (V8 ops.toList [])[j] p (by rw[G5,show i+1+(j-(i+1))=j by omega,A4 a]) (by rw[G5,show i+1+(j-(i+1))=j by omega];exact P4 hp);rw[B9,A4 a];exact this
def oE(ops:Array Oper)(B:Nat->Bool):∀ (d lo:Nat),lo+d=ops.size->∃ up,lo<=up/\up<=ops.size/\(∀ i o,lo<=i->i<up->ops[i]? = some o->B i=false)/\(up<ops.size->∃ o,ops[up]? = some o/\B up=true)
 | 0,lo,h=>⟨lo,A6 _,A9,fun i o h1 f=>by omega,fun f=>by omega⟩
 | d+1,lo,h=>by
   obtain⟨o,k⟩:=N0 (ops:=ops) (i:=lo) A9;cases g:B lo with
   | true=>exact⟨lo,A6 _,A9,fun i o h1 f=>by omega,fun _=>⟨o,k,g⟩⟩
   | false =>
     obtain⟨up,h1,f,h3,j⟩:=oE ops B d (lo+1) A9;refine⟨up,A9,f,fun i o' a b c=>?_,j⟩;by_cases e:i=lo
     .subst e;exact g
     .exact h3 i o' A9 b c
section
variable {nt:Nat} {ops:Array Oper} {F:Nat->Fr} {M:Nat->Mem} {V:Nat->Value} {R:Nat->List Rec} {X:Nat->Qs} {B:Nat->Bool} {lo up:Nat}
def Rg.frameUp(g:Rg P base gl nt call ops F M V R X B)(a:nt<=512){t:Tmp}(e:t<nt){i:Nat}(hi:i<=ops.size):r8 (fun k=>Nat.blt k i) (fun k=>(ops[k]?).bind (·.dst)) V (F 0).get t ops.size=(F i).get t:=by
 rw[g.frame a e i hi];have f:∀ d,i+d<=ops.size->r8 (fun k=>Nat.blt k i) (fun k=>(ops[k]?).bind (·.dst)) V (F 0).get t (i+d)=r8 (fun k=>Nat.blt k i) (fun k=>(ops[k]?).bind (·.dst)) V (F 0).get t i:=by
  intro d;induction d with
  | zero=>intro _;rfl
  | succ d b =>
    intro j;rw[show i+(d+1)=(i+d)+1 by omega];rw[r8,B1 (fun hh=>by have:i+d<i:=A1 hh.1;omega)];exact b A9
 have:=f (ops.size-i) A9
 rwa[show i+(ops.size-i)=ops.size by omega]at this
def A3G{k i:Nat}:Nat.blt k i=true↔k<i:=⟨fun h=>A1 h,fun h=>C4 h⟩
def Rg.own(g:Rg P base gl nt call ops F M V R X B)(f:nt<=510):∀ (i:Nat),i<=ops.size->(F i).get 510=(F 0).get 510/\(F i).get 511=(F 0).get 511
 | 0,_=>⟨rfl,rfl⟩
 | i+1,hi=>by
   obtain⟨o,l⟩:=N0 (ops:=ops) (i:=i) A9;obtain⟨d1,_,d3,_⟩:=g.st i o l;have b:=g.own f i A9;have key:∀ t,510<=t->t<512->(F (i+1)).get t=(F i).get t:=fun t h1 k=>by
    rw[d3];cases j:o.dst with
    | none=>rfl
    | some d =>
      rw[j]at d1;have a:d<nt:=A1 d1;show((F i).set d _).get t=_;rw[K1 _ _ _ _ (C9 a A9) k,B1 (fun e=>by subst e;exact absurd a (Nat.not_lt.2 (B6 f h1)))]
   exact⟨(key 510 L8 L8).trans b.1,(key 511 L8 L8).trans b.2⟩
def Rg.inX(g:Rg P base gl nt call ops F M V R X B):∀ (j:Nat),j<=ops.size->∀ q ∈ X j,q.1<j/\q ∈ X (q.1+1)/\∃ o,ops[q.1]? = some o/\bF nt ops.toList (T6 P call o) ((V8 ops.toList []).getD q.1 []) (R q.1) (F q.1) o (M q.1) (M (q.1+1)) (V q.1) q.2
 | 0,_,q,hq=>by rw[g.x0]at hq;cases hq
 | j+1,hj,q,hq=>by
   obtain⟨o,d⟩:=N0 (ops:=ops) (i:=j) A9;have old:q ∈ X j->q.1<j+1/\q ∈ X (q.1+1)/\∃ o,ops[q.1]? = some o/\bF nt ops.toList (T6 P call o) ((V8 ops.toList []).getD q.1 []) (R q.1) (F q.1) o (M q.1) (M (q.1+1)) (V q.1) q.2:=fun h=>by
    obtain⟨h1,a⟩:=g.inX j A9 q h;exact⟨A9,a⟩
   rcases g.qs j o d with⟨_,h,_⟩|⟨_,h⟩|⟨_,r,h,a⟩
   .exact old (h▸hq)
   .exact old (h▸hq)
   .have b:=hq;rw[h]at hq;rcases A8.1 hq with e|e
    .subst e;exact⟨H5 _,b,o,d,a⟩
    .exact old e
def wB{all:List Oper}{b:F9}{fr:Fr}{o:Oper}{v:Value}(h:bF nt all op b rs fr o m m2 v r):∃ lg,m2=m.wLg lg:=by
 rcases h with⟨lg,_,_,h,_⟩|⟨_,a,_,_,h,_⟩
 .exact⟨lg,h⟩
 .exact⟨a,h⟩
def Rg.kind(g:Rg P base gl nt call ops F M V R X B){i:Nat}{o:Oper}(e:ops[i]? = some o)(hk:o8 o.op=true):bF nt ops.toList (T6 P call o) ((V8 ops.toList []).getD i []) (R i) (F i) o (M i) (M (i+1)) (V i) none:=by
 obtain⟨_,_,_,h⟩:=g.st i o e;have f:DF (M i).H (F i) o.op=none:=by
  cases a:o.op<;>rw[a]at hk<;>first|rfl|cases hk
 rcases h with⟨_,lg,h1,b,h3⟩|⟨_,lg,d,h1,b,h3⟩|⟨h,_⟩|⟨_,h,_⟩
 .exact .inl ⟨lg,h1,b,h3,rfl⟩
 .exact .inr ⟨lg,d,h1,b,h3,f.symm⟩
 .rw[yH (g.sb i o e h)]at hk;cases hk
 .rw[hk]at h;cases h
def Rg.heap{z:Zn}(g:Rg P base gl nt call ops F M V R X B)(f:Ph ops B M lo up){D:Nat->Bool}{p ρ:Ren}{a:Act}{w w':World}(E:∀ k,lo<=k->k<up->D k=false->∃ lg,M (k+1)=(M k).wLg lg)(inv:Inv z P base gl nt ops F M V lo up p w D ρ a w'):St P base p ρ (M lo) (M up) w w':=by
 have y:∀ id,id<=G2->GD M lo up D id=Hp.get (M up).H id:=fun id hid=>by
  unfold GD;cases hu:dL M (Dr lo D) id up with
  | true=>rfl
  | false =>
    simp only[D3];refine((g.all f f.le (A6 _)).2.2.2.2 id hid ?_).symm;rcases F2 id (M lo).n with h1|h1
    .exact .inl h1
    .rcases F2 id (M up).n with e|e
     .exfalso;have hle:=f.le;obtain⟨k,q,h,x,o⟩:=g.who f (up-lo) A9 id h1 (by rw[show lo+(up-lo)=up by omega];exact e);have t:D k=true:=by
       cases J:D k with
       | true=>rfl
       | false =>
         obtain⟨lg,hm⟩:=E k q A9 J;rw[hm]at o;have o:id<(M k).n:=o;omega
      rw[(Q9 (M:=M) (D:=Dr lo D) up).2 ⟨k,A9,V1.2 ⟨q,t⟩,x,o⟩]at hu;cases hu
     .exact .inr e
 have d:=g.all f f.le (A6 _);refine⟨inv.ext,fun b l h1 e=>?_,d.1,d.2.1,fun _=>d.2.2.1,inv.hr.hr fun id hid ab s=>by rw[y id hid];exact s,fun b A=>by rw[d.2.2.2.1];exact A,fun b h1 e=>by rw[d.2.2.2.1]at h1;exact absurd h1 e,
     fun k hk _=>inv.keep k hk,inv.size,inv.os,fun b l h1 e I=>.inl ((inv.new b l h1 e).2 I),fun id hid h1 e=>?_,fun k ⟨id,ab,l,u,v,G,C⟩=>inv.tch k ⟨id,ab,l,u,(y id u).trans v,G,C⟩⟩
 .obtain⟨k,h,K,x,o⟩:=(Q9 _).1 (inv.new b l h1 e).1;have q:=(V1.1 K).1;have u:=(g.le f (i:=lo) (j:=k) (A6 _) q A9).1;have v:=(g.le f (i:=k+1) (j:=up) A9 A9 (A6 _)).1;omega
 .refine d.2.2.2.2 id hid ?_;rcases e with e|e
  .exact .inl e
  .exact .inr (by have:=d.2.2.1;omega)
def Rg.last{z:Zn}(g:Rg P base gl nt call ops F M V R X B)(b:nt<=512){D:Nat->Bool}{d ρ:Ren}{a:Act}{n w':World}(l:∀ i,i<ops.size->D i=true)(inv:Inv z P base gl nt ops F M V lo up d n D ρ a w'):FrR z ρ nt (F ops.size) a:=by
 have e:=inv.dfr.congr (fun _ _ h=>h) (fun j=>g.own j ops.size (A6 _));refine⟨inv.tsz,b,e.1,e.2,fun t f=>?_⟩;have h1:=inv.frm t f;rw[<- g.frameUp b f (A6 _)]
 rwa[cF (D':=fun k=>Nat.blt k ops.size) ops.size (fun k hk _=>by rw[l k hk];exact(A3G.2 hk).symm)]at h1
def Rg.fresh{z:Zn}(g:Rg P base gl nt call ops F M V R X B){D:Nat->Bool}{ρ:Ren}{a:Act}{w:World}(v:∀ k,lo<=k->D k=true->∃ lg,M (k+1)=(M k).wLg lg)(hr:HR P base ρ (M lo).H w)(i:a.tmps.size=nt)(q:ZR z ρ nt (F 0) a.defers)
  (e:∀ t,t<nt->VR ρ (r8 D (fun k=>(ops[k]?).bind (·.dst)) V (F 0).get t ops.size) (a.tmps.getD t undef)):Inv z P base gl nt ops F M V lo up ρ w D ρ a w:=by
 have hu:∀ b n,dL M (Dr lo D) b n=false:=fun b n=>by
  cases y:dL M (Dr lo D) b n with
  | false=>rfl
  | true =>
    obtain⟨k,_,h,C,p⟩:=(Q9 _).1 y;obtain⟨h1,o⟩:=V1.1 h;obtain⟨lg,hm⟩:=v k h1 o;rw[hm]at p;have p:b<(M k).n:=p;omega
 have j:∀ id ab,GD M lo up D id=some ab->Hp.get (M lo).H id=some ab:=fun id ab d=>by
  unfold GD at d;rw[hu]at d;exact d
 exact⟨fun _ _ h=>h,fun b l h1 o=>(by rw[h1]at o;cases o),hr.f fun id hid ab d=>j id ab d,fun _ _=>rfl,A6 _,⟨rfl,rfl,rfl⟩,fun k ⟨id,ab,l,A,s,x,u⟩=>.inr ⟨id,ab,l,A,j id ab s,x,u⟩,i,q,e⟩
def Rg.old{z:Zn}(g:Rg P base gl nt call ops F M V R X B)(d:Ph ops B M lo up){e:Ren}{w0:World}{D:Nat->Bool}(a:At P base gl e (M lo) (M up).hi w0){b:Nat}{ab:AB}(o:tA (M lo).H b ab=true):GD M lo up D b=some ab:=by
 obtain⟨h1,hid⟩:=sZ o;unfold GD;have hu:dL M (Dr lo D) b up=false:=by
  cases p:dL M (Dr lo D) b up with
  | false=>rfl
  | true =>
    exfalso;obtain⟨k,w,u,x,v⟩:=(Q9 _).1 p;have q:=(V1.1 u).1;obtain⟨l,f,_⟩:=a.hr.at_ b hid _ h1;have n:=g.le d (i:=lo) (j:=k) (A6 _) q A9;have s:=g.le d (i:=k+1) (j:=up) A9 A9 (A6 _);have t:=(g.all d d.le (A6 _)).2.2.1;rw[a.fr b A9 A9]at f;cases f
 rw[hu];exact h1
end
def QY(hm:P.follows .mixedOrders=true)(O:Q4 P base gl call):d8 P base gl call:=by
 refine⟨hm,?_⟩;intro nt ops aa s s' cp;obtain⟨F,M,V,R,X,B,f1,f2,f3,dy,f4,f5,f6⟩:=WN ops.toList 0 _ _ _ s s' cp;simp only[D8,O9]at f4 f5 f6;have cy:∀ i,i<=ops.size->∀ d,i+d<=ops.size->(M i).hi<=(M (i+d)).hi/\(M i).lg.le (M (i+d)).lg:=by
  intro i _ d;induction d with
  | zero=>intro _;exact⟨A6 _,.refl _⟩
  | succ d ih =>
    intro h;have h1:=ih A9;obtain⟨o,y⟩:=N0 (ops:=ops) (i:=i+d) A9;obtain⟨bo,_⟩:=f6 (i+d) o (P4 y);refine⟨?_,h1.2.trans (vO O bo)⟩;obtain⟨_,_,_,L⟩:=bo;rcases L with⟨_,_,_,_,L⟩|⟨_,_,_,_,_,L⟩|⟨_,_,_,_,L⟩|⟨_,_,_,_,mv,m',_,_,_,cc,L⟩
    .show _<=(M (i+d+1)).hi;rw[L];exact h1.1
    .show _<=(M (i+d+1)).hi;rw[L];exact h1.1
    .exact B6 h1.1 L
    .exact B6 h1.1 (PJ L cc)
 have A:∀ i j,i<=j->j<=ops.size->(M i).hi<=(M j).hi/\(M i).lg.le (M j).lg:=fun i j h1 L=>by
  have:=cy i A9 (j-i) A9
  rwa[show i+(j-i)=j by omega]at this
 constructor
 .have:=A 0 ops.size A9 (A6 _);rw[f2,f5]at this;exact this
 .intro z aq a0 w id Q cq au ak hQ;have g:Rg P base gl nt call ops F M V R X B:=⟨fun i o y=>(f6 i o (P4 y)).1,fun i o y=>(f6 i o (P4 y)).2.2.1,fun i o y=>(f6 i o (P4 y)).2.2.2,fun i o y=>(f6 i o (P4 y)).2.1,dy,aa⟩;have cu:∀ i o,ops[i]? = some o->∀ e ∈ o.after.toList,Region.binds .any e=true->e.on<i:=fun i o y=>by
   have:=(eB _ 0 g.ok i o (P4 y)).1;rw[D8]at this;exact cI this
  refine bO hm ?_;generalize cf:({ w with drawn:=w.drawn+1 }:World)=w1;have ar:w1.heap=w.heap:=by rw[<- cf]
  have bg:w1.os=w.os/\w1.tape=w.tape/\w1.output=w.output:=by rw[<- cf];exact⟨rfl,rfl,rfl⟩
  have av:At P base gl aq (M 0) (M ops.size).hi w1:=by
   rw[f2,f5];exact⟨⟨fun b l h=>au.hr.dom b l h,fun id hid ab dx=>by
    obtain⟨l,e1,e2,e3⟩:=au.hr.at_ id hid ab dx;exact⟨l,e1,e2.mono (fun _ _ h=>h) (fun _ _=>by rw[ar]),e3⟩⟩,by rw[ar];exact au.bs,au.fr,au.gr,au.nh,au.wb,fun k o hk=>by rw[ar];exact au.gf k o hk⟩
  have al:∀ i,i<=ops.size->Sat (M i).lg:=fun i hi=>M5.le cq (by rw[<- f5];exact(A i ops.size hi (A6 _)).2)
  have Z:I2 aq (M 0).n (M ops.size).hi:=av.fr;have fin:∀ (ρ:Ren) (a:Act) (w':World),FrR z ρ nt (F ops.size) a->St P base aq ρ (M 0) (M ops.size) w1 w'->Q .normal a w':=fun ρ a w' hf st=>by
   refine hQ ρ a w' (by rw[<- f4];exact hf) ?_;rw[<- f2,<- f5];exact⟨st.ext,st.new,st.nle,st.hle,st.nhi,st.hr,st.wsub,st.wrw,fun k hk hb=>by rw[st.keep k (by rw[ar];exact hk) hb,ar],by rw[<- ar];exact st.size,⟨st.os.1.trans bg.1,st.os.2.1.trans bg.2.1,st.os.2.2.trans bg.2.2⟩,fun b l h1 L h3=>by rw[<- ar];exact st.blk b l h1 L h3,st.same,fun k hk=>by rw[<- ar];exact st.tch k hk⟩
  have main:∀ (fuel:Nat) (listed:Array Bool) (lo up:Nat) (I ρ:Ren) (a:Act) (wL w':World),listed.size=ops.size->listed.toList.countP (fun b=>!b)=fuel->iS ops.toList (fun k=>listed.getD k false=true) ->
    Ph ops B M lo up->(up<ops.size->∃ o,ops[up]? = some o/\B up=true)->St P base aq I (M 0) (M lo) w1 wL->At P base gl I (M lo) (M ops.size).hi wL->(∀ q ∈ X lo,listed.getD q.1 false=false->WX (M lo).H q.2=true)->(∀ k,k<lo->listed.getD k false=false->∃ q ∈ X lo,q.1=k)->(∀ k o,up<=k->ops[k]? = some o->listed.getD k false=true->o8 o.op=true) ->
    Inv z P base gl nt ops F M V lo up I wL (fun k=>listed.getD k false) ρ a w'->dK P z.rd .any ops Q fuel listed a w':=by
   have done:∀ (listed:Array Bool) (lo up:Nat) (I ρ:Ren) (a:Act) (wL w':World),(∀ i,i<ops.size->listed.getD i false=true)->Ph ops B M lo up->(up<ops.size->∃ o,ops[up]? = some o/\B up=true)->St P base aq I (M 0) (M lo) w1 wL->(∀ k o,up<=k->ops[k]? = some o->listed.getD k false=true->o8 o.op=true) ->
     Inv z P base gl nt ops F M V lo up I wL (fun k=>listed.getD k false) ρ a w'->Q .normal a w':=fun listed lo up I ρ a wL w' T ph G an J inv=>by
    have ch:up=ops.size:=by
     rcases F2 up ops.size with h|h
     .obtain⟨o,y,hs⟩:=G h
      have:=J up o (A6 _) y (T up h);rw[yH (g.sb up o y hs)]at this;cases this
     .have:=ph.sz;omega
    subst ch;exact fin ρ a w' (g.last ak.le T inv) (St.trans Z an (g.heap ph (fun k _ h1 L=>by have L:listed.getD k false=false:=L;rw[T k h1]at L;cases L) inv))
   intro fuel;induction fuel with
   | zero =>
     intro listed lo up I ρ a wL w' bd bj ay ph G an ae bb bx J inv;have T:∀ i,i<ops.size->listed.getD i false=true:=fun i hi=>by
      have:=tN bj i (by simpa [bd]using hi);have L:listed[i]? = some true:=by simpa using this
      simp[B0,L]
     refine⟨?_,done listed lo up I ρ a wL w' T ph G an J inv⟩;rw[T4];intro j hj;obtain⟨h1,o,L,_⟩:=mem_ready.1 hj;have az:j<ops.size:=(B5.1 L).1;have h3:=T j az;have bc:j<listed.size:=A9;simp[B0,bc]at h1 h3;rw[h1]at h3;cases h3
   | succ fuel ih =>
     intro listed lo up I ρ a wL w' bd bj ay ph G an ae bb bx J inv;refine⟨fun dz=>?_,fun i hi=>?_⟩
     ·
      have key:∀ n i,i<n->i<ops.size->listed.getD i false=true:=by
       intro n;induction n with
       | zero=>intro i h;omega
       | succ n bp =>
         intro i dn bq;by_cases h:i<n
         .exact bp i h bq
         .cases U:listed.getD i false with
          | true=>rfl
          | false =>
            exfalso;obtain⟨o,y⟩:=N0 (ops:=ops) bq;have bl:i ∈ Region.ready .any ops listed:=mem_ready.2 ⟨by
             have bc:i<listed.size:=A9;simp[B0,bc]at U ⊢;exact U,o,y,fun e he hb=>by
             have az:=cu i o y e (by simpa using he) hb;exact bp e.on A9 A9⟩
            rw[dz]at bl;cases bl
      exact done listed lo up I ρ a wL w' (fun i hi=>key (i+1) i (H5 i) hi) ph G an J inv
     .obtain⟨h1,o,y,L⟩:=mem_ready.1 hi;have bq:i<ops.size:=(B5.1 y).1;have ai:i<listed.size:=A9;have W:listed.getD i false=false:=by
       simp[B0,ai]at h1 ⊢;exact h1
      have u:∀ k,k≠i->(listed.setIfInBounds i true).getD k false=listed.getD k false:=fun k hk=>by
       simp only[B0,D1];rw[B1 (fun e=>hk e.symm)]
      have E:(listed.setIfInBounds i true).getD i false=true:=by
       simp[B0,D1,ai]
      have hr:∀ e ∈ o.after.toList,Region.binds .any e=true->listed.getD e.on false=true:=fun e he hb=>L e (by simpa using he) hb
      have bh:(listed.setIfInBounds i true).size=ops.size:=by simpa using bd
      have bu:(listed.setIfInBounds i true).toList.countP (fun b=>!b)=fuel:=by
       have hg:listed.toList[i]? = some false:=by
        simp[B0,ai]at W;simp[ai,W]
       have:=oZ listed.toList i hg;rw[cP];omega
      have bm:iS ops.toList (fun k=>(listed.setIfInBounds i true).getD k false=true):=by
       intro k o' cv hk e he hb;by_cases e1:e.on=i
       .rw[e1];exact E
       .show(listed.setIfInBounds i true).getD e.on false=true;rw[u e.on e1];by_cases e2:k=i
        .subst e2;have:ops.toList[k]? = some o:=P4 y;rw[this]at cv;cases cv;exact hr e he hb
        .have hk:(listed.setIfInBounds i true).getD k false=true:=hk;rw[u k e2]at hk;exact ay k o' cv hk e he hb
      have bz:∀ k,k ∈ (V8 ops.toList []).getD i []->listed.getD k false=true:=fun k hk=>uF ay (fun i o y=>by
        have:=(eB _ 0 g.ok i o y).1;rw[D8]at this;exact cI this) (i+1) i k o (H5 i) (P4 y) hr hk
      have az:∀ k,listed.getD k false=true->k<ops.size:=fun k hk=>by
       rcases F2 k ops.size with h|h
       .exact h
       .have N:listed[k]? = none:=Array.getElem?_eq_none_iff.2 A9;rw[B0,N]at hk;cases hk
      have af:At P base gl I (M lo) (M up).hi wL:=ae.less (A up ops.size ph.sz (A6 _)).1;have go:∀ (ρ':Ren) (a':Act) (C:World),(up<=i->o8 o.op=true)->Inv z P base gl nt ops F M V lo up I wL (fun k=>(listed.setIfInBounds i true).getD k false) ρ' a' C->dK P z.rd .any ops Q fuel (listed.setIfInBounds i true) a' C:=fun ρ' a' C U ao =>
       ih (listed.setIfInBounds i true) lo up I ρ' a' wL C bh bu bm ph G an ae (fun q U N=>bb q U (by
        by_cases e:q.1=i
        .rw[e,E]at N;cases N
        .rw[u _ e]at N;exact N)) (fun k hk N=>by
        by_cases e:k=i
        .subst e;rw[E]at N;cases N
        .rw[u k e]at N;exact bx k hk N) (fun k p hk hp Y=>by
        by_cases e:k=i
        .subst e;rw[y]at hp;cases hp;exact U hk
        .rw[u k e]at Y;exact J k p hk hp Y) ao
      have quiet:∀ r,(up<=i->o8 o.op=true)->bF nt ops.toList (T6 P call o) ((V8 ops.toList []).getD i []) (R i) (F i) o (M i) (M (i+1)) (V i) r->(∀ b ab,r=some (b,ab)->GD M lo up (fun k=>listed.getD k false) b=some ab)->i5 P z.rd ops Q i (fun a' C=>dK P z.rd .any ops Q fuel (listed.setIfInBounds i true) a' C) a w':=fun r U S dq =>
       g.quiet O af (al (i+1) A9) ak.le inv ay az y W hr u E S dq fun ρ' a' C ao=>go ρ' a' C U ao
      rcases F2 i lo with ah|ah
      ·
       obtain⟨q,cm,cb⟩:=bx i ah W;obtain⟨_,_,p,hp,S⟩:=g.inX lo (by have:=ph.sz;have:=ph.le;omega) q cm;rw[cb]at hp S;rw[y]at hp;cases hp;refine quiet q.2 (fun h=>by have:=ph.le;omega) S fun b ab hb=>?_
       refine g.old (z:=z) ph af ?_
       have:=bb q cm (by rw[cb];exact W);rw[hb]at this;exact this
      .rcases F2 i up with bf|bf
       ·
        by_cases hex:∃ r,bF nt ops.toList (T6 P call o) ((V8 ops.toList []).getD i []) (R i) (F i) o (M i) (M (i+1)) (V i) r
        .obtain⟨r,S⟩:=hex;refine quiet r (fun h=>by omega) S fun b ab hb=>?_
         rcases S with⟨_,_,_,_,dt⟩|⟨lg,dm,hw,U,hm,du⟩
         .rw[dt]at hb;cases hb
         .obtain⟨mv,m',cw,_⟩:=gV U;obtain⟨h3,h4⟩:=(nZ cw).2.2.2.2.2 b ab (du.symm.trans hb);obtain⟨h5,h6⟩:=sZ h3;exact g.see (z:=z) (a:=a) (ρ:=ρ) (w:=w') ph af ay ah bf y hr b h6 _ h5 h4
        .exact g.step ph O af (al up ph.sz) ak.le inv ay az ah bf y W hr u E hex fun ρ' a' C ao=>go ρ' a' C (fun h=>by omega) ao
       .obtain⟨os,ad,ax⟩:=G A9;rcases F2 up i with dr|dk
        ·
         have hk:o8 o.op=true:=by
          rcases FB (g.sb up os ad ax) i o dr y with h|h
          .have h3:=J up os (A6 _) ad (bz up h);rw[yH (g.sb up os ad ax)]at h3;cases h3
          .exact h
         exact quiet none (fun _=>hk) (g.kind y hk) fun b ab hb=>by cases hb
        ·
         have ct:i=up:=A9;subst ct;rw[y]at ad;cases ad;have ag:∀ k,k<i->listed.getD k false=false->∃ q ∈ X i,q.1=k:=fun k hk N=>by
          rcases FC (g.sb i o y ax) k hk with h|h
          .rw[bz k h]at N;cases N
          .exact h
         have q2:=g.heap ph (fun k _ hk N=>by
          obtain⟨q,U,e⟩:=ag k hk N;obtain⟨_,_,p,hp,S⟩:=g.inX i A9 q U;rw[e]at S;exact wB S) inv
         have st1:St P base aq ρ (M 0) (M i) w1 w':=St.trans (Z.less (A i ops.size A9 (A6 _)).1) an q2;have aw:At P base gl ρ (M i) (M ops.size).hi w':=ae.step q2;obtain⟨d1,d2,d3,bo⟩:=g.st i o y;have bt:∀ t,t ∈ R9 ops.toList o->t<nt->VR ρ ((F i).get t) (a.tmps.getD t undef):=fun t ht ck=>by
          rw[<- g.look ak.le ay az y W hr ht ck];exact inv.frm t ck
         have ds:FR ρ (F i) a.eval o.op:=fun x hx=>by
          have aa:okX nt gl x=true:=D2.1 d2 x hx;cases x with
          | tmp t=>exact bt t (rP hx rfl) (A1 aa)
          | const v=>exact VR.ofC aa
          | global gg=>exact VR.ptr (o:=0) (aw.gr gg (A1 aa))
          | func f=>exact .func (a:=[]) (b:=[]) (a':=[]) (b':=[]) rfl rfl (fun i v v' h=>by simp at h) (fun i v v' h=>by simp at h)
         have cz:∀ lg b,t8 nt (F i) (M i).lg ops.toList o=some (b,lg)->Sat lg->Region.wanted o (yielded ops a.tmps)=b:=fun lg b hw ba=>by
          unfold t8 at hw;split at hw
          .rename_i hg;cases hw;simp[Region.wanted,hg]
          .rename_i j want hg;split at hw
           .rename_i p hp;split at hw
            .rename_i t ht;obtain⟨h1,L⟩:=A2 hw;have h1:t<nt:=A1 h1;have hv:=bt t (by
              unfold R9;refine B7.2 (.inr (B7.2 (.inr ?_)));simp[hg,hp,ht]) h1
             exact iX hg hp ht (by rw[inv.tsz];exact h1) (lR L hv ba)
            .cases hw
           .cases hw
         have bn:∀ (ρ':Ren) (v':Value),(∀ b l,ρ b=some l->ρ' b=some l)->VR ρ' (V i) v'->∀ t,t<nt->VR ρ' (r8 (fun k=>(listed.setIfInBounds i true).getD k false) (fun k=>(ops[k]?).bind (·.dst)) V (F 0).get t ops.size) ((a.put o.dst v').tmps.getD t undef):=fun ρ' v' he hv t ht=>by
          by_cases hd:o.dst=some t
          .have aj:∀ k,i<k->k<ops.size->(ops[k]?).bind (·.dst)=some t->listed.getD k false=false:=fun k dp hk cn=>by
            obtain⟨p,hp⟩:=N0 (ops:=ops) hk;rw[hp]at cn
            have:=g.slot ay az y W hr (t:=t) (by unfold R9;simp[hd]) k p hp A9 cn;cases U:listed.getD k false with
            | false=>rfl
            | true=>have:=this.1 U;omega
           rw[nA (D:=fun k=>listed.getD k false) u E ops.size bq (by simp[y,hd]) aj];simp only[hd,Act.put,B0];rw[D1,B2 rfl,B2 (by rw[inv.tsz];exact ht)];exact hv
          .rw[kU (D:=fun k=>listed.getD k false) u (by simp[y];exact hd)];have h1:=(inv.frm t ht).mono he;cases cg:o.dst with
           | none=>exact h1
           | some d =>
             have ca:d≠t:=fun e=>hd (e▸cg)
             simp only[Act.put,B0]at h1 ⊢;rw[D1,B1 ca];exact h1
         have hX:X (i+1)=X i/\PW ((V8 ops.toList []).getD i []) (M (i+1)).H (X i)=true:=by
          rcases g.qs i o y with⟨_,h3,h4⟩|⟨h3,_⟩|⟨h3,_⟩
          .exact⟨h3,h4⟩
          .rw[ax]at h3;cases h3
          .rw[ax]at h3;cases h3
         have aj:∀ (ρ':Ren) (v':Value) (C:World),VR ρ' (V i) v'->St P base ρ ρ' (M i) (M (i+1)) w' C->dK P z.rd .any ops Q fuel (listed.setIfInBounds i true) (a.put o.dst v') C:=fun ρ' v' C hv st2=>by
          obtain⟨dw,u1,u2,u3,u4⟩:=oE ops B (ops.size-(i+1)) (i+1) A9;have bk:=aw.step st2;refine ih (listed.setIfInBounds i true) (i+1) dw ρ' ρ' _ C C bh bu bm ⟨u1,u2,bk.nh,u3⟩ u4 (St.trans (Z.less (A (i+1) ops.size A9 (A6 _)).1) st1 st2) bk (fun q U N=>?_) (fun k hk N=>?_) (fun k p hk hp Y=>?_)
           (g.fresh (fun k hk Y=>?_) st2.hr ?_ ?_ (bn ρ' v' st2.ext hv))
          .rw[hX.1]at U;have h5:=D2.1 hX.2 q U;rcases F8 _ _▸h5 with h5|h5
           .exfalso;have h6:=bz q.1 (S3.1 h5);by_cases e:q.1=i
            .rw[e,W]at h6;cases h6
            .rw[u _ e,h6]at N;cases N
           .exact h5
          .rw[hX.1];by_cases e:k=i
           .subst e;rw[E]at N;cases N
           .rw[u k e]at N;exact ag k A9 N
          .rw[u k A9]at Y;exact J k p A9 hp Y
          .have Y:(listed.setIfInBounds i true).getD k false=true:=Y;rw[u k A9]at Y;obtain⟨p,hp⟩:=N0 (ops:=ops) (az k Y);exact wB (g.kind hp (J k p A9 hp Y))
          .cases cg:o.dst<;>simp[Act.put,inv.tsz]
          .rw[bX];exact inv.dfr.congr st2.ext fun _=>⟨rfl,rfl⟩
         unfold i5;simp only[y];rcases bo with⟨K,_⟩|⟨K,_⟩|⟨_,lg,hw,bw,cc⟩|⟨K,_⟩
         .rw[ax]at K;cases K
         .rw[ax]at K;cases K
         .have cr:=al (i+1) A9;have ba:Sat lg:=M5.le cr (by have:=n7 O bw;rw[Y2]at this;exact this);rw[cz lg true hw ba];simp only[if_true];have cj:At P base gl ρ ((M i).wLg lg) (M (i+1)).hi w':=(aw.wLg lg).less (A (i+1) ops.size A9 (A6 _)).1;refine lZ O bw cr cj ds fun v' ρ' C hv st2=>aj ρ' v' C hv ?_
          have cd:=St.wLg (m:=M i) aw.hr lg;exact St.trans (by have:=aw.fr;exact this.less (A (i+1) ops.size A9 (A6 _)).1) cd st2
         .rw[ax]at K;cases K
  obtain⟨up,u1,u2,u3,u4⟩:=oE ops B ops.size 0 A9;have br:∀ k,(Array.replicate ops.size false).getD k false=false:=fun k=>by
   simp only[B0,R8];split<;>simp
  refine main ops.size _ 0 up aq aq a0 w1 w1 (by simp) (by simp[List.countP_replicate]) (fun k o y hk=>by have hk:(Array.replicate ops.size false).getD k false=true:=hk;rw[br k]at hk;cases hk) ⟨u1,u2,av.nh,u3⟩ u4 (St.refl av.hr) av (fun q U=>by rw[g.x0]at U;cases U) (fun k hk=>by omega) (fun k o hk y Y=>by rw[br k]at Y;cases Y)
   (g.fresh (fun k _ Y=>by have Y:(Array.replicate ops.size false).getD k false=true:=Y;rw[br k]at Y;cases Y) av.hr ak.size (by rw[f1];exact ak.zr) fun t ht=>?_)
  have h0:∀ n,r8 (fun k=>(Array.replicate ops.size false).getD k false) (fun k=>(ops[k]?).bind (·.dst)) V (F 0).get t n=(F 0).get t:=by
   intro n;induction n with
   | zero=>rfl
   | succ n bp=>rw[r8,B1 (fun hh=>by rw[br n]at hh;exact absurd hh.1 (by simp)),bp]
  rw[h0,f1];exact ak.get t ht
end
end
section
open Go
variable [Ora]
section
variable {P:Program} {base gl:Nat}
def qW{f:FuncId}{e:Q0->Sem Value}{args:Q0}{w w':World}{v:Value}(g:P.funcs[f]? = some fn)(b:(fn.name == "runtime.NumGoroutine")=false)(d:fn.body=none)(i:Extern.findNext fn=none)(he:Extern.find fn=some e)
  (hr:(e args).run P w=.ok v w'):(callFunc f args).run P w=.ok (.value v) w':=by
 have a:fn.name ≠ "runtime.NumGoroutine":=by simpa using b
 simp[callFunc,A3,run_program,Result.andThen,g,a,d,i,he,mark,Sem.run,hr]
def iJ{k:EK}{vs:D0}{v:Value}(h:kX k vs m=some (v,m')) :
  (k=.noEscape/\vs=[v]/\m'=m) ∨
  (k=.indexByteString/\∃ s c,vs=[.string s,.int .u8 (.ofNat c)]/\v=.int .i64 (oQ s.data.toList (UInt8.ofNat c) 0)/\m'=m) ∨
  (k=.countString/\∃ s c,vs=[.string s,.int .u8 (.ofNat c)]/\v=.int .i64 (pA (UInt8.ofNat c) s.data.toList 0)/\m'=m) ∨
  (∃ e n,k=.makeNoZero e/\vs=[.int .i64 (.ofNat n)]/\n<=1000000000/\W6 m (.cells [] e false) (fun b=>.slice (some ⟨b,0,none⟩) n K9)=some (v,m')):=by
 unfold kX at h;split at h
 .cases h;exact .inl ⟨rfl,rfl,rfl⟩
 .cases h;exact .inr (.inl ⟨rfl,_,_,rfl,rfl,rfl⟩)
 .cases h;exact .inr (.inr (.inl ⟨rfl,_,_,rfl,rfl,rfl⟩))
 .obtain⟨h1,h⟩:=A2 h;exact .inr (.inr (.inr ⟨_,_,rfl,rfl,A1 h1,h⟩))
 .cases h
def qX{k:EK}{vs:D0}{v:Value}(h:(FnC.mk (kX k)).run vs m=some (v,m')):m.lg.le m'.lg:=by
 have h:kX k vs m=some (v,m'):=h;rcases iJ h with⟨_,_,rfl⟩|⟨_,_,_,_,_,rfl⟩|⟨_,_,_,_,_,rfl⟩|⟨_,_,_,_,_,h⟩
 .exact .refl _
 .exact .refl _
 .exact .refl _
 .obtain⟨_,_,rfl⟩:=J8 h;exact .refl _
def CG{f:FuncId}(d:P.funcs[f]? = some fn)(a:(fn.name == "runtime.NumGoroutine")=false)(g:fn.body=none)(e:Extern.findNext fn=none)(he:Extern.find fn=some Extern.AbiNoEscape.same):gK P base gl f ⟨kX .noEscape⟩:=by
 refine⟨fun vs m m' v hr=>qX hr,?_⟩;intro ρ m m' w vs vs' v hr k b j;have hr:kX .noEscape vs m=some (v,m'):=hr;rcases iJ hr with⟨_,rfl,rfl⟩|⟨h,_⟩|⟨h,_⟩|⟨_,_,h,_⟩
 .obtain⟨v',l,rfl,h1,i⟩:=j.tail;cases i.nil_inv;exact .inr ⟨v',ρ,w,qW d a g e he rfl,h1,.refl b.hr⟩
 .cases h
 .cases h
 .cases h
def wS(c:UInt8):∀ (l:List UInt8) (k:Nat),oQ l c k=if Lib.indexByte l c == -1 then -1 else Lib.indexByte l c+k
 | [],k=>rfl
 | x::r,k=>by
   have f:=Lib.indexByte_ge r c;have b:=wS c r (k+1);rw[oQ,Lib.indexByte];by_cases e:x=c
   .subst e;simp
   .have d:(x == c)=false:=by simpa using e
    simp only[d,U8 e,D3];rw[b];by_cases h:Lib.indexByte r c = -1
    .simp[h]
    .have a:(Lib.indexByte r c == -1)=false:=by simpa using h
     have h3:(Lib.indexByte r c+1 == -1)=false:=by simp;omega
     simp only[a,h3,G9,if_false];omega
def GE(c:UInt8)(l:List UInt8):oQ l c 0=Lib.indexByte l c:=by
 rw[wS];by_cases h:Lib.indexByte l c = -1
 .simp[h]
 .have a:(Lib.indexByte l c == -1)=false:=by simpa using h
  simp[a]
def kZ(c:UInt8):∀ (l:List UInt8) (n:Nat),pA c l n=n+l.count c
 | [],n=>rfl
 | x::r,n=>by
   rw[pA,List.count_cons];by_cases e:x=c
   .subst e;simp only[decide_true,D7,E1,beq_self_eq_true,if_true];rw[kZ x r (n+1)];omega
   .have a:(x == c)=false:=by simpa using e
    simp only[U8 e,D3,a,G9,if_false];rw[kZ c r n];omega
def zH{f:FuncId}(e:P.funcs[f]? = some fn)(a:(fn.name == "runtime.NumGoroutine")=false)(i:fn.body=none)(g:Extern.findNext fn=none)(he:Extern.find fn=some Extern.BytealgIndexByte.indexByte):gK P base gl f ⟨kX .indexByteString⟩:=by
 refine⟨fun vs m m' v hr=>qX hr,?_⟩;intro ρ m m' w vs vs' v hr l b k;have hr:kX .indexByteString vs m=some (v,m'):=hr;rcases iJ hr with⟨h,_⟩|⟨_,s,c,rfl,rfl,rfl⟩|⟨h,_⟩|⟨_,_,h,_⟩
 .cases h
 .obtain⟨v1,r1,rfl,h1,j⟩:=k.tail;obtain⟨v2,r2,rfl,h3,d⟩:=j.tail;cases d.nil_inv;cases R3 h1;cases H8 h3;refine .inr ⟨_,ρ,w,qW e a i g he (Lib.run_indexByteString s (.ofNat c) w),?_,.refl b.hr⟩;rw[GE];exact .pure rfl
 .cases h
 .cases h
def tO{f:FuncId}(e:P.funcs[f]? = some fn)(a:(fn.name == "runtime.NumGoroutine")=false)(i:fn.body=none)(g:Extern.findNext fn=none)(he:Extern.find fn=some Extern.BytealgCount.count):gK P base gl f ⟨kX .countString⟩:=by
 refine⟨fun vs m m' v hr=>qX hr,?_⟩;intro ρ m m' w vs vs' v hr l b k;have hr:kX .countString vs m=some (v,m'):=hr;rcases iJ hr with⟨h,_⟩|⟨h,_⟩|⟨_,s,c,rfl,rfl,rfl⟩|⟨_,_,h,_⟩
 .cases h
 .cases h
 .obtain⟨v1,r1,rfl,h1,j⟩:=k.tail;obtain⟨v2,r2,rfl,h3,d⟩:=j.tail;cases d.nil_inv;cases R3 h1;cases H8 h3;refine .inr ⟨_,ρ,w,qW e a i g he (Lib.run_countString s (.ofNat c) w),?_,.refl b.hr⟩;rw[kZ,D8];exact .pure rfl
 .cases h
def uW{f:FuncId}{ps:Array TypeId}{t e:TypeId}(l:P.funcs[f]? = some fn)(g:(fn.name == "runtime.NumGoroutine")=false)(s:fn.body=none)(q:Extern.findNext fn=none)(he:Extern.find fn=some (Extern.BytealgMakeNoZero.makeNoZero ps #[t]))
  (hu:P.underlying t=some (.slice e)) (hi:(P.info? e).map (·.size)=some 1):gK P base gl f ⟨kX (.makeNoZero e)⟩:=by
 refine⟨fun vs m m' v hr=>qX hr,?_⟩;intro ρ m m' w vs vs' v hr A a y;have hr:kX (.makeNoZero e) vs m=some (v,m'):=hr;rcases iJ hr with⟨h,_⟩|⟨h,_⟩|⟨h,_⟩|⟨e',n,h,rfl,z,hr⟩
 .cases h
 .cases h
 .cases h
 .cases h;obtain⟨v1,r1,rfl,h1,j⟩:=y.tail;cases j.nil_inv;cases H8 h1;obtain⟨cs,d,hle,_⟩:=Lib.run_makeNoZero (P:=P) w ps t e hu n A9;obtain⟨k,p,x⟩:=bH (wd:=w.drew.drew) (fz:=(0,0)) (cap:=cs.size) (C:=cs) (cs':=[]) a.hr a.bs hr a.fr (.nil) (fun i u hi=>by simp at hi) NF.zero
   (fun inf j=>by rw[j]at hi;have hi:some inf.size=some 1:=hi;have hi:=A5 hi;rw[hi];omega) ⟨rfl,rfl,rfl⟩ rfl
  refine .inr ⟨_,_,_,qW l g s q he d,?_,x⟩;rw[k]
  have:=VR.op (ρ:=upd ρ m.n (lc w.heap.size 0 cs.size)) (b:=m.n) (o:=0) (n:=n) (m:=K9) (m':=cs.size) p (A6 _) hle (fun _ _=>rfl)
  simpa using this
end
end
section
open Go
variable [Ora]
structure uH (P:Program) (f:FuncId) (k:EK):Prop where
 row:∃ fn,P.funcs[f]? = some fn/\(fn.name == "runtime.NumGoroutine")=false/\fn.body=none/\Extern.findNext fn=none /\
  ((k=.noEscape/\Extern.find fn=some Extern.AbiNoEscape.same)∨(k=.indexByteString/\Extern.find fn=some Extern.BytealgIndexByte.indexByte)∨(k=.countString/\Extern.find fn=some Extern.BytealgCount.count) ∨
    (∃ e ps t,k=.makeNoZero e/\Extern.find fn=some (Extern.BytealgMakeNoZero.makeNoZero ps #[t])/\P.underlying t=some (.slice e)/\(P.info? e).map (·.size)=some 1))
def uH.ok{P:Program}{f:FuncId}{k:EK}{base gl:Nat}(h:uH P f k):gK P base gl f ⟨kX k⟩:=by
 obtain⟨fn,h1,b,h3,d,a⟩:=h.row;rcases a with⟨rfl,a⟩|⟨rfl,a⟩|⟨rfl,a⟩|⟨e,ps,t,rfl,a,g,i⟩
 .exact CG h1 b h3 d a
 .exact zH h1 b h3 d a
 .exact tO h1 b h3 d a
 .exact uW h1 b h3 d a g i
def xB:∀ {l:List (FuncId×EK)} {f:FuncId} {k:EK},DM l f=some k->(f,k) ∈ l
 | (g,j)::r,f,k,h=>by
   rw[DM]at h;cases e:Nat.beq g f with
   | true =>
     rw[e]at h;cases h;rw[A0 e];exact .head _
   | false =>
     rw[e]at h;exact .tail _ (xB h)
theorem VS{P:Program}{ext:List (FuncId×EK)}{gl base:Nat}{con:FuncId->Option FnC}{lp:FuncId->LpT}(hm:P.follows .mixedOrders=true)(a:AH P)(he:∀ p ∈ ext,uH P p.1 p.2)
  (d:∀ f c,con f=some c->gK P base gl f c) (b:∀ f fn body,P.funcs[f]? = some fn->fn.body=some body->EJ P base gl fn.ntmps body (lp f)) :
  WJ ⟨P,ext,gl,con,lp⟩ base :=
 { names:=a,ext:=fun f k fn _ _ h=>(he _ (xB h)).ok,con:=d,lp:=b,draws:=fun _ h=>QY hm h }
end
section
open Go
inductive Sh where
 | s (t:Nat)
 | a (ts:List Nat)
def KH(t:Nat)(u:U):N7:=if F3 u=t then toV u else none
def TO:F9->List U->Option (D0×List U)
 | [],us=>some ([],us)
 | t::ts,u::us=>match KH t u,TO ts us with
   | some v,some (vs,r)=>some (v::vs,r)
   | _,_=>none
 | _::_,[]=>none
def WM:Sh->List U->Option (Value×List U)
 | .s t,u::us=>match KH t u with
   | some v=>some (v,us)
   | none=>none
 | .s _,[]=>none
 | .a ts,us=>match TO ts us with
   | some (vs,r)=>some (.agg ⟨vs⟩,r)
   | none=>none
def ZA:List Sh->List U->Option D0
 | [],[]=>some []
 | [],_::_=>none
 | h::hs,us=>match WM h us with
   | some (v,r)=>match ZA hs r with
     | some vs=>some (v::vs)
     | none=>none
   | none=>none
def tup:D0->Value
 | [v]=>v
 | vs=>.tuple ⟨vs⟩
structure nU (w w':World):Prop where
 os:w'.os=w.os/\w'.tape=w.tape/\w'.output=w.output
 size:w.heap.size<=w'.heap.size
 keep:∀ k,k<w.heap.size->w'.heap[k]? = w.heap[k]?
def GOk(G:Nat->Option Obj)(w:World):Prop:=∀ k o,G k=some o->w.heap[k]? = some o
def GOk.lt{G:Nat->Option Obj}{w:World}(h:GOk G w){k:Nat}{o:Obj}(hk:G k=some o):k<w.heap.size:=by
 have:=h k o hk;rcases F2 k w.heap.size with h1|h1
 .exact h1
 .rw[Array.getElem?_eq_none h1]at this;cases this
abbrev X9:=List U->Option (Nat×List U)
def Sh.tags:Sh->F9
 | .s t=>[t]
 | .a b=>b
def vM:List Sh->F9
 | []=>[]
 | s::ss=>s.tags++vM ss
def Sh.n(s:Sh):Nat:=s.tags.length
def shN:List Sh->Nat
 | []=>0
 | h::hs=>h.n+shN hs
def iM(a:List Sh):Bool:=(vM a).any (Nat.ble 10)
inductive ShR (R:Nat->Option Obj):Sh->List U->Value->Prop
 | s {t u v} (h:Enc R u v) (ht:F3 u=t):ShR R (.s t) [u] v
 | a {ts us cs} (h:W8 R us cs) (ht:us.map F3=ts):ShR R (.a ts) us (.agg ⟨cs⟩)
inductive ShL (R:Nat->Option Obj):List Sh->List U->D0->Prop
 | nil:ShL R [] [] []
 | cons {s ss us us2 v vs} (h:ShR R s us v) (k:ShL R ss us2 vs):ShL R (s::ss) (us++us2) (v::vs)
def W8.append{R:Nat->Option Obj}{us a:List U}{vs:D0}(h:W8 R us vs)(k:W8 R a vs2):W8 R (us++a) (vs++vs2):=by
 refine⟨by simp[h.1,k.1],fun i u v h1 d=>?_⟩;rcases F2 i us.length with b|b
 .rw[E5 b]at h1;rw[E5 (h.1▸b)]at d;exact h.2 i u v h1 d
 .rw[D5 b]at h1;rw[D5 (h.1▸b),<- h.1]at d;exact k.2 _ u v h1 d
def W8.split{R:Nat->Option Obj}:∀ {vs vs2:D0} {us:List U},W8 R us (vs++vs2)->∃ a b,us=a++b/\W8 R a vs/\W8 R b vs2
 | [],vs2,us,h=>⟨[],us,rfl,.nil,h⟩
 | v::vs,vs2,[],h=>by have:=h.1;simp at this
 | v::vs,vs2,u::us,h=>by
   obtain⟨a,b,rfl,h1,d⟩:=W8.split (vs:=vs) (vs2:=vs2) (us:=us) ⟨by have:=h.1;simpa using this,fun i x y e a2=>h.2 (i+1) x y (by simpa using e) (by simpa using a2)⟩;exact⟨u::a,b,rfl,.cons (h.2 0 u v rfl rfl) h1,d⟩
def W8.mono{R d:Nat->Option Obj}{us:List U}{vs:D0}(h:W8 R us vs)(k:Sub R d):W8 d us vs:=⟨h.1,fun i u v a b=>(h.2 i u v a b).mono k⟩
def QV{R:Nat->Option Obj}{us:List U}{vs:D0}(h:W8 R us vs)(b:vs2.length=us.length)(k:∀ (i:Nat) (u:U) (v:Value),us[i]? = some u->vs2[i]? = some v->toV u=some v):vs=vs2:=by
 refine V6 fun i=>?_
 rcases F2 i us.length with hi|hi
 .have h1:us[i]? = some us[i]:=A4 hi;have a:vs[i]? = some (vs[i]'(h.1▸hi)):=A4 _;have h3:vs2[i]? = some (vs2[i]'(b▸hi)):=A4 _;rw[a,h3,jQ (h.2 i _ _ h1 a) (k i _ _ h1 h3)]
 .rw[P8 (by rw[<- h.1];exact hi),P8 (by rw[b];exact hi)]
def AO:∀ {b:F9} {us r:List U} {vs:D0},TO b us=some (vs,r)->∃ a,us=a++r/\vs.length=a.length/\a.length=b.length/\∀ (i:Nat) (u:U) (v:Value),a[i]? = some u->vs[i]? = some v->toV u=some v
 | [],us,r,vs,h=>by cases h;exact⟨[],rfl,rfl,rfl,fun i u v h=>by simp at h⟩
 | t::b,u::us,r,vs,h=>by
   unfold TO at h;split at h
   .rename_i v f l h1 j;cases h;obtain⟨a,rfl,k,e,g⟩:=AO j;unfold KH at h1;split at h1
    .refine⟨u::a,rfl,by simp[k],by simp[e],fun i x y d a2=>?_⟩;cases i with
     | zero=>simp at d a2;subst d;subst a2;exact h1
     | succ i=>exact g i x y (by simpa using d) (by simpa using a2)
    .cases h1
   .cases h
 | _::_,[],_,_,h=>by cases h
def kL{R:Nat->Option Obj}:∀ {i:List Sh} {us:List U} {vs vs2:D0},ShL R i us vs->ZA i us=some vs2->vs=vs2
 | [],us,vs,vs2,h,k=>by cases h;cases k;rfl
 | s::i,us,vs,vs2,h,k=>by
   cases h with
   | cons h1 n =>
     rename_i f d v vs;unfold ZA at k;split at k
     .rename_i v1 r g;split at k
      .rename_i q o;cases k;have l:f++d=f++d:=rfl;cases h1 with
       | s he j =>
         rename_i t u;have b:(match KH t u with|some v=>some (v,d)|none=>none)=some (v1,r):=g;cases e:KH t u with
         | none=>rw[e]at b;cases b
         | some w =>
           rw[e]at b;cases b;unfold KH at e;rw[B2 j]at e;rw[jQ he e,kL n o]
       | a he j =>
         rename_i D cs;simp only[WM]at g;split at g
         .rename_i z E A;cases g;obtain⟨a,C,p,y,x⟩:=AO A;have hlen:a.length=f.length:=by rw[y,<- j];simp
          obtain⟨rfl,rfl⟩:=List.append_inj C hlen.symm;rw[QV he p x,kL n o]
         .cases g
      .cases k
     .cases k
def iR(P:Program)(G:Nat->Option Obj)(f:FuncId)(ps:List Sh)(spec:X9)(rs:List Sh):Prop :=
 ∀ (us outs:List U) (w:World) (vs:List Value) (R:Nat->Option Obj),ShL R ps us vs->spec us=some (0,outs)->GOk G w->GOk R w ->
  (callFunc f ⟨vs⟩).run P w=.ok (.enter f ⟨vs⟩) w/\Calls P f ⟨vs⟩ w (fun e w'=>∃ r a,ShL a rs outs r/\e=.returned (tup r)/\nU w w'/\GOk a w'/\∀ k o,a k=some o->w.heap.size<=k∨∃ o',R k=some o')
def unA:List Sh->D0->Option D0
 | [],[]=>some []
 | .s _::ss,v::vs=>match unA ss vs with
   | some r=>some (v::r)
   | none=>none
 | .a ts::ss,.agg cs::vs=>bif Nat.beq cs.toList.length ts.length then match unA ss vs with
   | some r=>some (cs.toList++r)
   | none=>none else none
 | _,_=>none
def lW(P:Program)(ps:List Sh)(vs:List Value)(m:Mem):Option (D0×Mem) :=
 match unA ps vs with
 | some cs=>match uK (tdP P) (vM ps) cs m with
   | some (xs,[],m)=>some (xs,m)
   | some (xs,gs,m)=>match fS gs m with
     | some (_,m)=>some (xs,m)
     | none=>none
   | none=>none
 | none=>none
def IT(i t b:Nat):Value:=bif Nat.blt t 10 then hole i t else dat b i t
def MQ:F9->Nat->Nat->D0
 | [],_,_=>[]
 | t::ts,i,b=>IT i t b::MQ ts (i+1) b
def YZ:Sh->Nat->Nat->Value
 | .s t,i,b=>IT i t b
 | .a ts,i,b=>.agg ⟨MQ ts i b⟩
def rO:List Sh->Nat->Nat->D0
 | [],_,_=>[]
 | h::hs,i,b=>YZ h i b::rO hs (i+h.n) b
def KY(rs:List Sh)(nx:Nat)(m:Mem):Res :=
 bif iM rs then match dM m fun b m=>some (tup (rO rs nx b),b,m)with
  | some (v,_,m)=>some (v,m)
  | none=>none
 else some (tup (rO rs nx 0),m)
def A2I(m:Mem)(hi:Nat)(v:Value)(lg:Lg):Res :=
 match m with
 | ⟨H,n,W,_,_⟩=>some (v,⟨H,n,W,hi,lg⟩)
def VV(P:Program)(ps:List Sh)(spec:X9)(rs:List Sh):FnC:=⟨fun vs m =>
 match lW P ps vs m with
 | some (xs,⟨H,n,W,hi,⟨nx,pi,log⟩⟩)=>H9 nx fun nx=>O6 xs fun xs=>H9 (nx+shN rs) fun a=>bif iM rs then KY rs nx ⟨H,n,W,hi,⟨a,pi,.con spec xs nx 0 (shN rs)::log⟩⟩else A2I m hi (tup (rO rs nx 0)) ⟨a,pi,.con spec xs nx 0 (shN rs)::log⟩
 | none=>none⟩
def JH{P:Program}{ps:List Sh}{spec:X9}{rs:List Sh}{vs:D0}{v:Value}(h:(VV P ps spec rs).run vs m=some (v,m')) :
  ∃ xs m1,lW P ps vs m=some (xs,m1)/\((iM rs=true/\KY rs m1.lg.nx (m1.wLg ⟨m1.lg.nx+shN rs,m1.lg.pi,.con spec xs m1.lg.nx 0 (shN rs)::m1.lg.log⟩)=some (v,m'))∨(iM rs=false/\v=tup (rO rs m1.lg.nx 0)/\m'=⟨m.H,m.n,m.W,m1.hi,⟨m1.lg.nx+shN rs,m1.lg.pi,.con spec xs m1.lg.nx 0 (shN rs)::m1.lg.log⟩⟩)):=by
 unfold VV at h;simp only at h;split at h
 .rename_i xs H n W hi nx pi log e;simp only[E1,G6]at h;refine⟨xs,_,e,?_⟩;cases a:iM rs with
  | true=>rw[a]at h;exact .inl ⟨rfl,h⟩
  | false =>
    rw[a]at h;obtain⟨g,i,f,d,b⟩:=m;cases h;exact .inr ⟨rfl,rfl,rfl⟩
 .cases h
variable [Ora]
def EP{ρ:Ren}:∀ {b:List Sh} {vs vs' cs:D0},unA b vs=some cs->LR ρ vs vs'->∃ cs',unA b vs'=some cs'/\LR ρ cs cs'
 | [],[],vs',cs,h,hl=>by cases h;rw[hl.nil_inv];exact⟨[],rfl,.nil⟩
 | [],_::_,_,_,h,_=>by cases h
 | .s t::b,[],_,_,h,_=>by cases h
 | .a t::b,[],_,_,h,_=>by cases h
 | .s t::b,v::vs,vs',cs,h,hl=>by
   obtain⟨v',k,rfl,h1,f⟩:=hl.tail;unfold unA at h;split at h
   .rename_i r hr;cases h;obtain⟨cs',g,d⟩:=EP hr f;exact⟨v'::cs',by simp[unA,g],.cons h1 d⟩
   .cases h
 | .a ts::b,v::vs,vs',cs,h,hl=>by
   obtain⟨v',k,rfl,h1,f⟩:=hl.tail;cases v with
   | agg c =>
     unfold unA at h;obtain⟨hlen,h⟩:=A2 h;split at h
     .rename_i r hr;cases h;obtain⟨cs',g,d⟩:=EP hr f;obtain⟨i,rfl,j⟩:=S0 h1;refine⟨i++cs',?_,j.append d⟩;have e:Nat.beq i.length ts.length=true:=by rw[<- j.1];exact hlen
      simp[unA,g,e]
     .cases h
   | _=>cases h
def bB{R:Nat->Option Obj}:∀ {e:List Sh} {vs cs:D0} {us:List U},unA e vs=some cs->W8 R us cs->us.map F3=vM e->ShL R e us vs
 | [],[],cs,us,h,he,ht=>by
   cases h;have:us=[]:=D9.1 he.1;subst this;exact .nil
 | [],_::_,_,_,h,_,_=>by cases h
 | .s t::e,[],_,_,h,_,_=>by cases h
 | .a t::e,[],_,_,h,_,_=>by cases h
 | .s t::e,v::vs,cs,us,h,he,ht=>by
   unfold unA at h;split at h
   .rename_i r hr;cases h;obtain⟨a,b,rfl,d,f⟩:=W8.split (vs:=[v]) (vs2:=r) he
    match a,d with
    | [u],d =>
      simp only[List.singleton_append,B8,vM,Sh.tags,Y1,Q8,I4]at ht;exact .cons (.s (d.2 0 u v rfl rfl) ht.1) (bB hr f ht.2)
    | [],d=>have:=d.1;simp at this
    | _::_::_,d=>have:=d.1;simp at this
   .cases h
 | .a ts::e,v::vs,cs,us,h,he,ht=>by
   cases v with
   | agg c =>
     unfold unA at h;obtain⟨hlen,h⟩:=A2 h;have hlen:=A0 hlen;split at h
     .rename_i r hr;cases h;obtain⟨a,b,rfl,d,f⟩:=W8.split he;simp only[M6,vM,Sh.tags]at ht;obtain⟨t1,t2⟩:=List.append_inj ht (by simp[d.1,hlen]);obtain⟨l⟩:=c;exact .cons (.a d t1) (bB hr f t2)
     .cases h
   | _=>cases h
section
variable {P:Program} {base gl:Nat}
def A2e(ρ:Ren)(m:Mem)(R:Nat->Option Obj):Prop:=∀ k o,R k=some o->∃ id ab l,id<=G2/\Hp.get m.H id=some ab/\ρ id=some l/\Tf ab l k/\ab.rw=false
def AR{ρ:Ren}{w:World}{ps:List Sh}{vs xs:D0}(h:HR P base ρ m.H w)(a:lW P ps vs m=some (xs,m'))(f:I2 ρ m.n m'.hi)(D:LR ρ vs vs')(z:Sat m'.lg) :
  ∃ ρ' R,St P base ρ ρ' m m' w w/\m.lg.le m'.lg/\ShL R ps (xs.map (D4 Ora.env)) vs'/\GOk R w/\A2e ρ' m' R:=by
 unfold lW at a;split at a
 .rename_i cs u;obtain⟨cs',C,x⟩:=EP u D;split at a
  .rename_i j m1 i;cases a;obtain⟨ρ',e,a2,a3,a4,a5,s⟩:=eN R5 h i f x z;exact⟨ρ',fun _=>none,e,a2,bB C (s _ fun b p=>by cases p) a5,(fun k o hk=>by cases hk),(fun k o hk=>by cases hk)⟩
  .rename_i j gs m1 i;split at a
   .rename_i g m2 y;cases a;have t:=L2 y;obtain⟨E,e,a2,a3,a4,a5,s⟩:=eN R5 h i (f.less t.1) x (by rw[<- t.2.1];exact z);obtain⟨ρ2,lg,v,L,K,q,A,J⟩:=cD e.hr y (f.step e);have d:=(v.hr.atl q A).1.2;exact⟨ρ2,lg.G,St.trans f e v,by rw[t.2.1];exact a2,bB C (s _ fun b p l I=>J b p l I) a5,d,fun k o hk=>⟨g,_,lg,v.hr.dom _ _ q,A,q,⟨rfl,.inr ⟨rfl,o,hk⟩⟩,rfl⟩⟩
   .cases a
  .cases a
 .cases a
def DC{ρ:Ren}{R:Nat->Option Obj}{i t b:Nat}{u:U}{v:Value}(h:Enc R u v)(j:F3 u=t)(he:Ora.env i=u)(k:10<=t->ρ b=some (gJ R)):VR ρ (IT i t b) v:=by
 unfold IT;cases e:Nat.blt t 10 with
 | true =>
   have a:t<10:=A1 e;obtain⟨v1,g,_,_⟩:=HG (u:=u) A9
   have:=jQ h g;subst this;exact .hole (by rw[he];exact g) (by rw[he];exact j)
 | false =>
   have a:10<=t:=by
    rcases F2 t 10 with d|f
    .rw[show Nat.blt t 10=true from C4 d]at e;cases e
    .exact f
   exact .dat (k a) (by rw[he];exact h) (by rw[he];exact j) a (iL h)
def AN{ρ:Ren}{R:Nat->Option Obj}{b:Nat}:∀ {a:F9} {us:List U} {cs:D0} {i:Nat},W8 R us cs->us.map F3=a->(∀ j u,us[j]? = some u->Ora.env (i+j)=u)->(∀ t ∈ a,10<=t->ρ b=some (gJ R))->LR ρ (MQ a i b) cs
 | [],us,cs,i,h,ht,he,hb=>by
   have:us=[]:=by cases us with|nil=>rfl|cons _ _=>simp at ht
   subst this;have:cs=[]:=D9.1 h.1.symm;subst this;exact .nil
 | t::a,[],cs,i,h,ht,he,hb=>by simp at ht
 | t::a,u::us,[],i,h,ht,he,hb=>by have:=h.1;simp at this
 | t::a,u::us,c::cs,i,h,ht,he,hb=>by
   simp only[B8,I4]at ht;refine .cons (DC (h.2 0 u c rfl rfl) ht.1 (he 0 u rfl) (hb t (.head _))) (AN ⟨by have:=h.1;simpa using this,fun j x y e a2=>h.2 (j+1) x y (by simpa using e) (by simpa using a2)⟩ ht.2 (fun j x f=>?_) fun g d=>hb g (.tail _ d))
   have:=he (j+1) x (by simpa using f);rw[show i+1+j=i+(j+1) by omega];exact this
def lS{ρ:Ren}{R:Nat->Option Obj}{b:Nat}:∀ {g:List Sh} {us:List U} {vs:D0} {i:Nat},ShL R g us vs->(∀ j u,us[j]? = some u->Ora.env (i+j)=u)->(iM g=true->ρ b=some (gJ R))->LR ρ (rO g i b) vs/\us.length=shN g
 | [],us,vs,i,h,he,hb=>by cases h;exact⟨.nil,rfl⟩
 | s::g,us,vs,i,h,he,hb=>by
   cases h with
   | cons h1 x =>
     rename_i f y v vs;have p:∀ t ∈ s.tags,10<=t->ρ b=some (gJ R):=fun t d e=>hb (N2.2 ⟨t,B7.2 (.inl d),C4 e⟩)
     have o:iM g=true->ρ b=some (gJ R):=fun w=>by
      obtain⟨t,d,e⟩:=N2.1 w;exact hb (N2.2 ⟨t,B7.2 (.inr d),e⟩)
     have q:f.length=s.n:=by
      cases h1 with
      | s _ _=>rfl
      | a _ d=>show _=List.length _;rw[<- d];simp[Sh.tags]
     obtain⟨g1,g2⟩:=lS (i:=i+s.n) x (fun j u l=>by
      have:=he (f.length+j) u (by rw[D5 A9,S4];exact l);rw[<- q,Z8];exact this) o
     refine⟨.cons ?_ g1,by simp[shN,q,g2]⟩;have k:∀ j u,f[j]? = some u->Ora.env (i+j)=u:=fun j u l=>he j u (by rw[E5 (A7.1 l).1];exact l)
     cases h1 with
     | s h d=>exact DC h d (by have:=k 0 _ rfl;simpa using this) (p _ (.head _))
     | a h d =>
       have:=AN (b:=b) h d k p;exact .agg this.1 this.2
def yE{ρ:Ren}{vs:D0}(h:LR ρ vs vs'):VR ρ (tup vs) (tup vs'):=by
 match vs,vs',h with
 | [],vs',h=>rw[h.nil_inv];exact .tuple (a:=[]) (a':=[]) rfl (fun i v v' h1 _=>by simp at h1)
 | [v],vs',h =>
   obtain⟨v',d,rfl,h1,b⟩:=h.tail;cases b.nil_inv;exact h1
 | v::u::r,vs',h =>
   obtain⟨v',d,rfl,h1,b⟩:=h.tail;obtain⟨f,r2,rfl,h3,e⟩:=b.tail;exact .tuple h.1 h.2
def St.grown{ρ:Ren}{w w':World}(h:HR P base ρ m.H w)(g:nU w w'):St P base ρ ρ m m w w' :=
 ⟨fun _ _ h=>h,fun b l h1 a=>(by rw[h1]at a;cases a),A6 _,A6 _,fun h=>h,
  ⟨h.dom,fun id hid ab d=>by
    obtain⟨l,h1,a,h3⟩:=h.at_ id hid ab d;exact⟨l,h1,a.mono (fun _ _ h=>h) (fun k hk=>g.keep k (a.tc hk)),h3⟩⟩,
  fun _ h=>h,fun b h1 a=>absurd h1 a,fun k hk _=>g.keep k hk,g.size,g.os,fun b l h1 a=>(by rw[h1]at a;cases a),fun _ _ _ _=>rfl,fun _ h=>.inr h⟩
def St.grownLg{ρ:Ren}{w w':World}(h:HR P base ρ m.H w)(g:nU w w')(lg:Lg):St P base ρ ρ m (m.wLg lg) w w':=by
 obtain⟨H,n,W,hi,l⟩:=m;have r:=St.grown (m:=⟨H,n,W,hi,l⟩) h g;exact⟨r.ext,r.new,r.nle,r.hle,r.nhi,r.hr,r.wsub,r.wrw,r.keep,r.size,r.os,r.blk,r.same,r.tch⟩
def St.ret{ρ:Ren}{w w':World}{G:Nat->Option Obj}(h:HR P base ρ m.H w)(g:nU w w')(J:W6 m .frz (fun _=>undef)=some (undef,m1))(I:I2 ρ m.n m1.hi)(N:GOk G w')
  (D:∀ k o,G k=some o->w.heap.size<=k∨∃ id ab l,id<=G2/\Hp.get m.H id=some ab/\ρ id=some l/\Tf ab l k/\ab.rw=false):upd ρ m.n (gJ G) m.n=some (gJ G)/\St P base ρ (upd ρ m.n (gJ G)) m m1 w w':=by
 obtain⟨hle,_,rfl⟩:=J8 J;have s:ρ m.n=none:=I m.n (A6 _) (J2 _ _).2;have i:=T8 (l:=gJ G) s;refine⟨K0 _ _ _,i,fun b q h1 f=>?_,by simp,(J2 _ _).1,fun _=>V4 (J2 _ _).2,⟨fun b q C=>?_,fun id hid a d=>?_⟩,fun b K=>K,fun b h1 f=>absurd h1 f,fun q C _=>g.keep q C,g.size,g.os,fun b q h1 f j=>?_,fun id hid h1 f=>?_,fun q ⟨id,a,l,hid,d,u,E⟩=>?_⟩
 .obtain⟨rfl,rfl⟩:=R0 h1 f;exact⟨A6 _,H5 _⟩
 .cases h0:ρ b with
  | some L=>exact h.dom b L h0
  | none=>obtain⟨rfl,rfl⟩:=R0 C h0;exact hle
 .rw[E7 _ _ _ _ hle hid]at d;by_cases e:id=m.n
  .rw[B2 e]at d;have d:=A5 d;subst d;subst e;exact⟨gJ G,K0 _ _ _,⟨rfl,N⟩,fun _ j=>(by cases j)⟩
  .rw[B1 e]at d;obtain⟨l0,h1,f,h3⟩:=h.at_ id hid a d;refine⟨l0,i _ _ h1,f.mono i (fun k hk=>g.keep k (f.tc hk)),fun hr j=>⟨(h3 hr j).1,fun v p A l2 g1 g2 g3=>?_⟩⟩;rw[E7 _ _ _ _ hle p]at g1;by_cases y:v=m.n
   .subst y;rw[K0]at g2
    have:=A5 g2;subst this;rcases g3 with⟨_,g3,_⟩|⟨_,o,g3⟩
    .cases g3
    .rcases D _ o g3 with x|⟨t,a3,z,q1,q2,q3,q4,q5⟩
     .have:=f.tc (.inl ⟨AB.rw_on hr,j,rfl⟩);omega
     .have:=(h3 hr j).2 t q1 a3 z q2 q3 q4.2;subst this;rw[d]at q2;have q2:=A5 q2;subst q2;rw[hr]at q5;cases q5
   .rw[B1 y]at g1;unfold upd at g2;rw[B1 y]at g2;exact(h3 hr j).2 v p A l2 g1 g2 g3
 .obtain⟨rfl,rfl⟩:=R0 h1 f;cases j
 .rw[E7 _ _ _ _ hle hid,B1];intro e;subst e;rcases f with f|f
  .omega
  .have f:upN m.hi m.n<=m.n:=f
   have:=(J2 m.hi m.n).2;omega
 .have d:Hp.get (m.H.set m.n (some .frz)) id=some a:=d;rw[E7 _ _ _ _ hle hid]at d;by_cases e:id=m.n
  .subst e;rw[B2 rfl]at d;have d:=A5 d;subst d;rw[K0]at u;have u:=A5 u;subst u;rcases E.2 with⟨_,h3,_⟩|⟨_,o,h3⟩
   .cases h3
   .rcases D _ o h3 with x|⟨t,a3,z,q1,q2,q3,q4,q5⟩
    .exact .inl x
    .exact .inr ⟨t,a3,z,q1,q2,q3,q4⟩
  .rw[B1 e]at d;unfold upd at u;rw[B1 e]at u;exact .inr ⟨id,a,l,hid,d,u,E⟩
def St.back{ρ:Ren}{w w':World}{hi:Nat}{lg:Lg}(h:HR P base ρ m.H w)(g:nU w w')(hh:m.hi<=hi):St P base ρ ρ m ⟨m.H,m.n,m.W,hi,lg⟩ w w':=by
 have r:=St.grownLg (m:=m) h g lg;refine⟨r.ext,fun b l h1 a=>(by rw[h1]at a;cases a),A6 _,hh,fun h=>B6 h hh,?_,fun _ h=>h,fun b h1 a=>absurd h1 a,fun k hk _=>g.keep k hk,g.size,g.os,fun b l h1 a=>(by rw[h1]at a;cases a),fun _ _ _ _=>rfl,fun _ h=>.inr h⟩
 have:=r.hr;rw[gM]at this;exact this
theorem VU{f:FuncId}{ps:List Sh}{spec:X9}{rs:List Sh}(h:iR P Ora.G f ps spec rs):gK P base gl f (VV P ps spec rs):=by
 have p:∀ {nx:Nat} {m m':Mem} {v:Value},iM rs=true->KY rs nx m=some (v,m')->m'.lg=m.lg/\m.hi<=m'.hi/\m.n<=m'.n:=fun{nx m m' v} a hr=>by
  unfold KY at hr;rw[a]at hr;simp only[D7]at hr;split at hr
  .rename_i z;cases hr;obtain⟨m2,q1,q2,_⟩:=N9 z;cases q2;obtain⟨_,_,rfl⟩:=J8 q1;exact⟨rfl,(J2 _ _).1,W9 _⟩
  .cases hr
 have d:∀ {vs xs:D0} {m m1:Mem},lW P ps vs m=some (xs,m1)->m.lg.le m1.lg/\m.hi<=m1.hi:=fun{vs xs m m1} h1=>by
  unfold lW at h1;split at h1
  .split at h1
   .rename_i a;cases h1;exact⟨(P2 R5 a).2.1,(P2 R5 a).1⟩
   .rename_i a;split at h1
    .rename_i J;cases h1;exact⟨by rw[(L2 J).2.1];exact(P2 R5 a).2.1,B6 (P2 R5 a).1 (L2 J).1⟩
    .cases h1
   .cases h1
  .cases h1
 refine⟨fun vs m m' v hr=>?_,fun ρ m m' w vs vs' v hr E g U=>.inl ?_⟩
 .obtain⟨xs,m1,h1,⟨a,i⟩|⟨a,_,rfl⟩⟩:=JH hr
  .rw[(p a i).1,Y2];exact(d h1).1.trans ⟨[_],rfl⟩
  .exact(d h1).1.trans ⟨[_],rfl⟩
 .obtain⟨xs,m1,h1,i⟩:=JH hr;have u:m'.lg=⟨m1.lg.nx+shN rs,m1.lg.pi,.con spec xs m1.lg.nx 0 (shN rs)::m1.lg.log⟩/\m1.hi<=m'.hi:=by
   rcases i with⟨a,i⟩|⟨a,_,rfl⟩
   .obtain⟨r1,r2,_⟩:=p a i;simp only[Y2,EN]at r1 r2;exact⟨r1,r2⟩
   .exact⟨rfl,A6 _⟩
  obtain⟨r1,r2⟩:=u;have s:U0.con spec xs m1.lg.nx 0 (shN rs) ∈ m'.lg.log:=by rw[r1];exact B4
  have C:Sat m1.lg:=M5.le E (by rw[r1];exact⟨[_],rfl⟩);obtain⟨t,R,x,a2,a3,a4,a5⟩:=AR g.hr h1 (g.fr.less r2) U C;obtain⟨outs,h3,Z,I⟩:=E _ s;obtain⟨N,W⟩:=h _ outs w vs' R a3 h3 (fun k o hk=>(g.gf k o hk).2) a4;refine⟨N,W.mono fun e w' ⟨r,Y,g1,g2,g3,g4,g5⟩=>?_⟩;rcases i with⟨a,i⟩|⟨a,rfl,rfl⟩
  .let j:Lg:=⟨m1.lg.nx+shN rs,m1.lg.pi,.con spec xs m1.lg.nx 0 (shN rs)::m1.lg.log⟩
   have i:KY rs m1.lg.nx (m1.wLg j)=some (v,m'):=i;have q:St P base ρ t m (m1.wLg j) w w:=St.trans (g.fr.less (by simpa using r2)) x (St.wLg x.hr j);have y:I2 t (m1.wLg j).n m'.hi:=by simpa using g.fr.step x
   unfold KY at i;rw[a]at i;simp only[D7]at i;split at i
   .rename_i v0 b m2 z;cases i;obtain⟨m3,q1,q2,_⟩:=N9 z;cases q2;obtain⟨O,K⟩:=St.ret (G:=Y) q.hr g3 q1 y g4 fun k o hk=>by
     rcases g5 k o hk with A|⟨o',D⟩
     .exact .inl A
     .obtain⟨id,ab,l,p1,Q,S,L,T⟩:=a5 k o' D;exact .inr ⟨id,ab,l,p1,by rw[gM];exact Q,S,L,T⟩
    exact⟨_,_,g2,yE (lS g1 I fun _=>O).1,St.trans g.fr q K⟩
   .cases i
  .exact⟨_,ρ,g2,yE (lS g1 I fun H=>by rw[a]at H;cases H).1,St.back g.hr g3 (d h1).2⟩
end
end
end Go.Sx
