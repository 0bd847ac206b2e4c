import Derived.Test.YtjdnjfnhdeplfaaX6
import Derived.Lib.Bytealg
import Derived.Lib.MakeNoZero
set_option linter.all false
set_option maxRecDepth 100000
set_option maxHeartbeats 4000000
namespace Go.Sx
open Go
variable {m m' m1 m2:Mem}{c:Cls}{r:Option (Nat×AB)}{rs:List Rec}{op:OpC}{fn:Func}{vs' vs2:D0}
section
open Go
variable [Ora]
def TN(ops:Array Oper)(X:Nat->Qs)(i:Nat)(o:Oper):Bool:=AV o.op i ((V7 ops.toList []).getD i []) ((V7 ops.toList []).drop (i+1)) (ops.toList.drop (i+1)) (X i)
structure Rg (P:Program) (base gl nt:Nat) (call:L4) (ops:Array Oper) (F:Nat->Fr) (M:Nat->Mem) (V:Nat->Value) (R:Nat->List Rec) (X:Nat->Qs) (B:Nat->Bool):Prop where
 st:∀ i o,ops[i]? = some o->AD P nt gl call ops.toList ((V7 ops.toList []).getD i []) (R i) (B i) o (F i) (F (i+1)) (M i) (M (i+1)) (V i)
 rc:∀ i o,ops[i]? = some o->(R (i+1)=R i/\∃ lg,M (i+1)=(M i).wLg lg)∨(B i=true/\R (i+1)=[])∨R (i+1)=⟨i,(M i).n,(M (i+1)).n⟩::R i
 qs:∀ i o,ops[i]? = some o->QsN (B i) i nt ops.toList (T5 P call o) ((V7 ops.toList []).getD i []) (R i) (F i) o (M i) (M (i+1)) (V i) (X i) (X (i+1))
 sb:∀ i o,ops[i]? = some o->B i=true->TN ops X i o=true
 x0:X 0=[]
 ok:BW ops.toList (V7 ops.toList []) ops.toList 0=true
structure Ph (ops:Array Oper) (B:Nat->Bool) (M:Nat->Mem) (lo up:Nat):Prop where
 le:lo<=up
 sz:up<=ops.size
 nh:(M lo).n<=(M lo).hi
 mx:∀ i o,lo<=i->i<up->ops[i]? = some o->B i=false
section
variable {P:Program} {base gl nt:Nat} {call:L4} {ops:Array Oper} {F:Nat->Fr} {M:Nat->Mem} {V:Nat->Value} {R:Nat->List Rec} {X:Nat->Qs} {B:Nat->Bool} {lo up:Nat}
def M9{i:Nat}(h:i<ops.size):∃ o,ops[i]? = some o:=⟨ops[i],by simp[h]⟩
def Rg.one(g:Rg P base gl nt call ops F M V R X B){i:Nat}{o:Oper}(k:ops[i]? = some o)(d:B i=false)(a:(M i).n<=(M i).hi):(M i).n<=(M (i+1)).n/\(M i).hi<=(M (i+1)).hi/\(M (i+1)).n<=(M (i+1)).hi/\(M (i+1)).W=(M i).W /\
  ∀ id,id<=G1->(id<(M i).n∨(M (i+1)).n<=id)->Hp.get (M (i+1)).H id=Hp.get (M i).H id:=by
 obtain⟨_,_,_,h⟩:=g.st i o k;rcases h with⟨_,lg,_,_,h⟩|⟨_,lg,l,_,_,h⟩|⟨h,_⟩|⟨_,_,lg,_,mv,m',_,_,_,b,hm⟩
 .rw[h];exact⟨A6 _,A6 _,a,rfl,fun _ _ _=>rfl⟩
 .rw[h];exact⟨A6 _,A6 _,a,rfl,fun _ _ _=>rfl⟩
 .rw[d]at h;cases h
 .obtain⟨h1,e,h3,j,_,_,_,f⟩:=CD hm a b;exact⟨h1,e,h3,j,fun id hid hh=>by rw[f id hid,B1 (by show ¬ ((M i).n<=id/\_);omega)];rfl⟩
def Rg.allD(g:Rg P base gl nt call ops F M V R X B)(a:Ph ops B M lo up):∀ d,lo+d<=up->(M lo).n<=(M (lo+d)).n/\(M lo).hi<=(M (lo+d)).hi/\(M (lo+d)).n<=(M (lo+d)).hi/\(M (lo+d)).W=(M lo).W /\
  ∀ id,id<=G1->(id<(M lo).n∨(M (lo+d)).n<=id)->Hp.get (M (lo+d)).H id=Hp.get (M lo).H id
 | 0,_=>⟨A6 _,A6 _,a.nh,rfl,fun _ _ _=>rfl⟩
 | d+1,h=>by
   obtain⟨h1,e,h3,j,f⟩:=g.allD a d A9;obtain⟨o,b⟩:=M9 (ops:=ops) (i:=lo+d) (by have:=a.sz;omega);obtain⟨s,k,p,q,l⟩:=g.one b (a.mx _ o A9 A9 b) h3;exact⟨B6 h1 s,B6 e k,p,q.trans j,fun id hid hh=>by
    rw[show lo+(d+1)=lo+d+1 by omega]at hh ⊢;rw[l id hid A9,f id hid A9]⟩
def Rg.all(g:Rg P base gl nt call ops F M V R X B)(a:Ph ops B M lo up){i:Nat}(h0:lo<=i)(h:i<=up):(M lo).n<=(M i).n/\(M lo).hi<=(M i).hi/\(M i).n<=(M i).hi/\(M i).W=(M lo).W /\
  ∀ id,id<=G1->(id<(M lo).n∨(M i).n<=id)->Hp.get (M i).H id=Hp.get (M lo).H id:=by
 have:=g.allD a (i-lo) A9
 rwa[show lo+(i-lo)=i by omega]at this
def Rg.mono(g:Rg P base gl nt call ops F M V R X B)(a:Ph ops B M lo up){i:Nat}(h0:lo<=i):∀ d,i+d<=up->(M i).n<=(M (i+d)).n/\(M i).hi<=(M (i+d)).hi/\∀ id,id<=G1->id<(M i).n->Hp.get (M (i+d)).H id=Hp.get (M i).H id
 | 0,_=>⟨A6 _,A6 _,fun _ _ _=>rfl⟩
 | d+1,h=>by
   obtain⟨h1,e,f⟩:=g.mono a h0 d A9;obtain⟨o,b⟩:=M9 (ops:=ops) (i:=i+d) (by have:=a.sz;omega);obtain⟨l,j,p,q,k⟩:=g.one b (a.mx _ o A9 A9 b) (g.all a (i:=i+d) A9 A9).2.2.1;exact⟨B6 h1 l,B6 e j,fun id hid hh=>by rw[show i+(d+1)=i+d+1 by omega,k id hid A9,f id hid hh]⟩
def Rg.le(g:Rg P base gl nt call ops F M V R X B)(a:Ph ops B M lo up){i j:Nat}(h0:lo<=i)(h:i<=j)(b:j<=up):(M i).n<=(M j).n/\(M i).hi<=(M j).hi/\∀ id,id<=G1->id<(M i).n->Hp.get (M j).H id=Hp.get (M i).H id:=by
 have:=g.mono a h0 (j-i) A9
 rwa[show i+(j-i)=j by omega]at this
def GU{mv:Mem}{us:List Rec}(h:vG m c us=some mv):mv.lg=m.lg:=by
 obtain⟨H,n,W,hi,lg⟩:=m;unfold vG at h;simp only at h;cases c with
 | free=>cases h;rfl
 | one b =>
   simp only at h;cases a:l7 (W6 us) b || !(Nat.ble b G1)with
   | true=>rw[a]at h;cases h
   | false=>rw[a,bS]at h;cases h;rfl
 | all =>
   simp only at h;obtain⟨d,h⟩:=A2 h;cases h;rfl
def CE(h:gZ m m'=some m2):m2.lg=m'.lg:=by
 unfold gZ at h;cases a:Nat.ble m'.hi m.n with
 | true=>rw[a]at h;cases h;rfl
 | false =>
   rw[a]at h;obtain⟨_,h⟩:=A2 h;simp only[E1,bH]at h;cases h;rfl
def iY{a b:Addr}(h:yG a b=true):a=b:=by
 unfold yG at h;split at h
 .obtain⟨h1,d⟩:=B3 h;rw[A0 h1,A0 d]
 .cases h
def KN{a b:Fn}(h:FB a b=true):a=b:=by
 unfold FB at h;split at h
 .rw[A0 h]
 .rw[A0 h]
 .cases h
def lY{s:Value->Value->Bool}(d:∀ a b,s a b=true->a=b):∀ {l r:D0},vQ s l r=true->l=r
 | [],[],_=>rfl
 | [],_::_,h=>by cases h
 | _::_,[],h=>by cases h
 | a::l,b::r,h=>by
   obtain⟨h1,e⟩:=B3 (show(s a b && vQ s l r)=true from h);rw[d a b h1,lY d e]
def A1_{a b:Q0}(h:a.toList=b.toList):a=b:=by cases a;cases b;cases h;rfl
def NQ:∀ (d:Nat) (v w:Value),rY d v w=true->v=w:=by
 intro d;induction d with
 | zero =>
   intro v w h;unfold rY at h;split at h
   .rw[eq_of_beq h]
   .obtain⟨h1,e⟩:=B3 h;rw[cX]at e;rw[dU h1,eq_of_beq e]
   .obtain⟨h1,e⟩:=B3 h;rw[A0 h1,A0 e]
   .obtain⟨h1,e⟩:=B3 h;rw[A0 h1,A0 e]
   .rename_i s t;have h1:=O0 h;cases s with|mk s=>cases t with|mk t=>cases s;cases t;cases h1;rfl
   .rfl
   .rw[iY h]
   .obtain⟨h1,e⟩:=B3 h;rw[A0 h1,A0 e]
   .obtain⟨h0,h⟩:=B3 h;obtain⟨h1,e⟩:=B3 h;rw[iY h0,A0 h1,A0 e]
   .rfl
   .rw[A0 h]
   .rfl
   .rfl
   all_goals first|cases h|(rename_i hh;cases hh)
 | succ d i =>
   intro v w h;unfold rY at h;split at h
   .rw[eq_of_beq h]
   .obtain⟨h1,e⟩:=B3 h;rw[cX]at e;rw[dU h1,eq_of_beq e]
   .obtain⟨h1,e⟩:=B3 h;rw[A0 h1,A0 e]
   .obtain⟨h1,e⟩:=B3 h;rw[A0 h1,A0 e]
   .rename_i s t;have h1:=O0 h;cases s with|mk s=>cases t with|mk t=>cases s;cases t;cases h1;rfl
   .rfl
   .rw[iY h]
   .obtain⟨h1,e⟩:=B3 h;rw[A0 h1,A0 e]
   .obtain⟨h0,h⟩:=B3 h;obtain⟨h1,e⟩:=B3 h;rw[iY h0,A0 h1,A0 e]
   .rfl
   .rw[A0 h]
   .rfl
   .rfl
   .rename_i d' f a b g a' b' he;cases he;obtain⟨h0,h⟩:=B3 h;obtain⟨h1,e⟩:=B3 h;rw[KN h0,A1_ (lY i h1),A1_ (lY i e)]
   .rename_i d' t v u w he;cases he;obtain⟨h1,e⟩:=B3 h;rw[A0 h1,i _ _ e]
   .cases h
def NU{a b:AB}(h:NV a b=true):a=b:=by
 unfold NV at h;split at h
 .rfl
 .obtain⟨h0,h⟩:=B3 h;obtain⟨h1,d⟩:=B3 h;rw[lY (NQ 6) h0,A0 h1,eq_of_beq d]
 .cases h
def sU{H:Hp AB}{b:Nat}{ab:AB}(h:sV H b ab=true):Hp.get H b=some ab/\b<=G1:=by
 unfold sV at h;split at h
 .rename_i x d;obtain⟨h1,a⟩:=B3 h;exact⟨by rw[d,NU a],A1 h1⟩
 .cases h
def nW{mv:Mem}{us:List Rec}(h:yO m r us=some mv):mv.n=nN/\mv.hi=nN/\mv.W=[]/\mv.lg=m.lg/\(∀ id,id<=G1->∀ ab,Hp.get mv.H id=some ab->r=some (id,ab))/\∀ b ab,r=some (b,ab)->sV m.H b ab=true/\b ∉ W6 us:=by
 obtain⟨H,n,W,hi,lg⟩:=m;unfold yO at h;simp only at h;cases r with
 | none =>
   cases h;exact⟨rfl,rfl,rfl,rfl,fun id _ ab a=>(by rw[mT]at a;cases a),fun b ab g=>by cases g⟩
 | some p =>
   obtain⟨b,f⟩:=p;simp only at h;cases d:l7 (W6 us) b || !(sV H b f)with
   | true=>rw[d]at h;cases h
   | false =>
     rw[d,bS]at h;cases h;simp only[X0,Bool.not_eq_false']at d;have g:=(sU d.2).2;refine⟨rfl,rfl,rfl,rfl,fun id hid ab a=>?_,fun b' ab' i=>?_⟩
     .have a:Hp.get (Hp.set hp0 b (some f)) id=some ab:=a;rw[E7 _ _ _ _ g hid]at a;by_cases e:id=b
      .subst e;rw[B2 rfl]at a;cases a;rfl
      .rw[B1 e,mT]at a;cases a
     .cases i;exact⟨d.2,fun hm=>by rw[S2.2 hm]at d;exact absurd d.1 (by simp)⟩
def gT{fr:Fr}{o:Oper}{b:F8}{v:Value}{lg:Lg}(h:gU fr m o b rs op=some (v,lg)):∃ mv m',yO m (DA m.H fr o.op) (wE b rs)=some mv/\op.run fr mv=some (v,m')/\m'.W=[]/\m'.hi=nN/\m'.lg=lg:=by
 unfold gU at h;split at h
 .rename_i mv d;split at h
  .rename_i v' H n hi e hr;obtain⟨h1,a⟩:=A2 h;cases a;exact⟨mv,_,d,hr,rfl,A0 h1,rfl⟩
  .cases h
 .cases h
def vK{all:List Oper}{b:F8}{k:Bool}{o:Oper}{fr d:Fr}{v:Value}(a:Q4 P base gl call)(h:AD P nt gl call all b rs k o fr d m m2 v):m.lg.le m2.lg:=by
 obtain⟨_,_,_,h⟩:=h;rcases h with⟨_,lg,hw,_,h⟩|⟨_,lg,i,hw,j,h⟩|⟨_,lg,hw,hr,_⟩|⟨_,_,lg,hw,mv,m',e,hr,_,f,hm⟩
 .rw[h];exact dO hw
 .obtain⟨mv,m',e,hr,_,_,g⟩:=gT j;have h1:=m6 a hr;rw[(nW e).2.2.2.1,g]at h1;rw[h];exact(dO hw).trans h1
 .have h1:=m6 a hr;rw[Y1]at h1;exact(dO hw).trans h1
 .rw[CE hm];have h1:=m6 a hr;rw[GU e]at h1;exact(dO hw).trans h1
def Rg.lgs(g:Rg P base gl nt call ops F M V R X B)(a:Q4 P base gl call){i:Nat}:∀ d,i+d<=ops.size->(M i).lg.le (M (i+d)).lg
 | 0,_=>.refl _
 | d+1,h=>by
   obtain⟨o,b⟩:=M9 (ops:=ops) (i:=i+d) A9;exact(g.lgs a d A9).trans (vK a (g.st (i+d) o b))
def Rg.who(g:Rg P base gl nt call ops F M V R X B)(e:Ph ops B M lo up):∀ d,lo+d<=up->∀ b,(M lo).n<=b->b<(M (lo+d)).n->∃ k,lo<=k/\k<lo+d/\(M k).n<=b/\b<(M (k+1)).n
 | 0,_,b,h1,a=>by have a:b<(M lo).n:=a;omega
 | d+1,h,b,h1,a=>by
   rcases F2 b (M (lo+d)).n with h3|h3
   .obtain⟨k,i,j,f⟩:=g.who e d A9 b h1 h3;exact⟨k,i,A9,f⟩
   .exact⟨lo+d,A9,A9,h3,a⟩
def sJ:∀ {rs:List Rec} {b:Nat},b ∈ W6 rs↔∃ r ∈ rs,r.lo<=b/\b<r.hi
 | [],b=>by simp[W6]
 | r::rs,b=>by
   simp only[W6,B7,hJ,sJ (rs:=rs),A8];constructor
   .rintro(h|⟨a,h1,d⟩)
    .exact⟨r,.inl rfl,A9⟩
    .exact⟨a,.inr h1,d⟩
   .rintro⟨a,rfl|h1,d⟩
    .exact .inl A9
    .exact .inr ⟨a,h1,d⟩
def Rg.recs(g:Rg P base gl nt call ops F M V R X B)(j:Ph ops B M lo up):∀ d,lo+d<=up->∀ k,lo<=k->k<lo+d->∀ b,(M k).n<=b->b<(M (k+1)).n->⟨k,(M k).n,(M (k+1)).n⟩ ∈ R (lo+d)
 | 0,_,k,_,h,_,_,_=>by omega
 | d+1,hi,k,hk,h,b,h1,f=>by
   obtain⟨o,l⟩:=M9 (ops:=ops) (i:=lo+d) (by have:=j.sz;omega);have a:=j.mx _ o A9 A9 l;show _ ∈ R (lo+d+1);by_cases e:k=lo+d
   .subst e;rcases g.rc (lo+d) o l with⟨_,lg,h3⟩|⟨h3,_⟩|h3
    .rw[h3]at f;have f:b<(M (lo+d)).n:=f;omega
    .rw[a]at h3;cases h3
    .rw[h3];exact B4
   .have:=g.recs j d A9 k hk A9 b h1 f;rcases g.rc (lo+d) o l with⟨h3,_⟩|⟨h3,_⟩|h3
    .rw[h3];exact this
    .rw[a]at h3;cases h3
    .rw[h3];exact C5 _ this
def TH{mv:Mem}{us:List Rec}(h:vG m c us=some mv):mv.n=m.n/\mv.hi=m.hi/\mv.W=[]/\mv.lg=m.lg/\∀ id,id<=G1->∀ ab,Hp.get mv.H id=some ab->Hp.get m.H id=some ab/\id ∉ W6 us:=by
 obtain⟨H,n,W,hi,lg⟩:=m;unfold vG at h;simp only at h;cases c with
 | free =>
   cases h;exact⟨rfl,rfl,rfl,rfl,fun id _ ab a=>by rw[mT]at a;cases a⟩
 | one b =>
   simp only at h;cases d:l7 (W6 us) b || !(Nat.ble b G1)with
   | true=>rw[d]at h;cases h
   | false =>
     rw[d,bS]at h;cases h;simp only[X0,Bool.not_eq_false']at d;have f:=A1 d.2;refine⟨rfl,rfl,rfl,rfl,fun id hid ab a=>?_⟩;have a:Hp.get (Hp.set hp0 b (Hp.get H b)) id=some ab:=a;rw[E7 _ _ _ _ f hid]at a;by_cases e:id=b
     .subst e;rw[B2 rfl]at a;exact⟨a,fun hm=>by rw[S2.2 hm]at d;exact absurd d.1 (by simp)⟩
     .rw[B1 e,mT]at a;cases a
 | all =>
   simp only at h;obtain⟨f,h⟩:=A2 h;cases h;refine⟨rfl,rfl,rfl,rfl,fun id hid ab a=>?_⟩;have a:Hp.get (wR H (W6 us)) id=some ab:=a;rw[wQ _ _ (oY f) id hid]at a;by_cases e:id ∈ W6 us
   .rw[B2 e]at a;cases a
   .rw[B1 e]at a;exact⟨a,e⟩
def dI(M:Nat->Mem)(D:Nat->Bool)(b:Nat):Nat->Bool
 | 0=>false
 | n+1=>(D n && Nat.ble (M n).n b && Nat.blt b (M (n+1)).n) || dI M D b n
def Q8{D:Nat->Bool}{b:Nat}:∀ n,dI M D b n=true↔∃ k,k<n/\D k=true/\(M k).n<=b/\b<(M (k+1)).n
 | 0=>by simp[dI]
 | n+1=>by
   simp only[dI,F7,H6,Q8 n];constructor
   .rintro(⟨⟨h1,a⟩,h3⟩|⟨k,h1,a⟩)
    .exact⟨n,A9,h1,A1 a,A1 h3⟩
    .exact⟨k,A9,a⟩
   .rintro⟨k,h1,a,h3,d⟩
    by_cases e:k=n
    .subst e;exact .inl ⟨⟨a,C4 h3⟩,C4 d⟩
    .exact .inr ⟨k,A9,a,h3,d⟩
def Dr(lo:Nat)(D:Nat->Bool)(k:Nat):Bool:=Nat.ble lo k && D k
def V0{lo:Nat}{D:Nat->Bool}{k:Nat}:Dr lo D k=true↔lo<=k/\D k=true:=by
 unfold Dr;rw[H6];exact⟨fun h=>⟨A1 h.1,h.2⟩,fun h=>⟨C4 h.1,h.2⟩⟩
def GD(M:Nat->Mem)(lo N:Nat)(D:Nat->Bool)(b:Nat):Option AB:=bif dI M (Dr lo D) b N then Hp.get (M N).H b else Hp.get (M lo).H b
structure Inv (z:Zn) (P:Program) (base gl nt:Nat) (ops:Array Oper) (F:Nat->Fr) (M:Nat->Mem) (V:Nat->Value) (lo up:Nat) (ρ0:Ren) (w0:World) (D:Nat->Bool) (ρ:Ren) (a:Act) (w:World):Prop where
 ext:∀ b l,ρ0 b=some l->ρ b=some l
 new:∀ b l,ρ b=some l->ρ0 b=none->dI M (Dr lo D) b up=true/\(l.on=true->w0.heap.size<=l.blk)
 hr:HRf P base ρ (GD M lo up D) w
 keep:∀ k,k<w0.heap.size->w.heap[k]? = w0.heap[k]?
 size:w0.heap.size<=w.heap.size
 os:w.os=w0.os/\w.tape=w0.tape/\w.output=w0.output
 tch:∀ k,Ff ρ (GD M lo up D) k->w0.heap.size<=k∨Fp ρ0 (M lo).H k
 tsz:a.tmps.size=nt
 dfr:ZR z ρ nt (F 0) a.defers
 frm:∀ t,t<nt->VR ρ (p7 D (fun k=>(ops[k]?).bind (·.dst)) V (F 0).get t ops.size) (a.tmps.getD t undef)
def P4{i:Nat}{o:Oper}(h:ops[i]? = some o):ops.toList[i]? = some o:=by simpa using h
def dY{ops:List Oper}{a:List F8}:∀ (r:List Oper) (i:Nat),BW ops a r i=true->∀ j o,r[j]? = some o->jR (i+j) o.after.toList=true/\nV a (i+j) (R8 ops o) ops 0=true
 | [],i,h,j,o,hj=>by simp at hj
 | x::r,i,h,j,o,hj=>by
   obtain⟨h1,b⟩:=B3 (show(jR i x.after.toList && (nV a i (R8 ops x) ops 0 && BW ops a r (i+1)))=true from h);obtain⟨b,h3⟩:=B3 b;cases j with
   | zero=>simp at hj;subst hj;exact⟨h1,b⟩
   | succ j =>
     have:=dY r (i+1) h3 j o (by simpa using hj)
     rwa[show i+1+j=i+(j+1) by omega]at this
def cE:∀ {es:List Edge} {i:Nat},jR i es=true->∀ e ∈ es,Region.binds .any e=true->e.on<i
 | [],i,h,e,he,_=>by cases he
 | x::r,i,h,e,he,hb=>by
   obtain⟨h1,a⟩:=B3 (show((!(Region.binds .any x) || Nat.blt x.on i) && jR i r)=true from h);rcases A8.1 he with rfl|he
   .rw[hb]at h1;have h1:Nat.blt e.on i=true:=by simpa only [N5,R6]using h1
    exact A1 h1
   .exact cE a e he hb
def vM{d:List F8}{i:Nat}{b:List Tmp}:∀ (r:List Oper) (a:Nat),nV d i b r a=true->∀ j p t,r[j]? = some p->a+j≠i->p.dst=some t->t ∈ b->TX d i (a+j)=true
 | [],a,h,j,p,t,hj,_,_,_=>by simp at hj
 | x::r,a,h,j,p,t,hj,hne,hd,ht=>by
   obtain⟨h1,e⟩:=B3 (show((Nat.beq a i || (match x.dst with|none=>true|some t=>!(l7 b t) || TX d i a)) && nV d i b r (a+1))=true from h);cases j with
   | zero =>
     simp at hj;subst hj;have f:Nat.beq a i=false:=by
      cases g:Nat.beq a i with
      | false=>rfl
      | true=>exact absurd (A0 g) hne
     rw[f,hd,R6]at h1;simp only[S2.2 ht,N5,R6]at h1;exact h1
   | succ j =>
     have:=vM r (a+1) e j p t (by simpa using hj) A9 hd ht
     rwa[show a+1+j=a+(j+1) by omega]at this
def Rg.slot(g:Rg P base gl nt call ops F M V R X B){D:Nat->Bool}(l:iP ops.toList fun k=>D k=true)(u:∀ k,D k=true->k<ops.size){i:Nat}{o:Oper}(f:ops[i]? = some o)(hi:D i=false)
  (hr:∀ e ∈ o.after.toList,Region.binds .any e=true->D e.on=true) {t:Tmp} (w:t ∈ R8 ops.toList o):∀ k p,ops[k]? = some p->k≠i->p.dst=some t->(D k=true↔k<i):=fun k p hp q v=>by
 have s:∀ (i:Nat) (o:Oper),ops.toList[i]? = some o->∀ e ∈ o.after.toList,Region.binds .any e=true->e.on<i:=fun i o f=>by
  have:=(dY _ 0 g.ok i o f).1;rw[D8]at this;exact cE this
 have h1:=(dY _ 0 g.ok i o (P4 f)).2;have a:=vM _ 0 h1 k p t (P4 hp) A9 v w;rw[D8,D8]at a;unfold TX at a;rcases Nat.lt_trichotomy k i with b|heq|j
 .have d:Nat.blt i k=false:=by
   cases d:Nat.blt i k with
   | false=>rfl
   | true=>have:i<k:=A1 d;omega
  rw[d]at a;have hm:=S2.1 (by simpa using a);exact⟨fun _=>b,fun _=>uB l s (i+1) i k o (H5 i) (P4 f) hr hm⟩
 .exact absurd heq q
 .have d:Nat.blt i k=true:=C4 j;rw[d]at a;have hm:=S2.1 (by simpa using a);refine⟨fun hk=>?_,fun h=>by omega⟩
  have:=uB l s (k+1) k i p (H5 k) (P4 hp) (fun e he n=>l k p (P4 hp) hk e he n) hm;rw[hi]at this;cases this
def Rg.frame(g:Rg P base gl nt call ops F M V R X B)(a:nt<=512){t:Tmp}(j:t<nt):∀ i,i<=ops.size->(F i).get t=p7 (fun k=>Nat.blt k i) (fun k=>(ops[k]?).bind (·.dst)) V (F 0).get t i
 | 0,_=>rfl
 | i+1,h=>by
   obtain⟨o,f⟩:=M9 (ops:=ops) (i:=i) A9;obtain⟨h1,_,h3,_⟩:=g.st i o f;have q:=g.frame a j i A9;have p:p7 (fun k=>Nat.blt k (i+1)) (fun k=>(ops[k]?).bind (·.dst)) V (F 0).get t i=p7 (fun k=>Nat.blt k i) (fun k=>(ops[k]?).bind (·.dst)) V (F 0).get t i:=cB i fun k hk _=>by
    rw[show Nat.blt k (i+1)=true from C4 A9,show Nat.blt k i=true from C4 hk]
   have n:Nat.blt i (i+1)=true:=C4 (A6 _);rw[h3];unfold p7;rw[p,<- q];simp only[n,f,H4,true_and];cases l:o.dst with
   | none=>simp[qG]
   | some d =>
     rw[l]at h1;have b:d<nt:=A1 h1;simp only[qG,C7];rw[K0 _ _ _ _ (C9 b a) (C9 j a)];by_cases e:t=d
     .subst e;simp
     .rw[B1 e,B1 (fun h=>e h.symm)]
def Rg.look(g:Rg P base gl nt call ops F M V R X B)(j:nt<=512){D:Nat->Bool}(n:iP ops.toList fun k=>D k=true)(b:∀ k,D k=true->k<ops.size){i:Nat}{o:Oper}(l:ops[i]? = some o)(hi:D i=false)
  (hr:∀ e ∈ o.after.toList,Region.binds .any e=true->D e.on=true) {t:Tmp} (v:t ∈ R8 ops.toList o) (a:t<nt):p7 D (fun k=>(ops[k]?).bind (·.dst)) V (F 0).get t ops.size=(F i).get t:=by
 have q:i<ops.size:=(B5.1 l).1;rw[g.frame j a i A9];have w:=g.slot n b l hi hr v;have u:p7 D (fun k=>(ops[k]?).bind (·.dst)) V (F 0).get t ops.size=p7 (fun k=>Nat.blt k i) (fun k=>(ops[k]?).bind (·.dst)) V (F 0).get t ops.size:=cB _ fun k hk f=>by
  obtain⟨p,hp⟩:=M9 (ops:=ops) hk;rw[hp]at f;by_cases e:k=i
  .subst e;rw[hi];symm;cases y:Nat.blt k k with
   | false=>rfl
   | true=>have:k<k:=A1 y;omega
  .have:=w k p hp e f;rw[K1,this];exact⟨fun h=>C4 h,fun h=>A1 h⟩
 rw[u];have s:∀ d,i+d<=ops.size->p7 (fun k=>Nat.blt k i) (fun k=>(ops[k]?).bind (·.dst)) V (F 0).get t (i+d)=p7 (fun k=>Nat.blt k i) (fun k=>(ops[k]?).bind (·.dst)) V (F 0).get t i:=by
  intro d;induction d with
  | zero=>intro _;rfl
  | succ d x =>
    intro f;rw[show i+(d+1)=(i+d)+1 by omega];rw[p7,B1 (fun hh=>by have:i+d<i:=A1 hh.1;omega)];exact x A9
 have:=s (ops.size-i) A9
 rwa[show i+(ops.size-i)=ops.size by omega]at this
def rI{o:Oper}{x:Operand}{t:Tmp}(a:x ∈ o.op.operands.toList)(b:x=.tmp t):t ∈ R8 ops.toList o:=by
 unfold R8;refine B7.2 (.inr (B7.2 (.inl (List.mem_flatMap.2 ⟨x,a,?_⟩))));subst b;simp[lR]
def Rg.see{z:Zn}(g:Rg P base gl nt call ops F M V R X B)(b:Ph ops B M lo up){v ρ:Ren}{w0 w:World}{D:Nat->Bool}{a:Act}{i:Nat}{o:Oper}
  (f:At P base gl v (M lo) (M up).hi w0) (I:iP ops.toList fun k=>D k=true) (p:lo<=i) (A:i<up) (x:ops[i]? = some o)
  (hr:∀ e ∈ o.after.toList,Region.binds .any e=true->D e.on=true):∀ id,id<=G1->∀ ab,Hp.get (M i).H id=some ab->id ∉ W6 (wE ((V7 ops.toList []).getD i []) (R i))->GD M lo up D id=some ab:=fun id hid ab h1 K=>by
 unfold GD;by_cases d:(M lo).n<=id/\id<(M i).n
 .obtain⟨k,s,N,t,u⟩:∃ k,lo<=k/\k<i/\(M k).n<=id/\id<(M (k+1)).n:=by
   have:=g.who b (i-lo) A9 id d.1 (by rw[show lo+(i-lo)=i by omega];exact d.2)
   rwa[show lo+(i-lo)=i by omega]at this
  have y:D k=true:=by
   have q:(⟨k,(M k).n,(M (k+1)).n⟩:Rec) ∈ R i:=by
    have:=g.recs b (i-lo) A9 k s A9 id t u
    rwa[show lo+(i-lo)=i by omega]at this
   by_cases hk:k ∈ (V7 ops.toList []).getD i []
   .exact uB I (fun i o x=>by
     have:=(dY _ 0 g.ok i o x).1;rw[D8]at this;exact cE this) (i+1) i k o (H5 i) (P4 x) hr hk
   .exfalso;refine K (sJ.2 ⟨_,O7.2 ⟨q,?_⟩,t,u⟩);cases h:l7 ((V7 ops.toList []).getD i []) k with
    | false=>rfl
    | true=>exact absurd (S2.1 h) hk
  have hu:dI M (Dr lo D) id up=true:=(Q8 _).2 ⟨k,A9,V0.2 ⟨s,y⟩,t,u⟩;rw[hu];simp only[D7];rw[(g.le b (i:=i) (j:=up) p A9 (A6 _)).2.2 id hid d.2];exact h1
 .have E:=(g.all b p A9).2.2.2.2 id hid A9;rw[E]at h1;have hu:dI M (Dr lo D) id up=false:=by
   cases h:dI M (Dr lo D) id up with
   | false=>rfl
   | true =>
     exfalso;obtain⟨k,N,L,t,u⟩:=(Q8 _).1 h;have s:=(V0.1 L).1;obtain⟨l,C,_⟩:=f.hr.at_ id hid ab h1;have J:=g.le b (i:=lo) (j:=k) (A6 _) s A9;have O:=g.le b (i:=k+1) (j:=up) A9 A9 (A6 _);have G:=(g.all b b.le (A6 _)).2.2.1;rw[f.fr id A9 A9]at C;cases C
  rw[hu];exact h1
def Rg.quiet{z:Zn}(g:Rg P base gl nt call ops F M V R X B)(G:Q4 P base gl call){I ρ:Ren}{w0 w:World}{D D':Nat->Bool}{a:Act}{i:Nat}{o:Oper}{Q:Exit->Act->World->Prop}{K:Act->World->Prop}
  (s:At P base gl I (M lo) (M up).hi w0) (hS:Sat (M (i+1)).lg) (ae:nt<=512) (inv:Inv z P base gl nt ops F M V lo up I w0 D ρ a w) (hc:iP ops.toList fun k=>D k=true) (ar:∀ k,D k=true->k<ops.size) (Z:ops[i]? = some o) (hi:D i=false)
  (hr:∀ e ∈ o.after.toList,Region.binds .any e=true->D e.on=true) (hD:∀ k,k≠i->D' k=D k) (ak:D' i=true)
  (aw:bB nt ops.toList (T5 P call o) ((V7 ops.toList []).getD i []) (R i) (F i) o (M i) (M (i+1)) (V i) r) (al:∀ b ab,r=some (b,ab)->GD M lo up D b=some ab)
  (hK:∀ ρ' a' w',Inv z P base gl nt ops F M V lo up I w0 D' ρ' a' w'->K a' w'):i0 P z.rd ops Q i K a w:=by
 have ag:i<ops.size:=(B5.1 Z).1;obtain⟨bz,aa,hF,_⟩:=g.st i o Z;have y:∀ t,t ∈ R8 ops.toList o->t<nt->VR ρ ((F i).get t) (a.tmps.getD t undef):=fun t W ax=>by
  rw[<- g.look ae hc ar Z hi hr W ax];exact inv.frm t ax
 have ao:FR ρ (F i) a.eval o.op:=fun x hx=>by
  have Y:okX nt gl x=true:=D2.1 aa x hx;cases x with
  | tmp t=>exact y t (rI hx rfl) (A1 Y)
  | const v=>exact VR.ofC Y
  | global gg=>exact VR.ptr (o:=0) (inv.ext _ _ (s.gr gg (A1 Y)))
  | func f=>exact .func (a:=[]) (b:=[]) (a':=[]) (b':=[]) rfl rfl (fun i v v' h=>by simp at h) (fun i v v' h=>by simp at h)
 have E:∀ lg b,s8 nt (F i) (M i).lg ops.toList o=some (b,lg)->Sat lg->Region.wanted o (yielded ops a.tmps)=b:=fun lg b hw A=>by
  unfold s8 at hw;split at hw
  .rename_i hg;cases hw;simp[Region.wanted,hg]
  .rename_i j want hg;split at hw
   .rename_i p hp;split at hw
    .rename_i t W;obtain⟨h1,q⟩:=A2 hw;have h1:t<nt:=A1 h1;have U:=y t (by
      unfold R8;refine B7.2 (.inr (B7.2 (.inr ?_)));simp[hg,hp,W]) h1
     exact iV hg hp W (by rw[inv.tsz];exact h1) (lO q U A)
    .cases hw
   .cases hw
 have u:∀ (ρ':Ren) (v':Value),(∀ b l,ρ b=some l->ρ' b=some l)->VR ρ' (V i) v'->∀ t,t<nt->VR ρ' (p7 D' (fun k=>(ops[k]?).bind (·.dst)) V (F 0).get t ops.size) ((a.put o.dst v').tmps.getD t undef):=fun ρ' v' he U t W=>by
  by_cases hd:o.dst=some t
  .have O:∀ k,i<k->k<ops.size->(ops[k]?).bind (·.dst)=some t->D k=false:=fun k bx hk au=>by
    obtain⟨p,hp⟩:=M9 (ops:=ops) hk;rw[hp]at au
    have:=g.slot hc ar Z hi hr (t:=t) (by unfold R8;simp[hd]) k p hp A9 au;cases hq:D k with
    | false=>rfl
    | true=>have:=this.1 hq;omega
   rw[mX hD ak ops.size ag (by simp[Z,hd]) O];simp only[hd,Act.put,B0];rw[D1,B2 rfl,B2 (by rw[inv.tsz];exact W)];exact U
  .rw[kT hD (by simp[Z];exact hd)];have h1:=(inv.frm t W).mono he;cases az:o.dst with
   | none=>exact h1
   | some d =>
     have ad:d≠t:=fun e=>hd (e▸az)
     simp only[Act.put,B0]at h1 ⊢;rw[D1,B1 ad];exact h1
 have hM:∃ lg,M (i+1)=(M i).wLg lg:=by
  rcases aw with⟨lg,_,_,h,_⟩|⟨_,av,_,_,h,_⟩
  .exact⟨lg,h⟩
  .exact⟨av,h⟩
 have hG:GD M lo up D'=GD M lo up D:=by
  funext b;unfold GD;have:dI M (Dr lo D') b up=dI M (Dr lo D) b up:=by
   obtain⟨lg,hm⟩:=hM;rw[K1,Q8,Q8];constructor
   .rintro⟨k,h1,q,h3,h4⟩
    have e:k≠i:=fun e=>by
     subst e;rw[hm]at h4;have h4:b<(M k).n:=h4;omega
    obtain⟨S,q⟩:=V0.1 q;rw[hD k e]at q;exact⟨k,h1,V0.2 ⟨S,q⟩,h3,h4⟩
   .rintro⟨k,h1,q,h3⟩
    obtain⟨S,q⟩:=V0.1 q;have e:k≠i:=fun e=>by subst e;rw[hi]at q;cases q
    exact⟨k,h1,V0.2 ⟨S,by rw[hD k e];exact q⟩,h3⟩
  rw[this]
 have J:∀ b l,ρ b=some l->I b=none->dI M (Dr lo D') b up=true/\(l.on=true->w0.heap.size<=l.blk):=fun b l h1 q=>by
  obtain⟨k1,k2⟩:=inv.new b l h1 q;obtain⟨k,q1,q2,q3⟩:=(Q8 _).1 k1;obtain⟨ai,q2⟩:=V0.1 q2;have e:k≠i:=fun e=>by subst e;rw[hi]at q2;cases q2
  exact⟨(Q8 _).2 ⟨k,q1,V0.2 ⟨ai,by rw[hD k e];exact q2⟩,q3⟩,k2⟩
 unfold i0;simp only[Z];rcases aw with⟨lg,hw,U,hm,_⟩|⟨lg,av,hw,hq,hm,af⟩
 .have A:Sat lg:=by rw[hm]at hS;exact hS
  rw[E lg false hw A];simp only[G8,if_false];refine hK ρ _ w ⟨inv.ext,J,hG▸inv.hr,inv.keep,inv.size,inv.os,hG▸inv.tch,?_,?_,u ρ undef (fun _ _ h=>h) (U▸lQ ρ)⟩
  .cases az:o.dst<;>simp[Act.put,inv.tsz]
  .rw[bT];exact inv.dfr
 .obtain⟨mv,m',T,L,hW,aj,hl⟩:=gT hq;obtain⟨v1,v2,v3,v4,v5,_⟩:=nW T;have ay:Sat m'.lg:=by rw[hm]at hS;rw[hl];exact hS
  have A:Sat lg:=M4.le ay (by have:=m6 G L;rw[v4]at this;exact this);rw[E lg true hw A];simp only[if_true];have ah:HR P base ρ mv.H w:=inv.hr.hr fun id hid ab N=>al id ab (af.trans (v5 id hid ab N))
  have aq:At P base gl ρ mv m'.hi w:=⟨ah,B6 s.bs inv.size,fun b h1 q=>(by rw[v1]at h1;rw[aj]at q;omega),s.gr.mono inv.ext,(by rw[v1,v2];exact A6 _),fun b hb=>(by rw[v3]at hb;cases hb),fun k o hk=>⟨(s.gf k o hk).1,(inv.keep k (C9 (s.gf k o hk).1 s.bs)).trans (s.gf k o hk).2⟩⟩;refine lW G L ay aq ao fun v' ρ' w' U st=>?_
  have an:ρ'=ρ:=by
   funext b;cases h0:ρ b with
   | some l=>exact st.ext b l h0
   | none =>
     cases h1:ρ' b with
     | none=>rfl
     | some l =>
       exfalso;have q:=(st.new b l h1 h0).1;have h3:=st.hr.dom b l h1;rw[v1]at q;unfold nN at q;unfold G1 at h3;omega
  subst an;have C:∀ k,k<w.heap.size->w'.heap[k]? = w.heap[k]? := fun k hk=>st.keep k hk fun b hb=>by rw[hW]at hb;cases hb
  refine hK ρ' _ w' ⟨inv.ext,J,hG▸⟨inv.hr.dom,fun id hid ab N=>?_⟩,fun k hk=>by rw[C k (C9 hk inv.size),inv.keep k hk],B6 inv.size st.size,⟨st.os.1.trans inv.os.1,st.os.2.1.trans inv.os.2.1,st.os.2.2.trans inv.os.2.2⟩,hG▸inv.tch,?_,?_,u ρ' v' (fun _ _ h=>h) U⟩
  .obtain⟨l,e1,e2,e3⟩:=inv.hr.at_ id hid ab N;exact⟨l,e1,e2.mono (fun _ _ h=>h) (fun k hk=>C _ (e2.tc hk)),e3⟩
  .cases az:o.dst<;>simp[Act.put,inv.tsz]
  .rw[bT];exact inv.dfr
def Rg.step{z:Zn}(g:Rg P base gl nt call ops F M V R X B)(ph:Ph ops B M lo up)(S:Q4 P base gl call){ar ρ:Ren}{w0 w:World}{D D':Nat->Bool}{a:Act}{i:Nat}{o:Oper}{Q:Exit->Act->World->Prop}{K:Act->World->Prop}
  (J:At P base gl ar (M lo) (M up).hi w0) (hS:Sat (M up).lg) (bd:nt<=512) (inv:Inv z P base gl nt ops F M V lo up ar w0 D ρ a w) (hc:iP ops.toList fun k=>D k=true) (br:∀ k,D k=true->k<ops.size) (Y:lo<=i) (ax:i<up) (W:ops[i]? = some o) (hi:D i=false)
  (hr:∀ e ∈ o.after.toList,Region.binds .any e=true->D e.on=true) (hD:∀ k,k≠i->D' k=D k) (ad:D' i=true)
  (ae:¬∃ r,bB nt ops.toList (T5 P call o) ((V7 ops.toList []).getD i []) (R i) (F i) o (M i) (M (i+1)) (V i) r)
  (hK:∀ ρ' a' w',Inv z P base gl nt ops F M V lo up ar w0 D' ρ' a' w'->K a' w'):i0 P z.rd ops Q i K a w:=by
 have bf:i<ops.size:=(B5.1 W).1;obtain⟨cw,ba,hF,al⟩:=g.st i o W;have bp:=ph.mx i o Y ax W;have cv:=ph.sz;have cr:=g.le ph (i:=lo) (j:=i) (A6 _) Y A9;have bn:=g.le ph (i:=i+1) (j:=up) A9 A9 (A6 _);have cy:=g.one W bp (g.all ph Y A9).2.2.1;have ay:∀ t,t ∈ R8 ops.toList o->t<nt->VR ρ ((F i).get t) (a.tmps.getD t undef):=fun t ht bw=>by
  rw[<- g.look bd hc br W hi hr ht bw];exact inv.frm t bw
 have bm:FR ρ (F i) a.eval o.op:=fun x hx=>by
  have ag:okX nt gl x=true:=D2.1 ba x hx;cases x with
  | tmp t=>exact ay t (rI hx rfl) (A1 ag)
  | const v=>exact VR.ofC ag
  | global gg=>exact VR.ptr (o:=0) (inv.ext _ _ (J.gr gg (A1 ag)))
  | func f=>exact .func (a:=[]) (b:=[]) (a':=[]) (b':=[]) rfl rfl (fun i v v' h=>by simp at h) (fun i v v' h=>by simp at h)
 have ah:∀ lg b,s8 nt (F i) (M i).lg ops.toList o=some (b,lg)->Sat lg->Region.wanted o (yielded ops a.tmps)=b:=fun lg b hw an=>by
  unfold s8 at hw;split at hw
  .rename_i hg;cases hw;simp[Region.wanted,hg]
  .rename_i j want hg;split at hw
   .rename_i p hp;split at hw
    .rename_i t ht;obtain⟨h1,u⟩:=A2 hw;have h1:t<nt:=A1 h1;have hv:=ay t (by
      unfold R8;refine B7.2 (.inr (B7.2 (.inr ?_)));simp[hg,hp,ht]) h1
     exact iV hg hp ht (by rw[inv.tsz];exact h1) (lO u hv an)
    .cases hw
   .cases hw
 have aq:∀ (ρ':Ren) (v':Value),(∀ b l,ρ b=some l->ρ' b=some l)->VR ρ' (V i) v'->∀ t,t<nt->VR ρ' (p7 D' (fun k=>(ops[k]?).bind (·.dst)) V (F 0).get t ops.size) ((a.put o.dst v').tmps.getD t undef):=fun ρ' v' he hv t ht=>by
  by_cases hd:o.dst=some t
  .have aj:∀ k,i<k->k<ops.size->(ops[k]?).bind (·.dst)=some t->D k=false:=fun k cu hk bu=>by
    obtain⟨p,hp⟩:=M9 (ops:=ops) hk;rw[hp]at bu
    have:=g.slot hc br W hi hr (t:=t) (by unfold R8;simp[hd]) k p hp A9 bu;cases hq:D k with
    | false=>rfl
    | true=>have:=this.1 hq;omega
   rw[mX hD ad ops.size bf (by simp[W,hd]) aj];simp only[hd,Act.put,B0];rw[D1,B2 rfl,B2 (by rw[inv.tsz];exact ht)];exact hv
  .rw[kT hD (by simp[W];exact hd)];have h1:=(inv.frm t ht).mono he;cases bq:o.dst with
   | none=>exact h1
   | some d =>
     have bb:d≠t:=fun e=>hd (e▸bq)
     simp only[Act.put,B0]at h1 ⊢;rw[D1,B1 bb];exact h1
 have N:∀ b,dI M (Dr lo D') b up=true↔(dI M (Dr lo D) b up=true∨((M i).n<=b/\b<(M (i+1)).n)):=fun b=>by
  rw[Q8,Q8];constructor
  .rintro⟨k,h1,u,h3⟩
   obtain⟨ai,u⟩:=V0.1 u;by_cases e:k=i
   .subst e;exact .inr h3
   .rw[hD k e]at u;exact .inl ⟨k,h1,V0.2 ⟨ai,u⟩,h3⟩
  .rintro(⟨k,h1,u,h3⟩|h3)
   .obtain⟨ai,u⟩:=V0.1 u;have e:k≠i:=fun e=>by subst e;rw[hi]at u;cases u
    exact⟨k,h1,V0.2 ⟨ai,by rw[hD k e];exact u⟩,h3⟩
   .exact⟨i,ax,V0.2 ⟨Y,ad⟩,h3⟩
 unfold i0;simp only[W];have aa:Sat (M (i+1)).lg:=M4.le hS (by have:=g.lgs S (i:=i+1) (up-(i+1)) A9;rwa[show i+1+(up-(i+1))=up by omega]at this);rcases al with⟨_,lg,hw,hv,hm⟩|⟨_,lg,bc,hw,hq,hm⟩|⟨bt,_⟩|⟨_,_,lg,hw,mv,m',av,ao,hW,bk,T⟩
 .exact absurd ⟨_,.inl ⟨lg,hw,hv,hm,rfl⟩⟩ ae
 .exact absurd ⟨_,.inr ⟨lg,bc,hw,hq,hm,rfl⟩⟩ ae
 .rw[bp]at bt;cases bt
 .have bx:Sat m'.lg:=by rw[CE T]at aa;exact aa
  have an:Sat lg:=M4.le bx (by have:=m6 S ao;rw[GU av]at this;exact this);rw[ah lg true hw an];simp only[if_true];obtain⟨v1,v2,v3,_,v4⟩:=TH av;have v1:mv.n=(M i).n:=v1;have v2:mv.hi=(M i).hi:=v2;have v4:∀ id,id<=G1->∀ ab,Hp.get mv.H id=some ab->Hp.get (M i).H id=some ab/\id ∉ W6 (wE ((V7 ops.toList []).getD i []) (R i)):=v4;have ak:=(g.all ph Y A9).2.2.1;obtain⟨q1,q2,q3,q4,q5,q6,_,q7⟩:=CD T ak bk;have q1:(M i).n<=(M (i+1)).n:=q1;have q5:(M (i+1)).n=m'.hi∨((M (i+1)).n=(M i).n/\m'.hi<=(M i).n):=q5;have q7:∀ id,id<=G1->Hp.get (M (i+1)).H id=if(M i).n<=id/\id<(M (i+1)).n then Hp.get m'.H id else Hp.get (M i).H id:=q7
  have I:∀ id,id<=G1->∀ ab,Hp.get mv.H id=some ab->GD M lo up D id=some ab:=fun id hid ab y=>by
   obtain⟨h1,u⟩:=v4 id hid ab y;exact g.see (z:=z) (a:=a) (ρ:=ρ) (w:=w) ph J hc Y ax W hr id hid ab h1 u
  have bh:HR P base ρ mv.H w:=inv.hr.hr I;have O:I2 ρ mv.n m'.hi:=fun b h1 u=>by
   rw[v1]at h1;cases hb:ρ b with
   | none=>rfl
   | some l =>
     exfalso;cases h0:ar b with
     | some l0 =>
       rw[J.fr b A9 A9]at h0;cases h0
     | none =>
       obtain⟨k,k1,k2,k3,k4⟩:=(Q8 _).1 (inv.new b l hb h0).1;obtain⟨k0,k2⟩:=V0.1 k2;have ct:k≠i:=fun e=>by subst e;rw[hi]at k2;cases k2
       rcases F2 k i with bz|bz
       .have:=(g.le ph (i:=k+1) (j:=i) A9 A9 A9).1;omega
       .have:=(g.le ph (i:=i+1) (j:=k) A9 A9 A9).1;rcases q5 with q5|⟨_,q5⟩<;>omega
  have bo:At P base gl ρ mv m'.hi w:=⟨bh,B6 J.bs inv.size,O,J.gr.mono inv.ext,(by rw[v1,v2];exact ak),fun b hb=>(by rw[v3]at hb;cases hb),fun k o hk=>⟨(J.gf k o hk).1,(inv.keep k (C9 (J.gf k o hk).1 J.bs)).trans (J.gf k o hk).2⟩⟩;refine lW S ao bx bo bm fun v' ρ' w' hv st=>hK ρ' _ w' ?_
  have aw:∀ k,k<w.heap.size->w'.heap[k]? = w.heap[k]? := fun k hk=>st.keep k hk fun b hb=>by rw[hW]at hb;cases hb
  have cz:m'.n<=m'.hi:=st.nhi (by rw[v1,v2];exact ak);have az:∀ b l,ρ' b=some l->ρ b=none->((M i).n<=b/\b<(M (i+1)).n)/\(l.on=true->w.heap.size<=l.blk):=fun b l h1 u=>by
   have h3:=st.new b l h1 u;rw[v1]at h3;refine⟨⟨h3.1,?_⟩,?_⟩
   .rcases q5 with q5|⟨_,q5⟩<;>omega
   .intro W;rcases st.blk b l h1 u W with h|⟨b0,h,_⟩
    .exact h
    .rw[hW]at h;cases h
  have au:∀ id,id<=G1->(M i).n<=id->id<(M (i+1)).n->GD M lo up D' id=Hp.get m'.H id/\ρ id=none:=fun id hid h1 u=>by
   constructor
   .unfold GD;rw[(N id).2 (.inr ⟨h1,u⟩)];simp only[D7];rw[bn.2.2 id hid u,q7 id hid,B2 ⟨h1,u⟩]
   .refine O id (by rw[v1];exact h1) ?_;rcases q5 with q5|⟨q5,_⟩
    .omega
    .rw[q5]at u;omega
  have U:∀ id,¬ ((M i).n<=id/\id<(M (i+1)).n)->GD M lo up D' id=GD M lo up D id:=fun id hid=>by
   unfold GD;have:dI M (Dr lo D') id up=dI M (Dr lo D) id up:=by
    rw[K1,N id];exact⟨fun h=>h.elim (fun h=>h) (fun h=>absurd h hid),.inl⟩
   rw[this]
  have bg:∀ k,Ff ρ' (GD M lo up D') k->w.heap.size<=k∨Ff ρ (GD M lo up D) k:=fun k ⟨id,ab,l,hid,y,hl,ht⟩=>by
   by_cases hI:(M i).n<=id/\id<(M (i+1)).n
   .rw[(au id hid hI.1 hI.2).1]at y;rcases st.tch k ⟨id,ab,l,hid,y,hl,ht⟩with h|⟨A,Z,l0,e1,e2,e3,e4⟩
    .exact .inl h
    .exact .inr ⟨A,Z,l0,e1,I A e1 Z e2,e3,e4⟩
   .rw[U id hI]at y;obtain⟨l3,c1,_⟩:=inv.hr.at_ id hid ab y;rw[st.ext id l3 c1]at hl
    have:=A5 hl;subst this;exact .inr ⟨id,ab,l3,hid,y,c1,ht⟩
  refine⟨fun b l h=>st.ext b l (inv.ext b l h),fun b l h1 u=>?_,⟨st.hr.dom,fun id hid ab y=>?_⟩,fun k hk=>by rw[aw k (C9 hk inv.size),inv.keep k hk],B6 inv.size st.size,⟨st.os.1.trans inv.os.1,st.os.2.1.trans inv.os.2.1,st.os.2.2.trans inv.os.2.2⟩,fun k hk=>(bg k hk).elim (fun h=>.inl (B6 inv.size h)) (inv.tch k),?_,?_,aq ρ' v' st.ext hv⟩
  .cases h0:ρ b with
   | some l1 =>
     rw[st.ext b l1 h0]at h1
     have:=A5 h1;subst this;exact⟨(N b).2 (.inl (inv.new b l1 h0 u).1),(inv.new b l1 h0 u).2⟩
   | none =>
     have:=az b l h1 h0;exact⟨(N b).2 (.inr this.1),fun W=>B6 inv.size (this.2 W)⟩
  .by_cases hI:(M i).n<=id/\id<(M (i+1)).n
   .obtain⟨h1,u⟩:=au id hid hI.1 hI.2;rw[h1]at y;obtain⟨l,e1,e2,e3⟩:=st.hr.at_ id hid ab y;refine⟨l,e1,e2,fun L E=>⟨(e3 L E).1,fun q s G l2 f1 f2 f3=>?_⟩⟩;by_cases C:(M i).n<=q/\q<(M (i+1)).n
    .rw[(au q s C.1 C.2).1]at f1;exact(e3 L E).2 q s G l2 f1 f2 f3
    .rw[U q C]at f1;obtain⟨l3,c1,c2,_⟩:=inv.hr.at_ q s G f1;rw[st.ext q l3 c1]at f2
     have:=A5 f2;subst this;have h5:=c2.tc f3;have h6:=(az id l e1 u).2 E;omega
   .rw[U id hI]at y;obtain⟨l,e1,e2,e3⟩:=inv.hr.at_ id hid ab y;refine⟨l,st.ext _ _ e1,e2.mono st.ext (fun k hk=>aw _ (e2.tc hk)),fun L E=>⟨(e3 L E).1,fun q s G l2 f1 f2 f3=>?_⟩⟩;by_cases C:(M i).n<=q/\q<(M (i+1)).n
    .exfalso;rw[(au q s C.1 C.2).1]at f1;have bj:G.fr=true:=by
      cases hq:G.fr with
      | true=>rfl
      | false =>
        exfalso;rcases f3 with⟨_,h1,u⟩|⟨h1,_⟩
        .have h5:=(az q l2 f2 (au q s C.1 C.2).2).2 h1;have h6:=e2.tc (.inl ⟨AB.rw_on L,E,rfl⟩);omega
        .rw[h1]at hq;cases hq
     rcases st.tch _ ⟨q,G,l2,s,f1,f2,bj,f3⟩with h|⟨A,Z,l0,c1,c2,c3,_,c4⟩
     .have:=e2.tc (.inl ⟨AB.rw_on L,E,rfl⟩);omega
     .have h7:=(e3 L E).2 A c1 Z l0 (I A c1 Z c2) c3 c4;subst h7;have h8:=I A c1 Z c2;rw[y]at h8;have h8:=A5 h8;subst h8;have h9:A<mv.n∨m'.hi<=A:=by
       rcases F2 A mv.n with h|h
       .exact .inl h
       .rcases F2 A m'.hi with h'|h'
        .rw[O A h h']at e1;cases e1
        .exact .inr h'
      have af:=st.same A c1 (by rw[hW];simp) h9;rw[c2]at af;obtain⟨_,bl⟩:=st.hr.atl (st.ext _ _ e1) af
      have:=(bl L E).2 q s G l2 f1 f2 f3;subst this;exact hI C
    .rw[U q C]at f1;obtain⟨l3,c1,_⟩:=inv.hr.at_ q s G f1;rw[st.ext q l3 c1]at f2
     have:=A5 f2;subst this;exact(e3 L E).2 q s G l3 f1 c1 f3
  .cases bq:o.dst<;>simp[Act.put,inv.tsz]
  .rw[bT];exact inv.dfr.congr st.ext fun _=>⟨rfl,rfl⟩
end
end
section
open Go
variable [Ora]
def oW:∀ (l:List Bool) (i:Nat),l[i]? = some false->(l.set i true).countP (fun b=>!b)+1=l.countP (fun b=>!b)
 | [],i,h=>by simp at h
 | b::r,0,h=>by simp at h;subst h;simp
 | b::r,i+1,h=>by
   have:=oW r i (by simpa using h);rw[List.set_cons_succ,List.countP_cons,List.countP_cons];omega
def tI{l:List Bool}(h:l.countP (fun b=>!b)=0):∀ i,i<l.length->l[i]? = some true:=fun i hi=>by
 rw[List.countP_eq_zero]at h
 have:=h l[i] (L5 hi);rw[A4 hi];cases a:l[i]with
 | true=>rfl
 | false=>rw[a]at this;exact absurd rfl this
section
variable {P:Program} {base gl:Nat} {call:L4}
def PA(h:gZ m m'=some m2)(a:m.hi<=m'.hi):m.hi<=m2.hi:=by
 unfold gZ at h;cases b:Nat.ble m'.hi m.n with
 | true=>rw[b]at h;cases h;exact A6 _
 | false =>
   rw[b]at h;obtain⟨_,h⟩:=A2 h;simp only[E1,bH]at h;cases h;exact a
def uA:∀ {n:Nat} {b:F8} {a:Qs},zZ n b a=true->∀ k,k<n->k ∈ b∨∃ q ∈ a,q.1=k
 | 0,_,_,_,k,h=>by omega
 | n+1,b,a,h,k,hk=>by
   obtain⟨h1,d⟩:=B3 (show((l7 b n || a.any fun q=>Nat.beq n q.1) && zZ n b a)=true from h);by_cases e:k=n
   .subst e;rcases F7 _ _▸h1 with h1|h1
    .exact .inl (S2.1 h1)
    .obtain⟨q,g,f⟩:=N1.1 h1;exact .inr ⟨q,g,(A0 f).symm⟩
   .exact uA d k A9
def sP:∀ {i:Nat} {bs:List F8} {r:List Oper},zA i bs r=true->∀ (j:Nat) (c:List Nat) (o:Oper),bs[j]? = some c->r[j]? = some o->i ∈ c∨n8 o.op=true
 | _,[],_,_,j,c,o,h,_=>by simp at h
 | _,_::_,[],_,j,c,o,_,h=>by simp at h
 | i,c0::bs,o0::r,h,j,c,o,h1,h2=>by
   obtain⟨a,b⟩:=B3 (show((l7 c0 i || n8 o0.op) && zA i bs r)=true from h);cases j with
   | zero =>
     simp at h1 h2;subst h1;subst h2;rcases F7 _ _▸a with a|a
     .exact .inl (S2.1 a)
     .exact .inr a
   | succ j=>exact sP b j c o (by simpa using h1) (by simpa using h2)
def yD{ops:Array Oper}{X:Nat->Qs}{i:Nat}{o:Oper}(h:TN ops X i o=true):n8 o.op=false:=by
 obtain⟨h,_⟩:=B3 (show(wrO o.op && _)=true from h);cases a:o.op<;>rw[a]at h<;>first
  | rfl
  | cases h
def EW{ops:Array Oper}{X:Nat->Qs}{i:Nat}{o:Oper}(h:TN ops X i o=true):∀ k,k<i->k ∈ (V7 ops.toList []).getD i []∨∃ q ∈ X i,q.1=k:=by
 obtain⟨_,h⟩:=B3 (show(wrO o.op && _)=true from h);obtain⟨h,_⟩:=B3 h;exact uA h
def EV{ops:Array Oper}{X:Nat->Qs}{i:Nat}{o:Oper}(h:TN ops X i o=true):∀ j p,i<j->ops[j]? = some p->i ∈ (V7 ops.toList []).getD j []∨n8 p.op=true:=fun j p g hp=>by
 obtain⟨_,h⟩:=B3 (show(wrO o.op && _)=true from h);obtain⟨_,h⟩:=B3 h;obtain⟨e,d,b,_⟩:=pA ops.toList [];have hlen:(V7 ops.toList []).length=ops.size:=by rw[d];simpa using b
 have f:j<ops.size:=(B5.1 hp).1;have a:j<(V7 ops.toList []).length:=A9
 have:=sP h (j-(i+1)) (V7 ops.toList [])[j] p (by rw[G4,show i+1+(j-(i+1))=j by omega,A4 a]) (by rw[G4,show i+1+(j-(i+1))=j by omega];exact P4 hp);rw[B9,A4 a];exact this
def oB(ops:Array Oper)(B:Nat->Bool):∀ (d lo:Nat),lo+d=ops.size->∃ up,lo<=up/\up<=ops.size/\(∀ i o,lo<=i->i<up->ops[i]? = some o->B i=false)/\(up<ops.size->∃ o,ops[up]? = some o/\B up=true)
 | 0,lo,h=>⟨lo,A6 _,A9,fun i o h1 f=>by omega,fun f=>by omega⟩
 | d+1,lo,h=>by
   obtain⟨o,k⟩:=M9 (ops:=ops) (i:=lo) A9;cases g:B lo with
   | true=>exact⟨lo,A6 _,A9,fun i o h1 f=>by omega,fun _=>⟨o,k,g⟩⟩
   | false =>
     obtain⟨up,h1,f,h3,j⟩:=oB ops B d (lo+1) A9;refine⟨up,A9,f,fun i o' a b c=>?_,j⟩;by_cases e:i=lo
     .subst e;exact g
     .exact h3 i o' A9 b c
section
variable {nt:Nat} {ops:Array Oper} {F:Nat->Fr} {M:Nat->Mem} {V:Nat->Value} {R:Nat->List Rec} {X:Nat->Qs} {B:Nat->Bool} {lo up:Nat}
def Rg.frameUp(g:Rg P base gl nt call ops F M V R X B)(a:nt<=512){t:Tmp}(f:t<nt){i:Nat}(hi:i<=ops.size):p7 (fun k=>Nat.blt k i) (fun k=>(ops[k]?).bind (·.dst)) V (F 0).get t ops.size=(F i).get t:=by
 rw[g.frame a f i hi];have b:∀ d,i+d<=ops.size->p7 (fun k=>Nat.blt k i) (fun k=>(ops[k]?).bind (·.dst)) V (F 0).get t (i+d)=p7 (fun k=>Nat.blt k i) (fun k=>(ops[k]?).bind (·.dst)) V (F 0).get t i:=by
  intro d;induction d with
  | zero=>intro _;rfl
  | succ d e =>
    intro j;rw[show i+(d+1)=(i+d)+1 by omega];rw[p7,B1 (fun hh=>by have:i+d<i:=A1 hh.1;omega)];exact e A9
 have:=b (ops.size-i) A9
 rwa[show i+(ops.size-i)=ops.size by omega]at this
def A26{k i:Nat}:Nat.blt k i=true↔k<i:=⟨fun h=>A1 h,fun h=>C4 h⟩
def Rg.own(g:Rg P base gl nt call ops F M V R X B)(b:nt<=510):∀ (i:Nat),i<=ops.size->(F i).get 510=(F 0).get 510/\(F i).get 511=(F 0).get 511
 | 0,_=>⟨rfl,rfl⟩
 | i+1,hi=>by
   obtain⟨o,k⟩:=M9 (ops:=ops) (i:=i) A9;obtain⟨d1,_,d3,_⟩:=g.st i o k;have f:=g.own b i A9;have key:∀ t,510<=t->t<512->(F (i+1)).get t=(F i).get t:=fun t h1 j=>by
    rw[d3];cases l:o.dst with
    | none=>rfl
    | some d =>
      rw[l]at d1;have a:d<nt:=A1 d1;show((F i).set d _).get t=_;rw[K0 _ _ _ _ (C9 a A9) j,B1 (fun e=>by subst e;exact absurd a (Nat.not_lt.2 (B6 b h1)))]
   exact⟨(key 510 L7 L7).trans f.1,(key 511 L7 L7).trans f.2⟩
def Rg.inX(g:Rg P base gl nt call ops F M V R X B):∀ (j:Nat),j<=ops.size->∀ q ∈ X j,q.1<j/\q ∈ X (q.1+1)/\∃ o,ops[q.1]? = some o/\bB nt ops.toList (T5 P call o) ((V7 ops.toList []).getD q.1 []) (R q.1) (F q.1) o (M q.1) (M (q.1+1)) (V q.1) q.2
 | 0,_,q,hq=>by rw[g.x0]at hq;cases hq
 | j+1,hj,q,hq=>by
   obtain⟨o,d⟩:=M9 (ops:=ops) (i:=j) A9;have old:q ∈ X j->q.1<j+1/\q ∈ X (q.1+1)/\∃ o,ops[q.1]? = some o/\bB nt ops.toList (T5 P call o) ((V7 ops.toList []).getD q.1 []) (R q.1) (F q.1) o (M q.1) (M (q.1+1)) (V q.1) q.2:=fun h=>by
    obtain⟨h1,b⟩:=g.inX j A9 q h;exact⟨A9,b⟩
   rcases g.qs j o d with⟨_,h,_⟩|⟨_,h⟩|⟨_,r,h,b⟩
   .exact old (h▸hq)
   .exact old (h▸hq)
   .have a:=hq;rw[h]at hq;rcases A8.1 hq with e|e
    .subst e;exact⟨H5 _,a,o,d,b⟩
    .exact old e
def vX{all:List Oper}{b:F8}{fr:Fr}{o:Oper}{v:Value}(h:bB nt all op b rs fr o m m2 v r):∃ lg,m2=m.wLg lg:=by
 rcases h with⟨lg,_,_,h,_⟩|⟨_,a,_,_,h,_⟩
 .exact⟨lg,h⟩
 .exact⟨a,h⟩
def Rg.kind(g:Rg P base gl nt call ops F M V R X B){i:Nat}{o:Oper}(e:ops[i]? = some o)(hk:n8 o.op=true):bB nt ops.toList (T5 P call o) ((V7 ops.toList []).getD i []) (R i) (F i) o (M i) (M (i+1)) (V i) none:=by
 obtain⟨_,_,_,h⟩:=g.st i o e;have f:DA (M i).H (F i) o.op=none:=by
  cases a:o.op<;>rw[a]at hk<;>first|rfl|cases hk
 rcases h with⟨_,lg,h1,b,h3⟩|⟨_,lg,d,h1,b,h3⟩|⟨h,_⟩|⟨_,h,_⟩
 .exact .inl ⟨lg,h1,b,h3,rfl⟩
 .exact .inr ⟨lg,d,h1,b,h3,f.symm⟩
 .rw[yD (g.sb i o e h)]at hk;cases hk
 .rw[hk]at h;cases h
def Rg.heap{z:Zn}(g:Rg P base gl nt call ops F M V R X B)(f:Ph ops B M lo up){D:Nat->Bool}{o ρ:Ren}{a:Act}{v w':World}(G:∀ k,lo<=k->k<up->D k=false->∃ lg,M (k+1)=(M k).wLg lg)(inv:Inv z P base gl nt ops F M V lo up o v D ρ a w'):St P base o ρ (M lo) (M up) v w':=by
 have w:∀ id,id<=G1->GD M lo up D id=Hp.get (M up).H id:=fun id hid=>by
  unfold GD;cases hu:dI M (Dr lo D) id up with
  | true=>rfl
  | false =>
    simp only[D3];refine((g.all f f.le (A6 _)).2.2.2.2 id hid ?_).symm;rcases F2 id (M lo).n with h1|h1
    .exact .inl h1
    .rcases F2 id (M up).n with e|e
     .exfalso;have hle:=f.le;obtain⟨k,q,K,y,p⟩:=g.who f (up-lo) A9 id h1 (by rw[show lo+(up-lo)=up by omega];exact e);have u:D k=true:=by
       cases J:D k with
       | true=>rfl
       | false =>
         obtain⟨lg,hm⟩:=G k q A9 J;rw[hm]at p;have p:id<(M k).n:=p;omega
      rw[(Q8 (M:=M) (D:=Dr lo D) up).2 ⟨k,A9,V0.2 ⟨q,u⟩,y,p⟩]at hu;cases hu
     .exact .inr e
 have d:=g.all f f.le (A6 _);refine⟨inv.ext,fun b l h1 e=>?_,d.1,d.2.1,fun _=>d.2.2.1,inv.hr.hr fun id hid ab s=>by rw[w id hid];exact s,fun b A=>by rw[d.2.2.2.1];exact A,fun b h1 e=>by rw[d.2.2.2.1]at h1;exact absurd h1 e,
     fun k hk _=>inv.keep k hk,inv.size,inv.os,fun b l h1 e C=>.inl ((inv.new b l h1 e).2 C),fun id hid h1 e=>?_,fun k ⟨id,ab,l,t,x,h,E⟩=>inv.tch k ⟨id,ab,l,t,(w id t).trans x,h,E⟩⟩
 .obtain⟨k,K,I,y,p⟩:=(Q8 _).1 (inv.new b l h1 e).1;have q:=(V0.1 I).1;have t:=(g.le f (i:=lo) (j:=k) (A6 _) q A9).1;have x:=(g.le f (i:=k+1) (j:=up) A9 A9 (A6 _)).1;omega
 .refine d.2.2.2.2 id hid ?_;rcases e with e|e
  .exact .inl e
  .exact .inr (by have:=d.2.2.1;omega)
def Rg.last{z:Zn}(g:Rg P base gl nt call ops F M V R X B)(b:nt<=512){D:Nat->Bool}{d ρ:Ren}{a:Act}{l w':World}(n:∀ i,i<ops.size->D i=true)(inv:Inv z P base gl nt ops F M V lo up d l D ρ a w'):FrR z ρ nt (F ops.size) a:=by
 have e:=inv.dfr.congr (fun _ _ h=>h) (fun j=>g.own j ops.size (A6 _));refine⟨inv.tsz,b,e.1,e.2,fun t f=>?_⟩;have h1:=inv.frm t f;rw[<- g.frameUp b f (A6 _)]
 rwa[cB (D':=fun k=>Nat.blt k ops.size) ops.size (fun k hk _=>by rw[n k hk];exact(A26.2 hk).symm)]at h1
def Rg.fresh{z:Zn}(g:Rg P base gl nt call ops F M V R X B){D:Nat->Bool}{ρ:Ren}{a:Act}{w:World}(y:∀ k,lo<=k->D k=true->∃ lg,M (k+1)=(M k).wLg lg)(hr:HR P base ρ (M lo).H w)(j:a.tmps.size=nt)(p:ZR z ρ nt (F 0) a.defers)
  (e:∀ t,t<nt->VR ρ (p7 D (fun k=>(ops[k]?).bind (·.dst)) V (F 0).get t ops.size) (a.tmps.getD t undef)):Inv z P base gl nt ops F M V lo up ρ w D ρ a w:=by
 have hu:∀ b n,dI M (Dr lo D) b n=false:=fun b n=>by
  cases A:dI M (Dr lo D) b n with
  | false=>rfl
  | true =>
    obtain⟨k,_,h,C,q⟩:=(Q8 _).1 A;obtain⟨h1,o⟩:=V0.1 h;obtain⟨lg,hm⟩:=y k h1 o;rw[hm]at q;have q:b<(M k).n:=q;omega
 have i:∀ id ab,GD M lo up D id=some ab->Hp.get (M lo).H id=some ab:=fun id ab d=>by
  unfold GD at d;rw[hu]at d;exact d
 exact⟨fun _ _ h=>h,fun b l h1 o=>(by rw[h1]at o;cases o),hr.f fun id hid ab d=>i id ab d,fun _ _=>rfl,A6 _,⟨rfl,rfl,rfl⟩,fun k ⟨id,ab,l,v,u,s,x⟩=>.inr ⟨id,ab,l,v,i id ab u,s,x⟩,j,p,e⟩
def Rg.old{z:Zn}(g:Rg P base gl nt call ops F M V R X B)(d:Ph ops B M lo up){e:Ren}{w0:World}{D:Nat->Bool}(a:At P base gl e (M lo) (M up).hi w0){b:Nat}{ab:AB}(p:sV (M lo).H b ab=true):GD M lo up D b=some ab:=by
 obtain⟨h1,hid⟩:=sU p;unfold GD;have hu:dI M (Dr lo D) b up=false:=by
  cases t:dI M (Dr lo D) b up with
  | false=>rfl
  | true =>
    exfalso;obtain⟨k,x,s,v,w⟩:=(Q8 _).1 t;have q:=(V0.1 s).1;obtain⟨l,f,_⟩:=a.hr.at_ b hid _ h1;have o:=g.le d (i:=lo) (j:=k) (A6 _) q A9;have u:=g.le d (i:=k+1) (j:=up) A9 A9 (A6 _);have n:=(g.all d d.le (A6 _)).2.2.1;rw[a.fr b A9 A9]at f;cases f
 rw[hu];exact h1
end
def QQ(hm:P.follows .mixedOrders=true)(O:Q4 P base gl call):d7 P base gl call:=by
 refine⟨hm,?_⟩;intro nt ops bu s s' ck;obtain⟨F,M,V,R,X,B,f1,f2,f3,dt,f4,f5,f6⟩:=WG ops.toList 0 _ _ _ s s' ck;simp only[D8,O9]at f4 f5 f6;have cy:∀ i,i<=ops.size->∀ d,i+d<=ops.size->(M i).hi<=(M (i+d)).hi/\(M i).lg.le (M (i+d)).lg:=by
  intro i _ d;induction d with
  | zero=>intro _;exact⟨A6 _,.refl _⟩
  | succ d ih =>
    intro h;have h1:=ih A9;obtain⟨o,y⟩:=M9 (ops:=ops) (i:=i+d) A9;obtain⟨bo,_⟩:=f6 (i+d) o (P4 y);refine⟨?_,h1.2.trans (vK O bo)⟩;obtain⟨_,_,_,L⟩:=bo;rcases L with⟨_,_,_,_,L⟩|⟨_,_,_,_,_,L⟩|⟨_,_,_,_,L⟩|⟨_,_,_,_,mv,m',_,_,_,cq,L⟩
    .show _<=(M (i+d+1)).hi;rw[L];exact h1.1
    .show _<=(M (i+d+1)).hi;rw[L];exact h1.1
    .exact B6 h1.1 L
    .exact B6 h1.1 (PA L cq)
 have A:∀ i j,i<=j->j<=ops.size->(M i).hi<=(M j).hi/\(M i).lg.le (M j).lg:=fun i j h1 L=>by
  have:=cy i A9 (j-i) A9
  rwa[show i+(j-i)=j by omega]at this
 constructor
 .have:=A 0 ops.size A9 (A6 _);rw[f2,f5]at this;exact this
 .intro z aw a0 w id Q cr ay al hQ;have g:Rg P base gl nt call ops F M V R X B:=⟨fun i o y=>(f6 i o (P4 y)).1,fun i o y=>(f6 i o (P4 y)).2.2.1,fun i o y=>(f6 i o (P4 y)).2.2.2,fun i o y=>(f6 i o (P4 y)).2.1,dt,bu⟩;have cd:∀ i o,ops[i]? = some o->∀ e ∈ o.after.toList,Region.binds .any e=true->e.on<i:=fun i o y=>by
   have:=(dY _ 0 g.ok i o (P4 y)).1;rw[D8]at this;exact cE this
  refine bK hm ?_;generalize cf:({ w with drawn:=w.drawn+1 }:World)=w1;have au:w1.heap=w.heap:=by rw[<- cf]
  have ba:w1.os=w.os/\w1.tape=w.tape/\w1.output=w.output:=by rw[<- cf];exact⟨rfl,rfl,rfl⟩
  have av:At P base gl aw (M 0) (M ops.size).hi w1:=by
   rw[f2,f5];exact⟨⟨fun b l h=>ay.hr.dom b l h,fun id hid ab dz=>by
    obtain⟨l,e1,e2,e3⟩:=ay.hr.at_ id hid ab dz;exact⟨l,e1,e2.mono (fun _ _ h=>h) (fun _ _=>by rw[au]),e3⟩⟩,by rw[au];exact ay.bs,ay.fr,ay.gr,ay.nh,ay.wb,fun k o hk=>by rw[au];exact ay.gf k o hk⟩
  have aj:∀ i,i<=ops.size->Sat (M i).lg:=fun i hi=>M4.le cr (by rw[<- f5];exact(A i ops.size hi (A6 _)).2)
  have W:I2 aw (M 0).n (M ops.size).hi:=av.fr;have fin:∀ (ρ:Ren) (a:Act) (w':World),FrR z ρ nt (F ops.size) a->St P base aw ρ (M 0) (M ops.size) w1 w'->Q .normal a w':=fun ρ a w' hf st=>by
   refine hQ ρ a w' (by rw[<- f4];exact hf) ?_;rw[<- f2,<- f5];exact⟨st.ext,st.new,st.nle,st.hle,st.nhi,st.hr,st.wsub,st.wrw,fun k hk hb=>by rw[st.keep k (by rw[au];exact hk) hb,au],by rw[<- au];exact st.size,⟨st.os.1.trans ba.1,st.os.2.1.trans ba.2.1,st.os.2.2.trans ba.2.2⟩,fun b l h1 L h3=>by rw[<- au];exact st.blk b l h1 L h3,st.same,fun k hk=>by rw[<- au];exact st.tch k hk⟩
  have main:∀ (fuel:Nat) (listed:Array Bool) (lo up:Nat) (J ρ:Ren) (a:Act) (wL w':World),listed.size=ops.size->listed.toList.countP (fun b=>!b)=fuel->iP ops.toList (fun k=>listed.getD k false=true) ->
    Ph ops B M lo up->(up<ops.size->∃ o,ops[up]? = some o/\B up=true)->St P base aw J (M 0) (M lo) w1 wL->At P base gl J (M lo) (M ops.size).hi wL->(∀ q ∈ X lo,listed.getD q.1 false=false->WP (M lo).H q.2=true)->(∀ k,k<lo->listed.getD k false=false->∃ q ∈ X lo,q.1=k)->(∀ k o,up<=k->ops[k]? = some o->listed.getD k false=true->n8 o.op=true) ->
    Inv z P base gl nt ops F M V lo up J wL (fun k=>listed.getD k false) ρ a w'->dH P z.rd .any ops Q fuel listed a w':=by
   have done:∀ (listed:Array Bool) (lo up:Nat) (J ρ:Ren) (a:Act) (wL w':World),(∀ i,i<ops.size->listed.getD i false=true)->Ph ops B M lo up->(up<ops.size->∃ o,ops[up]? = some o/\B up=true)->St P base aw J (M 0) (M lo) w1 wL->(∀ k o,up<=k->ops[k]? = some o->listed.getD k false=true->n8 o.op=true) ->
     Inv z P base gl nt ops F M V lo up J wL (fun k=>listed.getD k false) ρ a w'->Q .normal a w':=fun listed lo up J ρ a wL w' T ph G an I inv=>by
    have cc:up=ops.size:=by
     rcases F2 up ops.size with h|h
     .obtain⟨o,y,hs⟩:=G h
      have:=I up o (A6 _) y (T up h);rw[yD (g.sb up o y hs)]at this;cases this
     .have:=ph.sz;omega
    subst cc;exact fin ρ a w' (g.last al.le T inv) (St.trans W an (g.heap ph (fun k _ h1 L=>by have L:listed.getD k false=false:=L;rw[T k h1]at L;cases L) inv))
   intro fuel;induction fuel with
   | zero =>
     intro listed lo up J ρ a wL w' bg bm ar ph G an ae bb bt I inv;have T:∀ i,i<ops.size->listed.getD i false=true:=fun i hi=>by
      have:=tI bm i (by simpa [bg]using hi);have L:listed[i]? = some true:=by simpa using this
      simp[B0,L]
     refine⟨?_,done listed lo up J ρ a wL w' T ph G an I inv⟩;rw[S9];intro j hj;obtain⟨h1,o,L,_⟩:=mem_ready.1 hj;have aq:j<ops.size:=(B5.1 L).1;have h3:=T j aq;have bd:j<listed.size:=A9;simp[B0,bd]at h1 h3;rw[h1]at h3;cases h3
   | succ fuel ih =>
     intro listed lo up J ρ a wL w' bg bm ar ph G an ae bb bt I inv;refine⟨fun dx=>?_,fun i hi=>?_⟩
     ·
      have key:∀ n i,i<n->i<ops.size->listed.getD i false=true:=by
       intro n;induction n with
       | zero=>intro i h;omega
       | succ n bq =>
         intro i dm bp;by_cases h:i<n
         .exact bq i h bp
         .cases U:listed.getD i false with
          | true=>rfl
          | false =>
            exfalso;obtain⟨o,y⟩:=M9 (ops:=ops) bp;have bk:i ∈ Region.ready .any ops listed:=mem_ready.2 ⟨by
             have bd:i<listed.size:=A9;simp[B0,bd]at U ⊢;exact U,o,y,fun e he hb=>by
             have aq:=cd i o y e (by simpa using he) hb;exact bq e.on A9 A9⟩
            rw[dx]at bk;cases bk
      exact done listed lo up J ρ a wL w' (fun i hi=>key (i+1) i (H5 i) hi) ph G an I inv
     .obtain⟨h1,o,y,L⟩:=mem_ready.1 hi;have bp:i<ops.size:=(B5.1 y).1;have af:i<listed.size:=A9;have Z:listed.getD i false=false:=by
       simp[B0,af]at h1 ⊢;exact h1
      have u:∀ k,k≠i->(listed.setIfInBounds i true).getD k false=listed.getD k false:=fun k hk=>by
       simp only[B0,D1];rw[B1 (fun e=>hk e.symm)]
      have E:(listed.setIfInBounds i true).getD i false=true:=by
       simp[B0,D1,af]
      have hr:∀ e ∈ o.after.toList,Region.binds .any e=true->listed.getD e.on false=true:=fun e he hb=>L e (by simpa using he) hb
      have bj:(listed.setIfInBounds i true).size=ops.size:=by simpa using bg
      have ad:(listed.setIfInBounds i true).toList.countP (fun b=>!b)=fuel:=by
       have hg:listed.toList[i]? = some false:=by
        simp[B0,af]at Z;simp[af,Z]
       have:=oW listed.toList i hg;rw[cL];omega
      have bl:iP ops.toList (fun k=>(listed.setIfInBounds i true).getD k false=true):=by
       intro k o' bc hk e he hb;by_cases e1:e.on=i
       .rw[e1];exact E
       .show(listed.setIfInBounds i true).getD e.on false=true;rw[u e.on e1];by_cases e2:k=i
        .subst e2;have:ops.toList[k]? = some o:=P4 y;rw[this]at bc;cases bc;exact hr e he hb
        .have hk:(listed.setIfInBounds i true).getD k false=true:=hk;rw[u k e2]at hk;exact ar k o' bc hk e he hb
      have bx:∀ k,k ∈ (V7 ops.toList []).getD i []->listed.getD k false=true:=fun k hk=>uB ar (fun i o y=>by
        have:=(dY _ 0 g.ok i o y).1;rw[D8]at this;exact cE this) (i+1) i k o (H5 i) (P4 y) hr hk
      have aq:∀ k,listed.getD k false=true->k<ops.size:=fun k hk=>by
       rcases F2 k ops.size with h|h
       .exact h
       .have N:listed[k]? = none:=Array.getElem?_eq_none_iff.2 A9;rw[B0,N]at hk;cases hk
      have ah:At P base gl J (M lo) (M up).hi wL:=ae.less (A up ops.size ph.sz (A6 _)).1;have go:∀ (ρ':Ren) (a':Act) (C:World),(up<=i->n8 o.op=true)->Inv z P base gl nt ops F M V lo up J wL (fun k=>(listed.setIfInBounds i true).getD k false) ρ' a' C->dH P z.rd .any ops Q fuel (listed.setIfInBounds i true) a' C:=fun ρ' a' C U ax =>
       ih (listed.setIfInBounds i true) lo up J ρ' a' wL C bj ad bl ph G an ae (fun q U N=>bb q U (by
        by_cases e:q.1=i
        .rw[e,E]at N;cases N
        .rw[u _ e]at N;exact N)) (fun k hk N=>by
        by_cases e:k=i
        .subst e;rw[E]at N;cases N
        .rw[u k e]at N;exact bt k hk N) (fun k p hk hp Y=>by
        by_cases e:k=i
        .subst e;rw[y]at hp;cases hp;exact U hk
        .rw[u k e]at Y;exact I k p hk hp Y) ax
      have quiet:∀ r,(up<=i->n8 o.op=true)->bB nt ops.toList (T5 P call o) ((V7 ops.toList []).getD i []) (R i) (F i) o (M i) (M (i+1)) (V i) r->(∀ b ab,r=some (b,ab)->GD M lo up (fun k=>listed.getD k false) b=some ab)->i0 P z.rd ops Q i (fun a' C=>dH P z.rd .any ops Q fuel (listed.setIfInBounds i true) a' C) a w':=fun r U S dw =>
       g.quiet O ah (aj (i+1) A9) al.le inv ar aq y Z hr u E S dw fun ρ' a' C ax=>go ρ' a' C U ax
      rcases F2 i lo with ag|ag
      ·
       obtain⟨q,cn,ch⟩:=bt i ag Z;obtain⟨_,_,p,hp,S⟩:=g.inX lo (by have:=ph.sz;have:=ph.le;omega) q cn;rw[ch]at hp S;rw[y]at hp;cases hp;refine quiet q.2 (fun h=>by have:=ph.le;omega) S fun b ab hb=>?_
       refine g.old (z:=z) ph ah ?_
       have:=bb q cn (by rw[ch];exact Z);rw[hb]at this;exact this
      .rcases F2 i up with cv|cv
       ·
        by_cases hex:∃ r,bB nt ops.toList (T5 P call o) ((V7 ops.toList []).getD i []) (R i) (F i) o (M i) (M (i+1)) (V i) r
        .obtain⟨r,S⟩:=hex;refine quiet r (fun h=>by omega) S fun b ab hb=>?_
         rcases S with⟨_,_,_,_,dq⟩|⟨lg,dn,hw,U,hm,ds⟩
         .rw[dq]at hb;cases hb
         .obtain⟨mv,m',cz,_⟩:=gT U;obtain⟨h3,h4⟩:=(nW cz).2.2.2.2.2 b ab (ds.symm.trans hb);obtain⟨h5,h6⟩:=sU h3;exact g.see (z:=z) (a:=a) (ρ:=ρ) (w:=w') ph ah ar ag cv y hr b h6 _ h5 h4
        .exact g.step ph O ah (aj up ph.sz) al.le inv ar aq ag cv y Z hr u E hex fun ρ' a' C ax=>go ρ' a' C (fun h=>by omega) ax
       .obtain⟨os,bz,ao⟩:=G A9;rcases F2 up i with ca|dk
        ·
         have hk:n8 o.op=true:=by
          rcases EV (g.sb up os bz ao) i o ca y with h|h
          .have h3:=I up os (A6 _) bz (bx up h);rw[yD (g.sb up os bz ao)]at h3;cases h3
          .exact h
         exact quiet none (fun _=>hk) (g.kind y hk) fun b ab hb=>by cases hb
        ·
         have cu:i=up:=A9;subst cu;rw[y]at bz;cases bz;have ai:∀ k,k<i->listed.getD k false=false->∃ q ∈ X i,q.1=k:=fun k hk N=>by
          rcases EW (g.sb i o y ao) k hk with h|h
          .rw[bx k h]at N;cases N
          .exact h
         have q2:=g.heap ph (fun k _ hk N=>by
          obtain⟨q,U,e⟩:=ai k hk N;obtain⟨_,_,p,hp,S⟩:=g.inX i A9 q U;rw[e]at S;exact vX S) inv
         have st1:St P base aw ρ (M 0) (M i) w1 w':=St.trans (W.less (A i ops.size A9 (A6 _)).1) an q2;have az:At P base gl ρ (M i) (M ops.size).hi w':=ae.step q2;obtain⟨d1,d2,d3,bo⟩:=g.st i o y;have aa:∀ t,t ∈ R8 ops.toList o->t<nt->VR ρ ((F i).get t) (a.tmps.getD t undef):=fun t ht cj=>by
          rw[<- g.look al.le ar aq y Z hr ht cj];exact inv.frm t cj
         have dy:FR ρ (F i) a.eval o.op:=fun x hx=>by
          have bu:okX nt gl x=true:=D2.1 d2 x hx;cases x with
          | tmp t=>exact aa t (rI hx rfl) (A1 bu)
          | const v=>exact VR.ofC bu
          | global gg=>exact VR.ptr (o:=0) (az.gr gg (A1 bu))
          | func f=>exact .func (a:=[]) (b:=[]) (a':=[]) (b':=[]) rfl rfl (fun i v v' h=>by simp at h) (fun i v v' h=>by simp at h)
         have cw:∀ lg b,s8 nt (F i) (M i).lg ops.toList o=some (b,lg)->Sat lg->Region.wanted o (yielded ops a.tmps)=b:=fun lg b hw bf=>by
          unfold s8 at hw;split at hw
          .rename_i hg;cases hw;simp[Region.wanted,hg]
          .rename_i j want hg;split at hw
           .rename_i p hp;split at hw
            .rename_i t ht;obtain⟨h1,L⟩:=A2 hw;have h1:t<nt:=A1 h1;have hv:=aa t (by
              unfold R8;refine B7.2 (.inr (B7.2 (.inr ?_)));simp[hg,hp,ht]) h1
             exact iV hg hp ht (by rw[inv.tsz];exact h1) (lO L hv bf)
            .cases hw
           .cases hw
         have bn:∀ (ρ':Ren) (v':Value),(∀ b l,ρ b=some l->ρ' b=some l)->VR ρ' (V i) v'->∀ t,t<nt->VR ρ' (p7 (fun k=>(listed.setIfInBounds i true).getD k false) (fun k=>(ops[k]?).bind (·.dst)) V (F 0).get t ops.size) ((a.put o.dst v').tmps.getD t undef):=fun ρ' v' he hv t ht=>by
          by_cases hd:o.dst=some t
          .have ak:∀ k,i<k->k<ops.size->(ops[k]?).bind (·.dst)=some t->listed.getD k false=false:=fun k dp hk cg=>by
            obtain⟨p,hp⟩:=M9 (ops:=ops) hk;rw[hp]at cg
            have:=g.slot ar aq y Z hr (t:=t) (by unfold R8;simp[hd]) k p hp A9 cg;cases U:listed.getD k false with
            | false=>rfl
            | true=>have:=this.1 U;omega
           rw[mX (D:=fun k=>listed.getD k false) u E ops.size bp (by simp[y,hd]) ak];simp only[hd,Act.put,B0];rw[D1,B2 rfl,B2 (by rw[inv.tsz];exact ht)];exact hv
          .rw[kT (D:=fun k=>listed.getD k false) u (by simp[y];exact hd)];have h1:=(inv.frm t ht).mono he;cases cb:o.dst with
           | none=>exact h1
           | some d =>
             have dr:d≠t:=fun e=>hd (e▸cb)
             simp only[Act.put,B0]at h1 ⊢;rw[D1,B1 dr];exact h1
         have hX:X (i+1)=X i/\PN ((V7 ops.toList []).getD i []) (M (i+1)).H (X i)=true:=by
          rcases g.qs i o y with⟨_,h3,h4⟩|⟨h3,_⟩|⟨h3,_⟩
          .exact⟨h3,h4⟩
          .rw[ao]at h3;cases h3
          .rw[ao]at h3;cases h3
         have ak:∀ (ρ':Ren) (v':Value) (C:World),VR ρ' (V i) v'->St P base ρ ρ' (M i) (M (i+1)) w' C->dH P z.rd .any ops Q fuel (listed.setIfInBounds i true) (a.put o.dst v') C:=fun ρ' v' C hv st2=>by
          obtain⟨du,u1,u2,u3,u4⟩:=oB ops B (ops.size-(i+1)) (i+1) A9;have bh:=az.step st2;refine ih (listed.setIfInBounds i true) (i+1) du ρ' ρ' _ C C bj ad bl ⟨u1,u2,bh.nh,u3⟩ u4 (St.trans (W.less (A (i+1) ops.size A9 (A6 _)).1) st1 st2) bh (fun q U N=>?_) (fun k hk N=>?_) (fun k p hk hp Y=>?_)
           (g.fresh (fun k hk Y=>?_) st2.hr ?_ ?_ (bn ρ' v' st2.ext hv))
          .rw[hX.1]at U;have h5:=D2.1 hX.2 q U;rcases F7 _ _▸h5 with h5|h5
           .exfalso;have h6:=bx q.1 (S2.1 h5);by_cases e:q.1=i
            .rw[e,Z]at h6;cases h6
            .rw[u _ e,h6]at N;cases N
           .exact h5
          .rw[hX.1];by_cases e:k=i
           .subst e;rw[E]at N;cases N
           .rw[u k e]at N;exact ai k A9 N
          .rw[u k A9]at Y;exact I k p A9 hp Y
          .have Y:(listed.setIfInBounds i true).getD k false=true:=Y;rw[u k A9]at Y;obtain⟨p,hp⟩:=M9 (ops:=ops) (aq k Y);exact vX (g.kind hp (I k p A9 hp Y))
          .cases cb:o.dst<;>simp[Act.put,inv.tsz]
          .rw[bT];exact inv.dfr.congr st2.ext fun _=>⟨rfl,rfl⟩
         unfold i0;simp only[y];rcases bo with⟨K,_⟩|⟨K,_⟩|⟨_,lg,hw,bw,cq⟩|⟨K,_⟩
         .rw[ao]at K;cases K
         .rw[ao]at K;cases K
         .have cm:=aj (i+1) A9;have bf:Sat lg:=M4.le cm (by have:=m6 O bw;rw[Y1]at this;exact this);rw[cw lg true hw bf];simp only[if_true];have ct:At P base gl ρ ((M i).wLg lg) (M (i+1)).hi w':=(az.wLg lg).less (A (i+1) ops.size A9 (A6 _)).1;refine lW O bw cm ct dy fun v' ρ' C hv st2=>ak ρ' v' C hv ?_
          have cp:=St.wLg (m:=M i) az.hr lg;exact St.trans (by have:=az.fr;exact this.less (A (i+1) ops.size A9 (A6 _)).1) cp st2
         .rw[ao]at K;cases K
  obtain⟨up,u1,u2,u3,u4⟩:=oB ops B ops.size 0 A9;have br:∀ k,(Array.replicate ops.size false).getD k false=false:=fun k=>by
   simp only[B0,R7];split<;>simp
  refine main ops.size _ 0 up aw aw a0 w1 w1 (by simp) (by simp[List.countP_replicate]) (fun k o y hk=>by have hk:(Array.replicate ops.size false).getD k false=true:=hk;rw[br k]at hk;cases hk) ⟨u1,u2,av.nh,u3⟩ u4 (St.refl av.hr) av (fun q U=>by rw[g.x0]at U;cases U) (fun k hk=>by omega) (fun k o hk y Y=>by rw[br k]at Y;cases Y)
   (g.fresh (fun k _ Y=>by have Y:(Array.replicate ops.size false).getD k false=true:=Y;rw[br k]at Y;cases Y) av.hr al.size (by rw[f1];exact al.zr) fun t ht=>?_)
  have h0:∀ n,p7 (fun k=>(Array.replicate ops.size false).getD k false) (fun k=>(ops[k]?).bind (·.dst)) V (F 0).get t n=(F 0).get t:=by
   intro n;induction n with
   | zero=>rfl
   | succ n bq=>rw[p7,B1 (fun hh=>by rw[br n]at hh;exact absurd hh.1 (by simp)),bq]
  rw[h0,f1];exact al.get t ht
end
end
section
open Go
variable [Ora]
section
variable {P:Program} {base gl:Nat}
def qR{f:FuncId}{e:Q0->Sem Value}{args:Q0}{w w':World}{v:Value}(d:P.funcs[f]? = some fn)(b:(fn.name == "runtime.NumGoroutine")=false)(i:fn.body=none)(g:Extern.findNext fn=none)(he:Extern.find fn=some e)
  (hr:(e args).run P w=.ok v w'):(callFunc f args).run P w=.ok (.value v) w':=by
 have a:fn.name ≠ "runtime.NumGoroutine":=by simpa using b
 simp[callFunc,A3,run_program,Result.andThen,d,a,i,g,he,mark,Sem.run,hr]
def iH{k:EK}{vs:D0}{v:Value}(h:kW k vs m=some (v,m')) :
  (k=.noEscape/\vs=[v]/\m'=m) ∨
  (k=.indexByteString/\∃ s c,vs=[.string s,.int .u8 (.ofNat c)]/\v=.int .i64 (oN s.data.toList (UInt8.ofNat c) 0)/\m'=m) ∨
  (k=.countString/\∃ s c,vs=[.string s,.int .u8 (.ofNat c)]/\v=.int .i64 (oX (UInt8.ofNat c) s.data.toList 0)/\m'=m) ∨
  (∃ e n,k=.makeNoZero e/\vs=[.int .i64 (.ofNat n)]/\n<=1000000000/\W5 m (.cells [] e false) (fun b=>.slice (some ⟨b,0,none⟩) n K8)=some (v,m')):=by
 unfold kW at h;split at h
 .cases h;exact .inl ⟨rfl,rfl,rfl⟩
 .cases h;exact .inr (.inl ⟨rfl,_,_,rfl,rfl,rfl⟩)
 .cases h;exact .inr (.inr (.inl ⟨rfl,_,_,rfl,rfl,rfl⟩))
 .obtain⟨h1,h⟩:=A2 h;exact .inr (.inr (.inr ⟨_,_,rfl,rfl,A1 h1,h⟩))
 .cases h
def qS{k:EK}{vs:D0}{v:Value}(h:(FnC.mk (kW k)).run vs m=some (v,m')):m.lg.le m'.lg:=by
 have h:kW k vs m=some (v,m'):=h;rcases iH h with⟨_,_,rfl⟩|⟨_,_,_,_,_,rfl⟩|⟨_,_,_,_,_,rfl⟩|⟨_,_,_,_,_,h⟩
 .exact .refl _
 .exact .refl _
 .exact .refl _
 .obtain⟨_,_,rfl⟩:=J7 h;exact .refl _
def CB{f:FuncId}(e:P.funcs[f]? = some fn)(b:(fn.name == "runtime.NumGoroutine")=false)(i:fn.body=none)(d:Extern.findNext fn=none)(he:Extern.find fn=some Extern.AbiNoEscape.same):gJ P base gl f ⟨kW .noEscape⟩:=by
 refine⟨fun vs m m' v hr=>qS hr,?_⟩;intro ρ m m' w vs vs' v hr l a j;have hr:kW .noEscape vs m=some (v,m'):=hr;rcases iH hr with⟨_,rfl,rfl⟩|⟨h,_⟩|⟨h,_⟩|⟨_,_,h,_⟩
 .obtain⟨v',k,rfl,h1,g⟩:=j.tail;cases g.nil_inv;exact .inr ⟨v',ρ,w,qR e b i d he rfl,h1,.refl a.hr⟩
 .cases h
 .cases h
 .cases h
def wO(c:UInt8):∀ (l:List UInt8) (k:Nat),oN l c k=if Lib.indexByte l c == -1 then -1 else Lib.indexByte l c+k
 | [],k=>rfl
 | x::r,k=>by
   have f:=Lib.indexByte_ge r c;have b:=wO c r (k+1);rw[oN,Lib.indexByte];by_cases e:x=c
   .subst e;simp
   .have d:(x == c)=false:=by simpa using e
    simp only[d,U7 e,D3];rw[b];by_cases h:Lib.indexByte r c = -1
    .simp[h]
    .have a:(Lib.indexByte r c == -1)=false:=by simpa using h
     have h3:(Lib.indexByte r c+1 == -1)=false:=by simp;omega
     simp only[a,h3,G8,if_false];omega
def FX(c:UInt8)(l:List UInt8):oN l c 0=Lib.indexByte l c:=by
 rw[wO];by_cases h:Lib.indexByte l c = -1
 .simp[h]
 .have a:(Lib.indexByte l c == -1)=false:=by simpa using h
  simp[a]
def kY(c:UInt8):∀ (l:List UInt8) (n:Nat),oX c l n=n+l.count c
 | [],n=>rfl
 | x::r,n=>by
   rw[oX,List.count_cons];by_cases e:x=c
   .subst e;simp only[decide_true,D7,E1,beq_self_eq_true,if_true];rw[kY x r (n+1)];omega
   .have a:(x == c)=false:=by simpa using e
    simp only[U7 e,D3,a,G8,if_false];rw[kY c r n];omega
def zE{f:FuncId}(e:P.funcs[f]? = some fn)(b:(fn.name == "runtime.NumGoroutine")=false)(i:fn.body=none)(d:Extern.findNext fn=none)(he:Extern.find fn=some Extern.BytealgIndexByte.indexByte):gJ P base gl f ⟨kW .indexByteString⟩:=by
 refine⟨fun vs m m' v hr=>qS hr,?_⟩;intro ρ m m' w vs vs' v hr l a j;have hr:kW .indexByteString vs m=some (v,m'):=hr;rcases iH hr with⟨h,_⟩|⟨_,s,c,rfl,rfl,rfl⟩|⟨h,_⟩|⟨_,_,h,_⟩
 .cases h
 .obtain⟨v1,r1,rfl,h1,g⟩:=j.tail;obtain⟨v2,r2,rfl,h3,k⟩:=g.tail;cases k.nil_inv;cases R2 h1;cases H8 h3;refine .inr ⟨_,ρ,w,qR e b i d he (Lib.run_indexByteString s (.ofNat c) w),?_,.refl a.hr⟩;rw[FX];exact .pure rfl
 .cases h
 .cases h
def tJ{f:FuncId}(e:P.funcs[f]? = some fn)(b:(fn.name == "runtime.NumGoroutine")=false)(i:fn.body=none)(d:Extern.findNext fn=none)(he:Extern.find fn=some Extern.BytealgCount.count):gJ P base gl f ⟨kW .countString⟩:=by
 refine⟨fun vs m m' v hr=>qS hr,?_⟩;intro ρ m m' w vs vs' v hr l a j;have hr:kW .countString vs m=some (v,m'):=hr;rcases iH hr with⟨h,_⟩|⟨h,_⟩|⟨_,s,c,rfl,rfl,rfl⟩|⟨_,_,h,_⟩
 .cases h
 .cases h
 .obtain⟨v1,r1,rfl,h1,g⟩:=j.tail;obtain⟨v2,r2,rfl,h3,k⟩:=g.tail;cases k.nil_inv;cases R2 h1;cases H8 h3;refine .inr ⟨_,ρ,w,qR e b i d he (Lib.run_countString s (.ofNat c) w),?_,.refl a.hr⟩;rw[kY,D8];exact .pure rfl
 .cases h
def uS{f:FuncId}{ps:Array TypeId}{t e:TypeId}(k:P.funcs[f]? = some fn)(j:(fn.name == "runtime.NumGoroutine")=false)(s:fn.body=none)(l:Extern.findNext fn=none)(he:Extern.find fn=some (Extern.BytealgMakeNoZero.makeNoZero ps #[t]))
  (hu:P.underlying t=some (.slice e)) (hi:(P.info? e).map (·.size)=some 1):gJ P base gl f ⟨kW (.makeNoZero e)⟩:=by
 refine⟨fun vs m m' v hr=>qS hr,?_⟩;intro ρ m m' w vs vs' v hr A a x;have hr:kW (.makeNoZero e) vs m=some (v,m'):=hr;rcases iH hr with⟨h,_⟩|⟨h,_⟩|⟨h,_⟩|⟨e',n,h,rfl,p,hr⟩
 .cases h
 .cases h
 .cases h
 .cases h;obtain⟨v1,r1,rfl,h1,g⟩:=x.tail;cases g.nil_inv;cases H8 h1;obtain⟨cs,d,hle,_⟩:=Lib.run_makeNoZero (P:=P) w ps t e hu n A9;obtain⟨z,y,q⟩:=bD (wd:=w.drew.drew) (fz:=(0,0)) (cap:=cs.size) (C:=cs) (cs':=[]) a.hr a.bs hr a.fr (.nil) (fun i u hi=>by simp at hi) NF.zero
   (fun inf g=>by rw[g]at hi;have hi:some inf.size=some 1:=hi;have hi:=A5 hi;rw[hi];omega) ⟨rfl,rfl,rfl⟩ rfl
  refine .inr ⟨_,_,_,qR k j s l he d,?_,q⟩;rw[z]
  have:=VR.op (ρ:=upd ρ m.n (lc w.heap.size 0 cs.size)) (b:=m.n) (o:=0) (n:=n) (m:=K8) (m':=cs.size) y (A6 _) hle (fun _ _=>rfl)
  simpa using this
end
end
section
open Go
variable [Ora]
structure uD (P:Program) (f:FuncId) (k:EK):Prop where
 row:∃ fn,P.funcs[f]? = some fn/\(fn.name == "runtime.NumGoroutine")=false/\fn.body=none/\Extern.findNext fn=none /\
  ((k=.noEscape/\Extern.find fn=some Extern.AbiNoEscape.same)∨(k=.indexByteString/\Extern.find fn=some Extern.BytealgIndexByte.indexByte)∨(k=.countString/\Extern.find fn=some Extern.BytealgCount.count) ∨
    (∃ e ps t,k=.makeNoZero e/\Extern.find fn=some (Extern.BytealgMakeNoZero.makeNoZero ps #[t])/\P.underlying t=some (.slice e)/\(P.info? e).map (·.size)=some 1))
def uD.ok{P:Program}{f:FuncId}{k:EK}{base gl:Nat}(h:uD P f k):gJ P base gl f ⟨kW k⟩:=by
 obtain⟨fn,h1,d,h3,b,a⟩:=h.row;rcases a with⟨rfl,a⟩|⟨rfl,a⟩|⟨rfl,a⟩|⟨e,ps,t,rfl,a,g,i⟩
 .exact CB h1 d h3 b a
 .exact zE h1 d h3 b a
 .exact tJ h1 d h3 b a
 .exact uS h1 d h3 b a g i
def wX:∀ {l:List (FuncId×EK)} {f:FuncId} {k:EK},DH l f=some k->(f,k) ∈ l
 | (g,j)::r,f,k,h=>by
   rw[DH]at h;cases e:Nat.beq g f with
   | true =>
     rw[e]at h;cases h;rw[A0 e];exact .head _
   | false =>
     rw[e]at h;exact .tail _ (wX h)
theorem VJ{P:Program}{ext:List (FuncId×EK)}{gl base:Nat}{con:FuncId->Option FnC}{lp:FuncId->LpT}(hm:P.follows .mixedOrders=true)(a:AE P)(he:∀ p ∈ ext,uD P p.1 p.2)
  (b:∀ f c,con f=some c->gJ P base gl f c) (d:∀ f fn body,P.funcs[f]? = some fn->fn.body=some body->ED P base gl fn.ntmps body (lp f)) :
  WB ⟨P,ext,gl,con,lp⟩ base :=
 { names:=a,ext:=fun f k fn _ _ h=>(he _ (wX h)).ok,con:=b,lp:=d,draws:=fun _ h=>QQ hm h }
end
section
open Go
inductive Sh where
 | s (t:Nat)
 | a (ts:List Nat)
def JZ(t:Nat)(u:U):N6:=if F3 u=t then toV u else none
def TI:F8->List U->Option (D0×List U)
 | [],us=>some ([],us)
 | t::ts,u::us=>match JZ t u,TI ts us with
   | some v,some (vs,r)=>some (v::vs,r)
   | _,_=>none
 | _::_,[]=>none
def WF:Sh->List U->Option (Value×List U)
 | .s t,u::us=>match JZ t u with
   | some v=>some (v,us)
   | none=>none
 | .s _,[]=>none
 | .a ts,us=>match TI ts us with
   | some (vs,r)=>some (.agg ⟨vs⟩,r)
   | none=>none
def YR:List Sh->List U->Option D0
 | [],[]=>some []
 | [],_::_=>none
 | h::hs,us=>match WF h us with
   | some (v,r)=>match YR hs r with
     | some vs=>some (v::vs)
     | none=>none
   | none=>none
def tup:D0->Value
 | [v]=>v
 | vs=>.tuple ⟨vs⟩
structure nR (w w':World):Prop where
 os:w'.os=w.os/\w'.tape=w.tape/\w'.output=w.output
 size:w.heap.size<=w'.heap.size
 keep:∀ k,k<w.heap.size->w'.heap[k]? = w.heap[k]?
def GOk(G:Nat->Option Obj)(w:World):Prop:=∀ k o,G k=some o->w.heap[k]? = some o
def GOk.lt{G:Nat->Option Obj}{w:World}(h:GOk G w){k:Nat}{o:Obj}(hk:G k=some o):k<w.heap.size:=by
 have:=h k o hk;rcases F2 k w.heap.size with h1|h1
 .exact h1
 .rw[Array.getElem?_eq_none h1]at this;cases this
abbrev X8:=List U->Option (Nat×List U)
def Sh.tags:Sh->F8
 | .s t=>[t]
 | .a b=>b
def vI:List Sh->F8
 | []=>[]
 | s::ss=>s.tags++vI ss
def Sh.n(s:Sh):Nat:=s.tags.length
def shN:List Sh->Nat
 | []=>0
 | h::hs=>h.n+shN hs
def iK(a:List Sh):Bool:=(vI a).any (Nat.ble 10)
inductive ShR (R:Nat->Option Obj):Sh->List U->Value->Prop
 | s {t u v} (h:Enc R u v) (ht:F3 u=t):ShR R (.s t) [u] v
 | a {ts us cs} (h:W7 R us cs) (ht:us.map F3=ts):ShR R (.a ts) us (.agg ⟨cs⟩)
inductive ShL (R:Nat->Option Obj):List Sh->List U->D0->Prop
 | nil:ShL R [] [] []
 | cons {s ss us us2 v vs} (h:ShR R s us v) (k:ShL R ss us2 vs):ShL R (s::ss) (us++us2) (v::vs)
def W7.append{R:Nat->Option Obj}{us b:List U}{vs:D0}(h:W7 R us vs)(k:W7 R b vs2):W7 R (us++b) (vs++vs2):=by
 refine⟨by simp[h.1,k.1],fun i u v h1 d=>?_⟩;rcases F2 i us.length with a|a
 .rw[E5 a]at h1;rw[E5 (h.1▸a)]at d;exact h.2 i u v h1 d
 .rw[D5 a]at h1;rw[D5 (h.1▸a),<- h.1]at d;exact k.2 _ u v h1 d
def W7.split{R:Nat->Option Obj}:∀ {vs vs2:D0} {us:List U},W7 R us (vs++vs2)->∃ a b,us=a++b/\W7 R a vs/\W7 R b vs2
 | [],vs2,us,h=>⟨[],us,rfl,.nil,h⟩
 | v::vs,vs2,[],h=>by have:=h.1;simp at this
 | v::vs,vs2,u::us,h=>by
   obtain⟨a,b,rfl,h1,e⟩:=W7.split (vs:=vs) (vs2:=vs2) (us:=us) ⟨by have:=h.1;simpa using this,fun i x y d a2=>h.2 (i+1) x y (by simpa using d) (by simpa using a2)⟩;exact⟨u::a,b,rfl,.cons (h.2 0 u v rfl rfl) h1,e⟩
def W7.mono{R d:Nat->Option Obj}{us:List U}{vs:D0}(h:W7 R us vs)(k:Sub R d):W7 d us vs:=⟨h.1,fun i u v a b=>(h.2 i u v a b).mono k⟩
def QN{R:Nat->Option Obj}{us:List U}{vs:D0}(h:W7 R us vs)(a:vs2.length=us.length)(k:∀ (i:Nat) (u:U) (v:Value),us[i]? = some u->vs2[i]? = some v->toV u=some v):vs=vs2:=by
 refine V5 fun i=>?_
 rcases F2 i us.length with hi|hi
 .have h1:us[i]? = some us[i]:=A4 hi;have b:vs[i]? = some (vs[i]'(h.1▸hi)):=A4 _;have h3:vs2[i]? = some (vs2[i]'(a▸hi)):=A4 _;rw[b,h3,jO (h.2 i _ _ h1 b) (k i _ _ h1 h3)]
 .rw[P8 (by rw[<- h.1];exact hi),P8 (by rw[a];exact hi)]
def AK:∀ {b:F8} {us r:List U} {vs:D0},TI b us=some (vs,r)->∃ a,us=a++r/\vs.length=a.length/\a.length=b.length/\∀ (i:Nat) (u:U) (v:Value),a[i]? = some u->vs[i]? = some v->toV u=some v
 | [],us,r,vs,h=>by cases h;exact⟨[],rfl,rfl,rfl,fun i u v h=>by simp at h⟩
 | t::b,u::us,r,vs,h=>by
   unfold TI at h;split at h
   .rename_i v e l h1 f;cases h;obtain⟨a,rfl,k,j,g⟩:=AK f;unfold JZ at h1;split at h1
    .refine⟨u::a,rfl,by simp[k],by simp[j],fun i x y d a2=>?_⟩;cases i with
     | zero=>simp at d a2;subst d;subst a2;exact h1
     | succ i=>exact g i x y (by simpa using d) (by simpa using a2)
    .cases h1
   .cases h
 | _::_,[],_,_,h=>by cases h
def kL{R:Nat->Option Obj}:∀ {i:List Sh} {us:List U} {vs vs2:D0},ShL R i us vs->YR i us=some vs2->vs=vs2
 | [],us,vs,vs2,h,k=>by cases h;cases k;rfl
 | s::i,us,vs,vs2,h,k=>by
   cases h with
   | cons h1 l =>
     rename_i d f v vs;unfold YR at k;split at k
     .rename_i v1 r g;split at k
      .rename_i q n;cases k;have o:d++f=d++f:=rfl;cases h1 with
       | s he j =>
         rename_i t u;have b:(match JZ t u with|some v=>some (v,f)|none=>none)=some (v1,r):=g;cases e:JZ t u with
         | none=>rw[e]at b;cases b
         | some w =>
           rw[e]at b;cases b;unfold JZ at e;rw[B2 j]at e;rw[jO he e,kL l n]
       | a he j =>
         rename_i D cs;simp only[WF]at g;split at g
         .rename_i y E p;cases g;obtain⟨a,A,z,x,C⟩:=AK p;have hlen:a.length=d.length:=by rw[x,<- j];simp
          obtain⟨rfl,rfl⟩:=List.append_inj A hlen.symm;rw[QN he z C,kL l n]
         .cases g
      .cases k
     .cases k
def kH(P:Program)(G:Nat->Option Obj)(f:FuncId)(ps:List Sh)(spec:X8)(rs:List Sh):Prop :=
 ∀ (us outs:List U) (w:World) (vs:List Value) (R:Nat->Option Obj),ShL R ps us vs->spec us=some (0,outs)->GOk G w->GOk R w ->
  (callFunc f ⟨vs⟩).run P w=.ok (.enter f ⟨vs⟩) w/\Calls P f ⟨vs⟩ w (fun e w'=>∃ r a,ShL a rs outs r/\e=.returned (tup r)/\nR w w'/\GOk a w'/\∀ k o,a k=some o->w.heap.size<=k∨∃ o',R k=some o')
def unA:List Sh->D0->Option D0
 | [],[]=>some []
 | .s _::ss,v::vs=>match unA ss vs with
   | some r=>some (v::r)
   | none=>none
 | .a ts::ss,.agg cs::vs=>bif Nat.beq cs.toList.length ts.length then match unA ss vs with
   | some r=>some (cs.toList++r)
   | none=>none else none
 | _,_=>none
def lT(P:Program)(ps:List Sh)(vs:List Value)(m:Mem):Option (D0×Mem) :=
 match unA ps vs with
 | some cs=>match uG (tdP P) (vI ps) cs m with
   | some (xs,[],m)=>some (xs,m)
   | some (xs,gs,m)=>match fR gs m with
     | some (_,m)=>some (xs,m)
     | none=>none
   | none=>none
 | none=>none
def IK(i t b:Nat):Value:=bif Nat.blt t 10 then hole i t else dat b i t
def MH:F8->Nat->Nat->D0
 | [],_,_=>[]
 | t::ts,i,b=>IK i t b::MH ts (i+1) b
def YQ:Sh->Nat->Nat->Value
 | .s t,i,b=>IK i t b
 | .a ts,i,b=>.agg ⟨MH ts i b⟩
def rH:List Sh->Nat->Nat->D0
 | [],_,_=>[]
 | h::hs,i,b=>YQ h i b::rH hs (i+h.n) b
def KQ(rs:List Sh)(nx:Nat)(m:Mem):Res :=
 bif iK rs then match dJ m fun b m=>some (tup (rH rs nx b),b,m)with
  | some (v,_,m)=>some (v,m)
  | none=>none
 else some (tup (rH rs nx 0),m)
def A19(m:Mem)(hi:Nat)(v:Value)(lg:Lg):Res :=
 match m with
 | ⟨H,n,W,_,_⟩=>some (v,⟨H,n,W,hi,lg⟩)
def VM(P:Program)(ps:List Sh)(spec:X8)(rs:List Sh):FnC:=⟨fun vs m =>
 match lT P ps vs m with
 | some (xs,⟨H,n,W,hi,⟨nx,pi,log⟩⟩)=>H9 nx fun nx=>O6 xs fun xs=>H9 (nx+shN rs) fun a=>bif iK rs then KQ rs nx ⟨H,n,W,hi,⟨a,pi,.con spec xs nx 0 (shN rs)::log⟩⟩else A19 m hi (tup (rH rs nx 0)) ⟨a,pi,.con spec xs nx 0 (shN rs)::log⟩
 | none=>none⟩
def IZ{P:Program}{ps:List Sh}{spec:X8}{rs:List Sh}{vs:D0}{v:Value}(h:(VM P ps spec rs).run vs m=some (v,m')) :
  ∃ xs m1,lT P ps vs m=some (xs,m1)/\((iK rs=true/\KQ rs m1.lg.nx (m1.wLg ⟨m1.lg.nx+shN rs,m1.lg.pi,.con spec xs m1.lg.nx 0 (shN rs)::m1.lg.log⟩)=some (v,m'))∨(iK rs=false/\v=tup (rH rs m1.lg.nx 0)/\m'=⟨m.H,m.n,m.W,m1.hi,⟨m1.lg.nx+shN rs,m1.lg.pi,.con spec xs m1.lg.nx 0 (shN rs)::m1.lg.log⟩⟩)):=by
 unfold VM at h;simp only at h;split at h
 .rename_i xs H n W hi nx pi log b;simp only[E1,G5]at h;refine⟨xs,_,b,?_⟩;cases a:iK rs with
  | true=>rw[a]at h;exact .inl ⟨rfl,h⟩
  | false =>
    rw[a]at h;obtain⟨f,g,i,d,e⟩:=m;cases h;exact .inr ⟨rfl,rfl,rfl⟩
 .cases h
variable [Ora]
def EI{ρ:Ren}:∀ {b:List Sh} {vs vs' cs:D0},unA b vs=some cs->LR ρ vs vs'->∃ cs',unA b vs'=some cs'/\LR ρ cs cs'
 | [],[],vs',cs,h,hl=>by cases h;rw[hl.nil_inv];exact⟨[],rfl,.nil⟩
 | [],_::_,_,_,h,_=>by cases h
 | .s t::b,[],_,_,h,_=>by cases h
 | .a t::b,[],_,_,h,_=>by cases h
 | .s t::b,v::vs,vs',cs,h,hl=>by
   obtain⟨v',k,rfl,h1,d⟩:=hl.tail;unfold unA at h;split at h
   .rename_i r hr;cases h;obtain⟨cs',f,e⟩:=EI hr d;exact⟨v'::cs',by simp[unA,f],.cons h1 e⟩
   .cases h
 | .a ts::b,v::vs,vs',cs,h,hl=>by
   obtain⟨v',k,rfl,h1,d⟩:=hl.tail;cases v with
   | agg c =>
     unfold unA at h;obtain⟨hlen,h⟩:=A2 h;split at h
     .rename_i r hr;cases h;obtain⟨cs',f,e⟩:=EI hr d;obtain⟨j,rfl,i⟩:=R9 h1;refine⟨j++cs',?_,i.append e⟩;have g:Nat.beq j.length ts.length=true:=by rw[<- i.1];exact hlen
      simp[unA,f,g]
     .cases h
   | _=>cases h
def aW{R:Nat->Option Obj}:∀ {e:List Sh} {vs cs:D0} {us:List U},unA e vs=some cs->W7 R us cs->us.map F3=vI e->ShL R e us vs
 | [],[],cs,us,h,he,ht=>by
   cases h;have:us=[]:=D9.1 he.1;subst this;exact .nil
 | [],_::_,_,_,h,_,_=>by cases h
 | .s t::e,[],_,_,h,_,_=>by cases h
 | .a t::e,[],_,_,h,_,_=>by cases h
 | .s t::e,v::vs,cs,us,h,he,ht=>by
   unfold unA at h;split at h
   .rename_i r hr;cases h;obtain⟨a,b,rfl,d,f⟩:=W7.split (vs:=[v]) (vs2:=r) he
    match a,d with
    | [u],d =>
      simp only[List.singleton_append,B8,vI,Sh.tags,Y0,Q7,I4]at ht;exact .cons (.s (d.2 0 u v rfl rfl) ht.1) (aW hr f ht.2)
    | [],d=>have:=d.1;simp at this
    | _::_::_,d=>have:=d.1;simp at this
   .cases h
 | .a ts::e,v::vs,cs,us,h,he,ht=>by
   cases v with
   | agg c =>
     unfold unA at h;obtain⟨hlen,h⟩:=A2 h;have hlen:=A0 hlen;split at h
     .rename_i r hr;cases h;obtain⟨a,b,rfl,d,f⟩:=W7.split he;simp only[M5,vI,Sh.tags]at ht;obtain⟨t1,t2⟩:=List.append_inj ht (by simp[d.1,hlen]);obtain⟨l⟩:=c;exact .cons (.a d t1) (aW hr f t2)
     .cases h
   | _=>cases h
section
variable {P:Program} {base gl:Nat}
def A2T(ρ:Ren)(m:Mem)(R:Nat->Option Obj):Prop:=∀ k o,R k=some o->∃ id ab l,id<=G1/\Hp.get m.H id=some ab/\ρ id=some l/\Tf ab l k/\ab.rw=false
def AN{ρ:Ren}{w:World}{ps:List Sh}{vs xs:D0}(h:HR P base ρ m.H w)(a:lT P ps vs m=some (xs,m'))(f:I2 ρ m.n m'.hi)(I:LR ρ vs vs')(C:Sat m'.lg) :
  ∃ ρ' R,St P base ρ ρ' m m' w w/\m.lg.le m'.lg/\ShL R ps (xs.map (D4 Ora.env)) vs'/\GOk R w/\A2T ρ' m' R:=by
 unfold lT at a;split at a
 .rename_i cs v;obtain⟨cs',A,z⟩:=EI v I;split at a
  .rename_i p m1 q;cases a;obtain⟨ρ',e,a2,a3,a4,a5,u⟩:=eL R4 h q f z C;exact⟨ρ',fun _=>none,e,a2,aW A (u _ fun b s=>by cases s) a5,(fun k o hk=>by cases hk),(fun k o hk=>by cases hk)⟩
  .rename_i p gs m1 q;split at a
   .rename_i g m2 x;cases a;have i:=L1 x;obtain⟨D,e,a2,a3,a4,a5,u⟩:=eL R4 h q (f.less i.1) z (by rw[<- i.2.1];exact C);obtain⟨ρ2,lg,t,L,K,j,y,J⟩:=bZ e.hr x (f.step e);have d:=(t.hr.atl j y).1.2;exact⟨ρ2,lg.G,St.trans f e t,by rw[i.2.1];exact a2,aW A (u _ fun b s l E=>J b s l E) a5,d,fun k o hk=>⟨g,_,lg,t.hr.dom _ _ j,y,j,⟨rfl,.inr ⟨rfl,o,hk⟩⟩,rfl⟩⟩
   .cases a
  .cases a
 .cases a
def CX{ρ:Ren}{R:Nat->Option Obj}{i t b:Nat}{u:U}{v:Value}(h:Enc R u v)(j:F3 u=t)(he:Ora.env i=u)(k:10<=t->ρ b=some (gI R)):VR ρ (IK i t b) v:=by
 unfold IK;cases e:Nat.blt t 10 with
 | true =>
   have a:t<10:=A1 e;obtain⟨v1,g,_,_⟩:=GY (u:=u) A9
   have:=jO h g;subst this;exact .hole (by rw[he];exact g) (by rw[he];exact j)
 | false =>
   have a:10<=t:=by
    rcases F2 t 10 with d|f
    .rw[show Nat.blt t 10=true from C4 d]at e;cases e
    .exact f
   exact .dat (k a) (by rw[he];exact h) (by rw[he];exact j) a (iJ h)
def AJ{ρ:Ren}{R:Nat->Option Obj}{b:Nat}:∀ {a:F8} {us:List U} {cs:D0} {i:Nat},W7 R us cs->us.map F3=a->(∀ j u,us[j]? = some u->Ora.env (i+j)=u)->(∀ t ∈ a,10<=t->ρ b=some (gI R))->LR ρ (MH a i b) cs
 | [],us,cs,i,h,ht,he,hb=>by
   have:us=[]:=by cases us with|nil=>rfl|cons _ _=>simp at ht
   subst this;have:cs=[]:=D9.1 h.1.symm;subst this;exact .nil
 | t::a,[],cs,i,h,ht,he,hb=>by simp at ht
 | t::a,u::us,[],i,h,ht,he,hb=>by have:=h.1;simp at this
 | t::a,u::us,c::cs,i,h,ht,he,hb=>by
   simp only[B8,I4]at ht;refine .cons (CX (h.2 0 u c rfl rfl) ht.1 (he 0 u rfl) (hb t (.head _))) (AJ ⟨by have:=h.1;simpa using this,fun j x y e a2=>h.2 (j+1) x y (by simpa using e) (by simpa using a2)⟩ ht.2 (fun j x g=>?_) fun f d=>hb f (.tail _ d))
   have:=he (j+1) x (by simpa using g);rw[show i+1+j=i+(j+1) by omega];exact this
def lP{ρ:Ren}{R:Nat->Option Obj}{b:Nat}:∀ {g:List Sh} {us:List U} {vs:D0} {i:Nat},ShL R g us vs->(∀ j u,us[j]? = some u->Ora.env (i+j)=u)->(iK g=true->ρ b=some (gI R))->LR ρ (rH g i b) vs/\us.length=shN g
 | [],us,vs,i,h,he,hb=>by cases h;exact⟨.nil,rfl⟩
 | s::g,us,vs,i,h,he,hb=>by
   cases h with
   | cons h1 w =>
     rename_i e x v vs;have q:∀ t ∈ s.tags,10<=t->ρ b=some (gI R):=fun t d f=>hb (N1.2 ⟨t,B7.2 (.inl d),C4 f⟩)
     have o:iK g=true->ρ b=some (gI R):=fun y=>by
      obtain⟨t,d,f⟩:=N1.1 y;exact hb (N1.2 ⟨t,B7.2 (.inr d),f⟩)
     have p:e.length=s.n:=by
      cases h1 with
      | s _ _=>rfl
      | a _ d=>show _=List.length _;rw[<- d];simp[Sh.tags]
     obtain⟨g1,g2⟩:=lP (i:=i+s.n) w (fun j u l=>by
      have:=he (e.length+j) u (by rw[D5 A9,S3];exact l);rw[<- p,Z7];exact this) o
     refine⟨.cons ?_ g1,by simp[shN,p,g2]⟩;have k:∀ j u,e[j]? = some u->Ora.env (i+j)=u:=fun j u l=>he j u (by rw[E5 (A7.1 l).1];exact l)
     cases h1 with
     | s h d=>exact CX h d (by have:=k 0 _ rfl;simpa using this) (q _ (.head _))
     | a h d =>
       have:=AJ (b:=b) h d k q;exact .agg this.1 this.2
def yA{ρ:Ren}{vs:D0}(h:LR ρ vs vs'):VR ρ (tup vs) (tup vs'):=by
 match vs,vs',h with
 | [],vs',h=>rw[h.nil_inv];exact .tuple (a:=[]) (a':=[]) rfl (fun i v v' h1 _=>by simp at h1)
 | [v],vs',h =>
   obtain⟨v',d,rfl,h1,b⟩:=h.tail;cases b.nil_inv;exact h1
 | v::u::r,vs',h =>
   obtain⟨v',d,rfl,h1,b⟩:=h.tail;obtain⟨f,r2,rfl,h3,e⟩:=b.tail;exact .tuple h.1 h.2
def St.grown{ρ:Ren}{w w':World}(h:HR P base ρ m.H w)(g:nR w w'):St P base ρ ρ m m w w' :=
 ⟨fun _ _ h=>h,fun b l h1 a=>(by rw[h1]at a;cases a),A6 _,A6 _,fun h=>h,
  ⟨h.dom,fun id hid ab d=>by
    obtain⟨l,h1,a,h3⟩:=h.at_ id hid ab d;exact⟨l,h1,a.mono (fun _ _ h=>h) (fun k hk=>g.keep k (a.tc hk)),h3⟩⟩,
  fun _ h=>h,fun b h1 a=>absurd h1 a,fun k hk _=>g.keep k hk,g.size,g.os,fun b l h1 a=>(by rw[h1]at a;cases a),fun _ _ _ _=>rfl,fun _ h=>.inr h⟩
def St.grownLg{ρ:Ren}{w w':World}(h:HR P base ρ m.H w)(g:nR w w')(lg:Lg):St P base ρ ρ m (m.wLg lg) w w':=by
 obtain⟨H,n,W,hi,l⟩:=m;have r:=St.grown (m:=⟨H,n,W,hi,l⟩) h g;exact⟨r.ext,r.new,r.nle,r.hle,r.nhi,r.hr,r.wsub,r.wrw,r.keep,r.size,r.os,r.blk,r.same,r.tch⟩
def St.ret{ρ:Ren}{w w':World}{G:Nat->Option Obj}(h:HR P base ρ m.H w)(g:nR w w')(I:W5 m .frz (fun _=>undef)=some (undef,m1))(J:I2 ρ m.n m1.hi)(K:GOk G w')
  (E:∀ k o,G k=some o->w.heap.size<=k∨∃ id ab l,id<=G1/\Hp.get m.H id=some ab/\ρ id=some l/\Tf ab l k/\ab.rw=false):upd ρ m.n (gI G) m.n=some (gI G)/\St P base ρ (upd ρ m.n (gI G)) m m1 w w':=by
 obtain⟨hle,_,rfl⟩:=J7 I;have s:ρ m.n=none:=J m.n (A6 _) (J1 _ _).2;have i:=T7 (l:=gI G) s;refine⟨J9 _ _ _,i,fun b q h1 f=>?_,by simp,(J1 _ _).1,fun _=>V3 (J1 _ _).2,⟨fun b q A=>?_,fun id hid a d=>?_⟩,fun b L=>L,fun b h1 f=>absurd h1 f,fun q A _=>g.keep q A,g.size,g.os,fun b q h1 f p=>?_,fun id hid h1 f=>?_,fun q ⟨id,a,l,hid,d,t,D⟩=>?_⟩
 .obtain⟨rfl,rfl⟩:=Q9 h1 f;exact⟨A6 _,H5 _⟩
 .cases h0:ρ b with
  | some N=>exact h.dom b N h0
  | none=>obtain⟨rfl,rfl⟩:=Q9 A h0;exact hle
 .rw[E7 _ _ _ _ hle hid]at d;by_cases e:id=m.n
  .rw[B2 e]at d;have d:=A5 d;subst d;subst e;exact⟨gI G,J9 _ _ _,⟨rfl,K⟩,fun _ p=>(by cases p)⟩
  .rw[B1 e]at d;obtain⟨l0,h1,f,h3⟩:=h.at_ id hid a d;refine⟨l0,i _ _ h1,f.mono i (fun k hk=>g.keep k (f.tc hk)),fun hr p=>⟨(h3 hr p).1,fun v j y l2 g1 g2 g3=>?_⟩⟩;rw[E7 _ _ _ _ hle j]at g1;by_cases z:v=m.n
   .subst z;rw[J9]at g2
    have:=A5 g2;subst this;rcases g3 with⟨_,g3,_⟩|⟨_,o,g3⟩
    .cases g3
    .rcases E _ o g3 with x|⟨u,a3,C,q1,q2,q3,q4,q5⟩
     .have:=f.tc (.inl ⟨AB.rw_on hr,p,rfl⟩);omega
     .have:=(h3 hr p).2 u q1 a3 C q2 q3 q4.2;subst this;rw[d]at q2;have q2:=A5 q2;subst q2;rw[hr]at q5;cases q5
   .rw[B1 z]at g1;unfold upd at g2;rw[B1 z]at g2;exact(h3 hr p).2 v j y l2 g1 g2 g3
 .obtain⟨rfl,rfl⟩:=Q9 h1 f;cases p
 .rw[E7 _ _ _ _ hle hid,B1];intro e;subst e;rcases f with f|f
  .omega
  .have f:upN m.hi m.n<=m.n:=f
   have:=(J1 m.hi m.n).2;omega
 .have d:Hp.get (m.H.set m.n (some .frz)) id=some a:=d;rw[E7 _ _ _ _ hle hid]at d;by_cases e:id=m.n
  .subst e;rw[B2 rfl]at d;have d:=A5 d;subst d;rw[J9]at t;have t:=A5 t;subst t;rcases D.2 with⟨_,h3,_⟩|⟨_,o,h3⟩
   .cases h3
   .rcases E _ o h3 with x|⟨u,a3,C,q1,q2,q3,q4,q5⟩
    .exact .inl x
    .exact .inr ⟨u,a3,C,q1,q2,q3,q4⟩
  .rw[B1 e]at d;unfold upd at t;rw[B1 e]at t;exact .inr ⟨id,a,l,hid,d,t,D⟩
def St.back{ρ:Ren}{w w':World}{hi:Nat}{lg:Lg}(h:HR P base ρ m.H w)(g:nR w w')(hh:m.hi<=hi):St P base ρ ρ m ⟨m.H,m.n,m.W,hi,lg⟩ w w':=by
 have r:=St.grownLg (m:=m) h g lg;refine⟨r.ext,fun b l h1 a=>(by rw[h1]at a;cases a),A6 _,hh,fun h=>B6 h hh,?_,fun _ h=>h,fun b h1 a=>absurd h1 a,fun k hk _=>g.keep k hk,g.size,g.os,fun b l h1 a=>(by rw[h1]at a;cases a),fun _ _ _ _=>rfl,fun _ h=>.inr h⟩
 have:=r.hr;rw[gK]at this;exact this
theorem VL{f:FuncId}{ps:List Sh}{spec:X8}{rs:List Sh}(h:kH P Ora.G f ps spec rs):gJ P base gl f (VM P ps spec rs):=by
 have q:∀ {nx:Nat} {m m':Mem} {v:Value},iK rs=true->KQ rs nx m=some (v,m')->m'.lg=m.lg/\m.hi<=m'.hi/\m.n<=m'.n:=fun{nx m m' v} a hr=>by
  unfold KQ at hr;rw[a]at hr;simp only[D7]at hr;split at hr
  .rename_i z;cases hr;obtain⟨m2,q1,q2,_⟩:=N7 z;cases q2;obtain⟨_,_,rfl⟩:=J7 q1;exact⟨rfl,(J1 _ _).1,W8 _⟩
  .cases hr
 have g:∀ {vs xs:D0} {m m1:Mem},lT P ps vs m=some (xs,m1)->m.lg.le m1.lg/\m.hi<=m1.hi:=fun{vs xs m m1} h1=>by
  unfold lT at h1;split at h1
  .split at h1
   .rename_i a;cases h1;exact⟨(P2 R4 a).2.1,(P2 R4 a).1⟩
   .rename_i a;split at h1
    .rename_i H;cases h1;exact⟨by rw[(L1 H).2.1];exact(P2 R4 a).2.1,B6 (P2 R4 a).1 (L1 H).1⟩
    .cases h1
   .cases h1
  .cases h1
 refine⟨fun vs m m' v hr=>?_,fun ρ m m' w vs vs' v hr J d Q=>.inl ?_⟩
 .obtain⟨xs,m1,h1,⟨a,i⟩|⟨a,_,rfl⟩⟩:=IZ hr
  .rw[(q a i).1,Y1];exact(g h1).1.trans ⟨[_],rfl⟩
  .exact(g h1).1.trans ⟨[_],rfl⟩
 .obtain⟨xs,m1,h1,i⟩:=IZ hr;have A:m'.lg=⟨m1.lg.nx+shN rs,m1.lg.pi,.con spec xs m1.lg.nx 0 (shN rs)::m1.lg.log⟩/\m1.hi<=m'.hi:=by
   rcases i with⟨a,i⟩|⟨a,_,rfl⟩
   .obtain⟨r1,r2,_⟩:=q a i;simp only[Y1,EG]at r1 r2;exact⟨r1,r2⟩
   .exact⟨rfl,A6 _⟩
  obtain⟨r1,r2⟩:=A;have s:T9.con spec xs m1.lg.nx 0 (shN rs) ∈ m'.lg.log:=by rw[r1];exact B4
  have y:Sat m1.lg:=M4.le J (by rw[r1];exact⟨[_],rfl⟩);obtain⟨t,R,C,a2,a3,a4,a5⟩:=AN d.hr h1 (d.fr.less r2) Q y;obtain⟨outs,h3,Z,I⟩:=J _ s;obtain⟨O,U⟩:=h _ outs w vs' R a3 h3 (fun k o hk=>(d.gf k o hk).2) a4;refine⟨O,U.mono fun e w' ⟨r,W,g1,g2,g3,g4,g5⟩=>?_⟩;rcases i with⟨a,i⟩|⟨a,rfl,rfl⟩
  .let j:Lg:=⟨m1.lg.nx+shN rs,m1.lg.pi,.con spec xs m1.lg.nx 0 (shN rs)::m1.lg.log⟩
   have i:KQ rs m1.lg.nx (m1.wLg j)=some (v,m'):=i;have p:St P base ρ t m (m1.wLg j) w w:=St.trans (d.fr.less (by simpa using r2)) C (St.wLg C.hr j);have u:I2 t (m1.wLg j).n m'.hi:=by simpa using d.fr.step C
   unfold KQ at i;rw[a]at i;simp only[D7]at i;split at i
   .rename_i v0 b m2 z;cases i;obtain⟨m3,q1,q2,_⟩:=N7 z;cases q2;obtain⟨N,L⟩:=St.ret (G:=W) p.hr g3 q1 u g4 fun k o hk=>by
     rcases g5 k o hk with D|⟨o',x⟩
     .exact .inl D
     .obtain⟨id,ab,l,p1,K,S,T,Y⟩:=a5 k o' x;exact .inr ⟨id,ab,l,p1,by rw[gK];exact K,S,T,Y⟩
    exact⟨_,_,g2,yA (lP g1 I fun _=>N).1,St.trans d.fr p L⟩
   .cases i
  .exact⟨_,ρ,g2,yA (lP g1 I fun E=>by rw[a]at E;cases E).1,St.back d.hr g3 (g h1).2⟩
end
end
end Go.Sx
