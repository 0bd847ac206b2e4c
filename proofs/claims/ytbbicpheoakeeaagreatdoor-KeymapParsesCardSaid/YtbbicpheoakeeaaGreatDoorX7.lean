import Derived.Test.YtbbicpheoakeeaaGreatDoorX6
import Derived.Lib.Bytealg
import Derived.Lib.MakeNoZero
set_option linter.all false
set_option maxRecDepth 100000
set_option maxHeartbeats 4000000
namespace Go.Sx
variable {m m' m1 m2:Mem}{c:Cls}{r:Option (Nat×AB)}{rs:List Rec}{op:OpC}{fn:Func}{vs' vs2:D3}
section
open Go
variable [Ora]
def A4P(ops:Array Oper)(X:Nat->Qs)(i:Nat)(o:Oper):Bool:=KD o.op i ((c8 ops.toList []).getD i []) ((c8 ops.toList []).drop (i+1)) (ops.toList.drop (i+1)) (X i)
structure Rg (P:Program) (base gl nt:Nat) (call:P6) (ops:Array Oper) (F:Nat->Fr) (M:Nat->Mem) (V:Nat->Value) (R:Nat->List Rec) (X:Nat->Qs) (B:Nat->Bool):Prop where
 st:∀ i o,ops[i]? = some o->IY P nt gl call ops.toList ((c8 ops.toList []).getD i []) (R i) (B i) o (F i) (F (i+1)) (M i) (M (i+1)) (V i)
 rc:∀ i o,ops[i]? = some o->(R (i+1)=R i/\∃ lg,M (i+1)=(M i).wLg lg)∨(B i=true/\R (i+1)=[])∨R (i+1)=⟨i,(M i).n,(M (i+1)).n⟩::R i
 qs:∀ i o,ops[i]? = some o->QsN (B i) i nt ops.toList (X7 P call o) ((c8 ops.toList []).getD i []) (R i) (F i) o (M i) (M (i+1)) (V i) (X i) (X (i+1))
 sb:∀ i o,ops[i]? = some o->B i=true->A4P ops X i o=true
 x0:X 0=[]
 ok:LK ops.toList (c8 ops.toList []) ops.toList 0=true
structure Ph (ops:Array Oper) (B:Nat->Bool) (M:Nat->Mem) (lo up:Nat):Prop where
 le:lo<=up
 sz:up<=ops.size
 nh:(M lo).n<=(M lo).hi
 mx:∀ i o,lo<=i->i<up->ops[i]? = some o->B i=false
section
variable {P:Program} {base gl nt:Nat} {call:P6} {ops:Array Oper} {F:Nat->Fr} {M:Nat->Mem} {V:Nat->Value} {R:Nat->List Rec} {X:Nat->Qs} {B:Nat->Bool} {lo up:Nat}
def Q4{i:Nat}(h:i<ops.size):∃ o,ops[i]? = some o:=⟨ops[i],by simp[h]⟩
def Rg.one(g:Rg P base gl nt call ops F M V R X B){i:Nat}{o:Oper}(f:ops[i]? = some o)(a:B i=false)(d:(M i).n<=(M i).hi):(M i).n<=(M (i+1)).n/\(M i).hi<=(M (i+1)).hi/\(M (i+1)).n<=(M (i+1)).hi/\(M (i+1)).W=(M i).W /\
  ∀ id,id<=I4->(id<(M i).n∨(M (i+1)).n<=id)->Hp.get (M (i+1)).H id=Hp.get (M i).H id:=by
 obtain⟨_,_,_,h⟩:=g.st i o f;rcases h with⟨_,lg,_,_,h⟩|⟨_,lg,j,_,_,h⟩|⟨h,_⟩|⟨_,_,lg,_,mv,m',_,_,_,b,hm⟩
 .rw[h];exact⟨A7 _,A7 _,d,rfl,fun _ _ _=>rfl⟩
 .rw[h];exact⟨A7 _,A7 _,d,rfl,fun _ _ _=>rfl⟩
 .rw[a]at h;cases h
 .obtain⟨h1,e,h3,k,_,_,_,l⟩:=LQ hm d b;exact⟨h1,e,h3,k,fun id hid hh=>by rw[l id hid,A6 (by show ¬ ((M i).n<=id/\_);omega)];rfl⟩
def Rg.allD(g:Rg P base gl nt call ops F M V R X B)(a:Ph ops B M lo up):∀ d,lo+d<=up->(M lo).n<=(M (lo+d)).n/\(M lo).hi<=(M (lo+d)).hi/\(M (lo+d)).n<=(M (lo+d)).hi/\(M (lo+d)).W=(M lo).W /\
  ∀ id,id<=I4->(id<(M lo).n∨(M (lo+d)).n<=id)->Hp.get (M (lo+d)).H id=Hp.get (M lo).H id
 | 0,_=>⟨A7 _,A7 _,a.nh,rfl,fun _ _ _=>rfl⟩
 | d+1,h=>by
   obtain⟨h1,e,h3,q,s⟩:=g.allD a d A2;obtain⟨o,b⟩:=Q4 (ops:=ops) (i:=lo+d) (by have:=a.sz;omega);obtain⟨j,k,f,l,p⟩:=g.one b (a.mx _ o A2 A2 b) h3;exact⟨C6 h1 j,C6 e k,f,l.trans q,fun id hid hh=>by
    rw[show lo+(d+1)=lo+d+1 by omega]at hh ⊢;rw[p id hid A2,s id hid A2]⟩
def Rg.all(g:Rg P base gl nt call ops F M V R X B)(a:Ph ops B M lo up){i:Nat}(h0:lo<=i)(h:i<=up):(M lo).n<=(M i).n/\(M lo).hi<=(M i).hi/\(M i).n<=(M i).hi/\(M i).W=(M lo).W /\
  ∀ id,id<=I4->(id<(M lo).n∨(M i).n<=id)->Hp.get (M i).H id=Hp.get (M lo).H id:=by
 have:=g.allD a (i-lo) A2
 rwa[show lo+(i-lo)=i by omega]at this
def Rg.mono(g:Rg P base gl nt call ops F M V R X B)(a:Ph ops B M lo up){i:Nat}(h0:lo<=i):∀ d,i+d<=up->(M i).n<=(M (i+d)).n/\(M i).hi<=(M (i+d)).hi/\∀ id,id<=I4->id<(M i).n->Hp.get (M (i+d)).H id=Hp.get (M i).H id
 | 0,_=>⟨A7 _,A7 _,fun _ _ _=>rfl⟩
 | d+1,h=>by
   obtain⟨h1,e,l⟩:=g.mono a h0 d A2;obtain⟨o,b⟩:=Q4 (ops:=ops) (i:=i+d) (by have:=a.sz;omega);obtain⟨f,j,p,q,k⟩:=g.one b (a.mx _ o A2 A2 b) (g.all a (i:=i+d) A2 A2).2.2.1;exact⟨C6 h1 f,C6 e j,fun id hid hh=>by rw[show i+(d+1)=i+d+1 by omega,k id hid A2,l id hid hh]⟩
def Rg.le(g:Rg P base gl nt call ops F M V R X B)(a:Ph ops B M lo up){i j:Nat}(h0:lo<=i)(h:i<=j)(b:j<=up):(M i).n<=(M j).n/\(M i).hi<=(M j).hi/\∀ id,id<=I4->id<(M i).n->Hp.get (M j).H id=Hp.get (M i).H id:=by
 have:=g.mono a h0 (j-i) A2
 rwa[show i+(j-i)=j by omega]at this
def RW{mv:Mem}{us:List Rec}(h:DB m c us=some mv):mv.lg=m.lg:=by
 obtain⟨H,n,W,hi,lg⟩:=m;unfold DB at h;simp only at h;cases c with
 | free=>cases h;rfl
 | one b =>
   simp only at h;cases a:aP (e9 us) b || !(Nat.ble b I4)with
   | true=>rw[a]at h;cases h
   | false=>rw[a,fD]at h;cases h;rfl
 | all =>
   simp only at h;obtain⟨d,h⟩:=A3 h;cases h;rfl
def LS(h:mB m m'=some m2):m2.lg=m'.lg:=by
 unfold mB at h;cases a:Nat.ble m'.hi m.n with
 | true=>rw[a]at h;cases h;rfl
 | false =>
   rw[a]at h;obtain⟨_,h⟩:=A3 h;simp only[E9,eT]at h;cases h;rfl
def nP{a b:Addr}(h:GF a b=true):a=b:=by
 unfold GF at h;split at h
 .obtain⟨h1,d⟩:=B8 h;rw[A0 h1,A0 d]
 .cases h
def WR{a b:Fn}(h:PL a b=true):a=b:=by
 unfold PL at h;split at h
 .rw[A0 h]
 .rw[A0 h]
 .cases h
def qZ{s:Value->Value->Bool}(d:∀ a b,s a b=true->a=b):∀ {l r:D3},DK s l r=true->l=r
 | [],[],_=>rfl
 | [],_::_,h=>by cases h
 | _::_,[],h=>by cases h
 | a::l,b::r,h=>by
   obtain⟨h1,e⟩:=B8 (show(s a b && DK s l r)=true from h);rw[d a b h1,qZ d e]
def B26{a b:X4}(h:a.toList=b.toList):a=b:=by cases a;cases b;cases h;rfl
def ZZ:∀ (d:Nat) (v w:Value),zA d v w=true->v=w:=by
 intro d;induction d with
 | zero =>
   intro v w h;unfold zA at h;split at h
   .rw[eq_of_beq h]
   .obtain⟨h1,e⟩:=B8 h;rw[cV]at e;rw[iK h1,eq_of_beq e]
   .obtain⟨h1,e⟩:=B8 h;rw[A0 h1,A0 e]
   .obtain⟨h1,e⟩:=B8 h;rw[A0 h1,A0 e]
   .rename_i s t;have h1:=G5 h;cases s with|mk s=>cases t with|mk t=>cases s;cases t;cases h1;rfl
   .rfl
   .rw[nP h]
   .obtain⟨h1,e⟩:=B8 h;rw[A0 h1,A0 e]
   .obtain⟨h0,h⟩:=B8 h;obtain⟨h1,e⟩:=B8 h;rw[nP h0,A0 h1,A0 e]
   .rfl
   .rw[A0 h]
   .rfl
   .rfl
   all_goals first|cases h|(rename_i hh;cases hh)
 | succ d i =>
   intro v w h;unfold zA at h;split at h
   .rw[eq_of_beq h]
   .obtain⟨h1,e⟩:=B8 h;rw[cV]at e;rw[iK h1,eq_of_beq e]
   .obtain⟨h1,e⟩:=B8 h;rw[A0 h1,A0 e]
   .obtain⟨h1,e⟩:=B8 h;rw[A0 h1,A0 e]
   .rename_i s t;have h1:=G5 h;cases s with|mk s=>cases t with|mk t=>cases s;cases t;cases h1;rfl
   .rfl
   .rw[nP h]
   .obtain⟨h1,e⟩:=B8 h;rw[A0 h1,A0 e]
   .obtain⟨h0,h⟩:=B8 h;obtain⟨h1,e⟩:=B8 h;rw[nP h0,A0 h1,A0 e]
   .rfl
   .rw[A0 h]
   .rfl
   .rfl
   .rename_i j f a b g a' b' he;cases he;obtain⟨h0,h⟩:=B8 h;obtain⟨h1,e⟩:=B8 h;rw[WR h0,B26 (qZ i h1),B26 (qZ i e)]
   .rename_i j t v u w he;cases he;obtain⟨h1,e⟩:=B8 h;rw[A0 h1,i _ _ e]
   .cases h
def A0D{a b:AB}(h:A0E a b=true):a=b:=by
 unfold A0E at h;split at h
 .rfl
 .obtain⟨h0,h⟩:=B8 h;obtain⟨h1,d⟩:=B8 h;rw[qZ (ZZ 6) h0,A0 h1,eq_of_beq d]
 .cases h
def AK{H:Hp AB}{b:Nat}{ab:AB}(h:AL H b ab=true):Hp.get H b=some ab/\b<=I4:=by
 unfold AL at h;split at h
 .rename_i x d;obtain⟨h1,a⟩:=B8 h;exact⟨by rw[d,A0D a],A1 h1⟩
 .cases h
def tV{mv:Mem}{us:List Rec}(h:GO m r us=some mv):mv.n=tO/\mv.hi=tO/\mv.W=[]/\mv.lg=m.lg/\(∀ id,id<=I4->∀ ab,Hp.get mv.H id=some ab->r=some (id,ab))/\∀ b ab,r=some (b,ab)->AL m.H b ab=true/\b ∉ e9 us:=by
 obtain⟨H,n,W,hi,lg⟩:=m;unfold GO at h;simp only at h;cases r with
 | none =>
   cases h;exact⟨rfl,rfl,rfl,rfl,fun id _ ab a=>(by rw[sT]at a;cases a),fun b ab g=>by cases g⟩
 | some p =>
   obtain⟨b,f⟩:=p;simp only at h;cases d:aP (e9 us) b || !(AL H b f)with
   | true=>rw[d]at h;cases h
   | false =>
     rw[d,fD]at h;cases h;simp only[g7,Bool.not_eq_false']at d;have g:=(AK d.2).2;refine⟨rfl,rfl,rfl,rfl,fun id hid ab a=>?_,fun b' ab' i=>?_⟩
     .have a:Hp.get (Hp.set hp0 b (some f)) id=some ab:=a;rw[F2 _ _ _ _ g hid]at a;by_cases e:id=b
      .subst e;rw[A8 rfl]at a;cases a;rfl
      .rw[A6 e,sT]at a;cases a
     .cases i;exact⟨d.2,fun hm=>by rw[X3.2 hm]at d;exact absurd d.1 (by simp)⟩
def lT{fr:Fr}{o:Oper}{b:H9}{v:Value}{lg:Lg}(h:lU fr m o b rs op=some (v,lg)):∃ mv m',GO m (MQ m.H fr o.op) (EA b rs)=some mv/\op.run fr mv=some (v,m')/\m'.W=[]/\m'.hi=tO/\m'.lg=lg:=by
 unfold lU at h;split at h
 .rename_i mv hv;split at h
  .rename_i v' H n hi d hr;obtain⟨h1,a⟩:=A3 h;cases a;exact⟨mv,_,hv,hr,rfl,A0 h1,rfl⟩
  .cases h
 .cases h
def DF{all:List Oper}{b:H9}{g:Bool}{o:Oper}{fr d:Fr}{v:Value}(a:W3 P base gl call)(h:IY P nt gl call all b rs g o fr d m m2 v):m.lg.le m2.lg:=by
 obtain⟨_,_,_,h⟩:=h;rcases h with⟨_,lg,hw,_,h⟩|⟨_,lg,j,hw,i,h⟩|⟨_,lg,hw,hr,_⟩|⟨_,_,lg,hw,mv,m',hv,hr,_,f,hm⟩
 .rw[h];exact iF hw
 .obtain⟨mv,m',hv,hr,_,_,e⟩:=lT i;have h1:=aW a hr;rw[(tV hv).2.2.2.1,e]at h1;rw[h];exact(iF hw).trans h1
 .have h1:=aW a hr;rw[l5]at h1;exact(iF hw).trans h1
 .rw[LS hm];have h1:=aW a hr;rw[RW hv]at h1;exact(iF hw).trans h1
def Rg.lgs(g:Rg P base gl nt call ops F M V R X B)(a:W3 P base gl call){i:Nat}:∀ d,i+d<=ops.size->(M i).lg.le (M (i+d)).lg
 | 0,_=>.refl _
 | d+1,h=>by
   obtain⟨o,b⟩:=Q4 (ops:=ops) (i:=i+d) A2;exact(g.lgs a d A2).trans (DF a (g.st (i+d) o b))
def Rg.who(g:Rg P base gl nt call ops F M V R X B)(e:Ph ops B M lo up):∀ d,lo+d<=up->∀ b,(M lo).n<=b->b<(M (lo+d)).n->∃ k,lo<=k/\k<lo+d/\(M k).n<=b/\b<(M (k+1)).n
 | 0,_,b,h1,a=>by have a:b<(M lo).n:=a;omega
 | d+1,h,b,h1,a=>by
   rcases G0 b (M (lo+d)).n with h3|h3
   .obtain⟨k,i,j,f⟩:=g.who e d A2 b h1 h3;exact⟨k,i,A2,f⟩
   .exact⟨lo+d,A2,A2,h3,a⟩
def zS:∀ {rs:List Rec} {b:Nat},b ∈ e9 rs↔∃ r ∈ rs,r.lo<=b/\b<r.hi
 | [],b=>by simp[e9]
 | r::rs,b=>by
   simp only[e9,B6,mC,zS (rs:=rs),B3];constructor
   .rintro(h|⟨d,h1,a⟩)
    .exact⟨r,.inl rfl,A2⟩
    .exact⟨d,.inr h1,a⟩
   .rintro⟨d,rfl|h1,a⟩
    .exact .inl A2
    .exact .inr ⟨d,h1,a⟩
def Rg.recs(g:Rg P base gl nt call ops F M V R X B)(l:Ph ops B M lo up):∀ d,lo+d<=up->∀ k,lo<=k->k<lo+d->∀ b,(M k).n<=b->b<(M (k+1)).n->⟨k,(M k).n,(M (k+1)).n⟩ ∈ R (lo+d)
 | 0,_,k,_,h,_,_,_=>by omega
 | d+1,hi,k,hk,h,b,h1,f=>by
   obtain⟨o,j⟩:=Q4 (ops:=ops) (i:=lo+d) (by have:=l.sz;omega);have a:=l.mx _ o A2 A2 j;show _ ∈ R (lo+d+1);by_cases e:k=lo+d
   .subst e;rcases g.rc (lo+d) o j with⟨_,lg,h3⟩|⟨h3,_⟩|h3
    .rw[h3]at f;have f:b<(M (lo+d)).n:=f;omega
    .rw[a]at h3;cases h3
    .rw[h3];exact B4
   .have:=g.recs l d A2 k hk A2 b h1 f;rcases g.rc (lo+d) o j with⟨h3,_⟩|⟨h3,_⟩|h3
    .rw[h3];exact this
    .rw[a]at h3;cases h3
    .rw[h3];exact C4 _ this
def A4F{mv:Mem}{us:List Rec}(h:DB m c us=some mv):mv.n=m.n/\mv.hi=m.hi/\mv.W=[]/\mv.lg=m.lg/\∀ id,id<=I4->∀ ab,Hp.get mv.H id=some ab->Hp.get m.H id=some ab/\id ∉ e9 us:=by
 obtain⟨H,n,W,hi,lg⟩:=m;unfold DB at h;simp only at h;cases c with
 | free =>
   cases h;exact⟨rfl,rfl,rfl,rfl,fun id _ ab a=>by rw[sT]at a;cases a⟩
 | one b =>
   simp only at h;cases d:aP (e9 us) b || !(Nat.ble b I4)with
   | true=>rw[d]at h;cases h
   | false =>
     rw[d,fD]at h;cases h;simp only[g7,Bool.not_eq_false']at d;have f:=A1 d.2;refine⟨rfl,rfl,rfl,rfl,fun id hid ab a=>?_⟩;have a:Hp.get (Hp.set hp0 b (Hp.get H b)) id=some ab:=a;rw[F2 _ _ _ _ f hid]at a;by_cases e:id=b
     .subst e;rw[A8 rfl]at a;exact⟨a,fun hm=>by rw[X3.2 hm]at d;exact absurd d.1 (by simp)⟩
     .rw[A6 e,sT]at a;cases a
 | all =>
   simp only at h;obtain⟨f,h⟩:=A3 h;cases h;refine⟨rfl,rfl,rfl,rfl,fun id hid ab a=>?_⟩;have a:Hp.get (EO H (e9 us)) id=some ab:=a;rw[EN _ _ (vA f) id hid]at a;by_cases e:id ∈ e9 us
   .rw[A8 e]at a;cases a
   .rw[A6 e]at a;exact⟨a,e⟩
def hJ(M:Nat->Mem)(D:Nat->Bool)(b:Nat):Nat->Bool
 | 0=>false
 | n+1=>(D n && Nat.ble (M n).n b && Nat.blt b (M (n+1)).n) || hJ M D b n
def U9{D:Nat->Bool}{b:Nat}:∀ n,hJ M D b n=true↔∃ k,k<n/\D k=true/\(M k).n<=b/\b<(M (k+1)).n
 | 0=>by simp[hJ]
 | n+1=>by
   simp only[hJ,J4,G9,U9 n];constructor
   .rintro(⟨⟨h1,a⟩,h3⟩|⟨k,h1,a⟩)
    .exact⟨n,A2,h1,A1 a,A1 h3⟩
    .exact⟨k,A2,a⟩
   .rintro⟨k,h1,a,h3,d⟩
    by_cases e:k=n
    .subst e;exact .inl ⟨⟨a,C7 h3⟩,C7 d⟩
    .exact .inr ⟨k,A2,a,h3,d⟩
def Dr(lo:Nat)(D:Nat->Bool)(k:Nat):Bool:=Nat.ble lo k && D k
def Z3{lo:Nat}{D:Nat->Bool}{k:Nat}:Dr lo D k=true↔lo<=k/\D k=true:=by
 unfold Dr;rw[G9];exact⟨fun h=>⟨A1 h.1,h.2⟩,fun h=>⟨C7 h.1,h.2⟩⟩
def GD(M:Nat->Mem)(lo N:Nat)(D:Nat->Bool)(b:Nat):Option AB:=bif hJ M (Dr lo D) b N then Hp.get (M N).H b else Hp.get (M lo).H b
structure Inv (z:Zn) (P:Program) (base gl nt:Nat) (ops:Array Oper) (F:Nat->Fr) (M:Nat->Mem) (V:Nat->Value) (lo up:Nat) (ρ0:Ren) (w0:World) (D:Nat->Bool) (ρ:Ren) (a:Act) (w:World):Prop where
 ext:∀ b l,ρ0 b=some l->ρ b=some l
 new:∀ b l,ρ b=some l->ρ0 b=none->hJ M (Dr lo D) b up=true/\(l.on=true->w0.heap.size<=l.blk)
 hr:HRf P base ρ (GD M lo up D) w
 keep:∀ k,k<w0.heap.size->w.heap[k]? = w0.heap[k]?
 size:w0.heap.size<=w.heap.size
 os:w.os=w0.os/\w.tape=w0.tape/\w.output=w0.output
 tch:∀ k,Ff ρ (GD M lo up D) k->w0.heap.size<=k∨Fp ρ0 (M lo).H k
 tsz:a.tmps.size=nt
 dfr:ZR z ρ nt (F 0) a.defers
 frm:∀ t,t<nt->VR ρ (bG D (fun k=>(ops[k]?).bind (·.dst)) V (F 0).get t ops.size) (a.tmps.getD t undef)
def T5{i:Nat}{o:Oper}(h:ops[i]? = some o):ops.toList[i]? = some o:=by simpa using h
def iO{ops:List Oper}{a:List H9}:∀ (r:List Oper) (i:Nat),LK ops a r i=true->∀ j o,r[j]? = some o->oG (i+j) o.after.toList=true/\tT a (i+j) (W6 ops o) ops 0=true
 | [],i,h,j,o,hj=>by simp at hj
 | x::r,i,h,j,o,hj=>by
   obtain⟨h1,b⟩:=B8 (show(oG i x.after.toList && (tT a i (W6 ops x) ops 0 && LK ops a r (i+1)))=true from h);obtain⟨b,h3⟩:=B8 b;cases j with
   | zero=>simp at hj;subst hj;exact⟨h1,b⟩
   | succ j =>
     have:=iO r (i+1) h3 j o (by simpa using hj)
     rwa[show i+1+j=i+(j+1) by omega]at this
def fT:∀ {es:List Edge} {i:Nat},oG i es=true->∀ e ∈ es,Region.binds .any e=true->e.on<i
 | [],i,h,e,he,_=>by cases he
 | x::r,i,h,e,he,hb=>by
   obtain⟨h1,a⟩:=B8 (show((!(Region.binds .any x) || Nat.blt x.on i) && oG i r)=true from h);rcases B3.1 he with rfl|he
   .rw[hb]at h1;have h1:Nat.blt e.on i=true:=by simpa only [Q9,R0]using h1
    exact A1 h1
   .exact fT a e he hb
def DH{b:List H9}{i:Nat}{d:List Tmp}:∀ (r:List Oper) (a:Nat),tT b i d r a=true->∀ j p t,r[j]? = some p->a+j≠i->p.dst=some t->t ∈ d->A4q b i (a+j)=true
 | [],a,h,j,p,t,hj,_,_,_=>by simp at hj
 | x::r,a,h,j,p,t,hj,hne,hd,ht=>by
   obtain⟨h1,e⟩:=B8 (show((Nat.beq a i || (match x.dst with|none=>true|some t=>!(aP d t) || A4q b i a)) && tT b i d r (a+1))=true from h);cases j with
   | zero =>
     simp at hj;subst hj;have g:Nat.beq a i=false:=by
      cases f:Nat.beq a i with
      | false=>rfl
      | true=>exact absurd (A0 f) hne
     rw[g,hd,R0]at h1;simp only[X3.2 ht,Q9,R0]at h1;exact h1
   | succ j =>
     have:=DH r (a+1) e j p t (by simpa using hj) A2 hd ht
     rwa[show a+1+j=a+(j+1) by omega]at this
def Rg.slot(g:Rg P base gl nt call ops F M V R X B){D:Nat->Bool}(n:nF ops.toList fun k=>D k=true)(u:∀ k,D k=true->k<ops.size){i:Nat}{o:Oper}(f:ops[i]? = some o)(hi:D i=false)
  (hr:∀ e ∈ o.after.toList,Region.binds .any e=true->D e.on=true) {t:Tmp} (w:t ∈ W6 ops.toList o):∀ k p,ops[k]? = some p->k≠i->p.dst=some t->(D k=true↔k<i):=fun k p hp l x=>by
 have s:∀ (i:Nat) (o:Oper),ops.toList[i]? = some o->∀ e ∈ o.after.toList,Region.binds .any e=true->e.on<i:=fun i o f=>by
  have:=(iO _ 0 g.ok i o f).1;rw[F7]at this;exact fT this
 have h1:=(iO _ 0 g.ok i o (T5 f)).2;have a:=DH _ 0 h1 k p t (T5 hp) A2 x w;rw[F7,F7]at a;unfold A4q at a;rcases Nat.lt_trichotomy k i with d|heq|q
 .have b:Nat.blt i k=false:=by
   cases b:Nat.blt i k with
   | false=>rfl
   | true=>have:i<k:=A1 b;omega
  rw[b]at a;have hm:=X3.1 (by simpa using a);exact⟨fun _=>d,fun _=>BW n s (i+1) i k o (J7 i) (T5 f) hr hm⟩
 .exact absurd heq l
 .have b:Nat.blt i k=true:=C7 q;rw[b]at a;have hm:=X3.1 (by simpa using a);refine⟨fun v=>?_,fun h=>by omega⟩
  have:=BW n s (k+1) k i p (J7 k) (T5 hp) (fun e he j=>n k p (T5 hp) v e he j) hm;rw[hi]at this;cases this
def Rg.frame(g:Rg P base gl nt call ops F M V R X B)(a:nt<=512){t:Tmp}(f:t<nt):∀ i,i<=ops.size->(F i).get t=bG (fun k=>Nat.blt k i) (fun k=>(ops[k]?).bind (·.dst)) V (F 0).get t i
 | 0,_=>rfl
 | i+1,h=>by
   obtain⟨o,j⟩:=Q4 (ops:=ops) (i:=i) A2;obtain⟨h1,_,h3,_⟩:=g.st i o j;have n:=g.frame a f i A2;have q:bG (fun k=>Nat.blt k (i+1)) (fun k=>(ops[k]?).bind (·.dst)) V (F 0).get t i=bG (fun k=>Nat.blt k i) (fun k=>(ops[k]?).bind (·.dst)) V (F 0).get t i:=fQ i fun k p _=>by
    rw[show Nat.blt k (i+1)=true from C7 A2,show Nat.blt k i=true from C7 p]
   have l:Nat.blt i (i+1)=true:=C7 (A7 _);rw[h3];unfold bG;rw[q,<- n];simp only[l,j,F1,true_and];cases s:o.dst with
   | none=>simp[wZ]
   | some d =>
     rw[s]at h1;have b:d<nt:=A1 h1;simp only[wZ,D6];rw[M6 _ _ _ _ (D8 b a) (D8 f a)];by_cases e:t=d
     .subst e;simp
     .rw[A6 e,A6 (fun h=>e h.symm)]
def Rg.look(g:Rg P base gl nt call ops F M V R X B)(f:nt<=512){D:Nat->Bool}(y:nF ops.toList fun k=>D k=true)(a:∀ k,D k=true->k<ops.size){i:Nat}{o:Oper}(l:ops[i]? = some o)(hi:D i=false)
  (hr:∀ e ∈ o.after.toList,Region.binds .any e=true->D e.on=true) {t:Tmp} (w:t ∈ W6 ops.toList o) (b:t<nt):bG D (fun k=>(ops[k]?).bind (·.dst)) V (F 0).get t ops.size=(F i).get t:=by
 have z:i<ops.size:=(D0.1 l).1;rw[g.frame f b i A2];have q:=g.slot y a l hi hr w;have x:bG D (fun k=>(ops[k]?).bind (·.dst)) V (F 0).get t ops.size=bG (fun k=>Nat.blt k i) (fun k=>(ops[k]?).bind (·.dst)) V (F 0).get t ops.size:=fQ _ fun k s j=>by
  obtain⟨p,hp⟩:=Q4 (ops:=ops) s;rw[hp]at j;by_cases e:k=i
  .subst e;rw[hi];symm;cases v:Nat.blt k k with
   | false=>rfl
   | true=>have:k<k:=A1 v;omega
  .have:=q k p hp e j;rw[K6,this];exact⟨fun h=>C7 h,fun h=>A1 h⟩
 rw[x];have n:∀ d,i+d<=ops.size->bG (fun k=>Nat.blt k i) (fun k=>(ops[k]?).bind (·.dst)) V (F 0).get t (i+d)=bG (fun k=>Nat.blt k i) (fun k=>(ops[k]?).bind (·.dst)) V (F 0).get t i:=by
  intro d;induction d with
  | zero=>intro _;rfl
  | succ d u =>
    intro j;rw[show i+(d+1)=(i+d)+1 by omega];rw[bG,A6 (fun hh=>by have:i+d<i:=A1 hh.1;omega)];exact u A2
 have:=n (ops.size-i) A2
 rwa[show i+(ops.size-i)=ops.size by omega]at this
def yL{o:Oper}{x:Operand}{t:Tmp}(hx:x ∈ o.op.operands.toList)(a:x=.tmp t):t ∈ W6 ops.toList o:=by
 unfold W6;refine B6.2 (.inr (B6.2 (.inl (List.mem_flatMap.2 ⟨x,hx,?_⟩))));subst a;simp[qR]
def Rg.see{z:Zn}(g:Rg P base gl nt call ops F M V R X B)(b:Ph ops B M lo up){v ρ:Ren}{w0 w:World}{D:Nat->Bool}{a:Act}{i:Nat}{o:Oper}
  (p:At P base gl v (M lo) (M up).hi w0) (N:nF ops.toList fun k=>D k=true) (f:lo<=i) (C:i<up) (y:ops[i]? = some o)
  (hr:∀ e ∈ o.after.toList,Region.binds .any e=true->D e.on=true):∀ id,id<=I4->∀ ab,Hp.get (M i).H id=some ab->id ∉ e9 (EA ((c8 ops.toList []).getD i []) (R i))->GD M lo up D id=some ab:=fun id hid ab h1 G=>by
 unfold GD;by_cases d:(M lo).n<=id/\id<(M i).n
 .obtain⟨k,u,I,t,s⟩:∃ k,lo<=k/\k<i/\(M k).n<=id/\id<(M (k+1)).n:=by
   have:=g.who b (i-lo) A2 id d.1 (by rw[show lo+(i-lo)=i by omega];exact d.2)
   rwa[show lo+(i-lo)=i by omega]at this
  have h:D k=true:=by
   have q:(⟨k,(M k).n,(M (k+1)).n⟩:Rec) ∈ R i:=by
    have:=g.recs b (i-lo) A2 k u A2 id t s
    rwa[show lo+(i-lo)=i by omega]at this
   by_cases A:k ∈ (c8 ops.toList []).getD i []
   .exact BW N (fun i o y=>by
     have:=(iO _ 0 g.ok i o y).1;rw[F7]at this;exact fT this) (i+1) i k o (J7 i) (T5 y) hr A
   .exfalso;refine G (zS.2 ⟨_,P9.2 ⟨q,?_⟩,t,s⟩);cases x:aP ((c8 ops.toList []).getD i []) k with
    | false=>rfl
    | true=>exact absurd (X3.1 x) A
  have hu:hJ M (Dr lo D) id up=true:=(U9 _).2 ⟨k,A2,Z3.2 ⟨u,h⟩,t,s⟩;rw[hu];simp only[E6];rw[(g.le b (i:=i) (j:=up) f A2 (A7 _)).2.2 id hid d.2];exact h1
 .have K:=(g.all b f A2).2.2.2.2 id hid A2;rw[K]at h1;have hu:hJ M (Dr lo D) id up=false:=by
   cases x:hJ M (Dr lo D) id up with
   | false=>rfl
   | true =>
     exfalso;obtain⟨k,I,L,t,s⟩:=(U9 _).1 x;have u:=(Z3.1 L).1;obtain⟨l,E,_⟩:=p.hr.at_ id hid ab h1;have Q:=g.le b (i:=lo) (j:=k) (A7 _) u A2;have J:=g.le b (i:=k+1) (j:=up) A2 A2 (A7 _);have O:=(g.all b b.le (A7 _)).2.2.1;rw[p.fr id A2 A2]at E;cases E
  rw[hu];exact h1
def Rg.quiet{z:Zn}(g:Rg P base gl nt call ops F M V R X B)(G:W3 P base gl call){L ρ:Ren}{w0 w:World}{D D':Nat->Bool}{a:Act}{i:Nat}{o:Oper}{Q:Exit->Act->World->Prop}{K:Act->World->Prop}
  (u:At P base gl L (M lo) (M up).hi w0) (hS:Sat (M (i+1)).lg) (aj:nt<=512) (inv:Inv z P base gl nt ops F M V lo up L w0 D ρ a w) (hc:nF ops.toList fun k=>D k=true) (av:∀ k,D k=true->k<ops.size) (Y:ops[i]? = some o) (hi:D i=false)
  (hr:∀ e ∈ o.after.toList,Region.binds .any e=true->D e.on=true) (hD:∀ k,k≠i->D' k=D k) (ao:D' i=true)
  (ar:eM nt ops.toList (X7 P call o) ((c8 ops.toList []).getD i []) (R i) (F i) o (M i) (M (i+1)) (V i) r) (ai:∀ b ab,r=some (b,ab)->GD M lo up D b=some ab)
  (hK:∀ q a' w',Inv z P base gl nt ops F M V lo up L w0 D' q a' w'->K a' w'):iE P z.rd ops Q i K a w:=by
 have ak:i<ops.size:=(D0.1 Y).1;obtain⟨bx,al,hF,_⟩:=g.st i o Y;have E:∀ t,t ∈ W6 ops.toList o->t<nt->VR ρ ((F i).get t) (a.tmps.getD t undef):=fun t ht ay=>by
  rw[<- g.look aj hc av Y hi hr ht ay];exact inv.frm t ay
 have ad:FR ρ (F i) a.eval o.op:=fun x hx=>by
  have Z:okX nt gl x=true:=D5.1 al x hx;cases x with
  | tmp t=>exact E t (yL hx rfl) (A1 Z)
  | const v=>exact VR.ofC Z
  | global gg=>exact VR.ptr (o:=0) (inv.ext _ _ (u.gr gg (A1 Z)))
  | func f=>exact .func (a:=[]) (b:=[]) (a':=[]) (b':=[]) rfl rfl (fun i v v' h=>by simp at h) (fun i v v' h=>by simp at h)
 have C:∀ lg b,bY nt (F i) (M i).lg ops.toList o=some (b,lg)->Sat lg->Region.wanted o (yielded ops a.tmps)=b:=fun lg b hw I=>by
  unfold bY at hw;split at hw
  .rename_i hg;cases hw;simp[Region.wanted,hg]
  .rename_i j want hg;split at hw
   .rename_i p hp;split at hw
    .rename_i t ht;obtain⟨h1,s⟩:=A3 hw;have h1:t<nt:=A1 h1;have hv:=E t (by
      unfold W6;refine B6.2 (.inr (B6.2 (.inr ?_)));simp[hg,hp,ht]) h1
     exact nJ hg hp ht (by rw[inv.tsz];exact h1) (qL s hv I)
    .cases hw
   .cases hw
 have y:∀ (q:Ren) (v':Value),(∀ b l,ρ b=some l->q b=some l)->VR q (V i) v'->∀ t,t<nt->VR q (bG D' (fun k=>(ops[k]?).bind (·.dst)) V (F 0).get t ops.size) ((a.put o.dst v').tmps.getD t undef):=fun q v' he hv t ht=>by
  by_cases hd:o.dst=some t
  .have S:∀ k,i<k->k<ops.size->(ops[k]?).bind (·.dst)=some t->D k=false:=fun k bz A aw=>by
    obtain⟨p,hp⟩:=Q4 (ops:=ops) A;rw[hp]at aw
    have:=g.slot hc av Y hi hr (t:=t) (by unfold W6;simp[hd]) k p hp A2 aw;cases hq:D k with
    | false=>rfl
    | true=>have:=this.1 hq;omega
   rw[sY hD ao ops.size ak (by simp[Y,hd]) S];simp only[hd,Act.put,B9];rw[G3,A8 rfl,A8 (by rw[inv.tsz];exact ht)];exact hv
  .rw[pS hD (by simp[Y];exact hd)];have h1:=(inv.frm t ht).mono he;cases W:o.dst with
   | none=>exact h1
   | some d =>
     have ae:d≠t:=fun e=>hd (e▸W)
     simp only[Act.put,B9]at h1 ⊢;rw[G3,A6 ae];exact h1
 have hM:∃ lg,M (i+1)=(M i).wLg lg:=by
  rcases ar with⟨lg,_,_,h,_⟩|⟨_,ax,_,_,h,_⟩
  .exact⟨lg,h⟩
  .exact⟨ax,h⟩
 have hG:GD M lo up D'=GD M lo up D:=by
  funext b;unfold GD;have:hJ M (Dr lo D') b up=hJ M (Dr lo D) b up:=by
   obtain⟨lg,hm⟩:=hM;rw[K6,U9,U9];constructor
   .rintro⟨k,h1,s,h3,h4⟩
    have e:k≠i:=fun e=>by
     subst e;rw[hm]at h4;have h4:b<(M k).n:=h4;omega
    obtain⟨U,s⟩:=Z3.1 s;rw[hD k e]at s;exact⟨k,h1,Z3.2 ⟨U,s⟩,h3,h4⟩
   .rintro⟨k,h1,s,h3⟩
    obtain⟨U,s⟩:=Z3.1 s;have e:k≠i:=fun e=>by subst e;rw[hi]at s;cases s
    exact⟨k,h1,Z3.2 ⟨U,by rw[hD k e];exact s⟩,h3⟩
  rw[this]
 have N:∀ b l,ρ b=some l->L b=none->hJ M (Dr lo D') b up=true/\(l.on=true->w0.heap.size<=l.blk):=fun b l h1 s=>by
  obtain⟨k1,k2⟩:=inv.new b l h1 s;obtain⟨k,q1,q2,q3⟩:=(U9 _).1 k1;obtain⟨an,q2⟩:=Z3.1 q2;have e:k≠i:=fun e=>by subst e;rw[hi]at q2;cases q2
  exact⟨(U9 _).2 ⟨k,q1,Z3.2 ⟨an,by rw[hD k e];exact q2⟩,q3⟩,k2⟩
 unfold iE;simp only[Y];rcases ar with⟨lg,hw,hv,hm,_⟩|⟨lg,ax,hw,hq,hm,af⟩
 .have I:Sat lg:=by rw[hm]at hS;exact hS
  rw[C lg false hw I];simp only[K1,if_false];refine hK ρ _ w ⟨inv.ext,N,hG▸inv.hr,inv.keep,inv.size,inv.os,hG▸inv.tch,?_,?_,y ρ undef (fun _ _ h=>h) (hv▸qN ρ)⟩
  .cases W:o.dst<;>simp[Act.put,inv.tsz]
  .rw[fE];exact inv.dfr
 .obtain⟨mv,m',az,O,hW,aq,hl⟩:=lT hq;obtain⟨v1,v2,v3,v4,v5,_⟩:=tV az;have au:Sat m'.lg:=by rw[hm]at hS;rw[hl];exact hS
  have I:Sat lg:=S3.le au (by have:=aW G O;rw[v4]at this;exact this);rw[C lg true hw I];simp only[if_true];have aa:HR P base ρ mv.H w:=inv.hr.hr fun id hid ab T=>ai id ab (af.trans (v5 id hid ab T))
  have ag:At P base gl ρ mv m'.hi w:=⟨aa,C6 u.bs inv.size,fun b h1 s=>(by rw[v1]at h1;rw[aq]at s;omega),u.gr.mono inv.ext,(by rw[v1,v2];exact A7 _),fun b hb=>(by rw[v3]at hb;cases hb),fun k o A=>⟨(u.gf k o A).1,(inv.keep k (D8 (u.gf k o A).1 u.bs)).trans (u.gf k o A).2⟩⟩;refine qX G O au ag ad fun v' q w' hv st=>?_
  have ah:q=ρ:=by
   funext b;cases h0:ρ b with
   | some l=>exact st.ext b l h0
   | none =>
     cases h1:q b with
     | none=>rfl
     | some l =>
       exfalso;have s:=(st.new b l h1 h0).1;have h3:=st.hr.dom b l h1;rw[v1]at s;unfold tO at s;unfold I4 at h3;omega
  subst ah;have J:∀ k,k<w.heap.size->w'.heap[k]? = w.heap[k]? := fun k A=>st.keep k A fun b hb=>by rw[hW]at hb;cases hb
  refine hK q _ w' ⟨inv.ext,N,hG▸⟨inv.hr.dom,fun id hid ab T=>?_⟩,fun k A=>by rw[J k (D8 A inv.size),inv.keep k A],C6 inv.size st.size,⟨st.os.1.trans inv.os.1,st.os.2.1.trans inv.os.2.1,st.os.2.2.trans inv.os.2.2⟩,hG▸inv.tch,?_,?_,y q v' (fun _ _ h=>h) hv⟩
  .obtain⟨l,e1,e2,e3⟩:=inv.hr.at_ id hid ab T;exact⟨l,e1,e2.mono (fun _ _ h=>h) (fun k A=>J _ (e2.tc A)),e3⟩
  .cases W:o.dst<;>simp[Act.put,inv.tsz]
  .rw[fE];exact inv.dfr
def Rg.step{z:Zn}(g:Rg P base gl nt call ops F M V R X B)(ph:Ph ops B M lo up)(T:W3 P base gl call){an ρ:Ren}{w0 w:World}{D D':Nat->Bool}{a:Act}{i:Nat}{o:Oper}{Q:Exit->Act->World->Prop}{K:Act->World->Prop}
  (L:At P base gl an (M lo) (M up).hi w0) (hS:Sat (M up).lg) (bf:nt<=512) (inv:Inv z P base gl nt ops F M V lo up an w0 D ρ a w) (hc:nF ops.toList fun k=>D k=true) (bt:∀ k,D k=true->k<ops.size) (ay:lo<=i) (ax:i<up) (W:ops[i]? = some o) (hi:D i=false)
  (hr:∀ e ∈ o.after.toList,Region.binds .any e=true->D e.on=true) (hD:∀ k,k≠i->D' k=D k) (bz:D' i=true)
  (bw:¬∃ r,eM nt ops.toList (X7 P call o) ((c8 ops.toList []).getD i []) (R i) (F i) o (M i) (M (i+1)) (V i) r)
  (hK:∀ C a' w',Inv z P base gl nt ops F M V lo up an w0 D' C a' w'->K a' w'):iE P z.rd ops Q i K a w:=by
 have bh:i<ops.size:=(D0.1 W).1;obtain⟨cp,bk,hF,ai⟩:=g.st i o W;have bp:=ph.mx i o ay ax W;have cr:=ph.sz;have cq:=g.le ph (i:=lo) (j:=i) (A7 _) ay A2;have bd:=g.le ph (i:=i+1) (j:=up) A2 A2 (A7 _);have cw:=g.one W bp (g.all ph ay A2).2.2.1;have av:∀ t,t ∈ W6 ops.toList o->t<nt->VR ρ ((F i).get t) (a.tmps.getD t undef):=fun t ht aa=>by
  rw[<- g.look bf hc bt W hi hr ht aa];exact inv.frm t aa
 have cz:FR ρ (F i) a.eval o.op:=fun x hx=>by
  have ag:okX nt gl x=true:=D5.1 bk x hx;cases x with
  | tmp t=>exact av t (yL hx rfl) (A1 ag)
  | const v=>exact VR.ofC ag
  | global gg=>exact VR.ptr (o:=0) (inv.ext _ _ (L.gr gg (A1 ag)))
  | func f=>exact .func (a:=[]) (b:=[]) (a':=[]) (b':=[]) rfl rfl (fun i v v' h=>by simp at h) (fun i v v' h=>by simp at h)
 have ak:∀ lg b,bY nt (F i) (M i).lg ops.toList o=some (b,lg)->Sat lg->Region.wanted o (yielded ops a.tmps)=b:=fun lg b hw af=>by
  unfold bY at hw;split at hw
  .rename_i hg;cases hw;simp[Region.wanted,hg]
  .rename_i j want hg;split at hw
   .rename_i p hp;split at hw
    .rename_i t ht;obtain⟨h1,u⟩:=A3 hw;have h1:t<nt:=A1 h1;have hv:=av t (by
      unfold W6;refine B6.2 (.inr (B6.2 (.inr ?_)));simp[hg,hp,ht]) h1
     exact nJ hg hp ht (by rw[inv.tsz];exact h1) (qL u hv af)
    .cases hw
   .cases hw
 have ao:∀ (C:Ren) (v':Value),(∀ b l,ρ b=some l->C b=some l)->VR C (V i) v'->∀ t,t<nt->VR C (bG D' (fun k=>(ops[k]?).bind (·.dst)) V (F 0).get t ops.size) ((a.put o.dst v').tmps.getD t undef):=fun C v' he hv t ht=>by
  by_cases hd:o.dst=some t
  .have aj:∀ k,i<k->k<ops.size->(ops[k]?).bind (·.dst)=some t->D k=false:=fun k cu U bu=>by
    obtain⟨p,hp⟩:=Q4 (ops:=ops) U;rw[hp]at bu
    have:=g.slot hc bt W hi hr (t:=t) (by unfold W6;simp[hd]) k p hp A2 bu;cases hq:D k with
    | false=>rfl
    | true=>have:=this.1 hq;omega
   rw[sY hD bz ops.size bh (by simp[W,hd]) aj];simp only[hd,Act.put,B9];rw[G3,A8 rfl,A8 (by rw[inv.tsz];exact ht)];exact hv
  .rw[pS hD (by simp[W];exact hd)];have h1:=(inv.frm t ht).mono he;cases br:o.dst with
   | none=>exact h1
   | some d =>
     have bb:d≠t:=fun e=>hd (e▸br)
     simp only[Act.put,B9]at h1 ⊢;rw[G3,A6 bb];exact h1
 have O:∀ b,hJ M (Dr lo D') b up=true↔(hJ M (Dr lo D) b up=true∨((M i).n<=b/\b<(M (i+1)).n)):=fun b=>by
  rw[U9,U9];constructor
  .rintro⟨k,h1,u,h3⟩
   obtain⟨ah,u⟩:=Z3.1 u;by_cases e:k=i
   .subst e;exact .inr h3
   .rw[hD k e]at u;exact .inl ⟨k,h1,Z3.2 ⟨ah,u⟩,h3⟩
  .rintro(⟨k,h1,u,h3⟩|h3)
   .obtain⟨ah,u⟩:=Z3.1 u;have e:k≠i:=fun e=>by subst e;rw[hi]at u;cases u
    exact⟨k,h1,Z3.2 ⟨ah,by rw[hD k e];exact u⟩,h3⟩
   .exact⟨i,ax,Z3.2 ⟨ay,bz⟩,h3⟩
 unfold iE;simp only[W];have bx:Sat (M (i+1)).lg:=S3.le hS (by have:=g.lgs T (i:=i+1) (up-(i+1)) A2;rwa[show i+1+(up-(i+1))=up by omega]at this);rcases ai with⟨_,lg,hw,hv,hm⟩|⟨_,lg,bl,hw,hq,hm⟩|⟨ad,_⟩|⟨_,_,lg,hw,mv,m',au,al,hW,bm,Y⟩
 .exact absurd ⟨_,.inl ⟨lg,hw,hv,hm,rfl⟩⟩ bw
 .exact absurd ⟨_,.inr ⟨lg,bl,hw,hq,hm,rfl⟩⟩ bw
 .rw[bp]at ad;cases ad
 .have bn:Sat m'.lg:=by rw[LS Y]at bx;exact bx
  have af:Sat lg:=S3.le bn (by have:=aW T al;rw[RW au]at this;exact this);rw[ak lg true hw af];simp only[if_true];obtain⟨v1,v2,v3,_,v4⟩:=A4F au;have v1:mv.n=(M i).n:=v1;have v2:mv.hi=(M i).hi:=v2;have v4:∀ id,id<=I4->∀ ab,Hp.get mv.H id=some ab->Hp.get (M i).H id=some ab/\id ∉ e9 (EA ((c8 ops.toList []).getD i []) (R i)):=v4;have ae:=(g.all ph ay A2).2.2.1;obtain⟨q1,q2,q3,q4,q5,q6,_,q7⟩:=LQ Y ae bm;have q1:(M i).n<=(M (i+1)).n:=q1;have q5:(M (i+1)).n=m'.hi∨((M (i+1)).n=(M i).n/\m'.hi<=(M i).n):=q5;have q7:∀ id,id<=I4->Hp.get (M (i+1)).H id=if(M i).n<=id/\id<(M (i+1)).n then Hp.get m'.H id else Hp.get (M i).H id:=q7
  have N:∀ id,id<=I4->∀ ab,Hp.get mv.H id=some ab->GD M lo up D id=some ab:=fun id hid ab y=>by
   obtain⟨h1,u⟩:=v4 id hid ab y;exact g.see (z:=z) (a:=a) (ρ:=ρ) (w:=w) ph L hc ay ax W hr id hid ab h1 u
  have cy:HR P base ρ mv.H w:=inv.hr.hr N;have S:K7 ρ mv.n m'.hi:=fun b h1 u=>by
   rw[v1]at h1;cases hb:ρ b with
   | none=>rfl
   | some l =>
     exfalso;cases h0:an b with
     | some l0 =>
       rw[L.fr b A2 A2]at h0;cases h0
     | none =>
       obtain⟨k,k1,k2,k3,k4⟩:=(U9 _).1 (inv.new b l hb h0).1;obtain⟨k0,k2⟩:=Z3.1 k2;have ct:k≠i:=fun e=>by subst e;rw[hi]at k2;cases k2
       rcases G0 k i with bq|bq
       .have:=(g.le ph (i:=k+1) (j:=i) A2 A2 A2).1;omega
       .have:=(g.le ph (i:=i+1) (j:=k) A2 A2 A2).1;rcases q5 with q5|⟨_,q5⟩<;>omega
  have bc:At P base gl ρ mv m'.hi w:=⟨cy,C6 L.bs inv.size,S,L.gr.mono inv.ext,(by rw[v1,v2];exact ae),fun b hb=>(by rw[v3]at hb;cases hb),fun k o U=>⟨(L.gf k o U).1,(inv.keep k (D8 (L.gf k o U).1 L.bs)).trans (L.gf k o U).2⟩⟩;refine qX T al bn bc cz fun v' C w' hv st=>hK C _ w' ?_
  have aq:∀ k,k<w.heap.size->w'.heap[k]? = w.heap[k]? := fun k U=>st.keep k U fun b hb=>by rw[hW]at hb;cases hb
  have cv:m'.n<=m'.hi:=st.nhi (by rw[v1,v2];exact ae);have aw:∀ b l,C b=some l->ρ b=none->((M i).n<=b/\b<(M (i+1)).n)/\(l.on=true->w.heap.size<=l.blk):=fun b l h1 u=>by
   have h3:=st.new b l h1 u;rw[v1]at h3;refine⟨⟨h3.1,?_⟩,?_⟩
   .rcases q5 with q5|⟨_,q5⟩<;>omega
   .intro W;rcases st.blk b l h1 u W with h|⟨b0,h,_⟩
    .exact h
    .rw[hW]at h;cases h
  have ar:∀ id,id<=I4->(M i).n<=id->id<(M (i+1)).n->GD M lo up D' id=Hp.get m'.H id/\ρ id=none:=fun id hid h1 u=>by
   constructor
   .unfold GD;rw[(O id).2 (.inr ⟨h1,u⟩)];simp only[E6];rw[bd.2.2 id hid u,q7 id hid,A8 ⟨h1,u⟩]
   .refine S id (by rw[v1];exact h1) ?_;rcases q5 with q5|⟨q5,_⟩
    .omega
    .rw[q5]at u;omega
  have Z:∀ id,¬ ((M i).n<=id/\id<(M (i+1)).n)->GD M lo up D' id=GD M lo up D id:=fun id hid=>by
   unfold GD;have:hJ M (Dr lo D') id up=hJ M (Dr lo D) id up:=by
    rw[K6,O id];exact⟨fun h=>h.elim (fun h=>h) (fun h=>absurd h hid),.inl⟩
   rw[this]
  have bg:∀ k,Ff C (GD M lo up D') k->w.heap.size<=k∨Ff ρ (GD M lo up D) k:=fun k ⟨id,ab,l,hid,y,hl,ht⟩=>by
   by_cases hI:(M i).n<=id/\id<(M (i+1)).n
   .rw[(ar id hid hI.1 hI.2).1]at y;rcases st.tch k ⟨id,ab,l,hid,y,hl,ht⟩with h|⟨A,az,l0,e1,e2,e3,e4⟩
    .exact .inl h
    .exact .inr ⟨A,az,l0,e1,N A e1 az e2,e3,e4⟩
   .rw[Z id hI]at y;obtain⟨l3,c1,_⟩:=inv.hr.at_ id hid ab y;rw[st.ext id l3 c1]at hl
    have:=A9 hl;subst this;exact .inr ⟨id,ab,l3,hid,y,c1,ht⟩
  refine⟨fun b l h=>st.ext b l (inv.ext b l h),fun b l h1 u=>?_,⟨st.hr.dom,fun id hid ab y=>?_⟩,fun k U=>by rw[aq k (D8 U inv.size),inv.keep k U],C6 inv.size st.size,⟨st.os.1.trans inv.os.1,st.os.2.1.trans inv.os.2.1,st.os.2.2.trans inv.os.2.2⟩,fun k U=>(bg k U).elim (fun h=>.inl (C6 inv.size h)) (inv.tch k),?_,?_,ao C v' st.ext hv⟩
  .cases h0:ρ b with
   | some l1 =>
     rw[st.ext b l1 h0]at h1
     have:=A9 h1;subst this;exact⟨(O b).2 (.inl (inv.new b l1 h0 u).1),(inv.new b l1 h0 u).2⟩
   | none =>
     have:=aw b l h1 h0;exact⟨(O b).2 (.inr this.1),fun W=>C6 inv.size (this.2 W)⟩
  .by_cases hI:(M i).n<=id/\id<(M (i+1)).n
   .obtain⟨h1,u⟩:=ar id hid hI.1 hI.2;rw[h1]at y;obtain⟨l,e1,e2,e3⟩:=st.hr.at_ id hid ab y;refine⟨l,e1,e2,fun I G=>⟨(e3 I G).1,fun q s J l2 f1 f2 f3=>?_⟩⟩;by_cases E:(M i).n<=q/\q<(M (i+1)).n
    .rw[(ar q s E.1 E.2).1]at f1;exact(e3 I G).2 q s J l2 f1 f2 f3
    .rw[Z q E]at f1;obtain⟨l3,c1,c2,_⟩:=inv.hr.at_ q s J f1;rw[st.ext q l3 c1]at f2
     have:=A9 f2;subst this;have h5:=c2.tc f3;have h6:=(aw id l e1 u).2 G;omega
   .rw[Z id hI]at y;obtain⟨l,e1,e2,e3⟩:=inv.hr.at_ id hid ab y;refine⟨l,st.ext _ _ e1,e2.mono st.ext (fun k U=>aq _ (e2.tc U)),fun I G=>⟨(e3 I G).1,fun q s J l2 f1 f2 f3=>?_⟩⟩;by_cases E:(M i).n<=q/\q<(M (i+1)).n
    .exfalso;rw[(ar q s E.1 E.2).1]at f1;have bj:J.fr=true:=by
      cases hq:J.fr with
      | true=>rfl
      | false =>
        exfalso;rcases f3 with⟨_,h1,u⟩|⟨h1,_⟩
        .have h5:=(aw q l2 f2 (ar q s E.1 E.2).2).2 h1;have h6:=e2.tc (.inl ⟨AB.rw_on I,G,rfl⟩);omega
        .rw[h1]at hq;cases hq
     rcases st.tch _ ⟨q,J,l2,s,f1,f2,bj,f3⟩with h|⟨A,az,l0,c1,c2,c3,_,c4⟩
     .have:=e2.tc (.inl ⟨AB.rw_on I,G,rfl⟩);omega
     .have h7:=(e3 I G).2 A c1 az l0 (N A c1 az c2) c3 c4;subst h7;have h8:=N A c1 az c2;rw[y]at h8;have h8:=A9 h8;subst h8;have h9:A<mv.n∨m'.hi<=A:=by
       rcases G0 A mv.n with h|h
       .exact .inl h
       .rcases G0 A m'.hi with h'|h'
        .rw[S A h h']at e1;cases e1
        .exact .inr h'
      have bo:=st.same A c1 (by rw[hW];simp) h9;rw[c2]at bo;obtain⟨_,ba⟩:=st.hr.atl (st.ext _ _ e1) bo
      have:=(ba I G).2 q s J l2 f1 f2 f3;subst this;exact hI E
    .rw[Z q E]at f1;obtain⟨l3,c1,_⟩:=inv.hr.at_ q s J f1;rw[st.ext q l3 c1]at f2
     have:=A9 f2;subst this;exact(e3 I G).2 q s J l3 f1 c1 f3
  .cases br:o.dst<;>simp[Act.put,inv.tsz]
  .rw[fE];exact inv.dfr.congr st.ext fun _=>⟨rfl,rfl⟩
end
end
section
open Go
variable [Ora]
def EY:∀ (l:List Bool) (i:Nat),l[i]? = some false->(l.set i true).countP (fun b=>!b)+1=l.countP (fun b=>!b)
 | [],i,h=>by simp at h
 | b::r,0,h=>by simp at h;subst h;simp
 | b::r,i+1,h=>by
   have:=EY r i (by simpa using h);rw[List.set_cons_succ,List.countP_cons,List.countP_cons];omega
def RD{l:List Bool}(h:l.countP (fun b=>!b)=0):∀ i,i<l.length->l[i]? = some true:=fun i hi=>by
 rw[List.countP_eq_zero]at h
 have:=h l[i] (O1 hi);rw[A5 hi];cases a:l[i]with
 | true=>rfl
 | false=>rw[a]at this;exact absurd rfl this
section
variable {P:Program} {base gl:Nat} {call:P6}
def A1q(h:mB m m'=some m2)(a:m.hi<=m'.hi):m.hi<=m2.hi:=by
 unfold mB at h;cases b:Nat.ble m'.hi m.n with
 | true=>rw[b]at h;cases h;exact A7 _
 | false =>
   rw[b]at h;obtain⟨_,h⟩:=A3 h;simp only[E9,eT]at h;cases h;exact a
def BU:∀ {n:Nat} {b:H9} {a:Qs},IV n b a=true->∀ k,k<n->k ∈ b∨∃ q ∈ a,q.1=k
 | 0,_,_,_,k,h=>by omega
 | n+1,b,a,h,k,hk=>by
   obtain⟨h1,d⟩:=B8 (show((aP b n || a.any fun q=>Nat.beq n q.1) && IV n b a)=true from h);by_cases e:k=n
   .subst e;rcases J4 _ _▸h1 with h1|h1
    .exact .inl (X3.1 h1)
    .obtain⟨q,f,g⟩:=O2.1 h1;exact .inr ⟨q,f,(A0 g).symm⟩
   .exact BU d k A2
def AA:∀ {i:Nat} {bs:List H9} {r:List Oper},HF i bs r=true->∀ (j:Nat) (c:List Nat) (o:Oper),bs[j]? = some c->r[j]? = some o->i ∈ c∨bA o.op=true
 | _,[],_,_,j,c,o,h,_=>by simp at h
 | _,_::_,[],_,j,c,o,_,h=>by simp at h
 | i,c0::bs,o0::r,h,j,c,o,h1,h2=>by
   obtain⟨a,b⟩:=B8 (show((aP c0 i || bA o0.op) && HF i bs r)=true from h);cases j with
   | zero =>
     simp at h1 h2;subst h1;subst h2;rcases J4 _ _▸a with a|a
     .exact .inl (X3.1 a)
     .exact .inr a
   | succ j=>exact AA b j c o (by simpa using h1) (by simpa using h2)
def GC{ops:Array Oper}{X:Nat->Qs}{i:Nat}{o:Oper}(h:A4P ops X i o=true):bA o.op=false:=by
 obtain⟨h,_⟩:=B8 (show(wrO o.op && _)=true from h);cases a:o.op<;>rw[a]at h<;>first
  | rfl
  | cases h
def PH{ops:Array Oper}{X:Nat->Qs}{i:Nat}{o:Oper}(h:A4P ops X i o=true):∀ k,k<i->k ∈ (c8 ops.toList []).getD i []∨∃ q ∈ X i,q.1=k:=by
 obtain⟨_,h⟩:=B8 (show(wrO o.op && _)=true from h);obtain⟨h,_⟩:=B8 h;exact BU h
def PG{ops:Array Oper}{X:Nat->Qs}{i:Nat}{o:Oper}(h:A4P ops X i o=true):∀ j p,i<j->ops[j]? = some p->i ∈ (c8 ops.toList []).getD j []∨bA p.op=true:=fun j p e hp=>by
 obtain⟨_,h⟩:=B8 (show(wrO o.op && _)=true from h);obtain⟨_,h⟩:=B8 h;obtain⟨f,b,d,_⟩:=vD ops.toList [];have hlen:(c8 ops.toList []).length=ops.size:=by rw[b];simpa using d
 have g:j<ops.size:=(D0.1 hp).1;have a:j<(c8 ops.toList []).length:=A2
 have:=AA h (j-(i+1)) (c8 ops.toList [])[j] p (by rw[I7,show i+1+(j-(i+1))=j by omega,A5 a]) (by rw[I7,show i+1+(j-(i+1))=j by omega];exact T5 hp);rw[B2,A5 a];exact this
def uC(ops:Array Oper)(B:Nat->Bool):∀ (d lo:Nat),lo+d=ops.size->∃ up,lo<=up/\up<=ops.size/\(∀ i o,lo<=i->i<up->ops[i]? = some o->B i=false)/\(up<ops.size->∃ o,ops[up]? = some o/\B up=true)
 | 0,lo,h=>⟨lo,A7 _,A2,fun i o h1 f=>by omega,fun f=>by omega⟩
 | d+1,lo,h=>by
   obtain⟨o,j⟩:=Q4 (ops:=ops) (i:=lo) A2;cases g:B lo with
   | true=>exact⟨lo,A7 _,A2,fun i o h1 f=>by omega,fun _=>⟨o,j,g⟩⟩
   | false =>
     obtain⟨up,h1,f,h3,k⟩:=uC ops B d (lo+1) A2;refine⟨up,A2,f,fun i o' a b c=>?_,k⟩;by_cases e:i=lo
     .subst e;exact g
     .exact h3 i o' A2 b c
section
variable {nt:Nat} {ops:Array Oper} {F:Nat->Fr} {M:Nat->Mem} {V:Nat->Value} {R:Nat->List Rec} {X:Nat->Qs} {B:Nat->Bool} {lo up:Nat}
def Rg.frameUp(g:Rg P base gl nt call ops F M V R X B)(a:nt<=512){t:Tmp}(e:t<nt){i:Nat}(hi:i<=ops.size):bG (fun k=>Nat.blt k i) (fun k=>(ops[k]?).bind (·.dst)) V (F 0).get t ops.size=(F i).get t:=by
 rw[g.frame a e i hi];have b:∀ d,i+d<=ops.size->bG (fun k=>Nat.blt k i) (fun k=>(ops[k]?).bind (·.dst)) V (F 0).get t (i+d)=bG (fun k=>Nat.blt k i) (fun k=>(ops[k]?).bind (·.dst)) V (F 0).get t i:=by
  intro d;induction d with
  | zero=>intro _;rfl
  | succ d f =>
    intro j;rw[show i+(d+1)=(i+d)+1 by omega];rw[bG,A6 (fun hh=>by have:i+d<i:=A1 hh.1;omega)];exact f A2
 have:=b (ops.size-i) A2
 rwa[show i+(ops.size-i)=ops.size by omega]at this
def B5z{k i:Nat}:Nat.blt k i=true↔k<i:=⟨fun h=>A1 h,fun h=>C7 h⟩
def Rg.own(g:Rg P base gl nt call ops F M V R X B)(b:nt<=510):∀ (i:Nat),i<=ops.size->(F i).get 510=(F 0).get 510/\(F i).get 511=(F 0).get 511
 | 0,_=>⟨rfl,rfl⟩
 | i+1,hi=>by
   obtain⟨o,k⟩:=Q4 (ops:=ops) (i:=i) A2;obtain⟨d1,_,d3,_⟩:=g.st i o k;have f:=g.own b i A2;have key:∀ t,510<=t->t<512->(F (i+1)).get t=(F i).get t:=fun t h1 j=>by
    rw[d3];cases l:o.dst with
    | none=>rfl
    | some d =>
      rw[l]at d1;have a:d<nt:=A1 d1;show((F i).set d _).get t=_;rw[M6 _ _ _ _ (D8 a A2) j,A6 (fun e=>by subst e;exact absurd a (Nat.not_lt.2 (C6 b h1)))]
   exact⟨(key 510 E3 E3).trans f.1,(key 511 E3 E3).trans f.2⟩
def Rg.inX(g:Rg P base gl nt call ops F M V R X B):∀ (j:Nat),j<=ops.size->∀ q ∈ X j,q.1<j/\q ∈ X (q.1+1)/\∃ o,ops[q.1]? = some o/\eM nt ops.toList (X7 P call o) ((c8 ops.toList []).getD q.1 []) (R q.1) (F q.1) o (M q.1) (M (q.1+1)) (V q.1) q.2
 | 0,_,q,hq=>by rw[g.x0]at hq;cases hq
 | j+1,hj,q,hq=>by
   obtain⟨o,d⟩:=Q4 (ops:=ops) (i:=j) A2;have old:q ∈ X j->q.1<j+1/\q ∈ X (q.1+1)/\∃ o,ops[q.1]? = some o/\eM nt ops.toList (X7 P call o) ((c8 ops.toList []).getD q.1 []) (R q.1) (F q.1) o (M q.1) (M (q.1+1)) (V q.1) q.2:=fun h=>by
    obtain⟨h1,a⟩:=g.inX j A2 q h;exact⟨A2,a⟩
   rcases g.qs j o d with⟨_,h,_⟩|⟨_,h⟩|⟨_,r,h,a⟩
   .exact old (h▸hq)
   .exact old (h▸hq)
   .have b:=hq;rw[h]at hq;rcases B3.1 hq with e|e
    .subst e;exact⟨J7 _,b,o,d,a⟩
    .exact old e
def DT{all:List Oper}{b:H9}{fr:Fr}{o:Oper}{v:Value}(h:eM nt all op b rs fr o m m2 v r):∃ lg,m2=m.wLg lg:=by
 rcases h with⟨lg,_,_,h,_⟩|⟨_,a,_,_,h,_⟩
 .exact⟨lg,h⟩
 .exact⟨a,h⟩
def Rg.kind(g:Rg P base gl nt call ops F M V R X B){i:Nat}{o:Oper}(f:ops[i]? = some o)(a:bA o.op=true):eM nt ops.toList (X7 P call o) ((c8 ops.toList []).getD i []) (R i) (F i) o (M i) (M (i+1)) (V i) none:=by
 obtain⟨_,_,_,h⟩:=g.st i o f;have j:MQ (M i).H (F i) o.op=none:=by
  cases e:o.op<;>rw[e]at a<;>first|rfl|cases a
 rcases h with⟨_,lg,h1,b,h3⟩|⟨_,lg,d,h1,b,h3⟩|⟨h,_⟩|⟨_,h,_⟩
 .exact .inl ⟨lg,h1,b,h3,rfl⟩
 .exact .inr ⟨lg,d,h1,b,h3,j.symm⟩
 .rw[GC (g.sb i o f h)]at a;cases a
 .rw[a]at h;cases h
def Rg.heap{z:Zn}(g:Rg P base gl nt call ops F M V R X B)(f:Ph ops B M lo up){D:Nat->Bool}{p ρ:Ren}{a:Act}{y w':World}(hD:∀ k,lo<=k->k<up->D k=false->∃ lg,M (k+1)=(M k).wLg lg)(inv:Inv z P base gl nt ops F M V lo up p y D ρ a w'):St P base p ρ (M lo) (M up) y w':=by
 have x:∀ id,id<=I4->GD M lo up D id=Hp.get (M up).H id:=fun id hid=>by
  unfold GD;cases hu:hJ M (Dr lo D) id up with
  | true=>rfl
  | false =>
    simp only[E0];refine((g.all f f.le (A7 _)).2.2.2.2 id hid ?_).symm;rcases G0 id (M lo).n with h1|h1
    .exact .inl h1
    .rcases G0 id (M up).n with e|e
     .exfalso;have hle:=f.le;obtain⟨k,q,h,w,o⟩:=g.who f (up-lo) A2 id h1 (by rw[show lo+(up-lo)=up by omega];exact e);have t:D k=true:=by
       cases C:D k with
       | true=>rfl
       | false =>
         obtain⟨lg,hm⟩:=hD k q A2 C;rw[hm]at o;have o:id<(M k).n:=o;omega
      rw[(U9 (M:=M) (D:=Dr lo D) up).2 ⟨k,A2,Z3.2 ⟨q,t⟩,w,o⟩]at hu;cases hu
     .exact .inr e
 have d:=g.all f f.le (A7 _);refine⟨inv.ext,fun b l h1 e=>?_,d.1,d.2.1,fun _=>d.2.2.1,inv.hr.hr fun id hid ab s=>by rw[x id hid];exact s,fun b E=>by rw[d.2.2.2.1];exact E,fun b h1 e=>by rw[d.2.2.2.1]at h1;exact absurd h1 e,
     fun k A _=>inv.keep k A,inv.size,inv.os,fun b l h1 e G=>.inl ((inv.new b l h1 e).2 G),fun id hid h1 e=>?_,fun k ⟨id,ab,l,u,v,K,I⟩=>inv.tch k ⟨id,ab,l,u,(x id u).trans v,K,I⟩⟩
 .obtain⟨k,h,J,w,o⟩:=(U9 _).1 (inv.new b l h1 e).1;have q:=(Z3.1 J).1;have u:=(g.le f (i:=lo) (j:=k) (A7 _) q A2).1;have v:=(g.le f (i:=k+1) (j:=up) A2 A2 (A7 _)).1;omega
 .refine d.2.2.2.2 id hid ?_;rcases e with e|e
  .exact .inl e
  .exact .inr (by have:=d.2.2.1;omega)
def Rg.last{z:Zn}(g:Rg P base gl nt call ops F M V R X B)(b:nt<=512){D:Nat->Bool}{d ρ:Ren}{a:Act}{n w':World}(hD:∀ i,i<ops.size->D i=true)(inv:Inv z P base gl nt ops F M V lo up d n D ρ a w'):FrR z ρ nt (F ops.size) a:=by
 have j:=inv.dfr.congr (fun _ _ h=>h) (fun l=>g.own l ops.size (A7 _));refine⟨inv.tsz,b,j.1,j.2,fun t f=>?_⟩;have h1:=inv.frm t f;rw[<- g.frameUp b f (A7 _)]
 rwa[fQ (D':=fun k=>Nat.blt k ops.size) ops.size (fun k e _=>by rw[hD k e];exact(B5z.2 e).symm)]at h1
def Rg.fresh{z:Zn}(g:Rg P base gl nt call ops F M V R X B){D:Nat->Bool}{ρ:Ren}{a:Act}{w:World}(hD:∀ k,lo<=k->D k=true->∃ lg,M (k+1)=(M k).wLg lg)(hr:HR P base ρ (M lo).H w)(e:a.tmps.size=nt)(q:ZR z ρ nt (F 0) a.defers)
  (i:∀ t,t<nt->VR ρ (bG D (fun k=>(ops[k]?).bind (·.dst)) V (F 0).get t ops.size) (a.tmps.getD t undef)):Inv z P base gl nt ops F M V lo up ρ w D ρ a w:=by
 have hu:∀ b n,hJ M (Dr lo D) b n=false:=fun b n=>by
  cases u:hJ M (Dr lo D) b n with
  | false=>rfl
  | true =>
    obtain⟨k,_,h,A,p⟩:=(U9 _).1 u;obtain⟨h1,o⟩:=Z3.1 h;obtain⟨lg,hm⟩:=hD k h1 o;rw[hm]at p;have p:b<(M k).n:=p;omega
 have j:∀ id ab,GD M lo up D id=some ab->Hp.get (M lo).H id=some ab:=fun id ab d=>by
  unfold GD at d;rw[hu]at d;exact d
 exact⟨fun _ _ h=>h,fun b l h1 o=>(by rw[h1]at o;cases o),hr.f fun id hid ab d=>j id ab d,fun _ _=>rfl,A7 _,⟨rfl,rfl,rfl⟩,fun k ⟨id,ab,l,x,s,y,v⟩=>.inr ⟨id,ab,l,x,j id ab s,y,v⟩,e,q,i⟩
def Rg.old{z:Zn}(g:Rg P base gl nt call ops F M V R X B)(d:Ph ops B M lo up){e:Ren}{w0:World}{D:Nat->Bool}(a:At P base gl e (M lo) (M up).hi w0){b:Nat}{ab:AB}(p:AL (M lo).H b ab=true):GD M lo up D b=some ab:=by
 obtain⟨h1,hid⟩:=AK p;unfold GD;have hu:hJ M (Dr lo D) b up=false:=by
  cases o:hJ M (Dr lo D) b up with
  | false=>rfl
  | true =>
    exfalso;obtain⟨k,w,s,x,v⟩:=(U9 _).1 o;have q:=(Z3.1 s).1;obtain⟨l,f,_⟩:=a.hr.at_ b hid _ h1;have u:=g.le d (i:=lo) (j:=k) (A7 _) q A2;have n:=g.le d (i:=k+1) (j:=up) A2 A2 (A7 _);have t:=(g.all d d.le (A7 _)).2.2.1;rw[a.fr b A2 A2]at f;cases f
 rw[hu];exact h1
end
def A3G(hm:P.follows .mixedOrders=true)(T:W3 P base gl call):gX P base gl call:=by
 refine⟨hm,?_⟩;intro nt ops bt s s' cj;obtain⟨F,M,V,R,X,B,f1,f2,f3,du,f4,f5,f6⟩:=A6A ops.toList 0 _ _ _ s s' cj;simp only[F7,S0]at f4 f5 f6;have cy:∀ i,i<=ops.size->∀ d,i+d<=ops.size->(M i).hi<=(M (i+d)).hi/\(M i).lg.le (M (i+d)).lg:=by
  intro i _ d;induction d with
  | zero=>intro _;exact⟨A7 _,.refl _⟩
  | succ d ih =>
    intro h;have h1:=ih A2;obtain⟨o,C⟩:=Q4 (ops:=ops) (i:=i+d) A2;obtain⟨bn,_⟩:=f6 (i+d) o (T5 C);refine⟨?_,h1.2.trans (DF T bn)⟩;obtain⟨_,_,_,O⟩:=bn;rcases O with⟨_,_,_,_,O⟩|⟨_,_,_,_,_,O⟩|⟨_,_,_,_,O⟩|⟨_,_,_,_,mv,m',_,_,_,cp,O⟩
    .show _<=(M (i+d+1)).hi;rw[O];exact h1.1
    .show _<=(M (i+d+1)).hi;rw[O];exact h1.1
    .exact C6 h1.1 O
    .exact C6 h1.1 (A1q O cp)
 have E:∀ i j,i<=j->j<=ops.size->(M i).hi<=(M j).hi/\(M i).lg.le (M j).lg:=fun i j h1 O=>by
  have:=cy i A2 (j-i) A2
  rwa[show i+(j-i)=j by omega]at this
 constructor
 .have:=E 0 ops.size A2 (A7 _);rw[f2,f5]at this;exact this
 .intro z ao a0 w id Q cm ar ai hQ;have g:Rg P base gl nt call ops F M V R X B:=⟨fun i o C=>(f6 i o (T5 C)).1,fun i o C=>(f6 i o (T5 C)).2.2.1,fun i o C=>(f6 i o (T5 C)).2.2.2,fun i o C=>(f6 i o (T5 C)).2.1,du,bt⟩;have cn:∀ i o,ops[i]? = some o->∀ e ∈ o.after.toList,Region.binds .any e=true->e.on<i:=fun i o C=>by
   have:=(iO _ 0 g.ok i o (T5 C)).1;rw[F7]at this;exact fT this
  refine lK hm ?_;generalize cd:({ w with drawn:=w.drawn+1 }:World)=w1;have av:w1.heap=w.heap:=by rw[<- cd]
  have cu:w1.os=w.os/\w1.tape=w.tape/\w1.output=w.output:=by rw[<- cd];exact⟨rfl,rfl,rfl⟩
  have aw:At P base gl ao (M 0) (M ops.size).hi w1:=by
   rw[f2,f5];exact⟨⟨fun b l h=>ar.hr.dom b l h,fun id hid ab dt=>by
    obtain⟨l,e1,e2,e3⟩:=ar.hr.at_ id hid ab dt;exact⟨l,e1,e2.mono (fun _ _ h=>h) (fun _ _=>by rw[av]),e3⟩⟩,by rw[av];exact ar.bs,ar.fr,ar.gr,ar.nh,ar.wb,fun k o A=>by rw[av];exact ar.gf k o A⟩
  have ak:∀ i,i<=ops.size->Sat (M i).lg:=fun i hi=>S3.le cm (by rw[<- f5];exact(E i ops.size hi (A7 _)).2)
  have ay:K7 ao (M 0).n (M ops.size).hi:=aw.fr;have fin:∀ (ρ:Ren) (a:Act) (w':World),FrR z ρ nt (F ops.size) a->St P base ao ρ (M 0) (M ops.size) w1 w'->Q .normal a w':=fun ρ a w' hf st=>by
   refine hQ ρ a w' (by rw[<- f4];exact hf) ?_;rw[<- f2,<- f5];exact⟨st.ext,st.new,st.nle,st.hle,st.nhi,st.hr,st.wsub,st.wrw,fun k A hb=>by rw[st.keep k (by rw[av];exact A) hb,av],by rw[<- av];exact st.size,⟨st.os.1.trans cu.1,st.os.2.1.trans cu.2.1,st.os.2.2.trans cu.2.2⟩,fun b l h1 O h3=>by rw[<- av];exact st.blk b l h1 O h3,st.same,fun k A=>by rw[<- av];exact st.tch k A⟩
  have main:∀ (fuel:Nat) (listed:Array Bool) (lo up:Nat) (L ρ:Ren) (a:Act) (wL w':World),listed.size=ops.size->listed.toList.countP (fun b=>!b)=fuel->nF ops.toList (fun k=>listed.getD k false=true) ->
    Ph ops B M lo up->(up<ops.size->∃ o,ops[up]? = some o/\B up=true)->St P base ao L (M 0) (M lo) w1 wL->At P base gl L (M lo) (M ops.size).hi wL->(∀ q ∈ X lo,listed.getD q.1 false=false->A7W (M lo).H q.2=true)->(∀ k,k<lo->listed.getD k false=false->∃ q ∈ X lo,q.1=k)->(∀ k o,up<=k->ops[k]? = some o->listed.getD k false=true->bA o.op=true) ->
    Inv z P base gl nt ops F M V lo up L wL (fun k=>listed.getD k false) ρ a w'->jB P z.rd .any ops Q fuel listed a w':=by
   have done:∀ (listed:Array Bool) (lo up:Nat) (L ρ:Ren) (a:Act) (wL w':World),(∀ i,i<ops.size->listed.getD i false=true)->Ph ops B M lo up->(up<ops.size->∃ o,ops[up]? = some o/\B up=true)->St P base ao L (M 0) (M lo) w1 wL->(∀ k o,up<=k->ops[k]? = some o->listed.getD k false=true->bA o.op=true) ->
     Inv z P base gl nt ops F M V lo up L wL (fun k=>listed.getD k false) ρ a w'->Q .normal a w':=fun listed lo up L ρ a wL w' W ph J ah K inv=>by
    have dz:up=ops.size:=by
     rcases G0 up ops.size with h|h
     .obtain⟨o,C,hs⟩:=J h
      have:=K up o (A7 _) C (W up h);rw[GC (g.sb up o C hs)]at this;cases this
     .have:=ph.sz;omega
    subst dz;exact fin ρ a w' (g.last ai.le W inv) (St.trans ay ah (g.heap ph (fun k _ h1 O=>by have O:listed.getD k false=false:=O;rw[W k h1]at O;cases O) inv))
   intro fuel;induction fuel with
   | zero =>
     intro listed lo up L ρ a wL w' cz bj an ph J ah af ba bx K inv;have W:∀ i,i<ops.size->listed.getD i false=true:=fun i hi=>by
      have:=RD bj i (by simpa [cz]using hi);have O:listed[i]? = some true:=by simpa using this
      simp[B9,O]
     refine⟨?_,done listed lo up L ρ a wL w' W ph J ah K inv⟩;rw[cN];intro j hj;obtain⟨h1,o,O,_⟩:=mem_ready.1 hj;have aq:j<ops.size:=(D0.1 O).1;have h3:=W j aq;have cv:j<listed.size:=A2;simp[B9,cv]at h1 h3;rw[h1]at h3;cases h3
   | succ fuel ih =>
     intro listed lo up L ρ a wL w' cz bj an ph J ah af ba bx K inv;refine⟨fun dx=>?_,fun i hi=>?_⟩
     ·
      have key:∀ n i,i<n->i<ops.size->listed.getD i false=true:=by
       intro n;induction n with
       | zero=>intro i h;omega
       | succ n bo =>
         intro i df bm;by_cases h:i<n
         .exact bo i h bm
         .cases Y:listed.getD i false with
          | true=>rfl
          | false =>
            exfalso;obtain⟨o,C⟩:=Q4 (ops:=ops) bm;have bf:i ∈ Region.ready .any ops listed:=mem_ready.2 ⟨by
             have cv:i<listed.size:=A2;simp[B9,cv]at Y ⊢;exact Y,o,C,fun e he hb=>by
             have aq:=cn i o C e (by simpa using he) hb;exact bo e.on A2 A2⟩
            rw[dx]at bf;cases bf
      exact done listed lo up L ρ a wL w' (fun i hi=>key (i+1) i (J7 i) hi) ph J ah K inv
     .obtain⟨h1,o,C,O⟩:=mem_ready.1 hi;have bm:i<ops.size:=(D0.1 C).1;have bz:i<listed.size:=A2;have az:listed.getD i false=false:=by
       simp[B9,bz]at h1 ⊢;exact h1
      have u:∀ k,k≠i->(listed.setIfInBounds i true).getD k false=listed.getD k false:=fun k A=>by
       simp only[B9,G3];rw[A6 (fun e=>A e.symm)]
      have I:(listed.setIfInBounds i true).getD i false=true:=by
       simp[B9,G3,bz]
      have hr:∀ e ∈ o.after.toList,Region.binds .any e=true->listed.getD e.on false=true:=fun e he hb=>O e (by simpa using he) hb
      have bh:(listed.setIfInBounds i true).size=ops.size:=by simpa using cz
      have br:(listed.setIfInBounds i true).toList.countP (fun b=>!b)=fuel:=by
       have hg:listed.toList[i]? = some false:=by
        simp[B9,bz]at az;simp[bz,az]
       have:=EY listed.toList i hg;rw[Array.toList_setIfInBounds];omega
      have bd:nF ops.toList (fun k=>(listed.setIfInBounds i true).getD k false=true):=by
       intro k o' bb A e he hb;by_cases e1:e.on=i
       .rw[e1];exact I
       .show(listed.setIfInBounds i true).getD e.on false=true;rw[u e.on e1];by_cases e2:k=i
        .subst e2;have:ops.toList[k]? = some o:=T5 C;rw[this]at bb;cases bb;exact hr e he hb
        .have A:(listed.setIfInBounds i true).getD k false=true:=A;rw[u k e2]at A;exact an k o' bb A e he hb
      have bq:∀ k,k ∈ (c8 ops.toList []).getD i []->listed.getD k false=true:=fun k A=>BW an (fun i o C=>by
        have:=(iO _ 0 g.ok i o C).1;rw[F7]at this;exact fT this) (i+1) i k o (J7 i) (T5 C) hr A
      have aq:∀ k,listed.getD k false=true->k<ops.size:=fun k A=>by
       rcases G0 k ops.size with h|h
       .exact h
       .have S:listed[k]? = none:=Array.getElem?_eq_none_iff.2 A2;rw[B9,S]at A;cases A
      have ae:At P base gl L (M lo) (M up).hi wL:=af.less (E up ops.size ph.sz (A7 _)).1;have go:∀ (y:Ren) (a':Act) (G:World),(up<=i->bA o.op=true)->Inv z P base gl nt ops F M V lo up L wL (fun k=>(listed.setIfInBounds i true).getD k false) y a' G->jB P z.rd .any ops Q fuel (listed.setIfInBounds i true) a' G:=fun y a' G Y al =>
       ih (listed.setIfInBounds i true) lo up L y a' wL G bh br bd ph J ah af (fun q Y S=>ba q Y (by
        by_cases e:q.1=i
        .rw[e,I]at S;cases S
        .rw[u _ e]at S;exact S)) (fun k A S=>by
        by_cases e:k=i
        .subst e;rw[I]at S;cases S
        .rw[u k e]at S;exact bx k A S) (fun k p A hp Z=>by
        by_cases e:k=i
        .subst e;rw[C]at hp;cases hp;exact Y A
        .rw[u k e]at Z;exact K k p A hp Z) al
      have quiet:∀ r,(up<=i->bA o.op=true)->eM nt ops.toList (X7 P call o) ((c8 ops.toList []).getD i []) (R i) (F i) o (M i) (M (i+1)) (V i) r->(∀ b ab,r=some (b,ab)->GD M lo up (fun k=>listed.getD k false) b=some ab)->iE P z.rd ops Q i (fun a' G=>jB P z.rd .any ops Q fuel (listed.setIfInBounds i true) a' G) a w':=fun r Y U dw =>
       g.quiet T ae (ak (i+1) A2) ai.le inv an aq C az hr u I U dw fun y a' G al=>go y a' G Y al
      rcases G0 i lo with aa|aa
      ·
       obtain⟨q,cf,cb⟩:=bx i aa az;obtain⟨_,_,p,hp,U⟩:=g.inX lo (by have:=ph.sz;have:=ph.le;omega) q cf;rw[cb]at hp U;rw[C]at hp;cases hp;refine quiet q.2 (fun h=>by have:=ph.le;omega) U fun b ab hb=>?_
       refine g.old (z:=z) ph ae ?_
       have:=ba q cf (by rw[cb];exact az);rw[hb]at this;exact this
      .rcases G0 i up with cw|cw
       ·
        by_cases hex:∃ r,eM nt ops.toList (X7 P call o) ((c8 ops.toList []).getD i []) (R i) (F i) o (M i) (M (i+1)) (V i) r
        .obtain⟨r,U⟩:=hex;refine quiet r (fun h=>by omega) U fun b ab hb=>?_
         rcases U with⟨_,_,_,_,dn⟩|⟨lg,di,hw,Y,hm,dr⟩
         .rw[dn]at hb;cases hb
         .obtain⟨mv,m',ct,_⟩:=lT Y;obtain⟨h3,h4⟩:=(tV ct).2.2.2.2.2 b ab (dr.symm.trans hb);obtain⟨h5,h6⟩:=AK h3;exact g.see (z:=z) (a:=a) (ρ:=ρ) (w:=w') ph ae an aa cw C hr b h6 _ h5 h4
        .exact g.step ph T ae (ak up ph.sz) ai.le inv an aq aa cw C az hr u I hex fun y a' G al=>go y a' G (fun h=>by omega) al
       .obtain⟨os,bw,ax⟩:=J A2;rcases G0 up i with dp|dh
        ·
         have A:bA o.op=true:=by
          rcases PG (g.sb up os bw ax) i o dp C with h|h
          .have h3:=K up os (A7 _) bw (bq up h);rw[GC (g.sb up os bw ax)]at h3;cases h3
          .exact h
         exact quiet none (fun _=>A) (g.kind C A) fun b ab hb=>by cases hb
        ·
         have cl:i=up:=A2;subst cl;rw[C]at bw;cases bw;have ad:∀ k,k<i->listed.getD k false=false->∃ q ∈ X i,q.1=k:=fun k A S=>by
          rcases PH (g.sb i o C ax) k A with h|h
          .rw[bq k h]at S;cases S
          .exact h
         have q2:=g.heap ph (fun k _ A S=>by
          obtain⟨q,Y,e⟩:=ad k A S;obtain⟨_,_,p,hp,U⟩:=g.inX i A2 q Y;rw[e]at U;exact DT U) inv
         have dk:St P base ao ρ (M 0) (M i) w1 w':=St.trans (ay.less (E i ops.size A2 (A7 _)).1) ah q2;have au:At P base gl ρ (M i) (M ops.size).hi w':=af.step q2;obtain⟨d1,d2,d3,bn⟩:=g.st i o C;have bu:∀ t,t ∈ W6 ops.toList o->t<nt->VR ρ ((F i).get t) (a.tmps.getD t undef):=fun t ht cq=>by
          rw[<- g.look ai.le an aq C az hr ht cq];exact inv.frm t cq
         have dm:FR ρ (F i) a.eval o.op:=fun x hx=>by
          have bt:okX nt gl x=true:=D5.1 d2 x hx;cases x with
          | tmp t=>exact bu t (yL hx rfl) (A1 bt)
          | const v=>exact VR.ofC bt
          | global gg=>exact VR.ptr (o:=0) (au.gr gg (A1 bt))
          | func f=>exact .func (a:=[]) (b:=[]) (a':=[]) (b':=[]) rfl rfl (fun i v v' h=>by simp at h) (fun i v v' h=>by simp at h)
         have bc:∀ lg b,bY nt (F i) (M i).lg ops.toList o=some (b,lg)->Sat lg->Region.wanted o (yielded ops a.tmps)=b:=fun lg b hw cr=>by
          unfold bY at hw;split at hw
          .rename_i hg;cases hw;simp[Region.wanted,hg]
          .rename_i j want hg;split at hw
           .rename_i p hp;split at hw
            .rename_i t ht;obtain⟨h1,O⟩:=A3 hw;have h1:t<nt:=A1 h1;have hv:=bu t (by
              unfold W6;refine B6.2 (.inr (B6.2 (.inr ?_)));simp[hg,hp,ht]) h1
             exact nJ hg hp ht (by rw[inv.tsz];exact h1) (qL O hv cr)
            .cases hw
           .cases hw
         have bl:∀ (y:Ren) (v':Value),(∀ b l,ρ b=some l->y b=some l)->VR y (V i) v'->∀ t,t<nt->VR y (bG (fun k=>(listed.setIfInBounds i true).getD k false) (fun k=>(ops[k]?).bind (·.dst)) V (F 0).get t ops.size) ((a.put o.dst v').tmps.getD t undef):=fun y v' he hv t ht=>by
          by_cases hd:o.dst=some t
          .have aj:∀ k,i<k->k<ops.size->(ops[k]?).bind (·.dst)=some t->listed.getD k false=false:=fun k dj A ck=>by
            obtain⟨p,hp⟩:=Q4 (ops:=ops) A;rw[hp]at ck
            have:=g.slot an aq C az hr (t:=t) (by unfold W6;simp[hd]) k p hp A2 ck;cases Y:listed.getD k false with
            | false=>rfl
            | true=>have:=this.1 Y;omega
           rw[sY (D:=fun k=>listed.getD k false) u I ops.size bm (by simp[C,hd]) aj];simp only[hd,Act.put,B9];rw[G3,A8 rfl,A8 (by rw[inv.tsz];exact ht)];exact hv
          .rw[pS (D:=fun k=>listed.getD k false) u (by simp[C];exact hd)];have h1:=(inv.frm t ht).mono he;cases cg:o.dst with
           | none=>exact h1
           | some d =>
             have dq:d≠t:=fun e=>hd (e▸cg)
             simp only[Act.put,B9]at h1 ⊢;rw[G3,A6 dq];exact h1
         have hX:X (i+1)=X i/\A1_ ((c8 ops.toList []).getD i []) (M (i+1)).H (X i)=true:=by
          rcases g.qs i o C with⟨_,h3,h4⟩|⟨h3,_⟩|⟨h3,_⟩
          .exact⟨h3,h4⟩
          .rw[ax]at h3;cases h3
          .rw[ax]at h3;cases h3
         have aj:∀ (y:Ren) (v':Value) (G:World),VR y (V i) v'->St P base ρ y (M i) (M (i+1)) w' G->jB P z.rd .any ops Q fuel (listed.setIfInBounds i true) (a.put o.dst v') G:=fun y v' G hv ag=>by
          obtain⟨ds,u1,u2,u3,u4⟩:=uC ops B (ops.size-(i+1)) (i+1) A2;have bg:=au.step ag;refine ih (listed.setIfInBounds i true) (i+1) ds y y _ G G bh br bd ⟨u1,u2,bg.nh,u3⟩ u4 (St.trans (ay.less (E (i+1) ops.size A2 (A7 _)).1) dk ag) bg (fun q Y S=>?_) (fun k A S=>?_) (fun k p A hp Z=>?_)
           (g.fresh (fun k A Z=>?_) ag.hr ?_ ?_ (bl y v' ag.ext hv))
          .rw[hX.1]at Y;have h5:=D5.1 hX.2 q Y;rcases J4 _ _▸h5 with h5|h5
           .exfalso;have h6:=bq q.1 (X3.1 h5);by_cases e:q.1=i
            .rw[e,az]at h6;cases h6
            .rw[u _ e,h6]at S;cases S
           .exact h5
          .rw[hX.1];by_cases e:k=i
           .subst e;rw[I]at S;cases S
           .rw[u k e]at S;exact ad k A2 S
          .rw[u k A2]at Z;exact K k p A2 hp Z
          .have Z:(listed.setIfInBounds i true).getD k false=true:=Z;rw[u k A2]at Z;obtain⟨p,hp⟩:=Q4 (ops:=ops) (aq k Z);exact DT (g.kind hp (K k p A2 hp Z))
          .cases cg:o.dst<;>simp[Act.put,inv.tsz]
          .rw[fE];exact inv.dfr.congr ag.ext fun _=>⟨rfl,rfl⟩
         unfold iE;simp only[C];rcases bn with⟨N,_⟩|⟨N,_⟩|⟨_,lg,hw,bp,cp⟩|⟨N,_⟩
         .rw[ax]at N;cases N
         .rw[ax]at N;cases N
         .have ca:=ak (i+1) A2;have cr:Sat lg:=S3.le ca (by have:=aW T bp;rw[l5]at this;exact this);rw[bc lg true hw cr];simp only[if_true];have dy:At P base gl ρ ((M i).wLg lg) (M (i+1)).hi w':=(au.wLg lg).less (E (i+1) ops.size A2 (A7 _)).1;refine qX T bp ca dy dm fun v' y G hv ag=>aj y v' G hv ?_
          have ch:=St.wLg (m:=M i) au.hr lg;exact St.trans (by have:=au.fr;exact this.less (E (i+1) ops.size A2 (A7 _)).1) ch ag
         .rw[ax]at N;cases N
  obtain⟨up,u1,u2,u3,u4⟩:=uC ops B ops.size 0 A2;have bk:∀ k,(Array.replicate ops.size false).getD k false=false:=fun k=>by
   simp only[B9,iC];split<;>simp
  refine main ops.size _ 0 up ao ao a0 w1 w1 (by simp) (by simp[List.countP_replicate]) (fun k o C A=>by have A:(Array.replicate ops.size false).getD k false=true:=A;rw[bk k]at A;cases A) ⟨u1,u2,aw.nh,u3⟩ u4 (St.refl aw.hr) aw (fun q Y=>by rw[g.x0]at Y;cases Y) (fun k A=>by omega) (fun k o A C Z=>by rw[bk k]at Z;cases Z)
   (g.fresh (fun k _ Z=>by have Z:(Array.replicate ops.size false).getD k false=true:=Z;rw[bk k]at Z;cases Z) aw.hr ai.size (by rw[f1];exact ai.zr) fun t ht=>?_)
  have h0:∀ n,bG (fun k=>(Array.replicate ops.size false).getD k false) (fun k=>(ops[k]?).bind (·.dst)) V (F 0).get t n=(F 0).get t:=by
   intro n;induction n with
   | zero=>rfl
   | succ n bo=>rw[bG,A6 (fun hh=>by rw[bk n]at hh;exact absurd hh.1 (by simp)),bo]
  rw[h0,f1];exact ai.get t ht
end
end
section
open Go
variable [Ora]
section
variable {P:Program} {base gl:Nat}
def xZ{f:FuncId}{e:X4->Sem Value}{args:X4}{w w':World}{v:Value}(i:P.funcs[f]? = some fn)(b:(fn.name == "runtime.NumGoroutine")=false)(g:fn.body=none)(d:Extern.findNext fn=none)(he:Extern.find fn=some e)
  (hr:(e args).run P w=.ok v w'):(callFunc f args).run P w=.ok (.value v) w':=by
 have a:fn.name ≠ "runtime.NumGoroutine":=by simpa using b
 simp[callFunc,A4,run_program,Result.andThen,i,a,g,d,he,mark,Sem.run,hr]
def mQ{k:EK}{vs:D3}{v:Value}(h:pV k vs m=some (v,m')) :
  (k=.noEscape/\vs=[v]/\m'=m) ∨
  (k=.indexByteString/\∃ s c,vs=[.string s,.int .u8 (.ofNat c)]/\v=.int .i64 (uM s.data.toList (UInt8.ofNat c) 0)/\m'=m) ∨
  (k=.countString/\∃ s c,vs=[.string s,.int .u8 (.ofNat c)]/\v=.int .i64 (uX (UInt8.ofNat c) s.data.toList 0)/\m'=m) ∨
  (∃ e n,k=.makeNoZero e/\vs=[.int .i64 (.ofNat n)]/\n<=1000000000/\d9 m (.cells [] e false) (fun b=>.slice (some ⟨b,0,none⟩) n N4)=some (v,m')):=by
 unfold pV at h;split at h
 .cases h;exact .inl ⟨rfl,rfl,rfl⟩
 .cases h;exact .inr (.inl ⟨rfl,_,_,rfl,rfl,rfl⟩)
 .cases h;exact .inr (.inr (.inl ⟨rfl,_,_,rfl,rfl,rfl⟩))
 .obtain⟨h1,h⟩:=A3 h;exact .inr (.inr (.inr ⟨_,_,rfl,rfl,A1 h1,h⟩))
 .cases h
def yA{k:EK}{vs:D3}{v:Value}(h:(FnC.mk (pV k)).run vs m=some (v,m')):m.lg.le m'.lg:=by
 have h:pV k vs m=some (v,m'):=h;rcases mQ h with⟨_,_,rfl⟩|⟨_,_,_,_,_,rfl⟩|⟨_,_,_,_,_,rfl⟩|⟨_,_,_,_,_,h⟩
 .exact .refl _
 .exact .refl _
 .exact .refl _
 .obtain⟨_,_,rfl⟩:=M3 h;exact .refl _
def LO{f:FuncId}(j:P.funcs[f]? = some fn)(a:(fn.name == "runtime.NumGoroutine")=false)(i:fn.body=none)(g:Extern.findNext fn=none)(he:Extern.find fn=some Extern.AbiNoEscape.same):nD P base gl f ⟨pV .noEscape⟩:=by
 refine⟨fun vs m m' v hr=>yA hr,?_⟩;intro ρ m m' w vs vs' v hr l b d;have hr:pV .noEscape vs m=some (v,m'):=hr;rcases mQ hr with⟨_,rfl,rfl⟩|⟨h,_⟩|⟨h,_⟩|⟨_,_,h,_⟩
 .obtain⟨v',k,rfl,h1,e⟩:=d.tail;cases e.nil_inv;exact .inr ⟨v',ρ,w,xZ j a i g he rfl,h1,.refl b.hr⟩
 .cases h
 .cases h
 .cases h
def EL(c:UInt8):∀ (l:List UInt8) (k:Nat),uM l c k=if Lib.indexByte l c == -1 then -1 else Lib.indexByte l c+k
 | [],k=>rfl
 | x::r,k=>by
   have f:=Lib.indexByte_ge r c;have d:=EL c r (k+1);rw[uM,Lib.indexByte];by_cases e:x=c
   .subst e;simp
   .have a:(x == c)=false:=by simpa using e
    simp only[a,D4 e,E0];rw[d];by_cases h:Lib.indexByte r c = -1
    .simp[h]
    .have b:(Lib.indexByte r c == -1)=false:=by simpa using h
     have h3:(Lib.indexByte r c+1 == -1)=false:=by simp;omega
     simp only[b,h3,K1,if_false];omega
def QT(c:UInt8)(l:List UInt8):uM l c 0=Lib.indexByte l c:=by
 rw[EL];by_cases h:Lib.indexByte l c = -1
 .simp[h]
 .have a:(Lib.indexByte l c == -1)=false:=by simpa using h
  simp[a]
def pX(c:UInt8):∀ (l:List UInt8) (n:Nat),uX c l n=n+l.count c
 | [],n=>rfl
 | x::r,n=>by
   rw[uX,List.count_cons];by_cases e:x=c
   .subst e;simp only[decide_true,E6,E9,beq_self_eq_true,if_true];rw[pX x r (n+1)];omega
   .have a:(x == c)=false:=by simpa using e
    simp only[D4 e,E0,a,K1,if_false];rw[pX c r n];omega
def HM{f:FuncId}(j:P.funcs[f]? = some fn)(a:(fn.name == "runtime.NumGoroutine")=false)(i:fn.body=none)(g:Extern.findNext fn=none)(he:Extern.find fn=some Extern.BytealgIndexByte.indexByte):nD P base gl f ⟨pV .indexByteString⟩:=by
 refine⟨fun vs m m' v hr=>yA hr,?_⟩;intro ρ m m' w vs vs' v hr l b d;have hr:pV .indexByteString vs m=some (v,m'):=hr;rcases mQ hr with⟨h,_⟩|⟨_,s,c,rfl,rfl,rfl⟩|⟨h,_⟩|⟨_,_,h,_⟩
 .cases h
 .obtain⟨v1,r1,rfl,h1,e⟩:=d.tail;obtain⟨v2,n,rfl,h3,k⟩:=e.tail;cases k.nil_inv;cases V2 h1;cases J9 h3;refine .inr ⟨_,ρ,w,xZ j a i g he (Lib.run_indexByteString s (.ofNat c) w),?_,.refl b.hr⟩;rw[QT];exact .pure rfl
 .cases h
 .cases h
def BE{f:FuncId}(j:P.funcs[f]? = some fn)(a:(fn.name == "runtime.NumGoroutine")=false)(i:fn.body=none)(g:Extern.findNext fn=none)(he:Extern.find fn=some Extern.BytealgCount.count):nD P base gl f ⟨pV .countString⟩:=by
 refine⟨fun vs m m' v hr=>yA hr,?_⟩;intro ρ m m' w vs vs' v hr l b d;have hr:pV .countString vs m=some (v,m'):=hr;rcases mQ hr with⟨h,_⟩|⟨h,_⟩|⟨_,s,c,rfl,rfl,rfl⟩|⟨_,_,h,_⟩
 .cases h
 .cases h
 .obtain⟨v1,r1,rfl,h1,e⟩:=d.tail;obtain⟨v2,n,rfl,h3,k⟩:=e.tail;cases k.nil_inv;cases V2 h1;cases J9 h3;refine .inr ⟨_,ρ,w,xZ j a i g he (Lib.run_countString s (.ofNat c) w),?_,.refl b.hr⟩;rw[pX,F7];exact .pure rfl
 .cases h
def CP{f:FuncId}{ps:Array TypeId}{t e:TypeId}(z:P.funcs[f]? = some fn)(j:(fn.name == "runtime.NumGoroutine")=false)(q:fn.body=none)(p:Extern.findNext fn=none)(he:Extern.find fn=some (Extern.BytealgMakeNoZero.makeNoZero ps #[t]))
  (hu:P.underlying t=some (.slice e)) (hi:(P.info? e).map (·.size)=some 1):nD P base gl f ⟨pV (.makeNoZero e)⟩:=by
 refine⟨fun vs m m' v hr=>yA hr,?_⟩;intro ρ m m' w vs vs' v hr A a k;have hr:pV (.makeNoZero e) vs m=some (v,m'):=hr;rcases mQ hr with⟨h,_⟩|⟨h,_⟩|⟨h,_⟩|⟨e',n,h,rfl,s,hr⟩
 .cases h
 .cases h
 .cases h
 .cases h;obtain⟨v1,r1,rfl,h1,g⟩:=k.tail;cases g.nil_inv;cases J9 h1;obtain⟨cs,d,hle,_⟩:=Lib.run_makeNoZero (P:=P) w ps t e hu n A2;obtain⟨x,l,y⟩:=eQ (wd:=w.drew.drew) (fz:=(0,0)) (cap:=cs.size) (C:=cs) (cs':=[]) a.hr a.bs hr a.fr (.nil) (fun i u hi=>by simp at hi) NF.zero
   (fun inf g=>by rw[g]at hi;have hi:some inf.size=some 1:=hi;have hi:=A9 hi;rw[hi];omega) ⟨rfl,rfl,rfl⟩ rfl
  refine .inr ⟨_,_,_,xZ z j q p he d,?_,y⟩;rw[x]
  have:=VR.op (ρ:=upd ρ m.n (lc w.heap.size 0 cs.size)) (b:=m.n) (o:=0) (n:=n) (m:=N4) (m':=cs.size) l (A7 _) hle (fun _ _=>rfl)
  simpa using this
end
end
section
open Go
variable [Ora]
structure BY (P:Program) (f:FuncId) (k:EK):Prop where
 row:∃ fn,P.funcs[f]? = some fn/\(fn.name == "runtime.NumGoroutine")=false/\fn.body=none/\Extern.findNext fn=none /\
  ((k=.noEscape/\Extern.find fn=some Extern.AbiNoEscape.same)∨(k=.indexByteString/\Extern.find fn=some Extern.BytealgIndexByte.indexByte)∨(k=.countString/\Extern.find fn=some Extern.BytealgCount.count) ∨
    (∃ e ps t,k=.makeNoZero e/\Extern.find fn=some (Extern.BytealgMakeNoZero.makeNoZero ps #[t])/\P.underlying t=some (.slice e)/\(P.info? e).map (·.size)=some 1))
def BY.ok{P:Program}{f:FuncId}{k:EK}{base gl:Nat}(h:BY P f k):nD P base gl f ⟨pV k⟩:=by
 obtain⟨fn,h1,b,h3,d,a⟩:=h.row;rcases a with⟨rfl,a⟩|⟨rfl,a⟩|⟨rfl,a⟩|⟨e,ps,t,rfl,a,g,i⟩
 .exact LO h1 b h3 d a
 .exact HM h1 b h3 d a
 .exact BE h1 b h3 d a
 .exact CP h1 b h3 d a g i
def ET:∀ {l:List (FuncId×EK)} {f:FuncId} {k:EK},MX l f=some k->(f,k) ∈ l
 | (g,j)::r,f,k,h=>by
   rw[MX]at h;cases e:Nat.beq g f with
   | true =>
     rw[e]at h;cases h;rw[A0 e];exact .head _
   | false =>
     rw[e]at h;exact .tail _ (ET h)
theorem A5d{P:Program}{ext:List (FuncId×EK)}{gl base:Nat}{con:FuncId->Option FnC}{lp:FuncId->LpT}(hm:P.follows .mixedOrders=true)(b:IZ P)(he:∀ p ∈ ext,BY P p.1 p.2)
  (d:∀ f c,con f=some c->nD P base gl f c) (a:∀ f fn body,P.funcs[f]? = some fn->fn.body=some body->RS P base gl fn.ntmps body (lp f)) :
  A55 ⟨P,ext,gl,con,lp⟩ base :=
 { names:=b,ext:=fun f k fn _ _ h=>(he _ (ET h)).ok,con:=d,lp:=a,draws:=fun _ h=>A3G hm h }
end
section
open Go
inductive Sh where
 | s (t:Nat)
 | a (ts:List Nat)
def JN(t:Nat)(u:U):R2:=if G4 u=t then toV u else none
def WD:H9->List U->Option (D3×List U)
 | [],us=>some ([],us)
 | t::ts,u::us=>match JN t u,WD ts us with
   | some v,some (vs,r)=>some (v::vs,r)
   | _,_=>none
 | _::_,[]=>none
def JM:Sh->List U->Option (Value×List U)
 | .s t,u::us=>match JN t u with
   | some v=>some (v,us)
   | none=>none
 | .s _,[]=>none
 | .a ts,us=>match WD ts us with
   | some (vs,r)=>some (.agg ⟨vs⟩,r)
   | none=>none
def WC:List Sh->List U->Option D3
 | [],[]=>some []
 | [],_::_=>none
 | h::hs,us=>match JM h us with
   | some (v,r)=>match WC hs r with
     | some vs=>some (v::vs)
     | none=>none
   | none=>none
def tup:D3->Value
 | [v]=>v
 | vs=>.tuple ⟨vs⟩
structure nC (w w':World):Prop where
 os:w'.os=w.os/\w'.tape=w.tape/\w'.output=w.output
 size:w.heap.size<=w'.heap.size
 keep:∀ k,k<w.heap.size->w'.heap[k]? = w.heap[k]?
def GOk(G:Nat->Option Obj)(w:World):Prop:=∀ k o,G k=some o->w.heap[k]? = some o
def GOk.lt{G:Nat->Option Obj}{w:World}(h:GOk G w){k:Nat}{o:Obj}(a:G k=some o):k<w.heap.size:=by
 have:=h k o a;rcases G0 k w.heap.size with h1|h1
 .exact h1
 .rw[Array.getElem?_eq_none h1]at this;cases this
abbrev dT:=List U->Option (Nat×List U)
def Sh.tags:Sh->H9
 | .s t=>[t]
 | .a ts=>ts
def DE:List Sh->H9
 | []=>[]
 | s::ss=>s.tags++DE ss
def Sh.n(s:Sh):Nat:=s.tags.length
def shN:List Sh->Nat
 | []=>0
 | h::hs=>h.n+shN hs
def mU(a:List Sh):Bool:=(DE a).any (Nat.ble 10)
inductive ShR (R:Nat->Option Obj):Sh->List U->Value->Prop
 | s {t u v} (h:Enc R u v) (ht:G4 u=t):ShR R (.s t) [u] v
 | a {ts us cs} (h:c9 R us cs) (ht:us.map G4=ts):ShR R (.a ts) us (.agg ⟨cs⟩)
inductive ShL (R:Nat->Option Obj):List Sh->List U->D3->Prop
 | nil:ShL R [] [] []
 | cons {s ss us us2 v vs} (h:ShR R s us v) (k:ShL R ss us2 vs):ShL R (s::ss) (us++us2) (v::vs)
def c9.append{R:Nat->Option Obj}{us b:List U}{vs:D3}(h:c9 R us vs)(k:c9 R b vs2):c9 R (us++b) (vs++vs2):=by
 refine⟨by simp[h.1,k.1],fun i u v h1 d=>?_⟩;rcases G0 i us.length with a|a
 .rw[F4 a]at h1;rw[F4 (h.1▸a)]at d;exact h.2 i u v h1 d
 .rw[E4 a]at h1;rw[E4 (h.1▸a),<- h.1]at d;exact k.2 _ u v h1 d
def c9.split{R:Nat->Option Obj}:∀ {vs vs2:D3} {us:List U},c9 R us (vs++vs2)->∃ a b,us=a++b/\c9 R a vs/\c9 R b vs2
 | [],vs2,us,h=>⟨[],us,rfl,.nil,h⟩
 | v::vs,vs2,[],h=>by have:=h.1;simp at this
 | v::vs,vs2,u::us,h=>by
   obtain⟨a,b,rfl,h1,d⟩:=c9.split (vs:=vs) (vs2:=vs2) (us:=us) ⟨by have:=h.1;simpa using this,fun i x y e a2=>h.2 (i+1) x y (by simpa using e) (by simpa using a2)⟩;exact⟨u::a,b,rfl,.cons (h.2 0 u v rfl rfl) h1,d⟩
def c9.mono{R d:Nat->Option Obj}{us:List U}{vs:D3}(h:c9 R us vs)(k:Sub R d):c9 d us vs:=⟨h.1,fun i u v a b=>(h.2 i u v a b).mono k⟩
def JP{R:Nat->Option Obj}:∀ {ts:H9} {us r:List U} {vs:D3},WD ts us=some (vs,r)->∃ a,us=a++r/\c9 R a vs/\a.map G4=ts
 | [],us,r,vs,h=>by cases h;exact⟨[],rfl,.nil,rfl⟩
 | t::ts,u::us,r,vs,h=>by
   unfold WD at h;split at h
   .rename_i v g i h1 d;cases h;obtain⟨a,rfl,b,e⟩:=JP (R:=R) d;unfold JN at h1;split at h1
    .rename_i f;exact⟨u::a,rfl,.cons (.sc h1) b,by simp[f,e]⟩
    .cases h1
   .cases h
 | _::_,[],_,_,h=>by cases h
def WB{R:Nat->Option Obj}{s:Sh}{us r:List U}{v:Value}(h:JM s us=some (v,r)):∃ a,us=a++r/\ShR R s a v:=by
 cases s with
 | s t =>
   cases us with
   | nil=>cases h
   | cons u us =>
     simp only[JM]at h;split at h
     .rename_i v1 hv;cases h;unfold JN at hv;split at hv
      .rename_i e;exact⟨[u],rfl,.s (.sc hv) e⟩
      .cases hv
     .cases h
 | a ts =>
   simp only[JM]at h;split at h
   .rename_i vs g hv;cases h;obtain⟨a,b,d,f⟩:=JP (R:=R) hv;exact⟨a,b,.a d f⟩
   .cases h
def yV{R:Nat->Option Obj}:∀ {b:List Sh} {us:List U} {vs:D3},WC b us=some vs->ShL R b us vs
 | [],[],vs,h=>by cases h;exact .nil
 | [],_::_,_,h=>by cases h
 | s::b,us,vs,h=>by
   unfold WC at h;split at h
   .rename_i v r hv;split at h
    .rename_i f e;cases h;obtain⟨a,rfl,d⟩:=WB (R:=R) hv;exact .cons d (yV e)
    .cases h
   .cases h
def A3A{R:Nat->Option Obj}{us:List U}{vs:D3}(h:c9 R us vs)(a:vs2.length=us.length)(k:∀ (i:Nat) (u:U) (v:Value),us[i]? = some u->vs2[i]? = some v->toV u=some v):vs=vs2:=by
 refine bS fun i=>?_
 rcases G0 i us.length with hi|hi
 .have h1:us[i]? = some us[i]:=A5 hi;have b:vs[i]? = some (vs[i]'(h.1▸hi)):=A5 _;have h3:vs2[i]? = some (vs2[i]'(a▸hi)):=A5 _;rw[b,h3,gT (h.2 i _ _ h1 b) (k i _ _ h1 h3)]
 .rw[U3 (by rw[<- h.1];exact hi),U3 (by rw[a];exact hi)]
def JO:∀ {ts:H9} {us r:List U} {vs:D3},WD ts us=some (vs,r)->∃ a,us=a++r/\vs.length=a.length/\a.length=ts.length/\∀ (i:Nat) (u:U) (v:Value),a[i]? = some u->vs[i]? = some v->toV u=some v
 | [],us,r,vs,h=>by cases h;exact⟨[],rfl,rfl,rfl,fun i u v h=>by simp at h⟩
 | t::ts,u::us,r,vs,h=>by
   unfold WD at h;split at h
   .rename_i v f k h1 d;cases h;obtain⟨a,rfl,g,e,j⟩:=JO d;unfold JN at h1;split at h1
    .refine⟨u::a,rfl,by simp[g],by simp[e],fun i x y b a2=>?_⟩;cases i with
     | zero=>simp at b a2;subst b;subst a2;exact h1
     | succ i=>exact j i x y (by simpa using b) (by simpa using a2)
    .cases h1
   .cases h
 | _::_,[],_,_,h=>by cases h
def V6{R:Nat->Option Obj}:∀ {g:List Sh} {us:List U} {vs vs2:D3},ShL R g us vs->WC g us=some vs2->vs=vs2
 | [],us,vs,vs2,h,k=>by cases h;cases k;rfl
 | s::g,us,vs,vs2,h,k=>by
   cases h with
   | cons h1 l =>
     rename_i f d v vs;unfold WC at k;split at k
     .rename_i v1 r hv;split at k
      .rename_i p j;cases k;have n:f++d=f++d:=rfl;cases h1 with
       | s he i =>
         rename_i t u;have b:(match JN t u with|some v=>some (v,d)|none=>none)=some (v1,r):=hv;cases e:JN t u with
         | none=>rw[e]at b;cases b
         | some w =>
           rw[e]at b;cases b;unfold JN at e;rw[A8 i]at e;rw[gT he e,V6 l j]
       | a he i =>
         rename_i ts cs;simp only[JM]at hv;split at hv
         .rename_i x C z;cases hv;obtain⟨a,y,o,A,q⟩:=JO z;have hlen:a.length=f.length:=by rw[A,<- i];simp
          obtain⟨rfl,rfl⟩:=List.append_inj y hlen.symm;rw[A3A he o q,V6 l j]
         .cases hv
      .cases k
     .cases k
def L6(P:Program)(G:Nat->Option Obj)(f:FuncId)(ps:List Sh)(spec:dT)(rs:List Sh):Prop :=
 ∀ (us outs:List U) (w:World) (vs:List Value) (R:Nat->Option Obj),ShL R ps us vs->spec us=some (0,outs)->GOk G w->GOk R w ->
  (callFunc f ⟨vs⟩).run P w=.ok (.enter f ⟨vs⟩) w/\Calls P f ⟨vs⟩ w (fun e w'=>∃ r a,ShL a rs outs r/\e=.returned (tup r)/\nC w w'/\GOk a w'/\∀ k o,a k=some o->w.heap.size<=k∨∃ o',R k=some o')
def unA:List Sh->D3->Option D3
 | [],[]=>some []
 | .s _::ss,v::vs=>match unA ss vs with
   | some r=>some (v::r)
   | none=>none
 | .a ts::ss,.agg cs::vs=>bif Nat.beq cs.toList.length ts.length then match unA ss vs with
   | some r=>some (cs.toList++r)
   | none=>none else none
 | _,_=>none
def qU(P:Program)(ps:List Sh)(vs:List Value)(m:Mem):Option (D3×Mem) :=
 match unA ps vs with
 | some cs=>match CB (tdP P) (DE ps) cs m with
   | some (xs,[],m)=>some (xs,m)
   | some (xs,gs,m)=>match kT gs m with
     | some (_,m)=>some (xs,m)
     | none=>none
   | none=>none
 | none=>none
def UR(i t b:Nat):Value:=bif Nat.blt t 10 then hole i t else dat b i t
def YT:H9->Nat->Nat->D3
 | [],_,_=>[]
 | t::ts,i,b=>UR i t b::YT ts (i+1) b
def A85:Sh->Nat->Nat->Value
 | .s t,i,b=>UR i t b
 | .a ts,i,b=>.agg ⟨YT ts i b⟩
def yI:List Sh->Nat->Nat->D3
 | [],_,_=>[]
 | h::hs,i,b=>A85 h i b::yI hs (i+h.n) b
def WV(rs:List Sh)(nx:Nat)(m:Mem):Res :=
 bif mU rs then match hO m fun b m=>some (tup (yI rs nx b),b,m)with
  | some (v,_,m)=>some (v,m)
  | none=>none
 else some (tup (yI rs nx 0),m)
def B21(m:Mem)(hi:Nat)(v:Value)(lg:Lg):Res :=
 match m with
 | ⟨H,n,W,_,_⟩=>some (v,⟨H,n,W,hi,lg⟩)
def A5j(P:Program)(ps:List Sh)(spec:dT)(rs:List Sh):FnC:=⟨fun vs m =>
 match qU P ps vs m with
 | some (xs,⟨H,n,W,hi,⟨nx,pi,log⟩⟩)=>K2 nx fun nx=>R8 xs fun xs=>K2 (nx+shN rs) fun a=>bif mU rs then WV rs nx ⟨H,n,W,hi,⟨a,pi,.con spec xs nx 0 (shN rs)::log⟩⟩else B21 m hi (tup (yI rs nx 0)) ⟨a,pi,.con spec xs nx 0 (shN rs)::log⟩
 | none=>none⟩
def VQ{P:Program}{ps:List Sh}{spec:dT}{rs:List Sh}{vs:D3}{v:Value}(h:(A5j P ps spec rs).run vs m=some (v,m')) :
  ∃ xs m1,qU P ps vs m=some (xs,m1)/\((mU rs=true/\WV rs m1.lg.nx (m1.wLg ⟨m1.lg.nx+shN rs,m1.lg.pi,.con spec xs m1.lg.nx 0 (shN rs)::m1.lg.log⟩)=some (v,m'))∨(mU rs=false/\v=tup (yI rs m1.lg.nx 0)/\m'=⟨m.H,m.n,m.W,m1.hi,⟨m1.lg.nx+shN rs,m1.lg.pi,.con spec xs m1.lg.nx 0 (shN rs)::m1.lg.log⟩⟩)):=by
 unfold A5j at h;simp only at h;split at h
 .rename_i xs H n W hi nx pi log hx;simp only[E9,I8]at h;refine⟨xs,_,hx,?_⟩;cases a:mU rs with
  | true=>rw[a]at h;exact .inl ⟨rfl,h⟩
  | false =>
    rw[a]at h;obtain⟨g,e,f,b,d⟩:=m;cases h;exact .inr ⟨rfl,rfl,rfl⟩
 .cases h
variable [Ora]
def ON{ρ:Ren}:∀ {b:List Sh} {vs vs' cs:D3},unA b vs=some cs->LR ρ vs vs'->∃ cs',unA b vs'=some cs'/\LR ρ cs cs'
 | [],[],vs',cs,h,hl=>by cases h;rw[hl.nil_inv];exact⟨[],rfl,.nil⟩
 | [],_::_,_,_,h,_=>by cases h
 | .s t::b,[],_,_,h,_=>by cases h
 | .a t::b,[],_,_,h,_=>by cases h
 | .s t::b,v::vs,vs',cs,h,hl=>by
   obtain⟨v',k,rfl,h1,d⟩:=hl.tail;unfold unA at h;split at h
   .rename_i r hr;cases h;obtain⟨cs',g,e⟩:=ON hr d;exact⟨v'::cs',by simp[unA,g],.cons h1 e⟩
   .cases h
 | .a ts::b,v::vs,vs',cs,h,hl=>by
   obtain⟨v',k,rfl,h1,d⟩:=hl.tail;cases v with
   | agg c =>
     unfold unA at h;obtain⟨hlen,h⟩:=A3 h;split at h
     .rename_i r hr;cases h;obtain⟨cs',g,e⟩:=ON hr d;obtain⟨i,rfl,j⟩:=W7 h1;refine⟨i++cs',?_,j.append e⟩;have f:Nat.beq i.length ts.length=true:=by rw[<- j.1];exact hlen
      simp[unA,g,f]
     .cases h
   | _=>cases h
def eI{R:Nat->Option Obj}:∀ {e:List Sh} {vs cs:D3} {us:List U},unA e vs=some cs->c9 R us cs->us.map G4=DE e->ShL R e us vs
 | [],[],cs,us,h,he,ht=>by
   cases h;have:us=[]:=G2.1 he.1;subst this;exact .nil
 | [],_::_,_,_,h,_,_=>by cases h
 | .s t::e,[],_,_,h,_,_=>by cases h
 | .a t::e,[],_,_,h,_,_=>by cases h
 | .s t::e,v::vs,cs,us,h,he,ht=>by
   unfold unA at h;split at h
   .rename_i r hr;cases h;obtain⟨a,b,rfl,d,f⟩:=c9.split (vs:=[v]) (vs2:=r) he
    match a,d with
    | [u],d =>
      simp only[List.singleton_append,C5,DE,Sh.tags,S9,G7,K0]at ht;exact .cons (.s (d.2 0 u v rfl rfl) ht.1) (eI hr f ht.2)
    | [],d=>have:=d.1;simp at this
    | _::_::_,d=>have:=d.1;simp at this
   .cases h
 | .a ts::e,v::vs,cs,us,h,he,ht=>by
   cases v with
   | agg c =>
     unfold unA at h;obtain⟨hlen,h⟩:=A3 h;have hlen:=A0 hlen;split at h
     .rename_i r hr;cases h;obtain⟨a,b,rfl,d,f⟩:=c9.split he;simp only[M7,DE,Sh.tags]at ht;obtain⟨t1,t2⟩:=List.append_inj ht (by simp[d.1,hlen]);obtain⟨l⟩:=c;exact .cons (.a d t1) (eI hr f t2)
     .cases h
   | _=>cases h
section
variable {P:Program} {base gl:Nat}
def B36(ρ:Ren)(m:Mem)(R:Nat->Option Obj):Prop:=∀ k o,R k=some o->∃ id ab l,id<=I4/\Hp.get m.H id=some ab/\ρ id=some l/\Tf ab l k/\ab.rw=false
def JT{ρ:Ren}{w:World}{ps:List Sh}{vs xs:D3}(h:HR P base ρ m.H w)(d:qU P ps vs m=some (xs,m'))(j:K7 ρ m.n m'.hi)(hv:LR ρ vs vs')(D:Sat m'.lg) :
  ∃ a R,St P base ρ a m m' w w/\m.lg.le m'.lg/\ShL R ps (xs.map (D9 Ora.env)) vs'/\GOk R w/\B36 a m' R:=by
 unfold qU at d;split at d
 .rename_i cs u;obtain⟨cs',E,z⟩:=ON u hv;split at d
  .rename_i v m1 y;cases d;obtain⟨a,i,a2,a3,a4,a5,q⟩:=jC V7 h y j z D;exact⟨a,fun _=>none,i,a2,eI E (q _ fun b t=>by cases t) a5,(fun k o e=>by cases e),(fun k o e=>by cases e)⟩
  .rename_i v gs m1 y;split at d
   .rename_i g m2 C;cases d;have x:=N6 C;obtain⟨J,i,a2,a3,a4,a5,q⟩:=jC V7 h y (j.less x.1) z (by rw[<- x.2.1];exact D);obtain⟨ρ2,lg,p,N,L,s,A,K⟩:=fL i.hr C (j.step i);have f:=(p.hr.atl s A).1.2;exact⟨ρ2,lg.G,St.trans j i p,by rw[x.2.1];exact a2,eI E (q _ fun b t l I=>K b t l I) a5,f,fun k o e=>⟨g,_,lg,p.hr.dom _ _ s,A,s,⟨rfl,.inr ⟨rfl,o,e⟩⟩,rfl⟩⟩
   .cases d
  .cases d
 .cases d
def MO{ρ:Ren}{R:Nat->Option Obj}{i t b:Nat}{u:U}{v:Value}(h:Enc R u v)(j:G4 u=t)(he:Ora.env i=u)(k:10<=t->ρ b=some (lH R)):VR ρ (UR i t b) v:=by
 unfold UR;cases d:Nat.blt t 10 with
 | true =>
   have a:t<10:=A1 d;obtain⟨v1,g,_,_⟩:=RZ (u:=u) A2
   have:=gT h g;subst this;exact .hole (by rw[he];exact g) (by rw[he];exact j)
 | false =>
   have a:10<=t:=by
    rcases G0 t 10 with f|e
    .rw[show Nat.blt t 10=true from C7 f]at d;cases d
    .exact e
   exact .dat (k a) (by rw[he];exact h) (by rw[he];exact j) a (mT h)
def JL{ρ:Ren}{R:Nat->Option Obj}{b:Nat}:∀ {ts:H9} {us:List U} {cs:D3} {i:Nat},c9 R us cs->us.map G4=ts->(∀ j u,us[j]? = some u->Ora.env (i+j)=u)->(∀ t ∈ ts,10<=t->ρ b=some (lH R))->LR ρ (YT ts i b) cs
 | [],us,cs,i,h,ht,he,hb=>by
   have:us=[]:=by cases us with|nil=>rfl|cons _ _=>simp at ht
   subst this;have:cs=[]:=G2.1 h.1.symm;subst this;exact .nil
 | t::ts,[],cs,i,h,ht,he,hb=>by simp at ht
 | t::ts,u::us,[],i,h,ht,he,hb=>by have:=h.1;simp at this
 | t::ts,u::us,c::cs,i,h,ht,he,hb=>by
   simp only[C5,K0]at ht;refine .cons (MO (h.2 0 u c rfl rfl) ht.1 (he 0 u rfl) (hb t (.head _))) (JL ⟨by have:=h.1;simpa using this,fun j x y e a2=>h.2 (j+1) x y (by simpa using e) (by simpa using a2)⟩ ht.2 (fun j x f=>?_) fun d a=>hb d (.tail _ a))
   have:=he (j+1) x (by simpa using f);rw[show i+1+j=i+(j+1) by omega];exact this
def qM{ρ:Ren}{R:Nat->Option Obj}{b:Nat}:∀ {g:List Sh} {us:List U} {vs:D3} {i:Nat},ShL R g us vs->(∀ j u,us[j]? = some u->Ora.env (i+j)=u)->(mU g=true->ρ b=some (lH R))->LR ρ (yI g i b) vs/\us.length=shN g
 | [],us,vs,i,h,he,hb=>by cases h;exact⟨.nil,rfl⟩
 | s::g,us,vs,i,h,he,hb=>by
   cases h with
   | cons h1 w =>
     rename_i e y v vs;have q:∀ t ∈ s.tags,10<=t->ρ b=some (lH R):=fun t d f=>hb (O2.2 ⟨t,B6.2 (.inl d),C7 f⟩)
     have o:mU g=true->ρ b=some (lH R):=fun x=>by
      obtain⟨t,d,f⟩:=O2.1 x;exact hb (O2.2 ⟨t,B6.2 (.inr d),f⟩)
     have p:e.length=s.n:=by
      cases h1 with
      | s _ _=>rfl
      | a _ d=>show _=List.length _;rw[<- d];simp[Sh.tags]
     obtain⟨g1,g2⟩:=qM (i:=i+s.n) w (fun j u l=>by
      have:=he (e.length+j) u (by rw[E4 A2,X6];exact l);rw[<- p,cW];exact this) o
     refine⟨.cons ?_ g1,by simp[shN,p,g2]⟩;have k:∀ j u,e[j]? = some u->Ora.env (i+j)=u:=fun j u l=>he j u (by rw[F4 (B1.1 l).1];exact l)
     cases h1 with
     | s h d=>exact MO h d (by have:=k 0 _ rfl;simpa using this) (q _ (.head _))
     | a h d =>
       have:=JL (b:=b) h d k q;exact .agg this.1 this.2
def YV{ρ:Ren}{vs:D3}(h:LR ρ vs vs'):VR ρ (tup vs) (tup vs'):=by
 match vs,vs',h with
 | [],vs',h=>rw[h.nil_inv];exact .tuple (a:=[]) (a':=[]) rfl (fun i v v' h1 _=>by simp at h1)
 | [v],vs',h =>
   obtain⟨v',d,rfl,h1,b⟩:=h.tail;cases b.nil_inv;exact h1
 | v::u::r,vs',h =>
   obtain⟨v',d,rfl,h1,b⟩:=h.tail;obtain⟨f,e,rfl,h3,g⟩:=b.tail;exact .tuple h.1 h.2
def St.grown{ρ:Ren}{w w':World}(h:HR P base ρ m.H w)(g:nC w w'):St P base ρ ρ m m w w' :=
 ⟨fun _ _ h=>h,fun b l h1 a=>(by rw[h1]at a;cases a),A7 _,A7 _,fun h=>h,
  ⟨h.dom,fun id hid ab e=>by
    obtain⟨l,h1,a,h3⟩:=h.at_ id hid ab e;exact⟨l,h1,a.mono (fun _ _ h=>h) (fun k d=>g.keep k (a.tc d)),h3⟩⟩,
  fun _ h=>h,fun b h1 a=>absurd h1 a,fun k d _=>g.keep k d,g.size,g.os,fun b l h1 a=>(by rw[h1]at a;cases a),fun _ _ _ _=>rfl,fun _ h=>.inr h⟩
def St.grownLg{ρ:Ren}{w w':World}(h:HR P base ρ m.H w)(g:nC w w')(lg:Lg):St P base ρ ρ m (m.wLg lg) w w':=by
 obtain⟨H,n,W,hi,l⟩:=m;have r:=St.grown (m:=⟨H,n,W,hi,l⟩) h g;exact⟨r.ext,r.new,r.nle,r.hle,r.nhi,r.hr,r.wsub,r.wrw,r.keep,r.size,r.os,r.blk,r.same,r.tch⟩
def St.ret{ρ:Ren}{w w':World}{G:Nat->Option Obj}(h:HR P base ρ m.H w)(g:nC w w')(Q:d9 m .frz (fun _=>undef)=some (undef,m1))(W:K7 ρ m.n m1.hi)(T:GOk G w')
  (N:∀ k o,G k=some o->w.heap.size<=k∨∃ id ab l,id<=I4/\Hp.get m.H id=some ab/\ρ id=some l/\Tf ab l k/\ab.rw=false):upd ρ m.n (lH G) m.n=some (lH G)/\St P base ρ (upd ρ m.n (lH G)) m m1 w w':=by
 obtain⟨hle,_,rfl⟩:=M3 Q;have v:ρ m.n=none:=W m.n (A7 _) (L7 _ _).2;have i:=X9 (l:=lH G) v;refine⟨M5 _ _ _,i,fun b q h1 f=>?_,by simp,(L7 _ _).1,fun _=>Z8 (L7 _ _).2,⟨fun b q E=>?_,fun id hid a d=>?_⟩,fun b S=>S,fun b h1 f=>absurd h1 f,fun q E _=>g.keep q E,g.size,g.os,fun b q h1 f p=>?_,fun id hid h1 f=>?_,fun q ⟨id,a,l,hid,d,s,L⟩=>?_⟩
 .obtain⟨rfl,rfl⟩:=V0 h1 f;exact⟨A7 _,J7 _⟩
 .cases h0:ρ b with
  | some U=>exact h.dom b U h0
  | none=>obtain⟨rfl,rfl⟩:=V0 E h0;exact hle
 .rw[F2 _ _ _ _ hle hid]at d;by_cases e:id=m.n
  .rw[A8 e]at d;have d:=A9 d;subst d;subst e;exact⟨lH G,M5 _ _ _,⟨rfl,T⟩,fun _ p=>(by cases p)⟩
  .rw[A6 e]at d;obtain⟨l0,h1,f,h3⟩:=h.at_ id hid a d;refine⟨l0,i _ _ h1,f.mono i (fun k O=>g.keep k (f.tc O)),fun hr p=>⟨(h3 hr p).1,fun y j D l2 g1 g2 g3=>?_⟩⟩;rw[F2 _ _ _ _ hle j]at g1;by_cases A:y=m.n
   .subst A;rw[M5]at g2
    have:=A9 g2;subst this;rcases g3 with⟨_,g3,_⟩|⟨_,o,g3⟩
    .cases g3
    .rcases N _ o g3 with x|⟨u,a3,C,K,t,z,I,J⟩
     .have:=f.tc (.inl ⟨AB.rw_on hr,p,rfl⟩);omega
     .have:=(h3 hr p).2 u K a3 C t z I.2;subst this;rw[d]at t;have t:=A9 t;subst t;rw[hr]at J;cases J
   .rw[A6 A]at g1;unfold upd at g2;rw[A6 A]at g2;exact(h3 hr p).2 y j D l2 g1 g2 g3
 .obtain⟨rfl,rfl⟩:=V0 h1 f;cases p
 .rw[F2 _ _ _ _ hle hid,A6];intro e;subst e;rcases f with f|f
  .omega
  .have f:upN m.hi m.n<=m.n:=f
   have:=(L7 m.hi m.n).2;omega
 .have d:Hp.get (m.H.set m.n (some .frz)) id=some a:=d;rw[F2 _ _ _ _ hle hid]at d;by_cases e:id=m.n
  .subst e;rw[A8 rfl]at d;have d:=A9 d;subst d;rw[M5]at s;have s:=A9 s;subst s;rcases L.2 with⟨_,h3,_⟩|⟨_,o,h3⟩
   .cases h3
   .rcases N _ o h3 with x|⟨u,a3,C,K,t,z,I,J⟩
    .exact .inl x
    .exact .inr ⟨u,a3,C,K,t,z,I⟩
  .rw[A6 e]at d;unfold upd at s;rw[A6 e]at s;exact .inr ⟨id,a,l,hid,d,s,L⟩
def St.back{ρ:Ren}{w w':World}{hi:Nat}{lg:Lg}(h:HR P base ρ m.H w)(g:nC w w')(hh:m.hi<=hi):St P base ρ ρ m ⟨m.H,m.n,m.W,hi,lg⟩ w w':=by
 have r:=St.grownLg (m:=m) h g lg;refine⟨r.ext,fun b l h1 a=>(by rw[h1]at a;cases a),A7 _,hh,fun h=>C6 h hh,?_,fun _ h=>h,fun b h1 a=>absurd h1 a,fun k d _=>g.keep k d,g.size,g.os,fun b l h1 a=>(by rw[h1]at a;cases a),fun _ _ _ _=>rfl,fun _ h=>.inr h⟩
 have:=r.hr;rw[lL]at this;exact this
theorem A5i{f:FuncId}{ps:List Sh}{spec:dT}{rs:List Sh}(h:L6 P Ora.G f ps spec rs):nD P base gl f (A5j P ps spec rs):=by
 have q:∀ {nx:Nat} {m m':Mem} {v:Value},mU rs=true->WV rs nx m=some (v,m')->m'.lg=m.lg/\m.hi<=m'.hi/\m.n<=m'.n:=fun{nx m m' v} a hr=>by
  unfold WV at hr;rw[a]at hr;simp only[E6]at hr;split at hr
  .rename_i D;cases hr;obtain⟨m2,E,I,_⟩:=R3 D;cases I;obtain⟨_,_,rfl⟩:=M3 E;exact⟨rfl,(L7 _ _).1,V4 _⟩
  .cases hr
 have i:∀ {vs xs:D3} {m m1:Mem},qU P ps vs m=some (xs,m1)->m.lg.le m1.lg/\m.hi<=m1.hi:=fun{vs xs m m1} h1=>by
  unfold qU at h1;split at h1
  .split at h1
   .rename_i a;cases h1;exact⟨(S8 V7 a).2.1,(S8 V7 a).1⟩
   .rename_i a;split at h1
    .rename_i O;cases h1;exact⟨by rw[(N6 O).2.1];exact(S8 V7 a).2.1,C6 (S8 V7 a).1 (N6 O).1⟩
    .cases h1
   .cases h1
  .cases h1
 refine⟨fun vs m m' v hr=>?_,fun ρ m m' w vs vs' v hr L g U=>.inl ?_⟩
 .obtain⟨xs,m1,h1,⟨a,d⟩|⟨a,_,rfl⟩⟩:=VQ hr
  .rw[(q a d).1,l5];exact(i h1).1.trans ⟨[_],rfl⟩
  .exact(i h1).1.trans ⟨[_],rfl⟩
 .obtain⟨xs,m1,h1,d⟩:=VQ hr;have z:m'.lg=⟨m1.lg.nx+shN rs,m1.lg.pi,.con spec xs m1.lg.nx 0 (shN rs)::m1.lg.log⟩/\m1.hi<=m'.hi:=by
   rcases d with⟨a,d⟩|⟨a,_,rfl⟩
   .obtain⟨r1,u,_⟩:=q a d;simp only[l5,OK]at r1 u;exact⟨r1,u⟩
   .exact⟨rfl,A7 _⟩
  obtain⟨r1,u⟩:=z;have s:p9.con spec xs m1.lg.nx 0 (shN rs) ∈ m'.lg.log:=by rw[r1];exact B4
  have H:Sat m1.lg:=S3.le L (by rw[r1];exact⟨[_],rfl⟩);obtain⟨t,R,y,a2,a3,a4,a5⟩:=JT g.hr h1 (g.fr.less u) U H;obtain⟨outs,h3,h4,N⟩:=L _ s;obtain⟨h6,S⟩:=h _ outs w vs' R a3 h3 (fun k o x=>(g.gf k o x).2) a4;refine⟨h6,S.mono fun e w' ⟨r,T,g1,g2,g3,g4,g5⟩=>?_⟩;rcases d with⟨a,d⟩|⟨a,rfl,rfl⟩
  .let j:Lg:=⟨m1.lg.nx+shN rs,m1.lg.pi,.con spec xs m1.lg.nx 0 (shN rs)::m1.lg.log⟩
   have d:WV rs m1.lg.nx (m1.wLg j)=some (v,m'):=d;have p:St P base ρ t m (m1.wLg j) w w:=St.trans (g.fr.less (by simpa using u)) y (St.wLg y.hr j);have C:K7 t (m1.wLg j).n m'.hi:=by simpa using g.fr.step y
   unfold WV at d;rw[a]at d;simp only[E6]at d;split at d
   .rename_i v0 b m2 D;cases d;obtain⟨m3,E,I,_⟩:=R3 D;cases I;obtain⟨e1,Q⟩:=St.ret (G:=T) p.hr g3 E C g4 fun k o x=>by
     rcases g5 k o x with J|⟨o',A⟩
     .exact .inl J
     .obtain⟨id,ab,l,p1,Z,W,Y,p5⟩:=a5 k o' A;exact .inr ⟨id,ab,l,p1,by rw[lL];exact Z,W,Y,p5⟩
    exact⟨_,_,g2,YV (qM g1 N fun _=>e1).1,St.trans g.fr p Q⟩
   .cases d
  .exact⟨_,ρ,g2,YV (qM g1 N fun K=>by rw[a]at K;cases K).1,St.back g.hr g3 (i h1).2⟩
end
end
end Go.Sx
