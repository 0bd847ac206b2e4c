import Derived.Test.YtbbicpheoakeeaaGreatDoorX6
import Derived.Lib.Bytealg
import Derived.Lib.MakeNoZero
set_option linter.all false
set_option maxRecDepth 100000
set_option maxHeartbeats 4000000
namespace Go.Sx
variable {m m' m1 m2:Mem}{c:Cls}{r:Option (Nat×AB)}{rs:List Rec}{op:OpC}{fn:Func}{vs' vs2:D2}
section
open Go
variable [Ora]
def A2p(ops:Array Oper)(X:Nat->Qs)(i:Nat)(o:Oper):Bool:=II o.op i ((Y9 ops.toList []).getD i []) ((Y9 ops.toList []).drop (i+1)) (ops.toList.drop (i+1)) (X i)
structure Rg (P:Program) (base gl nt:Nat) (call:P2) (ops:Array Oper) (F:Nat->Fr) (M:Nat->Mem) (V:Nat->Value) (R:Nat->List Rec) (X:Nat->Qs) (B:Nat->Bool):Prop where
 st:∀ i o,ops[i]? = some o->HA P nt gl call ops.toList ((Y9 ops.toList []).getD i []) (R i) (B i) o (F i) (F (i+1)) (M i) (M (i+1)) (V i)
 rc:∀ i o,ops[i]? = some o->(R (i+1)=R i/\∃ lg,M (i+1)=(M i).wLg lg)∨(B i=true/\R (i+1)=[])∨R (i+1)=⟨i,(M i).n,(M (i+1)).n⟩::R i
 qs:∀ i o,ops[i]? = some o->QsN (B i) i nt ops.toList (W5 P call o) ((Y9 ops.toList []).getD i []) (R i) (F i) o (M i) (M (i+1)) (V i) (X i) (X (i+1))
 sb:∀ i o,ops[i]? = some o->B i=true->A2p ops X i o=true
 x0:X 0=[]
 ok:JM ops.toList (Y9 ops.toList []) ops.toList 0=true
structure Ph (ops:Array Oper) (B:Nat->Bool) (M:Nat->Mem) (lo up:Nat):Prop where
 le:lo<=up
 sz:up<=ops.size
 nh:(M lo).n<=(M lo).hi
 mx:∀ i o,lo<=i->i<up->ops[i]? = some o->B i=false
section
variable {P:Program} {base gl nt:Nat} {call:P2} {ops:Array Oper} {F:Nat->Fr} {M:Nat->Mem} {V:Nat->Value} {R:Nat->List Rec} {X:Nat->Qs} {B:Nat->Bool} {lo up:Nat}
def P9{i:Nat}(h:i<ops.size):∃ o,ops[i]? = some o:=⟨ops[i],by simp[h]⟩
def Rg.one(g:Rg P base gl nt call ops F M V R X B){i:Nat}{o:Oper}(j:ops[i]? = some o)(d:B i=false)(b:(M i).n<=(M i).hi):(M i).n<=(M (i+1)).n/\(M i).hi<=(M (i+1)).hi/\(M (i+1)).n<=(M (i+1)).hi/\(M (i+1)).W=(M i).W /\
  ∀ id,id<=H6->(id<(M i).n∨(M (i+1)).n<=id)->Hp.get (M (i+1)).H id=Hp.get (M i).H id:=by
 obtain⟨_,_,_,h⟩:=g.st i o j;rcases h with⟨_,lg,_,_,h⟩|⟨_,lg,e,_,_,h⟩|⟨h,_⟩|⟨_,_,lg,_,mv,m',_,_,_,a,hm⟩
 .rw[h];exact⟨A6 _,A6 _,b,rfl,fun _ _ _=>rfl⟩
 .rw[h];exact⟨A6 _,A6 _,b,rfl,fun _ _ _=>rfl⟩
 .rw[d]at h;cases h
 .obtain⟨h1,f,h3,l,_,_,_,k⟩:=JS hm b a;exact⟨h1,f,h3,l,fun id hid hh=>by rw[k id hid,A7 (by show ¬ ((M i).n<=id/\_);omega)];rfl⟩
def Rg.allD(g:Rg P base gl nt call ops F M V R X B)(a:Ph ops B M lo up):∀ d,lo+d<=up->(M lo).n<=(M (lo+d)).n/\(M lo).hi<=(M (lo+d)).hi/\(M (lo+d)).n<=(M (lo+d)).hi/\(M (lo+d)).W=(M lo).W /\
  ∀ id,id<=H6->(id<(M lo).n∨(M (lo+d)).n<=id)->Hp.get (M (lo+d)).H id=Hp.get (M lo).H id
 | 0,_=>⟨A6 _,A6 _,a.nh,rfl,fun _ _ _=>rfl⟩
 | d+1,h=>by
   obtain⟨h1,j,h3,l,k⟩:=g.allD a d A2;obtain⟨o,b⟩:=P9 (ops:=ops) (i:=lo+d) (by have:=a.sz;omega);obtain⟨e,q,p,f,s⟩:=g.one b (a.mx _ o A2 A2 b) h3;exact⟨C5 h1 e,C5 j q,p,f.trans l,fun id hid hh=>by
    rw[show lo+(d+1)=lo+d+1 by omega]at hh ⊢;rw[s id hid A2,k id hid A2]⟩
def Rg.all(g:Rg P base gl nt call ops F M V R X B)(a:Ph ops B M lo up){i:Nat}(h0:lo<=i)(h:i<=up):(M lo).n<=(M i).n/\(M lo).hi<=(M i).hi/\(M i).n<=(M i).hi/\(M i).W=(M lo).W /\
  ∀ id,id<=H6->(id<(M lo).n∨(M i).n<=id)->Hp.get (M i).H id=Hp.get (M lo).H id:=by
 have:=g.allD a (i-lo) A2
 rwa[show lo+(i-lo)=i by omega]at this
def Rg.mono(g:Rg P base gl nt call ops F M V R X B)(a:Ph ops B M lo up){i:Nat}(h0:lo<=i):∀ d,i+d<=up->(M i).n<=(M (i+d)).n/\(M i).hi<=(M (i+d)).hi/\∀ id,id<=H6->id<(M i).n->Hp.get (M (i+d)).H id=Hp.get (M i).H id
 | 0,_=>⟨A6 _,A6 _,fun _ _ _=>rfl⟩
 | d+1,h=>by
   obtain⟨h1,f,j⟩:=g.mono a h0 d A2;obtain⟨o,b⟩:=P9 (ops:=ops) (i:=i+d) (by have:=a.sz;omega);obtain⟨e,k,q,p,l⟩:=g.one b (a.mx _ o A2 A2 b) (g.all a (i:=i+d) A2 A2).2.2.1;exact⟨C5 h1 e,C5 f k,fun id hid hh=>by rw[show i+(d+1)=i+d+1 by omega,l id hid A2,j id hid hh]⟩
def Rg.le(g:Rg P base gl nt call ops F M V R X B)(a:Ph ops B M lo up){i j:Nat}(h0:lo<=i)(h:i<=j)(b:j<=up):(M i).n<=(M j).n/\(M i).hi<=(M j).hi/\∀ id,id<=H6->id<(M i).n->Hp.get (M j).H id=Hp.get (M i).H id:=by
 have:=g.mono a h0 (j-i) A2
 rwa[show i+(j-i)=j by omega]at this
def PT{mv:Mem}{us:List Rec}(h:BM m c us=some mv):mv.lg=m.lg:=by
 obtain⟨H,n,W,hi,lg⟩:=m;unfold BM at h;simp only at h;cases c with
 | free=>cases h;rfl
 | one b =>
   simp only at h;cases a:t8 (Z4 us) b || !(Nat.ble b H6)with
   | true=>rw[a]at h;cases h
   | false=>rw[a,eI]at h;cases h;rfl
 | all =>
   simp only at h;obtain⟨d,h⟩:=A3 h;cases h;rfl
def JT(h:lI m m'=some m2):m2.lg=m'.lg:=by
 unfold lI at h;cases a:Nat.ble m'.hi m.n with
 | true=>rw[a]at h;cases h;rfl
 | false =>
   rw[a]at h;obtain⟨_,h⟩:=A3 h;simp only[E7,dX]at h;cases h;rfl
def mT{a b:Addr}(h:EP a b=true):a=b:=by
 unfold EP at h;split at h
 .obtain⟨h1,d⟩:=B6 h;rw[A0 h1,A0 d]
 .cases h
def UB{a b:Fn}(h:NJ a b=true):a=b:=by
 unfold NJ at h;split at h
 .rw[A0 h]
 .rw[A0 h]
 .cases h
def pZ{s:Value->Value->Bool}(d:∀ a b,s a b=true->a=b):∀ {l r:D2},BW s l r=true->l=r
 | [],[],_=>rfl
 | [],_::_,h=>by cases h
 | _::_,[],h=>by cases h
 | a::l,b::r,h=>by
   obtain⟨h1,e⟩:=B6 (show(s a b && BW s l r)=true from h);rw[d a b h1,pZ d e]
def B0W{a b:V9}(h:a.toList=b.toList):a=b:=by cases a;cases b;cases h;rfl
def WZ:∀ (d:Nat) (v w:Value),xM d v w=true->v=w:=by
 intro d;induction d with
 | zero =>
   intro v w h;unfold xM at h;split at h
   .rw[eq_of_beq h]
   .obtain⟨h1,e⟩:=B6 h;rw[bW]at e;rw[gX h1,eq_of_beq e]
   .obtain⟨h1,e⟩:=B6 h;rw[A0 h1,A0 e]
   .obtain⟨h1,e⟩:=B6 h;rw[A0 h1,A0 e]
   .rename_i s t;have h1:=J4 h;cases s with|mk s=>cases t with|mk t=>cases s;cases t;cases h1;rfl
   .rfl
   .rw[mT h]
   .obtain⟨h1,e⟩:=B6 h;rw[A0 h1,A0 e]
   .obtain⟨h0,h⟩:=B6 h;obtain⟨h1,e⟩:=B6 h;rw[mT h0,A0 h1,A0 e]
   .rfl
   .rw[A0 h]
   .rfl
   .rfl
   all_goals first|cases h|(rename_i hh;cases hh)
 | succ d i =>
   intro v w h;unfold xM at h;split at h
   .rw[eq_of_beq h]
   .obtain⟨h1,e⟩:=B6 h;rw[bW]at e;rw[gX h1,eq_of_beq e]
   .obtain⟨h1,e⟩:=B6 h;rw[A0 h1,A0 e]
   .obtain⟨h1,e⟩:=B6 h;rw[A0 h1,A0 e]
   .rename_i s t;have h1:=J4 h;cases s with|mk s=>cases t with|mk t=>cases s;cases t;cases h1;rfl
   .rfl
   .rw[mT h]
   .obtain⟨h1,e⟩:=B6 h;rw[A0 h1,A0 e]
   .obtain⟨h0,h⟩:=B6 h;obtain⟨h1,e⟩:=B6 h;rw[mT h0,A0 h1,A0 e]
   .rfl
   .rw[A0 h]
   .rfl
   .rfl
   .rename_i j f a b g a' b' he;cases he;obtain⟨h0,h⟩:=B6 h;obtain⟨h1,e⟩:=B6 h;rw[UB h0,B0W (pZ i h1),B0W (pZ i e)]
   .rename_i j t v u w he;cases he;obtain⟨h1,e⟩:=B6 h;rw[A0 h1,i _ _ e]
   .cases h
def XE{a b:AB}(h:XF a b=true):a=b:=by
 unfold XF at h;split at h
 .rfl
 .obtain⟨h0,h⟩:=B6 h;obtain⟨h1,d⟩:=B6 h;rw[pZ (WZ 6) h0,A0 h1,eq_of_beq d]
 .cases h
def yW{H:Hp AB}{b:Nat}{ab:AB}(h:yX H b ab=true):Hp.get H b=some ab/\b<=H6:=by
 unfold yX at h;split at h
 .rename_i x d;obtain⟨h1,a⟩:=B6 h;exact⟨by rw[d,XE a],A1 h1⟩
 .cases h
def sS{mv:Mem}{us:List Rec}(h:EW m r us=some mv):mv.n=sJ/\mv.hi=sJ/\mv.W=[]/\mv.lg=m.lg/\(∀ id,id<=H6->∀ ab,Hp.get mv.H id=some ab->r=some (id,ab))/\∀ b ab,r=some (b,ab)->yX m.H b ab=true/\b ∉ Z4 us:=by
 obtain⟨H,n,W,hi,lg⟩:=m;unfold EW at h;simp only at h;cases r with
 | none =>
   cases h;exact⟨rfl,rfl,rfl,rfl,fun id _ ab a=>(by rw[rO]at a;cases a),fun b ab g=>by cases g⟩
 | some p =>
   obtain⟨b,f⟩:=p;simp only at h;cases d:t8 (Z4 us) b || !(yX H b f)with
   | true=>rw[d]at h;cases h
   | false =>
     rw[d,eI]at h;cases h;simp only[Z6,Bool.not_eq_false']at d;have g:=(yW d.2).2;refine⟨rfl,rfl,rfl,rfl,fun id hid ab a=>?_,fun b' ab' i=>?_⟩
     .have a:Hp.get (Hp.set hp0 b (some f)) id=some ab:=a;rw[F0 _ _ _ _ g hid]at a;by_cases e:id=b
      .subst e;rw[A9 rfl]at a;cases a;rfl
      .rw[A7 e,rO]at a;cases a
     .cases i;exact⟨d.2,fun hm=>by rw[V8.2 hm]at d;exact absurd d.1 (by simp)⟩
def kY{fr:Fr}{o:Oper}{b:H1}{v:Value}{lg:Lg}(h:kZ fr m o b rs op=some (v,lg)):∃ mv m',EW m (KS m.H fr o.op) (CM b rs)=some mv/\op.run fr mv=some (v,m')/\m'.W=[]/\m'.hi=sJ/\m'.lg=lg:=by
 unfold kZ at h;split at h
 .rename_i mv hv;split at h
  .rename_i v' H n hi a hr;obtain⟨h1,d⟩:=A3 h;cases d;exact⟨mv,_,hv,hr,rfl,A0 h1,rfl⟩
  .cases h
 .cases h
def BQ{all:List Oper}{b:H1}{g:Bool}{o:Oper}{fr a:Fr}{v:Value}(d:V3 P base gl call)(h:HA P nt gl call all b rs g o fr a m m2 v):m.lg.le m2.lg:=by
 obtain⟨_,_,_,h⟩:=h;rcases h with⟨_,lg,hw,_,h⟩|⟨_,lg,e,hw,i,h⟩|⟨_,lg,hw,hr,_⟩|⟨_,_,lg,hw,mv,m',hv,hr,_,f,hm⟩
 .rw[h];exact gS hw
 .obtain⟨mv,m',hv,hr,_,_,j⟩:=kY i;have h1:=u9 d hr;rw[(sS hv).2.2.2.1,j]at h1;rw[h];exact(gS hw).trans h1
 .have h1:=u9 d hr;rw[d7]at h1;exact(gS hw).trans h1
 .rw[JT hm];have h1:=u9 d hr;rw[PT hv]at h1;exact(gS hw).trans h1
def Rg.lgs(g:Rg P base gl nt call ops F M V R X B)(a:V3 P base gl call){i:Nat}:∀ d,i+d<=ops.size->(M i).lg.le (M (i+d)).lg
 | 0,_=>.refl _
 | d+1,h=>by
   obtain⟨o,b⟩:=P9 (ops:=ops) (i:=i+d) A2;exact(g.lgs a d A2).trans (BQ a (g.st (i+d) o b))
def Rg.who(g:Rg P base gl nt call ops F M V R X B)(f:Ph ops B M lo up):∀ d,lo+d<=up->∀ b,(M lo).n<=b->b<(M (lo+d)).n->∃ k,lo<=k/\k<lo+d/\(M k).n<=b/\b<(M (k+1)).n
 | 0,_,b,h1,a=>by have a:b<(M lo).n:=a;omega
 | d+1,h,b,h1,a=>by
   rcases F7 b (M (lo+d)).n with h3|h3
   .obtain⟨k,i,j,e⟩:=g.who f d A2 b h1 h3;exact⟨k,i,A2,e⟩
   .exact⟨lo+d,A2,A2,h3,a⟩
def yF:∀ {rs:List Rec} {b:Nat},b ∈ Z4 rs↔∃ r ∈ rs,r.lo<=b/\b<r.hi
 | [],b=>by simp[Z4]
 | r::rs,b=>by
   simp only[Z4,B5,lJ,yF (rs:=rs),B4];constructor
   .rintro(h|⟨a,h1,d⟩)
    .exact⟨r,.inl rfl,A2⟩
    .exact⟨a,.inr h1,d⟩
   .rintro⟨a,rfl|h1,d⟩
    .exact .inl A2
    .exact .inr ⟨a,h1,d⟩
def Rg.recs(g:Rg P base gl nt call ops F M V R X B)(j:Ph ops B M lo up):∀ d,lo+d<=up->∀ k,lo<=k->k<lo+d->∀ b,(M k).n<=b->b<(M (k+1)).n->⟨k,(M k).n,(M (k+1)).n⟩ ∈ R (lo+d)
 | 0,_,k,_,h,_,_,_=>by omega
 | d+1,hi,k,hk,h,b,h1,f=>by
   obtain⟨o,l⟩:=P9 (ops:=ops) (i:=lo+d) (by have:=j.sz;omega);have a:=j.mx _ o A2 A2 l;show _ ∈ R (lo+d+1);by_cases e:k=lo+d
   .subst e;rcases g.rc (lo+d) o l with⟨_,lg,h3⟩|⟨h3,_⟩|h3
    .rw[h3]at f;have f:b<(M (lo+d)).n:=f;omega
    .rw[a]at h3;cases h3
    .rw[h3];exact B3
   .have:=g.recs j d A2 k hk A2 b h1 f;rcases g.rc (lo+d) o l with⟨h3,_⟩|⟨h3,_⟩|h3
    .rw[h3];exact this
    .rw[a]at h3;cases h3
    .rw[h3];exact C3 _ this
def A2e{mv:Mem}{us:List Rec}(h:BM m c us=some mv):mv.n=m.n/\mv.hi=m.hi/\mv.W=[]/\mv.lg=m.lg/\∀ id,id<=H6->∀ ab,Hp.get mv.H id=some ab->Hp.get m.H id=some ab/\id ∉ Z4 us:=by
 obtain⟨H,n,W,hi,lg⟩:=m;unfold BM at h;simp only at h;cases c with
 | free =>
   cases h;exact⟨rfl,rfl,rfl,rfl,fun id _ ab a=>by rw[rO]at a;cases a⟩
 | one b =>
   simp only at h;cases d:t8 (Z4 us) b || !(Nat.ble b H6)with
   | true=>rw[d]at h;cases h
   | false =>
     rw[d,eI]at h;cases h;simp only[Z6,Bool.not_eq_false']at d;have f:=A1 d.2;refine⟨rfl,rfl,rfl,rfl,fun id hid ab a=>?_⟩;have a:Hp.get (Hp.set hp0 b (Hp.get H b)) id=some ab:=a;rw[F0 _ _ _ _ f hid]at a;by_cases e:id=b
     .subst e;rw[A9 rfl]at a;exact⟨a,fun hm=>by rw[V8.2 hm]at d;exact absurd d.1 (by simp)⟩
     .rw[A7 e,rO]at a;cases a
 | all =>
   simp only at h;obtain⟨f,h⟩:=A3 h;cases h;refine⟨rfl,rfl,rfl,rfl,fun id hid ab a=>?_⟩;have a:Hp.get (DA H (Z4 us)) id=some ab:=a;rw[CZ _ _ (tX f) id hid]at a;by_cases e:id ∈ Z4 us
   .rw[A9 e]at a;cases a
   .rw[A7 e]at a;exact⟨a,e⟩
def gF(M:Nat->Mem)(D:Nat->Bool)(b:Nat):Nat->Bool
 | 0=>false
 | n+1=>(D n && Nat.ble (M n).n b && Nat.blt b (M (n+1)).n) || gF M D b n
def U3{D:Nat->Bool}{b:Nat}:∀ n,gF M D b n=true↔∃ k,k<n/\D k=true/\(M k).n<=b/\b<(M (k+1)).n
 | 0=>by simp[gF]
 | n+1=>by
   simp only[gF,I9,G6,U3 n];constructor
   .rintro(⟨⟨h1,a⟩,h3⟩|⟨k,h1,a⟩)
    .exact⟨n,A2,h1,A1 a,A1 h3⟩
    .exact⟨k,A2,a⟩
   .rintro⟨k,h1,a,h3,d⟩
    by_cases e:k=n
    .subst e;exact .inl ⟨⟨a,C6 h3⟩,C6 d⟩
    .exact .inr ⟨k,A2,a,h3,d⟩
def Dr(lo:Nat)(D:Nat->Bool)(k:Nat):Bool:=Nat.ble lo k && D k
def Y2{lo:Nat}{D:Nat->Bool}{k:Nat}:Dr lo D k=true↔lo<=k/\D k=true:=by
 unfold Dr;rw[G6];exact⟨fun h=>⟨A1 h.1,h.2⟩,fun h=>⟨C6 h.1,h.2⟩⟩
def GD(M:Nat->Mem)(lo N:Nat)(D:Nat->Bool)(b:Nat):Option AB:=bif gF M (Dr lo D) b N then Hp.get (M N).H b else Hp.get (M lo).H b
structure Inv (z:Zn) (P:Program) (base gl nt:Nat) (ops:Array Oper) (F:Nat->Fr) (M:Nat->Mem) (V:Nat->Value) (lo up:Nat) (ρ0:Ren) (w0:World) (D:Nat->Bool) (ρ:Ren) (a:Act) (w:World):Prop where
 ext:∀ b l,ρ0 b=some l->ρ b=some l
 new:∀ b l,ρ b=some l->ρ0 b=none->gF M (Dr lo D) b up=true/\(l.on=true->w0.heap.size<=l.blk)
 hr:HRf P base ρ (GD M lo up D) w
 keep:∀ k,k<w0.heap.size->w.heap[k]? = w0.heap[k]?
 size:w0.heap.size<=w.heap.size
 os:w.os=w0.os/\w.tape=w0.tape/\w.output=w0.output
 tch:∀ k,Ff ρ (GD M lo up D) k->w0.heap.size<=k∨Fp ρ0 (M lo).H k
 tsz:a.tmps.size=nt
 dfr:ZR z ρ nt (F 0) a.defers
 frm:∀ t,t<nt->VR ρ (aK D (fun k=>(ops[k]?).bind (·.dst)) V (F 0).get t ops.size) (a.tmps.getD t undef)
def S6{i:Nat}{o:Oper}(h:ops[i]? = some o):ops.toList[i]? = some o:=by simpa using h
def hJ{ops:List Oper}{a:List H1}:∀ (r:List Oper) (i:Nat),JM ops a r i=true->∀ j o,r[j]? = some o->nM (i+j) o.after.toList=true/\sQ a (i+j) (V4 ops o) ops 0=true
 | [],i,h,j,o,hj=>by simp at hj
 | x::r,i,h,j,o,hj=>by
   obtain⟨h1,b⟩:=B6 (show(nM i x.after.toList && (sQ a i (V4 ops x) ops 0 && JM ops a r (i+1)))=true from h);obtain⟨b,h3⟩:=B6 b;cases j with
   | zero=>simp at hj;subst hj;exact⟨h1,b⟩
   | succ j =>
     have:=hJ r (i+1) h3 j o (by simpa using hj)
     rwa[show i+1+j=i+(j+1) by omega]at this
def eW:∀ {es:List Edge} {i:Nat},nM i es=true->∀ e ∈ es,Region.binds .any e=true->e.on<i
 | [],i,h,e,he,_=>by cases he
 | x::r,i,h,e,he,hb=>by
   obtain⟨h1,a⟩:=B6 (show((!(Region.binds .any x) || Nat.blt x.on i) && nM i r)=true from h);rcases B4.1 he with rfl|he
   .rw[hb]at h1;have h1:Nat.blt e.on i=true:=by simpa only [Q3,Q4]using h1
    exact A1 h1
   .exact eW a e he hb
def BT{d:List H1}{i:Nat}{b:List Tmp}:∀ (r:List Oper) (a:Nat),sQ d i b r a=true->∀ j p t,r[j]? = some p->a+j≠i->p.dst=some t->t ∈ b->A3E d i (a+j)=true
 | [],a,h,j,p,t,hj,_,_,_=>by simp at hj
 | x::r,a,h,j,p,t,hj,hne,hd,ht=>by
   obtain⟨h1,g⟩:=B6 (show((Nat.beq a i || (match x.dst with|none=>true|some t=>!(t8 b t) || A3E d i a)) && sQ d i b r (a+1))=true from h);cases j with
   | zero =>
     simp at hj;subst hj;have e:Nat.beq a i=false:=by
      cases f:Nat.beq a i with
      | false=>rfl
      | true=>exact absurd (A0 f) hne
     rw[e,hd,Q4]at h1;simp only[V8.2 ht,Q3,Q4]at h1;exact h1
   | succ j =>
     have:=BT r (a+1) g j p t (by simpa using hj) A2 hd ht
     rwa[show a+1+j=a+(j+1) by omega]at this
def Rg.slot(g:Rg P base gl nt call ops F M V R X B){D:Nat->Bool}(n:mK ops.toList fun k=>D k=true)(v:∀ k,D k=true->k<ops.size){i:Nat}{o:Oper}(f:ops[i]? = some o)(hi:D i=false)
  (hr:∀ e ∈ o.after.toList,Region.binds .any e=true->D e.on=true) {t:Tmp} (u:t ∈ V4 ops.toList o):∀ k p,ops[k]? = some p->k≠i->p.dst=some t->(D k=true↔k<i):=fun k p hp l w=>by
 have s:∀ (i:Nat) (o:Oper),ops.toList[i]? = some o->∀ e ∈ o.after.toList,Region.binds .any e=true->e.on<i:=fun i o f=>by
  have:=(hJ _ 0 g.ok i o f).1;rw[F4]at this;exact eW this
 have h1:=(hJ _ 0 g.ok i o (S6 f)).2;have a:=BT _ 0 h1 k p t (S6 hp) A2 w u;rw[F4,F4]at a;unfold A3E at a;rcases Nat.lt_trichotomy k i with b|heq|q
 .have d:Nat.blt i k=false:=by
   cases d:Nat.blt i k with
   | false=>rfl
   | true=>have:i<k:=A1 d;omega
  rw[d]at a;have hm:=V8.1 (by simpa using a);exact⟨fun _=>b,fun _=>AJ n s (i+1) i k o (J2 i) (S6 f) hr hm⟩
 .exact absurd heq l
 .have d:Nat.blt i k=true:=C6 q;rw[d]at a;have hm:=V8.1 (by simpa using a);refine⟨fun x=>?_,fun h=>by omega⟩
  have:=AJ n s (k+1) k i p (J2 k) (S6 hp) (fun e he j=>n k p (S6 hp) x e he j) hm;rw[hi]at this;cases this
def Rg.frame(g:Rg P base gl nt call ops F M V R X B)(a:nt<=512){t:Tmp}(j:t<nt):∀ i,i<=ops.size->(F i).get t=aK (fun k=>Nat.blt k i) (fun k=>(ops[k]?).bind (·.dst)) V (F 0).get t i
 | 0,_=>rfl
 | i+1,h=>by
   obtain⟨o,f⟩:=P9 (ops:=ops) (i:=i) A2;obtain⟨h1,_,h3,_⟩:=g.st i o f;have q:=g.frame a j i A2;have l:aK (fun k=>Nat.blt k (i+1)) (fun k=>(ops[k]?).bind (·.dst)) V (F 0).get t i=aK (fun k=>Nat.blt k i) (fun k=>(ops[k]?).bind (·.dst)) V (F 0).get t i:=eT i fun k s _=>by
    rw[show Nat.blt k (i+1)=true from C6 A2,show Nat.blt k i=true from C6 s]
   have n:Nat.blt i (i+1)=true:=C6 (A6 _);rw[h3];unfold aK;rw[l,<- q];simp only[n,f,F5,true_and];cases p:o.dst with
   | none=>simp[vT]
   | some d =>
     rw[p]at h1;have b:d<nt:=A1 h1;simp only[vT,D3];rw[M0 _ _ _ _ (D5 b a) (D5 j a)];by_cases e:t=d
     .subst e;simp
     .rw[A7 e,A7 (fun h=>e h.symm)]
def Rg.look(g:Rg P base gl nt call ops F M V R X B)(f:nt<=512){D:Nat->Bool}(y:mK ops.toList fun k=>D k=true)(a:∀ k,D k=true->k<ops.size){i:Nat}{o:Oper}(l:ops[i]? = some o)(hi:D i=false)
  (hr:∀ e ∈ o.after.toList,Region.binds .any e=true->D e.on=true) {t:Tmp} (u:t ∈ V4 ops.toList o) (j:t<nt):aK D (fun k=>(ops[k]?).bind (·.dst)) V (F 0).get t ops.size=(F i).get t:=by
 have q:i<ops.size:=(C9.1 l).1;rw[g.frame f j i A2];have z:=g.slot y a l hi hr u;have n:aK D (fun k=>(ops[k]?).bind (·.dst)) V (F 0).get t ops.size=aK (fun k=>Nat.blt k i) (fun k=>(ops[k]?).bind (·.dst)) V (F 0).get t ops.size:=eT _ fun k x b=>by
  obtain⟨p,hp⟩:=P9 (ops:=ops) x;rw[hp]at b;by_cases e:k=i
  .subst e;rw[hi];symm;cases v:Nat.blt k k with
   | false=>rfl
   | true=>have:k<k:=A1 v;omega
  .have:=z k p hp e b;rw[K0,this];exact⟨fun h=>C6 h,fun h=>A1 h⟩
 rw[n];have s:∀ d,i+d<=ops.size->aK (fun k=>Nat.blt k i) (fun k=>(ops[k]?).bind (·.dst)) V (F 0).get t (i+d)=aK (fun k=>Nat.blt k i) (fun k=>(ops[k]?).bind (·.dst)) V (F 0).get t i:=by
  intro d;induction d with
  | zero=>intro _;rfl
  | succ d w =>
    intro b;rw[show i+(d+1)=(i+d)+1 by omega];rw[aK,A7 (fun hh=>by have:i+d<i:=A1 hh.1;omega)];exact w A2
 have:=s (ops.size-i) A2
 rwa[show i+(ops.size-i)=ops.size by omega]at this
def wW{o:Oper}{x:Operand}{t:Tmp}(hx:x ∈ o.op.operands.toList)(a:x=.tmp t):t ∈ V4 ops.toList o:=by
 unfold V4;refine B5.2 (.inr (B5.2 (.inl (List.mem_flatMap.2 ⟨x,hx,?_⟩))));subst a;simp[pP]
def Rg.see{z:Zn}(g:Rg P base gl nt call ops F M V R X B)(b:Ph ops B M lo up){y ρ:Ren}{w0 w:World}{D:Nat->Bool}{a:Act}{i:Nat}{o:Oper}
  (f:At P base gl y (M lo) (M up).hi w0) (O:mK ops.toList fun k=>D k=true) (q:lo<=i) (C:i<up) (x:ops[i]? = some o)
  (hr:∀ e ∈ o.after.toList,Region.binds .any e=true->D e.on=true):∀ id,id<=H6->∀ ab,Hp.get (M i).H id=some ab->id ∉ Z4 (CM ((Y9 ops.toList []).getD i []) (R i))->GD M lo up D id=some ab:=fun id hid ab h1 L=>by
 unfold GD;by_cases d:(M lo).n<=id/\id<(M i).n
 .obtain⟨k,s,I,u,t⟩:∃ k,lo<=k/\k<i/\(M k).n<=id/\id<(M (k+1)).n:=by
   have:=g.who b (i-lo) A2 id d.1 (by rw[show lo+(i-lo)=i by omega];exact d.2)
   rwa[show lo+(i-lo)=i by omega]at this
  have v:D k=true:=by
   have p:(⟨k,(M k).n,(M (k+1)).n⟩:Rec) ∈ R i:=by
    have:=g.recs b (i-lo) A2 k s A2 id u t
    rwa[show lo+(i-lo)=i by omega]at this
   by_cases E:k ∈ (Y9 ops.toList []).getD i []
   .exact AJ O (fun i o x=>by
     have:=(hJ _ 0 g.ok i o x).1;rw[F4]at this;exact eW this) (i+1) i k o (J2 i) (S6 x) hr E
   .exfalso;refine L (yF.2 ⟨_,P5.2 ⟨p,?_⟩,u,t⟩);cases h:t8 ((Y9 ops.toList []).getD i []) k with
    | false=>rfl
    | true=>exact absurd (V8.1 h) E
  have hu:gF M (Dr lo D) id up=true:=(U3 _).2 ⟨k,A2,Y2.2 ⟨s,v⟩,u,t⟩;rw[hu];simp only[E3];rw[(g.le b (i:=i) (j:=up) q A2 (A6 _)).2.2 id hid d.2];exact h1
 .have G:=(g.all b q A2).2.2.2.2 id hid A2;rw[G]at h1;have hu:gF M (Dr lo D) id up=false:=by
   cases h:gF M (Dr lo D) id up with
   | false=>rfl
   | true =>
     exfalso;obtain⟨k,I,K,u,t⟩:=(U3 _).1 h;have s:=(Y2.1 K).1;obtain⟨l,A,_⟩:=f.hr.at_ id hid ab h1;have N:=g.le b (i:=lo) (j:=k) (A6 _) s A2;have J:=g.le b (i:=k+1) (j:=up) A2 A2 (A6 _);have Q:=(g.all b b.le (A6 _)).2.2.1;rw[f.fr id A2 A2]at A;cases A
  rw[hu];exact h1
def Rg.quiet{z:Zn}(g:Rg P base gl nt call ops F M V R X B)(E:V3 P base gl call){L ρ:Ren}{w0 w:World}{D D':Nat->Bool}{a:Act}{i:Nat}{o:Oper}{Q:Exit->Act->World->Prop}{K:Act->World->Prop}
  (u:At P base gl L (M lo) (M up).hi w0) (hS:Sat (M (i+1)).lg) (ao:nt<=512) (inv:Inv z P base gl nt ops F M V lo up L w0 D ρ a w) (hc:mK ops.toList fun k=>D k=true) (au:∀ k,D k=true->k<ops.size) (Z:ops[i]? = some o) (hi:D i=false)
  (hr:∀ e ∈ o.after.toList,Region.binds .any e=true->D e.on=true) (hD:∀ k,k≠i->D' k=D k) (ad:D' i=true)
  (av:dP nt ops.toList (W5 P call o) ((Y9 ops.toList []).getD i []) (R i) (F i) o (M i) (M (i+1)) (V i) r) (aa:∀ b ab,r=some (b,ab)->GD M lo up D b=some ab)
  (hK:∀ q a' w',Inv z P base gl nt ops F M V lo up L w0 D' q a' w'->K a' w'):gO P z.rd ops Q i K a w:=by
 have ai:i<ops.size:=(C9.1 Z).1;obtain⟨bx,ah,hF,_⟩:=g.st i o Z;have C:∀ t,t ∈ V4 ops.toList o->t<nt->VR ρ ((F i).get t) (a.tmps.getD t undef):=fun t ht ar=>by
  rw[<- g.look ao hc au Z hi hr ht ar];exact inv.frm t ar
 have ag:FR ρ (F i) a.eval o.op:=fun x hx=>by
  have U:okX nt gl x=true:=D4.1 ah x hx;cases x with
  | tmp t=>exact C t (wW hx rfl) (A1 U)
  | const v=>exact VR.ofC U
  | global gg=>exact VR.ptr (o:=0) (inv.ext _ _ (u.gr gg (A1 U)))
  | func f=>exact .func (a:=[]) (b:=[]) (a':=[]) (b':=[]) rfl rfl (fun i v v' h=>by simp at h) (fun i v v' h=>by simp at h)
 have G:∀ lg b,aZ nt (F i) (M i).lg ops.toList o=some (b,lg)->Sat lg->Region.wanted o (yielded ops a.tmps)=b:=fun lg b hw I=>by
  unfold aZ at hw;split at hw
  .rename_i hg;cases hw;simp[Region.wanted,hg]
  .rename_i j want hg;split at hw
   .rename_i p hp;split at hw
    .rename_i t ht;obtain⟨h1,s⟩:=A3 hw;have h1:t<nt:=A1 h1;have hv:=C t (by
      unfold V4;refine B5.2 (.inr (B5.2 (.inr ?_)));simp[hg,hp,ht]) h1
     exact mO hg hp ht (by rw[inv.tsz];exact h1) (pI s hv I)
    .cases hw
   .cases hw
 have y:∀ (q:Ren) (v':Value),(∀ b l,ρ b=some l->q b=some l)->VR q (V i) v'->∀ t,t<nt->VR q (aK D' (fun k=>(ops[k]?).bind (·.dst)) V (F 0).get t ops.size) ((a.put o.dst v').tmps.getD t undef):=fun q v' he hv t ht=>by
  by_cases hd:o.dst=some t
  .have W:∀ k,i<k->k<ops.size->(ops[k]?).bind (·.dst)=some t->D k=false:=fun k bz A aw=>by
    obtain⟨p,hp⟩:=P9 (ops:=ops) A;rw[hp]at aw
    have:=g.slot hc au Z hi hr (t:=t) (by unfold V4;simp[hd]) k p hp A2 aw;cases hq:D k with
    | false=>rfl
    | true=>have:=this.1 hq;omega
   rw[rV hD ad ops.size ai (by simp[Z,hd]) W];simp only[hd,Act.put,B7];rw[F9,A9 rfl,A9 (by rw[inv.tsz];exact ht)];exact hv
  .rw[oJ hD (by simp[Z];exact hd)];have h1:=(inv.frm t ht).mono he;cases S:o.dst with
   | none=>exact h1
   | some d =>
     have al:d≠t:=fun e=>hd (e▸S)
     simp only[Act.put,B7]at h1 ⊢;rw[F9,A7 al];exact h1
 have hM:∃ lg,M (i+1)=(M i).wLg lg:=by
  rcases av with⟨lg,_,_,h,_⟩|⟨_,ay,_,_,h,_⟩
  .exact⟨lg,h⟩
  .exact⟨ay,h⟩
 have hG:GD M lo up D'=GD M lo up D:=by
  funext b;unfold GD;have:gF M (Dr lo D') b up=gF M (Dr lo D) b up:=by
   obtain⟨lg,hm⟩:=hM;rw[K0,U3,U3];constructor
   .rintro⟨k,h1,s,h3,h4⟩
    have e:k≠i:=fun e=>by
     subst e;rw[hm]at h4;have h4:b<(M k).n:=h4;omega
    obtain⟨az,s⟩:=Y2.1 s;rw[hD k e]at s;exact⟨k,h1,Y2.2 ⟨az,s⟩,h3,h4⟩
   .rintro⟨k,h1,s,h3⟩
    obtain⟨az,s⟩:=Y2.1 s;have e:k≠i:=fun e=>by subst e;rw[hi]at s;cases s
    exact⟨k,h1,Y2.2 ⟨az,by rw[hD k e];exact s⟩,h3⟩
  rw[this]
 have O:∀ b l,ρ b=some l->L b=none->gF M (Dr lo D') b up=true/\(l.on=true->w0.heap.size<=l.blk):=fun b l h1 s=>by
  obtain⟨k1,k2⟩:=inv.new b l h1 s;obtain⟨k,q1,q2,q3⟩:=(U3 _).1 k1;obtain⟨ae,q2⟩:=Y2.1 q2;have e:k≠i:=fun e=>by subst e;rw[hi]at q2;cases q2
  exact⟨(U3 _).2 ⟨k,q1,Y2.2 ⟨ae,by rw[hD k e];exact q2⟩,q3⟩,k2⟩
 unfold gO;simp only[Z];rcases av with⟨lg,hw,hv,hm,_⟩|⟨lg,ay,hw,hq,hm,aj⟩
 .have I:Sat lg:=by rw[hm]at hS;exact hS
  rw[G lg false hw I];simp only[J6,if_false];refine hK ρ _ w ⟨inv.ext,O,hG▸inv.hr,inv.keep,inv.size,inv.os,hG▸inv.tch,?_,?_,y ρ undef (fun _ _ h=>h) (hv▸pL ρ)⟩
  .cases S:o.dst<;>simp[Act.put,inv.tsz]
  .rw[eJ];exact inv.dfr
 .obtain⟨mv,m',Y,N,hW,an,hl⟩:=kY hq;obtain⟨v1,v2,v3,v4,v5,_⟩:=sS Y;have ax:Sat m'.lg:=by rw[hm]at hS;rw[hl];exact hS
  have I:Sat lg:=R6.le ax (by have:=u9 E N;rw[v4]at this;exact this);rw[G lg true hw I];simp only[if_true];have af:HR P base ρ mv.H w:=inv.hr.hr fun id hid ab T=>aa id ab (aj.trans (v5 id hid ab T))
  have aq:At P base gl ρ mv m'.hi w:=⟨af,C5 u.bs inv.size,fun b h1 s=>(by rw[v1]at h1;rw[an]at s;omega),u.gr.mono inv.ext,(by rw[v1,v2];exact A6 _),fun b hb=>(by rw[v3]at hb;cases hb),fun k o A=>⟨(u.gf k o A).1,(inv.keep k (D5 (u.gf k o A).1 u.bs)).trans (u.gf k o A).2⟩⟩;refine pX E N ax aq ag fun v' q w' hv st=>?_
  have ak:q=ρ:=by
   funext b;cases h0:ρ b with
   | some l=>exact st.ext b l h0
   | none =>
     cases h1:q b with
     | none=>rfl
     | some l =>
       exfalso;have s:=(st.new b l h1 h0).1;have h3:=st.hr.dom b l h1;rw[v1]at s;unfold sJ at s;unfold H6 at h3;omega
  subst ak;have J:∀ k,k<w.heap.size->w'.heap[k]? = w.heap[k]? := fun k A=>st.keep k A fun b hb=>by rw[hW]at hb;cases hb
  refine hK q _ w' ⟨inv.ext,O,hG▸⟨inv.hr.dom,fun id hid ab T=>?_⟩,fun k A=>by rw[J k (D5 A inv.size),inv.keep k A],C5 inv.size st.size,⟨st.os.1.trans inv.os.1,st.os.2.1.trans inv.os.2.1,st.os.2.2.trans inv.os.2.2⟩,hG▸inv.tch,?_,?_,y q v' (fun _ _ h=>h) hv⟩
  .obtain⟨l,e1,e2,e3⟩:=inv.hr.at_ id hid ab T;exact⟨l,e1,e2.mono (fun _ _ h=>h) (fun k A=>J _ (e2.tc A)),e3⟩
  .cases S:o.dst<;>simp[Act.put,inv.tsz]
  .rw[eJ];exact inv.dfr
def Rg.step{z:Zn}(g:Rg P base gl nt call ops F M V R X B)(ph:Ph ops B M lo up)(S:V3 P base gl call){an ρ:Ren}{w0 w:World}{D D':Nat->Bool}{a:Act}{i:Nat}{o:Oper}{Q:Exit->Act->World->Prop}{K:Act->World->Prop}
  (I:At P base gl an (M lo) (M up).hi w0) (hS:Sat (M up).lg) (bk:nt<=512) (inv:Inv z P base gl nt ops F M V lo up an w0 D ρ a w) (hc:mK ops.toList fun k=>D k=true) (bo:∀ k,D k=true->k<ops.size) (ay:lo<=i) (au:i<up) (Z:ops[i]? = some o) (hi:D i=false)
  (hr:∀ e ∈ o.after.toList,Region.binds .any e=true->D e.on=true) (hD:∀ k,k≠i->D' k=D k) (bp:D' i=true)
  (bq:¬∃ r,dP nt ops.toList (W5 P call o) ((Y9 ops.toList []).getD i []) (R i) (F i) o (M i) (M (i+1)) (V i) r)
  (hK:∀ C a' w',Inv z P base gl nt ops F M V lo up an w0 D' C a' w'->K a' w'):gO P z.rd ops Q i K a w:=by
 have bc:i<ops.size:=(C9.1 Z).1;obtain⟨cp,bb,hF,aj⟩:=g.st i o Z;have ad:=ph.mx i o ay au Z;have cq:=ph.sz;have cr:=g.le ph (i:=lo) (j:=i) (A6 _) ay A2;have bd:=g.le ph (i:=i+1) (j:=up) A2 A2 (A6 _);have cw:=g.one Z ad (g.all ph ay A2).2.2.1;have aw:∀ t,t ∈ V4 ops.toList o->t<nt->VR ρ ((F i).get t) (a.tmps.getD t undef):=fun t ht bn=>by
  rw[<- g.look bk hc bo Z hi hr ht bn];exact inv.frm t bn
 have ba:FR ρ (F i) a.eval o.op:=fun x hx=>by
  have ai:okX nt gl x=true:=D4.1 bb x hx;cases x with
  | tmp t=>exact aw t (wW hx rfl) (A1 ai)
  | const v=>exact VR.ofC ai
  | global gg=>exact VR.ptr (o:=0) (inv.ext _ _ (I.gr gg (A1 ai)))
  | func f=>exact .func (a:=[]) (b:=[]) (a':=[]) (b':=[]) rfl rfl (fun i v v' h=>by simp at h) (fun i v v' h=>by simp at h)
 have ag:∀ lg b,aZ nt (F i) (M i).lg ops.toList o=some (b,lg)->Sat lg->Region.wanted o (yielded ops a.tmps)=b:=fun lg b hw af=>by
  unfold aZ at hw;split at hw
  .rename_i hg;cases hw;simp[Region.wanted,hg]
  .rename_i j want hg;split at hw
   .rename_i p hp;split at hw
    .rename_i t ht;obtain⟨h1,u⟩:=A3 hw;have h1:t<nt:=A1 h1;have hv:=aw t (by
      unfold V4;refine B5.2 (.inr (B5.2 (.inr ?_)));simp[hg,hp,ht]) h1
     exact mO hg hp ht (by rw[inv.tsz];exact h1) (pI u hv af)
    .cases hw
   .cases hw
 have ao:∀ (C:Ren) (v':Value),(∀ b l,ρ b=some l->C b=some l)->VR C (V i) v'->∀ t,t<nt->VR C (aK D' (fun k=>(ops[k]?).bind (·.dst)) V (F 0).get t ops.size) ((a.put o.dst v').tmps.getD t undef):=fun C v' he hv t ht=>by
  by_cases hd:o.dst=some t
  .have ah:∀ k,i<k->k<ops.size->(ops[k]?).bind (·.dst)=some t->D k=false:=fun k cu U br=>by
    obtain⟨p,hp⟩:=P9 (ops:=ops) U;rw[hp]at br
    have:=g.slot hc bo Z hi hr (t:=t) (by unfold V4;simp[hd]) k p hp A2 br;cases hq:D k with
    | false=>rfl
    | true=>have:=this.1 hq;omega
   rw[rV hD bp ops.size bc (by simp[Z,hd]) ah];simp only[hd,Act.put,B7];rw[F9,A9 rfl,A9 (by rw[inv.tsz];exact ht)];exact hv
  .rw[oJ hD (by simp[Z];exact hd)];have h1:=(inv.frm t ht).mono he;cases aa:o.dst with
   | none=>exact h1
   | some d =>
     have bg:d≠t:=fun e=>hd (e▸aa)
     simp only[Act.put,B7]at h1 ⊢;rw[F9,A7 bg];exact h1
 have J:∀ b,gF M (Dr lo D') b up=true↔(gF M (Dr lo D) b up=true∨((M i).n<=b/\b<(M (i+1)).n)):=fun b=>by
  rw[U3,U3];constructor
  .rintro⟨k,h1,u,h3⟩
   obtain⟨ae,u⟩:=Y2.1 u;by_cases e:k=i
   .subst e;exact .inr h3
   .rw[hD k e]at u;exact .inl ⟨k,h1,Y2.2 ⟨ae,u⟩,h3⟩
  .rintro(⟨k,h1,u,h3⟩|h3)
   .obtain⟨ae,u⟩:=Y2.1 u;have e:k≠i:=fun e=>by subst e;rw[hi]at u;cases u
    exact⟨k,h1,Y2.2 ⟨ae,by rw[hD k e];exact u⟩,h3⟩
   .exact⟨i,au,Y2.2 ⟨ay,bp⟩,h3⟩
 unfold gO;simp only[Z];have bt:Sat (M (i+1)).lg:=R6.le hS (by have:=g.lgs S (i:=i+1) (up-(i+1)) A2;rwa[show i+1+(up-(i+1))=up by omega]at this);rcases aj with⟨_,lg,hw,hv,hm⟩|⟨_,lg,bl,hw,hq,hm⟩|⟨bw,_⟩|⟨_,_,lg,hw,mv,m',ar,al,hW,bj,W⟩
 .exact absurd ⟨_,.inl ⟨lg,hw,hv,hm,rfl⟩⟩ bq
 .exact absurd ⟨_,.inr ⟨lg,bl,hw,hq,hm,rfl⟩⟩ bq
 .rw[ad]at bw;cases bw
 .have bx:Sat m'.lg:=by rw[JT W]at bt;exact bt
  have af:Sat lg:=R6.le bx (by have:=u9 S al;rw[PT ar]at this;exact this);rw[ag lg true hw af];simp only[if_true];obtain⟨v1,v2,v3,_,v4⟩:=A2e ar;have v1:mv.n=(M i).n:=v1;have v2:mv.hi=(M i).hi:=v2;have v4:∀ id,id<=H6->∀ ab,Hp.get mv.H id=some ab->Hp.get (M i).H id=some ab/\id ∉ Z4 (CM ((Y9 ops.toList []).getD i []) (R i)):=v4;have ak:=(g.all ph ay A2).2.2.1;obtain⟨q1,q2,q3,q4,q5,q6,_,q7⟩:=JS W ak bj;have q1:(M i).n<=(M (i+1)).n:=q1;have q5:(M (i+1)).n=m'.hi∨((M (i+1)).n=(M i).n/\m'.hi<=(M i).n):=q5;have q7:∀ id,id<=H6->Hp.get (M (i+1)).H id=if(M i).n<=id/\id<(M (i+1)).n then Hp.get m'.H id else Hp.get (M i).H id:=q7
  have O:∀ id,id<=H6->∀ ab,Hp.get mv.H id=some ab->GD M lo up D id=some ab:=fun id hid ab y=>by
   obtain⟨h1,u⟩:=v4 id hid ab y;exact g.see (z:=z) (a:=a) (ρ:=ρ) (w:=w) ph I hc ay au Z hr id hid ab h1 u
  have cz:HR P base ρ mv.H w:=inv.hr.hr O;have T:K1 ρ mv.n m'.hi:=fun b h1 u=>by
   rw[v1]at h1;cases hb:ρ b with
   | none=>rfl
   | some l =>
     exfalso;cases h0:an b with
     | some l0 =>
       rw[I.fr b A2 A2]at h0;cases h0
     | none =>
       obtain⟨k,k1,k2,k3,k4⟩:=(U3 _).1 (inv.new b l hb h0).1;obtain⟨k0,k2⟩:=Y2.1 k2;have ct:k≠i:=fun e=>by subst e;rw[hi]at k2;cases k2
       rcases F7 k i with bu|bu
       .have:=(g.le ph (i:=k+1) (j:=i) A2 A2 A2).1;omega
       .have:=(g.le ph (i:=i+1) (j:=k) A2 A2 A2).1;rcases q5 with q5|⟨_,q5⟩<;>omega
  have bm:At P base gl ρ mv m'.hi w:=⟨cz,C5 I.bs inv.size,T,I.gr.mono inv.ext,(by rw[v1,v2];exact ak),fun b hb=>(by rw[v3]at hb;cases hb),fun k o U=>⟨(I.gf k o U).1,(inv.keep k (D5 (I.gf k o U).1 I.bs)).trans (I.gf k o U).2⟩⟩;refine pX S al bx bm ba fun v' C w' hv st=>hK C _ w' ?_
  have aq:∀ k,k<w.heap.size->w'.heap[k]? = w.heap[k]? := fun k U=>st.keep k U fun b hb=>by rw[hW]at hb;cases hb
  have cv:m'.n<=m'.hi:=st.nhi (by rw[v1,v2];exact ak);have av:∀ b l,C b=some l->ρ b=none->((M i).n<=b/\b<(M (i+1)).n)/\(l.on=true->w.heap.size<=l.blk):=fun b l h1 u=>by
   have h3:=st.new b l h1 u;rw[v1]at h3;refine⟨⟨h3.1,?_⟩,?_⟩
   .rcases q5 with q5|⟨_,q5⟩<;>omega
   .intro Z;rcases st.blk b l h1 u Z with h|⟨b0,h,_⟩
    .exact h
    .rw[hW]at h;cases h
  have ax:∀ id,id<=H6->(M i).n<=id->id<(M (i+1)).n->GD M lo up D' id=Hp.get m'.H id/\ρ id=none:=fun id hid h1 u=>by
   constructor
   .unfold GD;rw[(J id).2 (.inr ⟨h1,u⟩)];simp only[E3];rw[bd.2.2 id hid u,q7 id hid,A9 ⟨h1,u⟩]
   .refine T id (by rw[v1];exact h1) ?_;rcases q5 with q5|⟨q5,_⟩
    .omega
    .rw[q5]at u;omega
  have Y:∀ id,¬ ((M i).n<=id/\id<(M (i+1)).n)->GD M lo up D' id=GD M lo up D id:=fun id hid=>by
   unfold GD;have:gF M (Dr lo D') id up=gF M (Dr lo D) id up:=by
    rw[K0,J id];exact⟨fun h=>h.elim (fun h=>h) (fun h=>absurd h hid),.inl⟩
   rw[this]
  have bh:∀ k,Ff C (GD M lo up D') k->w.heap.size<=k∨Ff ρ (GD M lo up D) k:=fun k ⟨id,ab,l,hid,y,hl,ht⟩=>by
   by_cases hI:(M i).n<=id/\id<(M (i+1)).n
   .rw[(ax id hid hI.1 hI.2).1]at y;rcases st.tch k ⟨id,ab,l,hid,y,hl,ht⟩with h|⟨A,az,l0,e1,e2,e3,e4⟩
    .exact .inl h
    .exact .inr ⟨A,az,l0,e1,O A e1 az e2,e3,e4⟩
   .rw[Y id hI]at y;obtain⟨l3,c1,_⟩:=inv.hr.at_ id hid ab y;rw[st.ext id l3 c1]at hl
    have:=A8 hl;subst this;exact .inr ⟨id,ab,l3,hid,y,c1,ht⟩
  refine⟨fun b l h=>st.ext b l (inv.ext b l h),fun b l h1 u=>?_,⟨st.hr.dom,fun id hid ab y=>?_⟩,fun k U=>by rw[aq k (D5 U inv.size),inv.keep k U],C5 inv.size st.size,⟨st.os.1.trans inv.os.1,st.os.2.1.trans inv.os.2.1,st.os.2.2.trans inv.os.2.2⟩,fun k U=>(bh k U).elim (fun h=>.inl (C5 inv.size h)) (inv.tch k),?_,?_,ao C v' st.ext hv⟩
  .cases h0:ρ b with
   | some l1 =>
     rw[st.ext b l1 h0]at h1
     have:=A8 h1;subst this;exact⟨(J b).2 (.inl (inv.new b l1 h0 u).1),(inv.new b l1 h0 u).2⟩
   | none =>
     have:=av b l h1 h0;exact⟨(J b).2 (.inr this.1),fun Z=>C5 inv.size (this.2 Z)⟩
  .by_cases hI:(M i).n<=id/\id<(M (i+1)).n
   .obtain⟨h1,u⟩:=ax id hid hI.1 hI.2;rw[h1]at y;obtain⟨l,e1,e2,e3⟩:=st.hr.at_ id hid ab y;refine⟨l,e1,e2,fun L E=>⟨(e3 L E).1,fun q s N l2 f1 f2 f3=>?_⟩⟩;by_cases G:(M i).n<=q/\q<(M (i+1)).n
    .rw[(ax q s G.1 G.2).1]at f1;exact(e3 L E).2 q s N l2 f1 f2 f3
    .rw[Y q G]at f1;obtain⟨l3,c1,c2,_⟩:=inv.hr.at_ q s N f1;rw[st.ext q l3 c1]at f2
     have:=A8 f2;subst this;have h5:=c2.tc f3;have h6:=(av id l e1 u).2 E;omega
   .rw[Y id hI]at y;obtain⟨l,e1,e2,e3⟩:=inv.hr.at_ id hid ab y;refine⟨l,st.ext _ _ e1,e2.mono st.ext (fun k U=>aq _ (e2.tc U)),fun L E=>⟨(e3 L E).1,fun q s N l2 f1 f2 f3=>?_⟩⟩;by_cases G:(M i).n<=q/\q<(M (i+1)).n
    .exfalso;rw[(ax q s G.1 G.2).1]at f1;have cy:N.fr=true:=by
      cases hq:N.fr with
      | true=>rfl
      | false =>
        exfalso;rcases f3 with⟨_,h1,u⟩|⟨h1,_⟩
        .have h5:=(av q l2 f2 (ax q s G.1 G.2).2).2 h1;have h6:=e2.tc (.inl ⟨AB.rw_on L,E,rfl⟩);omega
        .rw[h1]at hq;cases hq
     rcases st.tch _ ⟨q,N,l2,s,f1,f2,cy,f3⟩with h|⟨A,az,l0,c1,c2,c3,_,c4⟩
     .have:=e2.tc (.inl ⟨AB.rw_on L,E,rfl⟩);omega
     .have h7:=(e3 L E).2 A c1 az l0 (O A c1 az c2) c3 c4;subst h7;have h8:=O A c1 az c2;rw[y]at h8;have h8:=A8 h8;subst h8;have h9:A<mv.n∨m'.hi<=A:=by
       rcases F7 A mv.n with h|h
       .exact .inl h
       .rcases F7 A m'.hi with h'|h'
        .rw[T A h h']at e1;cases e1
        .exact .inr h'
      have bz:=st.same A c1 (by rw[hW];simp) h9;rw[c2]at bz;obtain⟨_,bf⟩:=st.hr.atl (st.ext _ _ e1) bz
      have:=(bf L E).2 q s N l2 f1 f2 f3;subst this;exact hI G
    .rw[Y q G]at f1;obtain⟨l3,c1,_⟩:=inv.hr.at_ q s N f1;rw[st.ext q l3 c1]at f2
     have:=A8 f2;subst this;exact(e3 L E).2 q s N l3 f1 c1 f3
  .cases aa:o.dst<;>simp[Act.put,inv.tsz]
  .rw[eJ];exact inv.dfr.congr st.ext fun _=>⟨rfl,rfl⟩
end
end
section
open Go
variable [Ora]
def DK:∀ (l:List Bool) (i:Nat),l[i]? = some false->(l.set i true).countP (fun b=>!b)+1=l.countP (fun b=>!b)
 | [],i,h=>by simp at h
 | b::r,0,h=>by simp at h;subst h;simp
 | b::r,i+1,h=>by
   have:=DK r i (by simpa using h);rw[List.set_cons_succ,List.countP_cons,List.countP_cons];omega
def OZ{l:List Bool}(h:l.countP (fun b=>!b)=0):∀ i,i<l.length->l[i]? = some true:=fun i hi=>by
 rw[List.countP_eq_zero]at h
 have:=h l[i] (N6 hi);rw[A5 hi];cases a:l[i]with
 | true=>rfl
 | false=>rw[a]at this;exact absurd rfl this
section
variable {P:Program} {base gl:Nat} {call:P2}
def A0K(h:lI m m'=some m2)(a:m.hi<=m'.hi):m.hi<=m2.hi:=by
 unfold lI at h;cases b:Nat.ble m'.hi m.n with
 | true=>rw[b]at h;cases h;exact A6 _
 | false =>
   rw[b]at h;obtain⟨_,h⟩:=A3 h;simp only[E7,dX]at h;cases h;exact a
def AH:∀ {n:Nat} {b:H1} {a:Qs},GW n b a=true->∀ k,k<n->k ∈ b∨∃ q ∈ a,q.1=k
 | 0,_,_,_,k,h=>by omega
 | n+1,b,a,h,k,hk=>by
   obtain⟨h1,g⟩:=B6 (show((t8 b n || a.any fun q=>Nat.beq n q.1) && GW n b a)=true from h);by_cases e:k=n
   .subst e;rcases I9 _ _▸h1 with h1|h1
    .exact .inl (V8.1 h1)
    .obtain⟨q,f,d⟩:=N7.1 h1;exact .inr ⟨q,f,(A0 d).symm⟩
   .exact AH g k A2
def yN:∀ {i:Nat} {bs:List H1} {r:List Oper},FM i bs r=true->∀ (j:Nat) (c:List Nat) (o:Oper),bs[j]? = some c->r[j]? = some o->i ∈ c∨v8 o.op=true
 | _,[],_,_,j,c,o,h,_=>by simp at h
 | _,_::_,[],_,j,c,o,_,h=>by simp at h
 | i,c0::bs,o0::r,h,j,c,o,h1,h2=>by
   obtain⟨a,b⟩:=B6 (show((t8 c0 i || v8 o0.op) && FM i bs r)=true from h);cases j with
   | zero =>
     simp at h1 h2;subst h1;subst h2;rcases I9 _ _▸a with a|a
     .exact .inl (V8.1 a)
     .exact .inr a
   | succ j=>exact yN b j c o (by simpa using h1) (by simpa using h2)
def EN{ops:Array Oper}{X:Nat->Qs}{i:Nat}{o:Oper}(h:A2p ops X i o=true):v8 o.op=false:=by
 obtain⟨h,_⟩:=B6 (show(wrO o.op && _)=true from h);cases a:o.op<;>rw[a]at h<;>first
  | rfl
  | cases h
def NE{ops:Array Oper}{X:Nat->Qs}{i:Nat}{o:Oper}(h:A2p ops X i o=true):∀ k,k<i->k ∈ (Y9 ops.toList []).getD i []∨∃ q ∈ X i,q.1=k:=by
 obtain⟨_,h⟩:=B6 (show(wrO o.op && _)=true from h);obtain⟨h,_⟩:=B6 h;exact AH h
def ND{ops:Array Oper}{X:Nat->Qs}{i:Nat}{o:Oper}(h:A2p ops X i o=true):∀ j p,i<j->ops[j]? = some p->i ∈ (Y9 ops.toList []).getD j []∨v8 p.op=true:=fun j p e hp=>by
 obtain⟨_,h⟩:=B6 (show(wrO o.op && _)=true from h);obtain⟨_,h⟩:=B6 h;obtain⟨f,b,d,_⟩:=tZ ops.toList [];have hlen:(Y9 ops.toList []).length=ops.size:=by rw[b];simpa using d
 have g:j<ops.size:=(C9.1 hp).1;have a:j<(Y9 ops.toList []).length:=A2
 have:=yN h (j-(i+1)) (Y9 ops.toList [])[j] p (by rw[H8,show i+1+(j-(i+1))=j by omega,A5 a]) (by rw[H8,show i+1+(j-(i+1))=j by omega];exact S6 hp);rw[B1,A5 a];exact this
def sX(ops:Array Oper)(B:Nat->Bool):∀ (d lo:Nat),lo+d=ops.size->∃ up,lo<=up/\up<=ops.size/\(∀ i o,lo<=i->i<up->ops[i]? = some o->B i=false)/\(up<ops.size->∃ o,ops[up]? = some o/\B up=true)
 | 0,lo,h=>⟨lo,A6 _,A2,fun i o h1 f=>by omega,fun f=>by omega⟩
 | d+1,lo,h=>by
   obtain⟨o,j⟩:=P9 (ops:=ops) (i:=lo) A2;cases g:B lo with
   | true=>exact⟨lo,A6 _,A2,fun i o h1 f=>by omega,fun _=>⟨o,j,g⟩⟩
   | false =>
     obtain⟨up,h1,f,h3,k⟩:=sX ops B d (lo+1) A2;refine⟨up,A2,f,fun i o' a b c=>?_,k⟩;by_cases e:i=lo
     .subst e;exact g
     .exact h3 i o' A2 b c
section
variable {nt:Nat} {ops:Array Oper} {F:Nat->Fr} {M:Nat->Mem} {V:Nat->Value} {R:Nat->List Rec} {X:Nat->Qs} {B:Nat->Bool} {lo up:Nat}
def Rg.frameUp(g:Rg P base gl nt call ops F M V R X B)(a:nt<=512){t:Tmp}(f:t<nt){i:Nat}(hi:i<=ops.size):aK (fun k=>Nat.blt k i) (fun k=>(ops[k]?).bind (·.dst)) V (F 0).get t ops.size=(F i).get t:=by
 rw[g.frame a f i hi];have b:∀ d,i+d<=ops.size->aK (fun k=>Nat.blt k i) (fun k=>(ops[k]?).bind (·.dst)) V (F 0).get t (i+d)=aK (fun k=>Nat.blt k i) (fun k=>(ops[k]?).bind (·.dst)) V (F 0).get t i:=by
  intro d;induction d with
  | zero=>intro _;rfl
  | succ d e =>
    intro j;rw[show i+(d+1)=(i+d)+1 by omega];rw[aK,A7 (fun hh=>by have:i+d<i:=A1 hh.1;omega)];exact e A2
 have:=b (ops.size-i) A2
 rwa[show i+(ops.size-i)=ops.size by omega]at this
def B2v{k i:Nat}:Nat.blt k i=true↔k<i:=⟨fun h=>A1 h,fun h=>C6 h⟩
def Rg.own(g:Rg P base gl nt call ops F M V R X B)(b:nt<=510):∀ (i:Nat),i<=ops.size->(F i).get 510=(F 0).get 510/\(F i).get 511=(F 0).get 511
 | 0,_=>⟨rfl,rfl⟩
 | i+1,hi=>by
   obtain⟨o,l⟩:=P9 (ops:=ops) (i:=i) A2;obtain⟨d1,_,d3,_⟩:=g.st i o l;have f:=g.own b i A2;have key:∀ t,510<=t->t<512->(F (i+1)).get t=(F i).get t:=fun t h1 k=>by
    rw[d3];cases j:o.dst with
    | none=>rfl
    | some d =>
      rw[j]at d1;have a:d<nt:=A1 d1;show((F i).set d _).get t=_;rw[M0 _ _ _ _ (D5 a A2) k,A7 (fun e=>by subst e;exact absurd a (Nat.not_lt.2 (C5 b h1)))]
   exact⟨(key 510 E6 E6).trans f.1,(key 511 E6 E6).trans f.2⟩
def Rg.inX(g:Rg P base gl nt call ops F M V R X B):∀ (j:Nat),j<=ops.size->∀ q ∈ X j,q.1<j/\q ∈ X (q.1+1)/\∃ o,ops[q.1]? = some o/\dP nt ops.toList (W5 P call o) ((Y9 ops.toList []).getD q.1 []) (R q.1) (F q.1) o (M q.1) (M (q.1+1)) (V q.1) q.2
 | 0,_,q,hq=>by rw[g.x0]at hq;cases hq
 | j+1,hj,q,hq=>by
   obtain⟨o,d⟩:=P9 (ops:=ops) (i:=j) A2;have old:q ∈ X j->q.1<j+1/\q ∈ X (q.1+1)/\∃ o,ops[q.1]? = some o/\dP nt ops.toList (W5 P call o) ((Y9 ops.toList []).getD q.1 []) (R q.1) (F q.1) o (M q.1) (M (q.1+1)) (V q.1) q.2:=fun h=>by
    obtain⟨h1,b⟩:=g.inX j A2 q h;exact⟨A2,b⟩
   rcases g.qs j o d with⟨_,h,_⟩|⟨_,h⟩|⟨_,r,h,b⟩
   .exact old (h▸hq)
   .exact old (h▸hq)
   .have a:=hq;rw[h]at hq;rcases B4.1 hq with e|e
    .subst e;exact⟨J2 _,a,o,d,b⟩
    .exact old e
def CE{all:List Oper}{b:H1}{fr:Fr}{o:Oper}{v:Value}(h:dP nt all op b rs fr o m m2 v r):∃ lg,m2=m.wLg lg:=by
 rcases h with⟨lg,_,_,h,_⟩|⟨_,a,_,_,h,_⟩
 .exact⟨lg,h⟩
 .exact⟨a,h⟩
def Rg.kind(g:Rg P base gl nt call ops F M V R X B){i:Nat}{o:Oper}(f:ops[i]? = some o)(a:v8 o.op=true):dP nt ops.toList (W5 P call o) ((Y9 ops.toList []).getD i []) (R i) (F i) o (M i) (M (i+1)) (V i) none:=by
 obtain⟨_,_,_,h⟩:=g.st i o f;have j:KS (M i).H (F i) o.op=none:=by
  cases d:o.op<;>rw[d]at a<;>first|rfl|cases a
 rcases h with⟨_,lg,h1,e,h3⟩|⟨_,lg,b,h1,e,h3⟩|⟨h,_⟩|⟨_,h,_⟩
 .exact .inl ⟨lg,h1,e,h3,rfl⟩
 .exact .inr ⟨lg,b,h1,e,h3,j.symm⟩
 .rw[EN (g.sb i o f h)]at a;cases a
 .rw[a]at h;cases h
def Rg.heap{z:Zn}(g:Rg P base gl nt call ops F M V R X B)(f:Ph ops B M lo up){D:Nat->Bool}{p ρ:Ren}{a:Act}{v w':World}(hD:∀ k,lo<=k->k<up->D k=false->∃ lg,M (k+1)=(M k).wLg lg)(inv:Inv z P base gl nt ops F M V lo up p v D ρ a w'):St P base p ρ (M lo) (M up) v w':=by
 have x:∀ id,id<=H6->GD M lo up D id=Hp.get (M up).H id:=fun id hid=>by
  unfold GD;cases hu:gF M (Dr lo D) id up with
  | true=>rfl
  | false =>
    simp only[D7];refine((g.all f f.le (A6 _)).2.2.2.2 id hid ?_).symm;rcases F7 id (M lo).n with h1|h1
    .exact .inl h1
    .rcases F7 id (M up).n with e|e
     .exfalso;have hle:=f.le;obtain⟨k,q,A,y,o⟩:=g.who f (up-lo) A2 id h1 (by rw[show lo+(up-lo)=up by omega];exact e);have t:D k=true:=by
       cases J:D k with
       | true=>rfl
       | false =>
         obtain⟨lg,hm⟩:=hD k q A2 J;rw[hm]at o;have o:id<(M k).n:=o;omega
      rw[(U3 (M:=M) (D:=Dr lo D) up).2 ⟨k,A2,Y2.2 ⟨q,t⟩,y,o⟩]at hu;cases hu
     .exact .inr e
 have d:=g.all f f.le (A6 _);refine⟨inv.ext,fun b l h1 e=>?_,d.1,d.2.1,fun _=>d.2.2.1,inv.hr.hr fun id hid ab u=>by rw[x id hid];exact u,fun b h=>by rw[d.2.2.2.1];exact h,fun b h1 e=>by rw[d.2.2.2.1]at h1;exact absurd h1 e,
     fun k K _=>inv.keep k K,inv.size,inv.os,fun b l h1 e E=>.inl ((inv.new b l h1 e).2 E),fun id hid h1 e=>?_,fun k ⟨id,ab,l,s,w,G,I⟩=>inv.tch k ⟨id,ab,l,s,(x id s).trans w,G,I⟩⟩
 .obtain⟨k,A,C,y,o⟩:=(U3 _).1 (inv.new b l h1 e).1;have q:=(Y2.1 C).1;have s:=(g.le f (i:=lo) (j:=k) (A6 _) q A2).1;have w:=(g.le f (i:=k+1) (j:=up) A2 A2 (A6 _)).1;omega
 .refine d.2.2.2.2 id hid ?_;rcases e with e|e
  .exact .inl e
  .exact .inr (by have:=d.2.2.1;omega)
def Rg.last{z:Zn}(g:Rg P base gl nt call ops F M V R X B)(b:nt<=512){D:Nat->Bool}{d ρ:Ren}{a:Act}{l w':World}(hD:∀ i,i<ops.size->D i=true)(inv:Inv z P base gl nt ops F M V lo up d l D ρ a w'):FrR z ρ nt (F ops.size) a:=by
 have e:=inv.dfr.congr (fun _ _ h=>h) (fun n=>g.own n ops.size (A6 _));refine⟨inv.tsz,b,e.1,e.2,fun t f=>?_⟩;have h1:=inv.frm t f;rw[<- g.frameUp b f (A6 _)]
 rwa[eT (D':=fun k=>Nat.blt k ops.size) ops.size (fun k j _=>by rw[hD k j];exact(B2v.2 j).symm)]at h1
def Rg.fresh{z:Zn}(g:Rg P base gl nt call ops F M V R X B){D:Nat->Bool}{ρ:Ren}{a:Act}{w:World}(hD:∀ k,lo<=k->D k=true->∃ lg,M (k+1)=(M k).wLg lg)(hr:HR P base ρ (M lo).H w)(j:a.tmps.size=nt)(p:ZR z ρ nt (F 0) a.defers)
  (i:∀ t,t<nt->VR ρ (aK D (fun k=>(ops[k]?).bind (·.dst)) V (F 0).get t ops.size) (a.tmps.getD t undef)):Inv z P base gl nt ops F M V lo up ρ w D ρ a w:=by
 have hu:∀ b n,gF M (Dr lo D) b n=false:=fun b n=>by
  cases y:gF M (Dr lo D) b n with
  | false=>rfl
  | true =>
    obtain⟨k,_,h,A,q⟩:=(U3 _).1 y;obtain⟨h1,o⟩:=Y2.1 h;obtain⟨lg,hm⟩:=hD k h1 o;rw[hm]at q;have q:b<(M k).n:=q;omega
 have e:∀ id ab,GD M lo up D id=some ab->Hp.get (M lo).H id=some ab:=fun id ab d=>by
  unfold GD at d;rw[hu]at d;exact d
 exact⟨fun _ _ h=>h,fun b l h1 o=>(by rw[h1]at o;cases o),hr.f fun id hid ab d=>e id ab d,fun _ _=>rfl,A6 _,⟨rfl,rfl,rfl⟩,fun k ⟨id,ab,l,s,u,v,x⟩=>.inr ⟨id,ab,l,s,e id ab u,v,x⟩,j,p,i⟩
def Rg.old{z:Zn}(g:Rg P base gl nt call ops F M V R X B)(d:Ph ops B M lo up){e:Ren}{w0:World}{D:Nat->Bool}(a:At P base gl e (M lo) (M up).hi w0){b:Nat}{ab:AB}(n:yX (M lo).H b ab=true):GD M lo up D b=some ab:=by
 obtain⟨h1,hid⟩:=yW n;unfold GD;have hu:gF M (Dr lo D) b up=false:=by
  cases s:gF M (Dr lo D) b up with
  | false=>rfl
  | true =>
    exfalso;obtain⟨k,v,p,x,w⟩:=(U3 _).1 s;have q:=(Y2.1 p).1;obtain⟨l,f,_⟩:=a.hr.at_ b hid _ h1;have t:=g.le d (i:=lo) (j:=k) (A6 _) q A2;have o:=g.le d (i:=k+1) (j:=up) A2 A2 (A6 _);have u:=(g.all d d.le (A6 _)).2.2.1;rw[a.fr b A2 A2]at f;cases f
 rw[hu];exact h1
end
def A1d(hm:P.follows .mixedOrders=true)(T:V3 P base gl call):fX P base gl call:=by
 refine⟨hm,?_⟩;intro nt ops bt s s' ck;obtain⟨F,M,V,R,X,B,f1,f2,f3,dy,f4,f5,f6⟩:=A4c ops.toList 0 _ _ _ s s' ck;simp only[F4,R4]at f4 f5 f6;have bb:∀ i,i<=ops.size->∀ d,i+d<=ops.size->(M i).hi<=(M (i+d)).hi/\(M i).lg.le (M (i+d)).lg:=by
  intro i _ d;induction d with
  | zero=>intro _;exact⟨A6 _,.refl _⟩
  | succ d ih =>
    intro h;have h1:=ih A2;obtain⟨o,C⟩:=P9 (ops:=ops) (i:=i+d) A2;obtain⟨bm,_⟩:=f6 (i+d) o (S6 C);refine⟨?_,h1.2.trans (BQ T bm)⟩;obtain⟨_,_,_,O⟩:=bm;rcases O with⟨_,_,_,_,O⟩|⟨_,_,_,_,_,O⟩|⟨_,_,_,_,O⟩|⟨_,_,_,_,mv,m',_,_,_,cl,O⟩
    .show _<=(M (i+d+1)).hi;rw[O];exact h1.1
    .show _<=(M (i+d+1)).hi;rw[O];exact h1.1
    .exact C5 h1.1 O
    .exact C5 h1.1 (A0K O cl)
 have E:∀ i j,i<=j->j<=ops.size->(M i).hi<=(M j).hi/\(M i).lg.le (M j).lg:=fun i j h1 O=>by
  have:=bb i A2 (j-i) A2
  rwa[show i+(j-i)=j by omega]at this
 constructor
 .have:=E 0 ops.size A2 (A6 _);rw[f2,f5]at this;exact this
 .intro z ao a0 w id Q cj ay ai hQ;have g:Rg P base gl nt call ops F M V R X B:=⟨fun i o C=>(f6 i o (S6 C)).1,fun i o C=>(f6 i o (S6 C)).2.2.1,fun i o C=>(f6 i o (S6 C)).2.2.2,fun i o C=>(f6 i o (S6 C)).2.1,dy,bt⟩;have cr:∀ i o,ops[i]? = some o->∀ e ∈ o.after.toList,Region.binds .any e=true->e.on<i:=fun i o C=>by
   have:=(hJ _ 0 g.ok i o (S6 C)).1;rw[F4]at this;exact eW this
  refine kL hm ?_;generalize cb:({ w with drawn:=w.drawn+1 }:World)=w1;have aq:w1.heap=w.heap:=by rw[<- cb]
  have bd:w1.os=w.os/\w1.tape=w.tape/\w1.output=w.output:=by rw[<- cb];exact⟨rfl,rfl,rfl⟩
  have au:At P base gl ao (M 0) (M ops.size).hi w1:=by
   rw[f2,f5];exact⟨⟨fun b l h=>ay.hr.dom b l h,fun id hid ab dx=>by
    obtain⟨l,e1,e2,e3⟩:=ay.hr.at_ id hid ab dx;exact⟨l,e1,e2.mono (fun _ _ h=>h) (fun _ _=>by rw[aq]),e3⟩⟩,by rw[aq];exact ay.bs,ay.fr,ay.gr,ay.nh,ay.wb,fun k o A=>by rw[aq];exact ay.gf k o A⟩
  have al:∀ i,i<=ops.size->Sat (M i).lg:=fun i hi=>R6.le cj (by rw[<- f5];exact(E i ops.size hi (A6 _)).2)
  have az:K1 ao (M 0).n (M ops.size).hi:=au.fr;have fin:∀ (ρ:Ren) (a:Act) (w':World),FrR z ρ nt (F ops.size) a->St P base ao ρ (M 0) (M ops.size) w1 w'->Q .normal a w':=fun ρ a w' hf st=>by
   refine hQ ρ a w' (by rw[<- f4];exact hf) ?_;rw[<- f2,<- f5];exact⟨st.ext,st.new,st.nle,st.hle,st.nhi,st.hr,st.wsub,st.wrw,fun k A hb=>by rw[st.keep k (by rw[aq];exact A) hb,aq],by rw[<- aq];exact st.size,⟨st.os.1.trans bd.1,st.os.2.1.trans bd.2.1,st.os.2.2.trans bd.2.2⟩,fun b l h1 O h3=>by rw[<- aq];exact st.blk b l h1 O h3,st.same,fun k A=>by rw[<- aq];exact st.tch k A⟩
  have main:∀ (fuel:Nat) (listed:Array Bool) (lo up:Nat) (K ρ:Ren) (a:Act) (wL w':World),listed.size=ops.size->listed.toList.countP (fun b=>!b)=fuel->mK ops.toList (fun k=>listed.getD k false=true) ->
    Ph ops B M lo up->(up<ops.size->∃ o,ops[up]? = some o/\B up=true)->St P base ao K (M 0) (M lo) w1 wL->At P base gl K (M lo) (M ops.size).hi wL->(∀ q ∈ X lo,listed.getD q.1 false=false->A5j (M lo).H q.2=true)->(∀ k,k<lo->listed.getD k false=false->∃ q ∈ X lo,q.1=k)->(∀ k o,up<=k->ops[k]? = some o->listed.getD k false=true->v8 o.op=true) ->
    Inv z P base gl nt ops F M V lo up K wL (fun k=>listed.getD k false) ρ a w'->iI P z.rd .any ops Q fuel listed a w':=by
   have done:∀ (listed:Array Bool) (lo up:Nat) (K ρ:Ren) (a:Act) (wL w':World),(∀ i,i<ops.size->listed.getD i false=true)->Ph ops B M lo up->(up<ops.size->∃ o,ops[up]? = some o/\B up=true)->St P base ao K (M 0) (M lo) w1 wL->(∀ k o,up<=k->ops[k]? = some o->listed.getD k false=true->v8 o.op=true) ->
     Inv z P base gl nt ops F M V lo up K wL (fun k=>listed.getD k false) ρ a w'->Q .normal a w':=fun listed lo up K ρ a wL w' Y ph I ah L inv=>by
    have cf:up=ops.size:=by
     rcases F7 up ops.size with h|h
     .obtain⟨o,C,hs⟩:=I h
      have:=L up o (A6 _) C (Y up h);rw[EN (g.sb up o C hs)]at this;cases this
     .have:=ph.sz;omega
    subst cf;exact fin ρ a w' (g.last ai.le Y inv) (St.trans az ah (g.heap ph (fun k _ h1 O=>by have O:listed.getD k false=false:=O;rw[Y k h1]at O;cases O) inv))
   intro fuel;induction fuel with
   | zero =>
     intro listed lo up K ρ a wL w' cv bj aw ph I ah ad ct br L inv;have Y:∀ i,i<ops.size->listed.getD i false=true:=fun i hi=>by
      have:=OZ bj i (by simpa [cv]using hi);have O:listed[i]? = some true:=by simpa using this
      simp[B7,O]
     refine⟨?_,done listed lo up K ρ a wL w' Y ph I ah L inv⟩;rw[bP];intro j hj;obtain⟨h1,o,O,_⟩:=mem_ready.1 hj;have an:j<ops.size:=(C9.1 O).1;have h3:=Y j an;have bc:j<listed.size:=A2;simp[B7,bc]at h1 h3;rw[h1]at h3;cases h3
   | succ fuel ih =>
     intro listed lo up K ρ a wL w' cv bj aw ph I ah ad ct br L inv;refine⟨fun dr=>?_,fun i hi=>?_⟩
     ·
      have key:∀ n i,i<n->i<ops.size->listed.getD i false=true:=by
       intro n;induction n with
       | zero=>intro i h;omega
       | succ n bn =>
         intro i dj bp;by_cases h:i<n
         .exact bn i h bp
         .cases W:listed.getD i false with
          | true=>rfl
          | false =>
            exfalso;obtain⟨o,C⟩:=P9 (ops:=ops) bp;have bh:i ∈ Region.ready .any ops listed:=mem_ready.2 ⟨by
             have bc:i<listed.size:=A2;simp[B7,bc]at W ⊢;exact W,o,C,fun e he hb=>by
             have an:=cr i o C e (by simpa using he) hb;exact bn e.on A2 A2⟩
            rw[dr]at bh;cases bh
      exact done listed lo up K ρ a wL w' (fun i hi=>key (i+1) i (J2 i) hi) ph I ah L inv
     .obtain⟨h1,o,C,O⟩:=mem_ready.1 hi;have bp:i<ops.size:=(C9.1 C).1;have af:i<listed.size:=A2;have Z:listed.getD i false=false:=by
       simp[B7,af]at h1 ⊢;exact h1
      have u:∀ k,k≠i->(listed.setIfInBounds i true).getD k false=listed.getD k false:=fun k A=>by
       simp only[B7,F9];rw[A7 (fun e=>A e.symm)]
      have J:(listed.setIfInBounds i true).getD i false=true:=by
       simp[B7,F9,af]
      have hr:∀ e ∈ o.after.toList,Region.binds .any e=true->listed.getD e.on false=true:=fun e he hb=>O e (by simpa using he) hb
      have bg:(listed.setIfInBounds i true).size=ops.size:=by simpa using cv
      have bu:(listed.setIfInBounds i true).toList.countP (fun b=>!b)=fuel:=by
       have hg:listed.toList[i]? = some false:=by
        simp[B7,af]at Z;simp[af,Z]
       have:=DK listed.toList i hg;rw[Array.toList_setIfInBounds];omega
      have bk:mK ops.toList (fun k=>(listed.setIfInBounds i true).getD k false=true):=by
       intro k o' cy A e he hb;by_cases e1:e.on=i
       .rw[e1];exact J
       .show(listed.setIfInBounds i true).getD e.on false=true;rw[u e.on e1];by_cases e2:k=i
        .subst e2;have:ops.toList[k]? = some o:=S6 C;rw[this]at cy;cases cy;exact hr e he hb
        .have A:(listed.setIfInBounds i true).getD k false=true:=A;rw[u k e2]at A;exact aw k o' cy A e he hb
      have bq:∀ k,k ∈ (Y9 ops.toList []).getD i []->listed.getD k false=true:=fun k A=>AJ aw (fun i o C=>by
        have:=(hJ _ 0 g.ok i o C).1;rw[F4]at this;exact eW this) (i+1) i k o (J2 i) (S6 C) hr A
      have an:∀ k,listed.getD k false=true->k<ops.size:=fun k A=>by
       rcases F7 k ops.size with h|h
       .exact h
       .have S:listed[k]? = none:=Array.getElem?_eq_none_iff.2 A2;rw[B7,S]at A;cases A
      have aa:At P base gl K (M lo) (M up).hi wL:=ad.less (E up ops.size ph.sz (A6 _)).1;have go:∀ (y:Ren) (a':Act) (G:World),(up<=i->v8 o.op=true)->Inv z P base gl nt ops F M V lo up K wL (fun k=>(listed.setIfInBounds i true).getD k false) y a' G->iI P z.rd .any ops Q fuel (listed.setIfInBounds i true) a' G:=fun y a' G W av =>
       ih (listed.setIfInBounds i true) lo up K y a' wL G bg bu bk ph I ah ad (fun q W S=>ct q W (by
        by_cases e:q.1=i
        .rw[e,J]at S;cases S
        .rw[u _ e]at S;exact S)) (fun k A S=>by
        by_cases e:k=i
        .subst e;rw[J]at S;cases S
        .rw[u k e]at S;exact br k A S) (fun k p A hp hl=>by
        by_cases e:k=i
        .subst e;rw[C]at hp;cases hp;exact W A
        .rw[u k e]at hl;exact L k p A hp hl) av
      have quiet:∀ r,(up<=i->v8 o.op=true)->dP nt ops.toList (W5 P call o) ((Y9 ops.toList []).getD i []) (R i) (F i) o (M i) (M (i+1)) (V i) r->(∀ b ab,r=some (b,ab)->GD M lo up (fun k=>listed.getD k false) b=some ab)->gO P z.rd ops Q i (fun a' G=>iI P z.rd .any ops Q fuel (listed.setIfInBounds i true) a' G) a w':=fun r W U dm =>
       g.quiet T aa (al (i+1) A2) ai.le inv aw an C Z hr u J U dm fun y a' G av=>go y a' G W av
      rcases F7 i lo with ae|ae
      ·
       obtain⟨q,cm,cg⟩:=br i ae Z;obtain⟨_,_,p,hp,U⟩:=g.inX lo (by have:=ph.sz;have:=ph.le;omega) q cm;rw[cg]at hp U;rw[C]at hp;cases hp;refine quiet q.2 (fun h=>by have:=ph.le;omega) U fun b ab hb=>?_
       refine g.old (z:=z) ph aa ?_
       have:=ct q cm (by rw[cg];exact Z);rw[hb]at this;exact this
      .rcases F7 i up with ba|ba
       ·
        by_cases hex:∃ r,dP nt ops.toList (W5 P call o) ((Y9 ops.toList []).getD i []) (R i) (F i) o (M i) (M (i+1)) (V i) r
        .obtain⟨r,U⟩:=hex;refine quiet r (fun h=>by omega) U fun b ab hb=>?_
         rcases U with⟨_,_,_,_,dn⟩|⟨lg,dk,hw,W,hm,dt⟩
         .rw[dn]at hb;cases hb
         .obtain⟨mv,m',cw,_⟩:=kY W;obtain⟨h3,h4⟩:=(sS cw).2.2.2.2.2 b ab (dt.symm.trans hb);obtain⟨h5,h6⟩:=yW h3;exact g.see (z:=z) (a:=a) (ρ:=ρ) (w:=w') ph aa aw ae ba C hr b h6 _ h5 h4
        .exact g.step ph T aa (al up ph.sz) ai.le inv aw an ae ba C Z hr u J hex fun y a' G av=>go y a' G (fun h=>by omega) av
       .obtain⟨os,bw,ax⟩:=I A2;rcases F7 up i with ds|dh
        ·
         have A:v8 o.op=true:=by
          rcases ND (g.sb up os bw ax) i o ds C with h|h
          .have h3:=L up os (A6 _) bw (bq up h);rw[EN (g.sb up os bw ax)]at h3;cases h3
          .exact h
         exact quiet none (fun _=>A) (g.kind C A) fun b ab hb=>by cases hb
        ·
         have cd:i=up:=A2;subst cd;rw[C]at bw;cases bw;have ag:∀ k,k<i->listed.getD k false=false->∃ q ∈ X i,q.1=k:=fun k A S=>by
          rcases NE (g.sb i o C ax) k A with h|h
          .rw[bq k h]at S;cases S
          .exact h
         have q2:=g.heap ph (fun k _ A S=>by
          obtain⟨q,W,e⟩:=ag k A S;obtain⟨_,_,p,hp,U⟩:=g.inX i A2 q W;rw[e]at U;exact CE U) inv
         have dp:St P base ao ρ (M 0) (M i) w1 w':=St.trans (az.less (E i ops.size A2 (A6 _)).1) ah q2;have ar:At P base gl ρ (M i) (M ops.size).hi w':=ad.step q2;obtain⟨d1,d2,d3,bm⟩:=g.st i o C;have bz:∀ t,t ∈ V4 ops.toList o->t<nt->VR ρ ((F i).get t) (a.tmps.getD t undef):=fun t ht dz=>by
          rw[<- g.look ai.le aw an C Z hr ht dz];exact inv.frm t dz
         have dq:FR ρ (F i) a.eval o.op:=fun x hx=>by
          have bt:okX nt gl x=true:=D4.1 d2 x hx;cases x with
          | tmp t=>exact bz t (wW hx rfl) (A1 bt)
          | const v=>exact VR.ofC bt
          | global gg=>exact VR.ptr (o:=0) (ar.gr gg (A1 bt))
          | func f=>exact .func (a:=[]) (b:=[]) (a':=[]) (b':=[]) rfl rfl (fun i v v' h=>by simp at h) (fun i v v' h=>by simp at h)
         have cz:∀ lg b,aZ nt (F i) (M i).lg ops.toList o=some (b,lg)->Sat lg->Region.wanted o (yielded ops a.tmps)=b:=fun lg b hw cu=>by
          unfold aZ at hw;split at hw
          .rename_i hg;cases hw;simp[Region.wanted,hg]
          .rename_i j want hg;split at hw
           .rename_i p hp;split at hw
            .rename_i t ht;obtain⟨h1,O⟩:=A3 hw;have h1:t<nt:=A1 h1;have hv:=bz t (by
              unfold V4;refine B5.2 (.inr (B5.2 (.inr ?_)));simp[hg,hp,ht]) h1
             exact mO hg hp ht (by rw[inv.tsz];exact h1) (pI O hv cu)
            .cases hw
           .cases hw
         have bl:∀ (y:Ren) (v':Value),(∀ b l,ρ b=some l->y b=some l)->VR y (V i) v'->∀ t,t<nt->VR y (aK (fun k=>(listed.setIfInBounds i true).getD k false) (fun k=>(ops[k]?).bind (·.dst)) V (F 0).get t ops.size) ((a.put o.dst v').tmps.getD t undef):=fun y v' he hv t ht=>by
          by_cases hd:o.dst=some t
          .have ak:∀ k,i<k->k<ops.size->(ops[k]?).bind (·.dst)=some t->listed.getD k false=false:=fun k di A ch=>by
            obtain⟨p,hp⟩:=P9 (ops:=ops) A;rw[hp]at ch
            have:=g.slot aw an C Z hr (t:=t) (by unfold V4;simp[hd]) k p hp A2 ch;cases W:listed.getD k false with
            | false=>rfl
            | true=>have:=this.1 W;omega
           rw[rV (D:=fun k=>listed.getD k false) u J ops.size bp (by simp[C,hd]) ak];simp only[hd,Act.put,B7];rw[F9,A9 rfl,A9 (by rw[inv.tsz];exact ht)];exact hv
          .rw[oJ (D:=fun k=>listed.getD k false) u (by simp[C];exact hd)];have h1:=(inv.frm t ht).mono he;cases cq:o.dst with
           | none=>exact h1
           | some d =>
             have dw:d≠t:=fun e=>hd (e▸cq)
             simp only[Act.put,B7]at h1 ⊢;rw[F9,A7 dw];exact h1
         have hX:X (i+1)=X i/\A0c ((Y9 ops.toList []).getD i []) (M (i+1)).H (X i)=true:=by
          rcases g.qs i o C with⟨_,h3,h4⟩|⟨h3,_⟩|⟨h3,_⟩
          .exact⟨h3,h4⟩
          .rw[ax]at h3;cases h3
          .rw[ax]at h3;cases h3
         have ak:∀ (y:Ren) (v':Value) (G:World),VR y (V i) v'->St P base ρ y (M i) (M (i+1)) w' G->iI P z.rd .any ops Q fuel (listed.setIfInBounds i true) (a.put o.dst v') G:=fun y v' G hv aj=>by
          obtain⟨du,u1,u2,u3,u4⟩:=sX ops B (ops.size-(i+1)) (i+1) A2;have bf:=ar.step aj;refine ih (listed.setIfInBounds i true) (i+1) du y y _ G G bg bu bk ⟨u1,u2,bf.nh,u3⟩ u4 (St.trans (az.less (E (i+1) ops.size A2 (A6 _)).1) dp aj) bf (fun q W S=>?_) (fun k A S=>?_) (fun k p A hp hl=>?_)
           (g.fresh (fun k A hl=>?_) aj.hr ?_ ?_ (bl y v' aj.ext hv))
          .rw[hX.1]at W;have h5:=D4.1 hX.2 q W;rcases I9 _ _▸h5 with h5|h5
           .exfalso;have h6:=bq q.1 (V8.1 h5);by_cases e:q.1=i
            .rw[e,Z]at h6;cases h6
            .rw[u _ e,h6]at S;cases S
           .exact h5
          .rw[hX.1];by_cases e:k=i
           .subst e;rw[J]at S;cases S
           .rw[u k e]at S;exact ag k A2 S
          .rw[u k A2]at hl;exact L k p A2 hp hl
          .have hl:(listed.setIfInBounds i true).getD k false=true:=hl;rw[u k A2]at hl;obtain⟨p,hp⟩:=P9 (ops:=ops) (an k hl);exact CE (g.kind hp (L k p A2 hp hl))
          .cases cq:o.dst<;>simp[Act.put,inv.tsz]
          .rw[eJ];exact inv.dfr.congr aj.ext fun _=>⟨rfl,rfl⟩
         unfold gO;simp only[C];rcases bm with⟨N,_⟩|⟨N,_⟩|⟨_,lg,hw,bx,cl⟩|⟨N,_⟩
         .rw[ax]at N;cases N
         .rw[ax]at N;cases N
         .have cn:=al (i+1) A2;have cu:Sat lg:=R6.le cn (by have:=u9 T bx;rw[d7]at this;exact this);rw[cz lg true hw cu];simp only[if_true];have cp:At P base gl ρ ((M i).wLg lg) (M (i+1)).hi w':=(ar.wLg lg).less (E (i+1) ops.size A2 (A6 _)).1;refine pX T bx cn cp dq fun v' y G hv aj=>ak y v' G hv ?_
          have ca:=St.wLg (m:=M i) ar.hr lg;exact St.trans (by have:=ar.fr;exact this.less (E (i+1) ops.size A2 (A6 _)).1) ca aj
         .rw[ax]at N;cases N
  obtain⟨up,u1,u2,u3,u4⟩:=sX ops B ops.size 0 A2;have bo:∀ k,(Array.replicate ops.size false).getD k false=false:=fun k=>by
   simp only[B7,gM];split<;>simp
  refine main ops.size _ 0 up ao ao a0 w1 w1 (by simp) (by simp[List.countP_replicate]) (fun k o C A=>by have A:(Array.replicate ops.size false).getD k false=true:=A;rw[bo k]at A;cases A) ⟨u1,u2,au.nh,u3⟩ u4 (St.refl au.hr) au (fun q W=>by rw[g.x0]at W;cases W) (fun k A=>by omega) (fun k o A C hl=>by rw[bo k]at hl;cases hl)
   (g.fresh (fun k _ hl=>by have hl:(Array.replicate ops.size false).getD k false=true:=hl;rw[bo k]at hl;cases hl) au.hr ai.size (by rw[f1];exact ai.zr) fun t ht=>?_)
  have h0:∀ n,aK (fun k=>(Array.replicate ops.size false).getD k false) (fun k=>(ops[k]?).bind (·.dst)) V (F 0).get t n=(F 0).get t:=by
   intro n;induction n with
   | zero=>rfl
   | succ n bn=>rw[aK,A7 (fun hh=>by rw[bo n]at hh;exact absurd hh.1 (by simp)),bn]
  rw[h0,f1];exact ai.get t ht
end
end
section
open Go
variable [Ora]
section
variable {P:Program} {base gl:Nat}
def wM{f:FuncId}{e:V9->Sem Value}{args:V9}{w w':World}{v:Value}(i:P.funcs[f]? = some fn)(b:(fn.name == "runtime.NumGoroutine")=false)(d:fn.body=none)(g:Extern.findNext fn=none)(he:Extern.find fn=some e)
  (hr:(e args).run P w=.ok v w'):(callFunc f args).run P w=.ok (.value v) w':=by
 have a:fn.name ≠ "runtime.NumGoroutine":=by simpa using b
 simp[callFunc,A4,run_program,Result.andThen,i,a,d,g,he,mark,Sem.run,hr]
def lX{k:EK}{vs:D2}{v:Value}(h:oN k vs m=some (v,m')) :
  (k=.noEscape/\vs=[v]/\m'=m) ∨
  (k=.indexByteString/\∃ s c,vs=[.string s,.int .u8 (.ofNat c)]/\v=.int .i64 (tH s.data.toList (UInt8.ofNat c) 0)/\m'=m) ∨
  (k=.countString/\∃ s c,vs=[.string s,.int .u8 (.ofNat c)]/\v=.int .i64 (tT (UInt8.ofNat c) s.data.toList 0)/\m'=m) ∨
  (∃ e n,k=.makeNoZero e/\vs=[.int .i64 (.ofNat n)]/\n<=1000000000/\Z3 m (.cells [] e false) (fun b=>.slice (some ⟨b,0,none⟩) n M9)=some (v,m')):=by
 unfold oN at h;split at h
 .cases h;exact .inl ⟨rfl,rfl,rfl⟩
 .cases h;exact .inr (.inl ⟨rfl,_,_,rfl,rfl,rfl⟩)
 .cases h;exact .inr (.inr (.inl ⟨rfl,_,_,rfl,rfl,rfl⟩))
 .obtain⟨h1,h⟩:=A3 h;exact .inr (.inr (.inr ⟨_,_,rfl,rfl,A1 h1,h⟩))
 .cases h
def wN{k:EK}{vs:D2}{v:Value}(h:(FnC.mk (oN k)).run vs m=some (v,m')):m.lg.le m'.lg:=by
 have h:oN k vs m=some (v,m'):=h;rcases lX h with⟨_,_,rfl⟩|⟨_,_,_,_,_,rfl⟩|⟨_,_,_,_,_,rfl⟩|⟨_,_,_,_,_,h⟩
 .exact .refl _
 .exact .refl _
 .exact .refl _
 .obtain⟨_,_,rfl⟩:=L6 h;exact .refl _
def JQ{f:FuncId}(i:P.funcs[f]? = some fn)(b:(fn.name == "runtime.NumGoroutine")=false)(d:fn.body=none)(g:Extern.findNext fn=none)(he:Extern.find fn=some Extern.AbiNoEscape.same):mJ P base gl f ⟨oN .noEscape⟩:=by
 refine⟨fun vs m m' v hr=>wN hr,?_⟩;intro ρ m m' w vs vs' v hr l a j;have hr:oN .noEscape vs m=some (v,m'):=hr;rcases lX hr with⟨_,rfl,rfl⟩|⟨h,_⟩|⟨h,_⟩|⟨_,_,h,_⟩
 .obtain⟨v',k,rfl,h1,e⟩:=j.tail;cases e.nil_inv;exact .inr ⟨v',ρ,w,wM i b d g he rfl,h1,.refl a.hr⟩
 .cases h
 .cases h
 .cases h
def CX(c:UInt8):∀ (l:List UInt8) (k:Nat),tH l c k=if Lib.indexByte l c == -1 then -1 else Lib.indexByte l c+k
 | [],k=>rfl
 | x::r,k=>by
   have f:=Lib.indexByte_ge r c;have d:=CX c r (k+1);rw[tH,Lib.indexByte];by_cases e:x=c
   .subst e;simp
   .have a:(x == c)=false:=by simpa using e
    simp only[a,D8 e,D7];rw[d];by_cases h:Lib.indexByte r c = -1
    .simp[h]
    .have b:(Lib.indexByte r c == -1)=false:=by simpa using h
     have h3:(Lib.indexByte r c+1 == -1)=false:=by simp;omega
     simp only[b,h3,J6,if_false];omega
def OM(c:UInt8)(l:List UInt8):tH l c 0=Lib.indexByte l c:=by
 rw[CX];by_cases h:Lib.indexByte l c = -1
 .simp[h]
 .have a:(Lib.indexByte l c == -1)=false:=by simpa using h
  simp[a]
def oQ(c:UInt8):∀ (l:List UInt8) (n:Nat),tT c l n=n+l.count c
 | [],n=>rfl
 | x::r,n=>by
   rw[tT,List.count_cons];by_cases e:x=c
   .subst e;simp only[decide_true,E3,E7,beq_self_eq_true,if_true];rw[oQ x r (n+1)];omega
   .have a:(x == c)=false:=by simpa using e
    simp only[D8 e,D7,a,J6,if_false];rw[oQ c r n];omega
def FV{f:FuncId}(i:P.funcs[f]? = some fn)(b:(fn.name == "runtime.NumGoroutine")=false)(d:fn.body=none)(g:Extern.findNext fn=none)(he:Extern.find fn=some Extern.BytealgIndexByte.indexByte):mJ P base gl f ⟨oN .indexByteString⟩:=by
 refine⟨fun vs m m' v hr=>wN hr,?_⟩;intro ρ m m' w vs vs' v hr n a k;have hr:oN .indexByteString vs m=some (v,m'):=hr;rcases lX hr with⟨h,_⟩|⟨_,s,c,rfl,rfl,rfl⟩|⟨h,_⟩|⟨_,_,h,_⟩
 .cases h
 .obtain⟨v1,r1,rfl,h1,e⟩:=k.tail;obtain⟨v2,l,rfl,h3,j⟩:=e.tail;cases j.nil_inv;cases U6 h1;cases J3 h3;refine .inr ⟨_,ρ,w,wM i b d g he (Lib.run_indexByteString s (.ofNat c) w),?_,.refl a.hr⟩;rw[OM];exact .pure rfl
 .cases h
 .cases h
def zO{f:FuncId}(i:P.funcs[f]? = some fn)(b:(fn.name == "runtime.NumGoroutine")=false)(d:fn.body=none)(g:Extern.findNext fn=none)(he:Extern.find fn=some Extern.BytealgCount.count):mJ P base gl f ⟨oN .countString⟩:=by
 refine⟨fun vs m m' v hr=>wN hr,?_⟩;intro ρ m m' w vs vs' v hr n a k;have hr:oN .countString vs m=some (v,m'):=hr;rcases lX hr with⟨h,_⟩|⟨h,_⟩|⟨_,s,c,rfl,rfl,rfl⟩|⟨_,_,h,_⟩
 .cases h
 .cases h
 .obtain⟨v1,r1,rfl,h1,e⟩:=k.tail;obtain⟨v2,l,rfl,h3,j⟩:=e.tail;cases j.nil_inv;cases U6 h1;cases J3 h3;refine .inr ⟨_,ρ,w,wM i b d g he (Lib.run_countString s (.ofNat c) w),?_,.refl a.hr⟩;rw[oQ,F4];exact .pure rfl
 .cases h
def BE{f:FuncId}{ps:Array TypeId}{t e:TypeId}(y:P.funcs[f]? = some fn)(j:(fn.name == "runtime.NumGoroutine")=false)(k:fn.body=none)(x:Extern.findNext fn=none)(he:Extern.find fn=some (Extern.BytealgMakeNoZero.makeNoZero ps #[t]))
  (hu:P.underlying t=some (.slice e)) (hi:(P.info? e).map (·.size)=some 1):mJ P base gl f ⟨oN (.makeNoZero e)⟩:=by
 refine⟨fun vs m m' v hr=>wN hr,?_⟩;intro ρ m m' w vs vs' v hr A a z;have hr:oN (.makeNoZero e) vs m=some (v,m'):=hr;rcases lX hr with⟨h,_⟩|⟨h,_⟩|⟨h,_⟩|⟨e',n,h,rfl,p,hr⟩
 .cases h
 .cases h
 .cases h
 .cases h;obtain⟨v1,r1,rfl,h1,g⟩:=z.tail;cases g.nil_inv;cases J3 h1;obtain⟨cs,d,hle,_⟩:=Lib.run_makeNoZero (P:=P) w ps t e hu n A2;obtain⟨l,q,s⟩:=dU (wd:=w.drew.drew) (fz:=(0,0)) (cap:=cs.size) (C:=cs) (cs':=[]) a.hr a.bs hr a.fr (.nil) (fun i u hi=>by simp at hi) NF.zero
   (fun inf g=>by rw[g]at hi;have hi:some inf.size=some 1:=hi;have hi:=A8 hi;rw[hi];omega) ⟨rfl,rfl,rfl⟩ rfl
  refine .inr ⟨_,_,_,wM y j k x he d,?_,s⟩;rw[l]
  have:=VR.op (ρ:=upd ρ m.n (lc w.heap.size 0 cs.size)) (b:=m.n) (o:=0) (n:=n) (m:=M9) (m':=cs.size) q (A6 _) hle (fun _ _=>rfl)
  simpa using this
end
end
section
open Go
variable [Ora]
structure AL (P:Program) (f:FuncId) (k:EK):Prop where
 row:∃ fn,P.funcs[f]? = some fn/\(fn.name == "runtime.NumGoroutine")=false/\fn.body=none/\Extern.findNext fn=none /\
  ((k=.noEscape/\Extern.find fn=some Extern.AbiNoEscape.same)∨(k=.indexByteString/\Extern.find fn=some Extern.BytealgIndexByte.indexByte)∨(k=.countString/\Extern.find fn=some Extern.BytealgCount.count) ∨
    (∃ e ps t,k=.makeNoZero e/\Extern.find fn=some (Extern.BytealgMakeNoZero.makeNoZero ps #[t])/\P.underlying t=some (.slice e)/\(P.info? e).map (·.size)=some 1))
def AL.ok{P:Program}{f:FuncId}{k:EK}{base gl:Nat}(h:AL P f k):mJ P base gl f ⟨oN k⟩:=by
 obtain⟨fn,h1,d,h3,b,a⟩:=h.row;rcases a with⟨rfl,a⟩|⟨rfl,a⟩|⟨rfl,a⟩|⟨e,ps,t,rfl,a,g,i⟩
 .exact JQ h1 d h3 b a
 .exact FV h1 d h3 b a
 .exact zO h1 d h3 b a
 .exact BE h1 d h3 b a g i
def DF:∀ {l:List (FuncId×EK)} {f:FuncId} {k:EK},KZ l f=some k->(f,k) ∈ l
 | (g,j)::r,f,k,h=>by
   rw[KZ]at h;cases e:Nat.beq g f with
   | true =>
     rw[e]at h;cases h;rw[A0 e];exact .head _
   | false =>
     rw[e]at h;exact .tail _ (DF h)
theorem A38{P:Program}{ext:List (FuncId×EK)}{gl base:Nat}{con:FuncId->Option FnC}{lp:FuncId->LpT}(hm:P.follows .mixedOrders=true)(a:HB P)(he:∀ p ∈ ext,AL P p.1 p.2)
  (d:∀ f c,con f=some c->mJ P base gl f c) (b:∀ f fn body,P.funcs[f]? = some fn->fn.body=some body->PO P base gl fn.ntmps body (lp f)) :
  A4X ⟨P,ext,gl,con,lp⟩ base :=
 { names:=a,ext:=fun f k fn _ _ h=>(he _ (DF h)).ok,con:=d,lp:=b,draws:=fun _ h=>A1d hm h }
end
section
open Go
inductive Sh where
 | s (t:Nat)
 | a (ts:List Nat)
def HP(t:Nat)(u:U):Q6:=if G1 u=t then toV u else none
def TN:H1->List U->Option (D2×List U)
 | [],us=>some ([],us)
 | t::ts,u::us=>match HP t u,TN ts us with
   | some v,some (vs,r)=>some (v::vs,r)
   | _,_=>none
 | _::_,[]=>none
def HO:Sh->List U->Option (Value×List U)
 | .s t,u::us=>match HP t u with
   | some v=>some (v,us)
   | none=>none
 | .s _,[]=>none
 | .a ts,us=>match TN ts us with
   | some (vs,r)=>some (.agg ⟨vs⟩,r)
   | none=>none
def TM:List Sh->List U->Option D2
 | [],[]=>some []
 | [],_::_=>none
 | h::hs,us=>match HO h us with
   | some (v,r)=>match TM hs r with
     | some vs=>some (v::vs)
     | none=>none
   | none=>none
def tup:D2->Value
 | [v]=>v
 | vs=>.tuple ⟨vs⟩
structure mI (w w':World):Prop where
 os:w'.os=w.os/\w'.tape=w.tape/\w'.output=w.output
 size:w.heap.size<=w'.heap.size
 keep:∀ k,k<w.heap.size->w'.heap[k]? = w.heap[k]?
def GOk(G:Nat->Option Obj)(w:World):Prop:=∀ k o,G k=some o->w.heap[k]? = some o
def GOk.lt{G:Nat->Option Obj}{w:World}(h:GOk G w){k:Nat}{o:Obj}(a:G k=some o):k<w.heap.size:=by
 have:=h k o a;rcases F7 k w.heap.size with h1|h1
 .exact h1
 .rw[Array.getElem?_eq_none h1]at this;cases this
abbrev cV:=List U->Option (Nat×List U)
def Sh.tags:Sh->H1
 | .s t=>[t]
 | .a ts=>ts
def BP:List Sh->H1
 | []=>[]
 | s::ss=>s.tags++BP ss
def Sh.n(s:Sh):Nat:=s.tags.length
def shN:List Sh->Nat
 | []=>0
 | h::hs=>h.n+shN hs
def mA(a:List Sh):Bool:=(BP a).any (Nat.ble 10)
inductive ShR (R:Nat->Option Obj):Sh->List U->Value->Prop
 | s {t u v} (h:Enc R u v) (ht:G1 u=t):ShR R (.s t) [u] v
 | a {ts us cs} (h:Z0 R us cs) (ht:us.map G1=ts):ShR R (.a ts) us (.agg ⟨cs⟩)
inductive ShL (R:Nat->Option Obj):List Sh->List U->D2->Prop
 | nil:ShL R [] [] []
 | cons {s ss us us2 v vs} (h:ShR R s us v) (k:ShL R ss us2 vs):ShL R (s::ss) (us++us2) (v::vs)
def Z0.append{R:Nat->Option Obj}{us a:List U}{vs:D2}(h:Z0 R us vs)(k:Z0 R a vs2):Z0 R (us++a) (vs++vs2):=by
 refine⟨by simp[h.1,k.1],fun i u v h1 d=>?_⟩;rcases F7 i us.length with b|b
 .rw[F2 b]at h1;rw[F2 (h.1▸b)]at d;exact h.2 i u v h1 d
 .rw[E0 b]at h1;rw[E0 (h.1▸b),<- h.1]at d;exact k.2 _ u v h1 d
def Z0.split{R:Nat->Option Obj}:∀ {vs vs2:D2} {us:List U},Z0 R us (vs++vs2)->∃ a b,us=a++b/\Z0 R a vs/\Z0 R b vs2
 | [],vs2,us,h=>⟨[],us,rfl,.nil,h⟩
 | v::vs,vs2,[],h=>by have:=h.1;simp at this
 | v::vs,vs2,u::us,h=>by
   obtain⟨a,b,rfl,h1,d⟩:=Z0.split (vs:=vs) (vs2:=vs2) (us:=us) ⟨by have:=h.1;simpa using this,fun i x y e a2=>h.2 (i+1) x y (by simpa using e) (by simpa using a2)⟩;exact⟨u::a,b,rfl,.cons (h.2 0 u v rfl rfl) h1,d⟩
def Z0.mono{R d:Nat->Option Obj}{us:List U}{vs:D2}(h:Z0 R us vs)(k:Sub R d):Z0 d us vs:=⟨h.1,fun i u v a b=>(h.2 i u v a b).mono k⟩
def HS{R:Nat->Option Obj}:∀ {ts:H1} {us r:List U} {vs:D2},TN ts us=some (vs,r)->∃ a,us=a++r/\Z0 R a vs/\a.map G1=ts
 | [],us,r,vs,h=>by cases h;exact⟨[],rfl,.nil,rfl⟩
 | t::ts,u::us,r,vs,h=>by
   unfold TN at h;split at h
   .rename_i v g i h1 f;cases h;obtain⟨a,rfl,b,d⟩:=HS (R:=R) f;unfold HP at h1;split at h1
    .rename_i e;exact⟨u::a,rfl,.cons (.sc h1) b,by simp[e,d]⟩
    .cases h1
   .cases h
 | _::_,[],_,_,h=>by cases h
def TL{R:Nat->Option Obj}{s:Sh}{us r:List U}{v:Value}(h:HO s us=some (v,r)):∃ a,us=a++r/\ShR R s a v:=by
 cases s with
 | s t =>
   cases us with
   | nil=>cases h
   | cons u us =>
     simp only[HO]at h;split at h
     .rename_i v1 hv;cases h;unfold HP at hv;split at hv
      .rename_i f;exact⟨[u],rfl,.s (.sc hv) f⟩
      .cases hv
     .cases h
 | a ts =>
   simp only[HO]at h;split at h
   .rename_i vs g hv;cases h;obtain⟨a,b,d,e⟩:=HS (R:=R) hv;exact⟨a,b,.a d e⟩
   .cases h
def xH{R:Nat->Option Obj}:∀ {b:List Sh} {us:List U} {vs:D2},TM b us=some vs->ShL R b us vs
 | [],[],vs,h=>by cases h;exact .nil
 | [],_::_,_,h=>by cases h
 | s::b,us,vs,h=>by
   unfold TM at h;split at h
   .rename_i v r hv;split at h
    .rename_i f d;cases h;obtain⟨a,rfl,e⟩:=TL (R:=R) hv;exact .cons e (xH d)
    .cases h
   .cases h
def A1Y{R:Nat->Option Obj}{us:List U}{vs:D2}(h:Z0 R us vs)(a:vs2.length=us.length)(k:∀ (i:Nat) (u:U) (v:Value),us[i]? = some u->vs2[i]? = some v->toV u=some v):vs=vs2:=by
 refine gD fun i=>?_
 rcases F7 i us.length with hi|hi
 .have h1:us[i]? = some us[i]:=A5 hi;have b:vs[i]? = some (vs[i]'(h.1▸hi)):=A5 _;have h3:vs2[i]? = some (vs2[i]'(a▸hi)):=A5 _;rw[b,h3,fT (h.2 i _ _ h1 b) (k i _ _ h1 h3)]
 .rw[T7 (by rw[<- h.1];exact hi),T7 (by rw[a];exact hi)]
def HQ:∀ {ts:H1} {us r:List U} {vs:D2},TN ts us=some (vs,r)->∃ a,us=a++r/\vs.length=a.length/\a.length=ts.length/\∀ (i:Nat) (u:U) (v:Value),a[i]? = some u->vs[i]? = some v->toV u=some v
 | [],us,r,vs,h=>by cases h;exact⟨[],rfl,rfl,rfl,fun i u v h=>by simp at h⟩
 | t::ts,u::us,r,vs,h=>by
   unfold TN at h;split at h
   .rename_i v j k h1 e;cases h;obtain⟨a,rfl,d,f,g⟩:=HQ e;unfold HP at h1;split at h1
    .refine⟨u::a,rfl,by simp[d],by simp[f],fun i x y b a2=>?_⟩;cases i with
     | zero=>simp at b a2;subst b;subst a2;exact h1
     | succ i=>exact g i x y (by simpa using b) (by simpa using a2)
    .cases h1
   .cases h
 | _::_,[],_,_,h=>by cases h
def U9{R:Nat->Option Obj}:∀ {i:List Sh} {us:List U} {vs vs2:D2},ShL R i us vs->TM i us=some vs2->vs=vs2
 | [],us,vs,vs2,h,k=>by cases h;cases k;rfl
 | s::i,us,vs,vs2,h,k=>by
   cases h with
   | cons h1 j =>
     rename_i d f v vs;unfold TM at k;split at k
     .rename_i v1 r hv;split at k
      .rename_i z n;cases k;have l:d++f=d++f:=rfl;cases h1 with
       | s he g =>
         rename_i t u;have b:(match HP t u with|some v=>some (v,f)|none=>none)=some (v1,r):=hv;cases e:HP t u with
         | none=>rw[e]at b;cases b
         | some w =>
           rw[e]at b;cases b;unfold HP at e;rw[A9 g]at e;rw[fT he e,U9 j n]
       | a he g =>
         rename_i ts cs;simp only[HO]at hv;split at hv
         .rename_i p C A;cases hv;obtain⟨a,o,q,x,y⟩:=HQ A;have hlen:a.length=d.length:=by rw[x,<- g];simp
          obtain⟨rfl,rfl⟩:=List.append_inj o hlen.symm;rw[A1Y he q y,U9 j n]
         .cases hv
      .cases k
     .cases k
def M1(P:Program)(G:Nat->Option Obj)(f:FuncId)(ps:List Sh)(spec:cV)(rs:List Sh):Prop :=
 ∀ (us outs:List U) (w:World) (vs:List Value) (R:Nat->Option Obj),ShL R ps us vs->spec us=some (0,outs)->GOk G w->GOk R w ->
  (callFunc f ⟨vs⟩).run P w=.ok (.enter f ⟨vs⟩) w/\Calls P f ⟨vs⟩ w (fun e w'=>∃ r a,ShL a rs outs r/\e=.returned (tup r)/\mI w w'/\GOk a w'/\∀ k o,a k=some o->w.heap.size<=k∨∃ o',R k=some o')
def unA:List Sh->D2->Option D2
 | [],[]=>some []
 | .s _::ss,v::vs=>match unA ss vs with
   | some r=>some (v::r)
   | none=>none
 | .a ts::ss,.agg cs::vs=>bif Nat.beq cs.toList.length ts.length then match unA ss vs with
   | some r=>some (cs.toList++r)
   | none=>none else none
 | _,_=>none
def pU(P:Program)(ps:List Sh)(vs:List Value)(m:Mem):Option (D2×Mem) :=
 match unA ps vs with
 | some cs=>match AO (tdP P) (BP ps) cs m with
   | some (xs,[],m)=>some (xs,m)
   | some (xs,gs,m)=>match jT gs m with
     | some (_,m)=>some (xs,m)
     | none=>none
   | none=>none
 | none=>none
def SD(i t b:Nat):Value:=bif Nat.blt t 10 then hole i t else dat b i t
def VX:H1->Nat->Nat->D2
 | [],_,_=>[]
 | t::ts,i,b=>SD i t b::VX ts (i+1) b
def A63:Sh->Nat->Nat->Value
 | .s t,i,b=>SD i t b
 | .a ts,i,b=>.agg ⟨VX ts i b⟩
def wV:List Sh->Nat->Nat->D2
 | [],_,_=>[]
 | h::hs,i,b=>A63 h i b::wV hs (i+h.n) b
def UE(rs:List Sh)(nx:Nat)(m:Mem):Res :=
 bif mA rs then match gG m fun b m=>some (tup (wV rs nx b),b,m)with
  | some (v,_,m)=>some (v,m)
  | none=>none
 else some (tup (wV rs nx 0),m)
def B0Q(m:Mem)(hi:Nat)(v:Value)(lg:Lg):Res :=
 match m with
 | ⟨H,n,W,_,_⟩=>some (v,⟨H,n,W,hi,lg⟩)
def A4D(P:Program)(ps:List Sh)(spec:cV)(rs:List Sh):FnC:=⟨fun vs m =>
 match pU P ps vs m with
 | some (xs,⟨H,n,W,hi,⟨nx,pi,log⟩⟩)=>J8 nx fun nx=>R1 xs fun xs=>J8 (nx+shN rs) fun a=>bif mA rs then UE rs nx ⟨H,n,W,hi,⟨a,pi,.con spec xs nx 0 (shN rs)::log⟩⟩else B0Q m hi (tup (wV rs nx 0)) ⟨a,pi,.con spec xs nx 0 (shN rs)::log⟩
 | none=>none⟩
def TA{P:Program}{ps:List Sh}{spec:cV}{rs:List Sh}{vs:D2}{v:Value}(h:(A4D P ps spec rs).run vs m=some (v,m')) :
  ∃ xs m1,pU P ps vs m=some (xs,m1)/\((mA rs=true/\UE rs m1.lg.nx (m1.wLg ⟨m1.lg.nx+shN rs,m1.lg.pi,.con spec xs m1.lg.nx 0 (shN rs)::m1.lg.log⟩)=some (v,m'))∨(mA rs=false/\v=tup (wV rs m1.lg.nx 0)/\m'=⟨m.H,m.n,m.W,m1.hi,⟨m1.lg.nx+shN rs,m1.lg.pi,.con spec xs m1.lg.nx 0 (shN rs)::m1.lg.log⟩⟩)):=by
 unfold A4D at h;simp only at h;split at h
 .rename_i xs H n W hi nx pi log hx;simp only[E7,H9]at h;refine⟨xs,_,hx,?_⟩;cases a:mA rs with
  | true=>rw[a]at h;exact .inl ⟨rfl,h⟩
  | false =>
    rw[a]at h;obtain⟨f,e,g,d,b⟩:=m;cases h;exact .inr ⟨rfl,rfl,rfl⟩
 .cases h
variable [Ora]
def MN{ρ:Ren}:∀ {b:List Sh} {vs vs' cs:D2},unA b vs=some cs->LR ρ vs vs'->∃ cs',unA b vs'=some cs'/\LR ρ cs cs'
 | [],[],vs',cs,h,hl=>by cases h;rw[hl.nil_inv];exact⟨[],rfl,.nil⟩
 | [],_::_,_,_,h,_=>by cases h
 | .s t::b,[],_,_,h,_=>by cases h
 | .a t::b,[],_,_,h,_=>by cases h
 | .s t::b,v::vs,vs',cs,h,hl=>by
   obtain⟨v',k,rfl,h1,e⟩:=hl.tail;unfold unA at h;split at h
   .rename_i r hr;cases h;obtain⟨cs',d,f⟩:=MN hr e;exact⟨v'::cs',by simp[unA,d],.cons h1 f⟩
   .cases h
 | .a ts::b,v::vs,vs',cs,h,hl=>by
   obtain⟨v',k,rfl,h1,e⟩:=hl.tail;cases v with
   | agg c =>
     unfold unA at h;obtain⟨hlen,h⟩:=A3 h;split at h
     .rename_i r hr;cases h;obtain⟨cs',d,f⟩:=MN hr e;obtain⟨j,rfl,i⟩:=V6 h1;refine⟨j++cs',?_,i.append f⟩;have g:Nat.beq j.length ts.length=true:=by rw[<- i.1];exact hlen
      simp[unA,d,g]
     .cases h
   | _=>cases h
def dK{R:Nat->Option Obj}:∀ {e:List Sh} {vs cs:D2} {us:List U},unA e vs=some cs->Z0 R us cs->us.map G1=BP e->ShL R e us vs
 | [],[],cs,us,h,he,ht=>by
   cases h;have:us=[]:=F8.1 he.1;subst this;exact .nil
 | [],_::_,_,_,h,_,_=>by cases h
 | .s t::e,[],_,_,h,_,_=>by cases h
 | .a t::e,[],_,_,h,_,_=>by cases h
 | .s t::e,v::vs,cs,us,h,he,ht=>by
   unfold unA at h;split at h
   .rename_i r hr;cases h;obtain⟨a,b,rfl,d,f⟩:=Z0.split (vs:=[v]) (vs2:=r) he
    match a,d with
    | [u],d =>
      simp only[List.singleton_append,C4,BP,Sh.tags,S4,G4,J5]at ht;exact .cons (.s (d.2 0 u v rfl rfl) ht.1) (dK hr f ht.2)
    | [],d=>have:=d.1;simp at this
    | _::_::_,d=>have:=d.1;simp at this
   .cases h
 | .a ts::e,v::vs,cs,us,h,he,ht=>by
   cases v with
   | agg c =>
     unfold unA at h;obtain⟨hlen,h⟩:=A3 h;have hlen:=A0 hlen;split at h
     .rename_i r hr;cases h;obtain⟨a,b,rfl,d,f⟩:=Z0.split he;simp only[N0,BP,Sh.tags]at ht;obtain⟨t1,t2⟩:=List.append_inj ht (by simp[d.1,hlen]);obtain⟨l⟩:=c;exact .cons (.a d t1) (dK hr f t2)
     .cases h
   | _=>cases h
section
variable {P:Program} {base gl:Nat}
def B1O(ρ:Ren)(m:Mem)(R:Nat->Option Obj):Prop:=∀ k o,R k=some o->∃ id ab l,id<=H6/\Hp.get m.H id=some ab/\ρ id=some l/\Tf ab l k/\ab.rw=false
def HY{ρ:Ren}{w:World}{ps:List Sh}{vs xs:D2}(h:HR P base ρ m.H w)(a:pU P ps vs m=some (xs,m'))(j:K1 ρ m.n m'.hi)(hv:LR ρ vs vs')(D:Sat m'.lg) :
  ∃ d R,St P base ρ d m m' w w/\m.lg.le m'.lg/\ShL R ps (xs.map (D6 Ora.env)) vs'/\GOk R w/\B1O d m' R:=by
 unfold pU at a;split at a
 .rename_i cs t;obtain⟨cs',z,A⟩:=MN t hv;split at a
  .rename_i q m1 u;cases a;obtain⟨d,f,a2,a3,a4,a5,s⟩:=iJ V0 h u j A D;exact⟨d,fun _=>none,f,a2,dK z (s _ fun b p=>by cases p) a5,(fun k o i=>by cases i),(fun k o i=>by cases i)⟩
  .rename_i q gs m1 u;split at a
   .rename_i g m2 C;cases a;have v:=N2 C;obtain⟨I,f,a2,a3,a4,a5,s⟩:=iJ V0 h u (j.less v.1) A (by rw[<- v.2.1];exact D);obtain⟨ρ2,lg,y,N,L,x,E,K⟩:=eP f.hr C (j.step f);have e:=(y.hr.atl x E).1.2;exact⟨ρ2,lg.G,St.trans j f y,by rw[v.2.1];exact a2,dK z (s _ fun b p l J=>K b p l J) a5,e,fun k o i=>⟨g,_,lg,y.hr.dom _ _ x,E,x,⟨rfl,.inr ⟨rfl,o,i⟩⟩,rfl⟩⟩
   .cases a
  .cases a
 .cases a
def KQ{ρ:Ren}{R:Nat->Option Obj}{i t b:Nat}{u:U}{v:Value}(h:Enc R u v)(j:G1 u=t)(he:Ora.env i=u)(k:10<=t->ρ b=some (kH R)):VR ρ (SD i t b) v:=by
 unfold SD;cases e:Nat.blt t 10 with
 | true =>
   have a:t<10:=A1 e;obtain⟨v1,g,_,_⟩:=PW (u:=u) A2
   have:=fT h g;subst this;exact .hole (by rw[he];exact g) (by rw[he];exact j)
 | false =>
   have a:10<=t:=by
    rcases F7 t 10 with d|f
    .rw[show Nat.blt t 10=true from C6 d]at e;cases e
    .exact f
   exact .dat (k a) (by rw[he];exact h) (by rw[he];exact j) a (lZ h)
def HN{ρ:Ren}{R:Nat->Option Obj}{b:Nat}:∀ {ts:H1} {us:List U} {cs:D2} {i:Nat},Z0 R us cs->us.map G1=ts->(∀ j u,us[j]? = some u->Ora.env (i+j)=u)->(∀ t ∈ ts,10<=t->ρ b=some (kH R))->LR ρ (VX ts i b) cs
 | [],us,cs,i,h,ht,he,hb=>by
   have:us=[]:=by cases us with|nil=>rfl|cons _ _=>simp at ht
   subst this;have:cs=[]:=F8.1 h.1.symm;subst this;exact .nil
 | t::ts,[],cs,i,h,ht,he,hb=>by simp at ht
 | t::ts,u::us,[],i,h,ht,he,hb=>by have:=h.1;simp at this
 | t::ts,u::us,c::cs,i,h,ht,he,hb=>by
   simp only[C4,J5]at ht;refine .cons (KQ (h.2 0 u c rfl rfl) ht.1 (he 0 u rfl) (hb t (.head _))) (HN ⟨by have:=h.1;simpa using this,fun j x y e a2=>h.2 (j+1) x y (by simpa using e) (by simpa using a2)⟩ ht.2 (fun j x d=>?_) fun f a=>hb f (.tail _ a))
   have:=he (j+1) x (by simpa using d);rw[show i+1+j=i+(j+1) by omega];exact this
def pJ{ρ:Ren}{R:Nat->Option Obj}{b:Nat}:∀ {g:List Sh} {us:List U} {vs:D2} {i:Nat},ShL R g us vs->(∀ j u,us[j]? = some u->Ora.env (i+j)=u)->(mA g=true->ρ b=some (kH R))->LR ρ (wV g i b) vs/\us.length=shN g
 | [],us,vs,i,h,he,hb=>by cases h;exact⟨.nil,rfl⟩
 | s::g,us,vs,i,h,he,hb=>by
   cases h with
   | cons h1 w =>
     rename_i e y v vs;have q:∀ t ∈ s.tags,10<=t->ρ b=some (kH R):=fun t d f=>hb (N7.2 ⟨t,B5.2 (.inl d),C6 f⟩)
     have o:mA g=true->ρ b=some (kH R):=fun x=>by
      obtain⟨t,d,f⟩:=N7.1 x;exact hb (N7.2 ⟨t,B5.2 (.inr d),f⟩)
     have p:e.length=s.n:=by
      cases h1 with
      | s _ _=>rfl
      | a _ d=>show _=List.length _;rw[<- d];simp[Sh.tags]
     obtain⟨g1,g2⟩:=pJ (i:=i+s.n) w (fun j u l=>by
      have:=he (e.length+j) u (by rw[E0 A2,W3];exact l);rw[<- p,bX];exact this) o
     refine⟨.cons ?_ g1,by simp[shN,p,g2]⟩;have k:∀ j u,e[j]? = some u->Ora.env (i+j)=u:=fun j u l=>he j u (by rw[F2 (B0.1 l).1];exact l)
     cases h1 with
     | s h d=>exact KQ h d (by have:=k 0 _ rfl;simpa using this) (q _ (.head _))
     | a h d =>
       have:=HN (b:=b) h d k q;exact .agg this.1 this.2
def WA{ρ:Ren}{vs:D2}(h:LR ρ vs vs'):VR ρ (tup vs) (tup vs'):=by
 match vs,vs',h with
 | [],vs',h=>rw[h.nil_inv];exact .tuple (a:=[]) (a':=[]) rfl (fun i v v' h1 _=>by simp at h1)
 | [v],vs',h =>
   obtain⟨v',d,rfl,h1,b⟩:=h.tail;cases b.nil_inv;exact h1
 | v::u::r,vs',h =>
   obtain⟨v',d,rfl,h1,b⟩:=h.tail;obtain⟨f,g,rfl,h3,e⟩:=b.tail;exact .tuple h.1 h.2
def St.grown{ρ:Ren}{w w':World}(h:HR P base ρ m.H w)(g:mI w w'):St P base ρ ρ m m w w' :=
 ⟨fun _ _ h=>h,fun b l h1 a=>(by rw[h1]at a;cases a),A6 _,A6 _,fun h=>h,
  ⟨h.dom,fun id hid ab e=>by
    obtain⟨l,h1,a,h3⟩:=h.at_ id hid ab e;exact⟨l,h1,a.mono (fun _ _ h=>h) (fun k d=>g.keep k (a.tc d)),h3⟩⟩,
  fun _ h=>h,fun b h1 a=>absurd h1 a,fun k d _=>g.keep k d,g.size,g.os,fun b l h1 a=>(by rw[h1]at a;cases a),fun _ _ _ _=>rfl,fun _ h=>.inr h⟩
def St.grownLg{ρ:Ren}{w w':World}(h:HR P base ρ m.H w)(g:mI w w')(lg:Lg):St P base ρ ρ m (m.wLg lg) w w':=by
 obtain⟨H,n,W,hi,l⟩:=m;have r:=St.grown (m:=⟨H,n,W,hi,l⟩) h g;exact⟨r.ext,r.new,r.nle,r.hle,r.nhi,r.hr,r.wsub,r.wrw,r.keep,r.size,r.os,r.blk,r.same,r.tch⟩
def St.ret{ρ:Ren}{w w':World}{G:Nat->Option Obj}(h:HR P base ρ m.H w)(g:mI w w')(S:Z3 m .frz (fun _=>undef)=some (undef,m1))(T:K1 ρ m.n m1.hi)(U:GOk G w')
  (L:∀ k o,G k=some o->w.heap.size<=k∨∃ id ab l,id<=H6/\Hp.get m.H id=some ab/\ρ id=some l/\Tf ab l k/\ab.rw=false):upd ρ m.n (kH G) m.n=some (kH G)/\St P base ρ (upd ρ m.n (kH G)) m m1 w w':=by
 obtain⟨hle,_,rfl⟩:=L6 S;have s:ρ m.n=none:=T m.n (A6 _) (L1 _ _).2;have i:=W9 (l:=kH G) s;refine⟨L8 _ _ _,i,fun b q h1 f=>?_,by simp,(L1 _ _).1,fun _=>Y7 (L1 _ _).2,⟨fun b q I=>?_,fun id hid a d=>?_⟩,fun b O=>O,fun b h1 f=>absurd h1 f,fun q I _=>g.keep q I,g.size,g.os,fun b q h1 f p=>?_,fun id hid h1 f=>?_,fun q ⟨id,a,l,hid,d,v,N⟩=>?_⟩
 .obtain⟨rfl,rfl⟩:=U4 h1 f;exact⟨A6 _,J2 _⟩
 .cases h0:ρ b with
  | some Q=>exact h.dom b Q h0
  | none=>obtain⟨rfl,rfl⟩:=U4 I h0;exact hle
 .rw[F0 _ _ _ _ hle hid]at d;by_cases e:id=m.n
  .rw[A9 e]at d;have d:=A8 d;subst d;subst e;exact⟨kH G,L8 _ _ _,⟨rfl,U⟩,fun _ p=>(by cases p)⟩
  .rw[A7 e]at d;obtain⟨l0,h1,f,h3⟩:=h.at_ id hid a d;refine⟨l0,i _ _ h1,f.mono i (fun k W=>g.keep k (f.tc W)),fun hr p=>⟨(h3 hr p).1,fun x j z l2 g1 g2 g3=>?_⟩⟩;rw[F0 _ _ _ _ hle j]at g1;by_cases D:x=m.n
   .subst D;rw[L8]at g2
    have:=A8 g2;subst this;rcases g3 with⟨_,g3,_⟩|⟨_,o,g3⟩
    .cases g3
    .rcases L _ o g3 with y|⟨t,a3,K,A,u,C,J,E⟩
     .have:=f.tc (.inl ⟨AB.rw_on hr,p,rfl⟩);omega
     .have:=(h3 hr p).2 t A a3 K u C J.2;subst this;rw[d]at u;have u:=A8 u;subst u;rw[hr]at E;cases E
   .rw[A7 D]at g1;unfold upd at g2;rw[A7 D]at g2;exact(h3 hr p).2 x j z l2 g1 g2 g3
 .obtain⟨rfl,rfl⟩:=U4 h1 f;cases p
 .rw[F0 _ _ _ _ hle hid,A7];intro e;subst e;rcases f with f|f
  .omega
  .have f:upN m.hi m.n<=m.n:=f
   have:=(L1 m.hi m.n).2;omega
 .have d:Hp.get (m.H.set m.n (some .frz)) id=some a:=d;rw[F0 _ _ _ _ hle hid]at d;by_cases e:id=m.n
  .subst e;rw[A9 rfl]at d;have d:=A8 d;subst d;rw[L8]at v;have v:=A8 v;subst v;rcases N.2 with⟨_,h3,_⟩|⟨_,o,h3⟩
   .cases h3
   .rcases L _ o h3 with y|⟨t,a3,K,A,u,C,J,E⟩
    .exact .inl y
    .exact .inr ⟨t,a3,K,A,u,C,J⟩
  .rw[A7 e]at d;unfold upd at v;rw[A7 e]at v;exact .inr ⟨id,a,l,hid,d,v,N⟩
def St.back{ρ:Ren}{w w':World}{hi:Nat}{lg:Lg}(h:HR P base ρ m.H w)(g:mI w w')(hh:m.hi<=hi):St P base ρ ρ m ⟨m.H,m.n,m.W,hi,lg⟩ w w':=by
 have r:=St.grownLg (m:=m) h g lg;refine⟨r.ext,fun b l h1 a=>(by rw[h1]at a;cases a),A6 _,hh,fun h=>C5 h hh,?_,fun _ h=>h,fun b h1 a=>absurd h1 a,fun k d _=>g.keep k d,g.size,g.os,fun b l h1 a=>(by rw[h1]at a;cases a),fun _ _ _ _=>rfl,fun _ h=>.inr h⟩
 have:=r.hr;rw[kM]at this;exact this
theorem A4C{f:FuncId}{ps:List Sh}{spec:cV}{rs:List Sh}(h:M1 P Ora.G f ps spec rs):mJ P base gl f (A4D P ps spec rs):=by
 have p:∀ {nx:Nat} {m m':Mem} {v:Value},mA rs=true->UE rs nx m=some (v,m')->m'.lg=m.lg/\m.hi<=m'.hi/\m.n<=m'.n:=fun{nx m m' v} a hr=>by
  unfold UE at hr;rw[a]at hr;simp only[E3]at hr;split at hr
  .rename_i y;cases hr;obtain⟨m2,H,z,_⟩:=Q8 y;cases z;obtain⟨_,_,rfl⟩:=L6 H;exact⟨rfl,(L1 _ _).1,W7 _⟩
  .cases hr
 have i:∀ {vs xs:D2} {m m1:Mem},pU P ps vs m=some (xs,m1)->m.lg.le m1.lg/\m.hi<=m1.hi:=fun{vs xs m m1} h1=>by
  unfold pU at h1;split at h1
  .split at h1
   .rename_i a;cases h1;exact⟨(S1 V0 a).2.1,(S1 V0 a).1⟩
   .rename_i a;split at h1
    .rename_i L;cases h1;exact⟨by rw[(N2 L).2.1];exact(S1 V0 a).2.1,C5 (S1 V0 a).1 (N2 L).1⟩
    .cases h1
   .cases h1
  .cases h1
 refine⟨fun vs m m' v hr=>?_,fun ρ m m' w vs vs' v hr N d Y=>.inl ?_⟩
 .obtain⟨xs,m1,h1,⟨a,g⟩|⟨a,_,rfl⟩⟩:=TA hr
  .rw[(p a g).1,d7];exact(i h1).1.trans ⟨[_],rfl⟩
  .exact(i h1).1.trans ⟨[_],rfl⟩
 .obtain⟨xs,m1,h1,g⟩:=TA hr;have I:m'.lg=⟨m1.lg.nx+shN rs,m1.lg.pi,.con spec xs m1.lg.nx 0 (shN rs)::m1.lg.log⟩/\m1.hi<=m'.hi:=by
   rcases g with⟨a,g⟩|⟨a,_,rfl⟩
   .obtain⟨r1,u,_⟩:=p a g;simp only[d7,MK]at r1 u;exact⟨r1,u⟩
   .exact⟨rfl,A6 _⟩
  obtain⟨r1,u⟩:=I;have s:j8.con spec xs m1.lg.nx 0 (shN rs) ∈ m'.lg.log:=by rw[r1];exact B3
  have D:Sat m1.lg:=R6.le N (by rw[r1];exact⟨[_],rfl⟩);obtain⟨t,R,J,a2,a3,a4,a5⟩:=HY d.hr h1 (d.fr.less u) Y D;obtain⟨outs,h3,h4,O⟩:=N _ s;obtain⟨Z,h7⟩:=h _ outs w vs' R a3 h3 (fun k o x=>(d.gf k o x).2) a4;refine⟨Z,h7.mono fun e w' ⟨r,T,g1,g2,g3,g4,g5⟩=>?_⟩;rcases g with⟨a,g⟩|⟨a,rfl,rfl⟩
  .let j:Lg:=⟨m1.lg.nx+shN rs,m1.lg.pi,.con spec xs m1.lg.nx 0 (shN rs)::m1.lg.log⟩
   have g:UE rs m1.lg.nx (m1.wLg j)=some (v,m'):=g;have q:St P base ρ t m (m1.wLg j) w w:=St.trans (d.fr.less (by simpa using u)) J (St.wLg J.hr j);have A:K1 t (m1.wLg j).n m'.hi:=by simpa using d.fr.step J
   unfold UE at g;rw[a]at g;simp only[E3]at g;split at g
   .rename_i v0 b m2 y;cases g;obtain⟨m3,H,z,_⟩:=Q8 y;cases z;obtain⟨U,W⟩:=St.ret (G:=T) q.hr g3 H A g4 fun k o x=>by
     rcases g5 k o x with C|⟨o',E⟩
     .exact .inl C
     .obtain⟨id,ab,l,p1,Q,p3,p4,S⟩:=a5 k o' E;exact .inr ⟨id,ab,l,p1,by rw[kM];exact Q,p3,p4,S⟩
    exact⟨_,_,g2,WA (pJ g1 O fun _=>U).1,St.trans d.fr q W⟩
   .cases g
  .exact⟨_,ρ,g2,WA (pJ g1 O fun K=>by rw[a]at K;cases K).1,St.back d.hr g3 (i h1).2⟩
end
end
end Go.Sx
