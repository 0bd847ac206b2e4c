import Derived.Test.YtbbicpheoakeeaaGreatDoorX6
import Derived.Lib.Bytealg
import Derived.Lib.MakeNoZero
set_option linter.all false
set_option maxRecDepth 100000
set_option maxHeartbeats 4000000
namespace Go.Sx
variable {m m' m1 m2:Mem}{c:Cls}{r:Option (Nat×AB)}{rs:List Rec}{op:OpC}{fn:Func}{vs' vs2:D0}
section
open Go
variable [Ora]
def A2o(ops:Array Oper)(X:Nat->Qs)(i:Nat)(o:Oper):Bool:=IM o.op i ((Z0 ops.toList []).getD i []) ((Z0 ops.toList []).drop (i+1)) (ops.toList.drop (i+1)) (X i)
structure Rg (P:Program) (base gl nt:Nat) (call:O8) (ops:Array Oper) (F:Nat->Fr) (M:Nat->Mem) (V:Nat->Value) (R:Nat->List Rec) (X:Nat->Qs) (B:Nat->Bool):Prop where
 st:∀ i o,ops[i]? = some o->HE P nt gl call ops.toList ((Z0 ops.toList []).getD i []) (R i) (B i) o (F i) (F (i+1)) (M i) (M (i+1)) (V i)
 rc:∀ i o,ops[i]? = some o->(R (i+1)=R i/\∃ lg,M (i+1)=(M i).wLg lg)∨(B i=true/\R (i+1)=[])∨R (i+1)=⟨i,(M i).n,(M (i+1)).n⟩::R i
 qs:∀ i o,ops[i]? = some o->QsN (B i) i nt ops.toList (W4 P call o) ((Z0 ops.toList []).getD i []) (R i) (F i) o (M i) (M (i+1)) (V i) (X i) (X (i+1))
 sb:∀ i o,ops[i]? = some o->B i=true->A2o ops X i o=true
 x0:X 0=[]
 ok:JO ops.toList (Z0 ops.toList []) ops.toList 0=true
structure Ph (ops:Array Oper) (B:Nat->Bool) (M:Nat->Mem) (lo up:Nat):Prop where
 le:lo<=up
 sz:up<=ops.size
 nh:(M lo).n<=(M lo).hi
 mx:∀ i o,lo<=i->i<up->ops[i]? = some o->B i=false
section
variable {P:Program} {base gl nt:Nat} {call:O8} {ops:Array Oper} {F:Nat->Fr} {M:Nat->Mem} {V:Nat->Value} {R:Nat->List Rec} {X:Nat->Qs} {B:Nat->Bool} {lo up:Nat}
def P5{i:Nat}(h:i<ops.size):∃ o,ops[i]? = some o:=⟨ops[i],by simp[h]⟩
def Rg.one(g:Rg P base gl nt call ops F M V R X B){i:Nat}{o:Oper}(f:ops[i]? = some o)(b:B i=false)(d:(M i).n<=(M i).hi):(M i).n<=(M (i+1)).n/\(M i).hi<=(M (i+1)).hi/\(M (i+1)).n<=(M (i+1)).hi/\(M (i+1)).W=(M i).W /\
  ∀ id,id<=H7->(id<(M i).n∨(M (i+1)).n<=id)->Hp.get (M (i+1)).H id=Hp.get (M i).H id:=by
 obtain⟨_,_,_,h⟩:=g.st i o f;rcases h with⟨_,lg,_,_,h⟩|⟨_,lg,l,_,_,h⟩|⟨h,_⟩|⟨_,_,lg,_,mv,m',_,_,_,a,hm⟩
 .rw[h];exact⟨A6 _,A6 _,d,rfl,fun _ _ _=>rfl⟩
 .rw[h];exact⟨A6 _,A6 _,d,rfl,fun _ _ _=>rfl⟩
 .rw[b]at h;cases h
 .obtain⟨h1,e,h3,k,_,_,_,j⟩:=JU hm d a;exact⟨h1,e,h3,k,fun id hid hh=>by rw[j id hid,A7 (by show ¬ ((M i).n<=id/\_);omega)];rfl⟩
def Rg.allD(g:Rg P base gl nt call ops F M V R X B)(a:Ph ops B M lo up):∀ d,lo+d<=up->(M lo).n<=(M (lo+d)).n/\(M lo).hi<=(M (lo+d)).hi/\(M (lo+d)).n<=(M (lo+d)).hi/\(M (lo+d)).W=(M lo).W /\
  ∀ id,id<=H7->(id<(M lo).n∨(M (lo+d)).n<=id)->Hp.get (M (lo+d)).H id=Hp.get (M lo).H id
 | 0,_=>⟨A6 _,A6 _,a.nh,rfl,fun _ _ _=>rfl⟩
 | d+1,h=>by
   obtain⟨h1,e,h3,q,j⟩:=g.allD a d A2;obtain⟨o,b⟩:=P5 (ops:=ops) (i:=lo+d) (by have:=a.sz;omega);obtain⟨s,f,l,k,p⟩:=g.one b (a.mx _ o A2 A2 b) h3;exact⟨B9 h1 s,B9 e f,l,k.trans q,fun id hid hh=>by
    rw[show lo+(d+1)=lo+d+1 by omega]at hh ⊢;rw[p id hid A2,j id hid A2]⟩
def Rg.all(g:Rg P base gl nt call ops F M V R X B)(a:Ph ops B M lo up){i:Nat}(h0:lo<=i)(h:i<=up):(M lo).n<=(M i).n/\(M lo).hi<=(M i).hi/\(M i).n<=(M i).hi/\(M i).W=(M lo).W /\
  ∀ id,id<=H7->(id<(M lo).n∨(M i).n<=id)->Hp.get (M i).H id=Hp.get (M lo).H id:=by
 have:=g.allD a (i-lo) A2
 rwa[show lo+(i-lo)=i by omega]at this
def Rg.mono(g:Rg P base gl nt call ops F M V R X B)(a:Ph ops B M lo up){i:Nat}(h0:lo<=i):∀ d,i+d<=up->(M i).n<=(M (i+d)).n/\(M i).hi<=(M (i+d)).hi/\∀ id,id<=H7->id<(M i).n->Hp.get (M (i+d)).H id=Hp.get (M i).H id
 | 0,_=>⟨A6 _,A6 _,fun _ _ _=>rfl⟩
 | d+1,h=>by
   obtain⟨h1,e,j⟩:=g.mono a h0 d A2;obtain⟨o,b⟩:=P5 (ops:=ops) (i:=i+d) (by have:=a.sz;omega);obtain⟨l,f,q,p,k⟩:=g.one b (a.mx _ o A2 A2 b) (g.all a (i:=i+d) A2 A2).2.2.1;exact⟨B9 h1 l,B9 e f,fun id hid hh=>by rw[show i+(d+1)=i+d+1 by omega,k id hid A2,j id hid hh]⟩
def Rg.le(g:Rg P base gl nt call ops F M V R X B)(a:Ph ops B M lo up){i j:Nat}(h0:lo<=i)(h:i<=j)(b:j<=up):(M i).n<=(M j).n/\(M i).hi<=(M j).hi/\∀ id,id<=H7->id<(M i).n->Hp.get (M j).H id=Hp.get (M i).H id:=by
 have:=g.mono a h0 (j-i) A2
 rwa[show i+(j-i)=j by omega]at this
def PX{mv:Mem}{us:List Rec}(h:BL m c us=some mv):mv.lg=m.lg:=by
 obtain⟨H,n,W,hi,lg⟩:=m;unfold BL at h;simp only at h;cases c with
 | free=>cases h;rfl
 | one b =>
   simp only at h;cases a:v8 (Z5 us) b || !(Nat.ble b H7)with
   | true=>rw[a]at h;cases h
   | false=>rw[a,eP]at h;cases h;rfl
 | all =>
   simp only at h;obtain⟨d,h⟩:=A3 h;cases h;rfl
def JV(h:lO m m'=some m2):m2.lg=m'.lg:=by
 unfold lO at h;cases a:Nat.ble m'.hi m.n with
 | true=>rw[a]at h;cases h;rfl
 | false =>
   rw[a]at h;obtain⟨_,h⟩:=A3 h;simp only[E5,eF]at h;cases h;rfl
def mY{a b:Addr}(h:ES a b=true):a=b:=by
 unfold ES at h;split at h
 .obtain⟨h1,d⟩:=B6 h;rw[A0 h1,A0 d]
 .cases h
def UG{a b:Fn}(h:NN a b=true):a=b:=by
 unfold NN at h;split at h
 .rw[A0 h]
 .rw[A0 h]
 .cases h
def qG{s:Value->Value->Bool}(d:∀ a b,s a b=true->a=b):∀ {l r:D0},BW s l r=true->l=r
 | [],[],_=>rfl
 | [],_::_,h=>by cases h
 | _::_,[],h=>by cases h
 | a::l,b::r,h=>by
   obtain⟨h1,e⟩:=B6 (show(s a b && BW s l r)=true from h);rw[d a b h1,qG d e]
def B0S{a b:V8}(h:a.toList=b.toList):a=b:=by cases a;cases b;cases h;rfl
def XJ:∀ (d:Nat) (v w:Value),xK d v w=true->v=w:=by
 intro d;induction d with
 | zero =>
   intro v w h;unfold xK at h;split at h
   .rw[eq_of_beq h]
   .obtain⟨h1,e⟩:=B6 h;rw[cH]at e;rw[hO h1,eq_of_beq e]
   .obtain⟨h1,e⟩:=B6 h;rw[A0 h1,A0 e]
   .obtain⟨h1,e⟩:=B6 h;rw[A0 h1,A0 e]
   .rename_i s t;have h1:=G7 h;cases s with|mk s=>cases t with|mk t=>cases s;cases t;cases h1;rfl
   .rfl
   .rw[mY h]
   .obtain⟨h1,e⟩:=B6 h;rw[A0 h1,A0 e]
   .obtain⟨h0,h⟩:=B6 h;obtain⟨h1,e⟩:=B6 h;rw[mY h0,A0 h1,A0 e]
   .rfl
   .rw[A0 h]
   .rfl
   .rfl
   all_goals first|cases h|(rename_i hh;cases hh)
 | succ d i =>
   intro v w h;unfold xK at h;split at h
   .rw[eq_of_beq h]
   .obtain⟨h1,e⟩:=B6 h;rw[cH]at e;rw[hO h1,eq_of_beq e]
   .obtain⟨h1,e⟩:=B6 h;rw[A0 h1,A0 e]
   .obtain⟨h1,e⟩:=B6 h;rw[A0 h1,A0 e]
   .rename_i s t;have h1:=G7 h;cases s with|mk s=>cases t with|mk t=>cases s;cases t;cases h1;rfl
   .rfl
   .rw[mY h]
   .obtain⟨h1,e⟩:=B6 h;rw[A0 h1,A0 e]
   .obtain⟨h0,h⟩:=B6 h;obtain⟨h1,e⟩:=B6 h;rw[mY h0,A0 h1,A0 e]
   .rfl
   .rw[A0 h]
   .rfl
   .rfl
   .rename_i j f a b g a' b' he;cases he;obtain⟨h0,h⟩:=B6 h;obtain⟨h1,e⟩:=B6 h;rw[UG h0,B0S (qG i h1),B0S (qG i e)]
   .rename_i j t v u w he;cases he;obtain⟨h1,e⟩:=B6 h;rw[A0 h1,i _ _ e]
   .cases h
def XN{a b:AB}(h:XO a b=true):a=b:=by
 unfold XO at h;split at h
 .rfl
 .obtain⟨h0,h⟩:=B6 h;obtain⟨h1,d⟩:=B6 h;rw[qG (XJ 6) h0,A0 h1,eq_of_beq d]
 .cases h
def yW{H:Hp AB}{b:Nat}{ab:AB}(h:yX H b ab=true):Hp.get H b=some ab/\b<=H7:=by
 unfold yX at h;split at h
 .rename_i x d;obtain⟨h1,a⟩:=B6 h;exact⟨by rw[d,XN a],A1 h1⟩
 .cases h
def sW{mv:Mem}{us:List Rec}(h:FC m r us=some mv):mv.n=sP/\mv.hi=sP/\mv.W=[]/\mv.lg=m.lg/\(∀ id,id<=H7->∀ ab,Hp.get mv.H id=some ab->r=some (id,ab))/\∀ b ab,r=some (b,ab)->yX m.H b ab=true/\b ∉ Z5 us:=by
 obtain⟨H,n,W,hi,lg⟩:=m;unfold FC at h;simp only at h;cases r with
 | none =>
   cases h;exact⟨rfl,rfl,rfl,rfl,fun id _ ab a=>(by rw[rU]at a;cases a),fun b ab i=>by cases i⟩
 | some p =>
   obtain⟨b,f⟩:=p;simp only at h;cases d:v8 (Z5 us) b || !(yX H b f)with
   | true=>rw[d]at h;cases h
   | false =>
     rw[d,eP]at h;cases h;simp only[Z7,Bool.not_eq_false']at d;have i:=(yW d.2).2;refine⟨rfl,rfl,rfl,rfl,fun id hid ab a=>?_,fun b' ab' g=>?_⟩
     .have a:Hp.get (Hp.set hp0 b (some f)) id=some ab:=a;rw[F0 _ _ _ _ i hid]at a;by_cases e:id=b
      .subst e;rw[A9 rfl]at a;cases a;rfl
      .rw[A7 e,rU]at a;cases a
     .cases g;exact⟨d.2,fun hm=>by rw[V7.2 hm]at d;exact absurd d.1 (by simp)⟩
def lG{fr:Fr}{o:Oper}{b:H4}{v:Value}{lg:Lg}(h:lH fr m o b rs op=some (v,lg)):∃ mv m',FC m (KV m.H fr o.op) (CL b rs)=some mv/\op.run fr mv=some (v,m')/\m'.W=[]/\m'.hi=sP/\m'.lg=lg:=by
 unfold lH at h;split at h
 .rename_i mv hv;split at h
  .rename_i v' H n hi a hr;obtain⟨h1,d⟩:=A3 h;cases d;exact⟨mv,_,hv,hr,rfl,A0 h1,rfl⟩
  .cases h
 .cases h
def BQ{all:List Oper}{b:H4}{f:Bool}{o:Oper}{fr a:Fr}{v:Value}(d:V3 P base gl call)(h:HE P nt gl call all b rs f o fr a m m2 v):m.lg.le m2.lg:=by
 obtain⟨_,_,_,h⟩:=h;rcases h with⟨_,lg,hw,_,h⟩|⟨_,lg,i,hw,j,h⟩|⟨_,lg,hw,hr,_⟩|⟨_,_,lg,hw,mv,m',hv,hr,_,g,hm⟩
 .rw[h];exact gX hw
 .obtain⟨mv,m',hv,hr,_,_,e⟩:=lG j;have h1:=aC d hr;rw[(sW hv).2.2.2.1,e]at h1;rw[h];exact(gX hw).trans h1
 .have h1:=aC d hr;rw[g9]at h1;exact(gX hw).trans h1
 .rw[JV hm];have h1:=aC d hr;rw[PX hv]at h1;exact(gX hw).trans h1
def Rg.lgs(g:Rg P base gl nt call ops F M V R X B)(a:V3 P base gl call){i:Nat}:∀ d,i+d<=ops.size->(M i).lg.le (M (i+d)).lg
 | 0,_=>.refl _
 | d+1,h=>by
   obtain⟨o,b⟩:=P5 (ops:=ops) (i:=i+d) A2;exact(g.lgs a d A2).trans (BQ a (g.st (i+d) o b))
def Rg.who(g:Rg P base gl nt call ops F M V R X B)(e:Ph ops B M lo up):∀ d,lo+d<=up->∀ b,(M lo).n<=b->b<(M (lo+d)).n->∃ k,lo<=k/\k<lo+d/\(M k).n<=b/\b<(M (k+1)).n
 | 0,_,b,h1,a=>by have a:b<(M lo).n:=a;omega
 | d+1,h,b,h1,a=>by
   rcases F8 b (M (lo+d)).n with h3|h3
   .obtain⟨k,f,j,i⟩:=g.who e d A2 b h1 h3;exact⟨k,f,A2,i⟩
   .exact⟨lo+d,A2,A2,h3,a⟩
def yD:∀ {rs:List Rec} {b:Nat},b ∈ Z5 rs↔∃ r ∈ rs,r.lo<=b/\b<r.hi
 | [],b=>by simp[Z5]
 | r::rs,b=>by
   simp only[Z5,B7,lP,yD (rs:=rs),B5];constructor
   .rintro(h|⟨d,h1,a⟩)
    .exact⟨r,.inl rfl,A2⟩
    .exact⟨d,.inr h1,a⟩
   .rintro⟨d,rfl|h1,a⟩
    .exact .inl A2
    .exact .inr ⟨d,h1,a⟩
def Rg.recs(g:Rg P base gl nt call ops F M V R X B)(j:Ph ops B M lo up):∀ d,lo+d<=up->∀ k,lo<=k->k<lo+d->∀ b,(M k).n<=b->b<(M (k+1)).n->⟨k,(M k).n,(M (k+1)).n⟩ ∈ R (lo+d)
 | 0,_,k,_,h,_,_,_=>by omega
 | d+1,hi,k,hk,h,b,h1,f=>by
   obtain⟨o,l⟩:=P5 (ops:=ops) (i:=lo+d) (by have:=j.sz;omega);have a:=j.mx _ o A2 A2 l;show _ ∈ R (lo+d+1);by_cases e:k=lo+d
   .subst e;rcases g.rc (lo+d) o l with⟨_,lg,h3⟩|⟨h3,_⟩|h3
    .rw[h3]at f;have f:b<(M (lo+d)).n:=f;omega
    .rw[a]at h3;cases h3
    .rw[h3];exact B4
   .have:=g.recs j d A2 k hk A2 b h1 f;rcases g.rc (lo+d) o l with⟨h3,_⟩|⟨h3,_⟩|h3
    .rw[h3];exact this
    .rw[a]at h3;cases h3
    .rw[h3];exact C4 _ this
def A2f{mv:Mem}{us:List Rec}(h:BL m c us=some mv):mv.n=m.n/\mv.hi=m.hi/\mv.W=[]/\mv.lg=m.lg/\∀ id,id<=H7->∀ ab,Hp.get mv.H id=some ab->Hp.get m.H id=some ab/\id ∉ Z5 us:=by
 obtain⟨H,n,W,hi,lg⟩:=m;unfold BL at h;simp only at h;cases c with
 | free =>
   cases h;exact⟨rfl,rfl,rfl,rfl,fun id _ ab a=>by rw[rU]at a;cases a⟩
 | one b =>
   simp only at h;cases d:v8 (Z5 us) b || !(Nat.ble b H7)with
   | true=>rw[d]at h;cases h
   | false =>
     rw[d,eP]at h;cases h;simp only[Z7,Bool.not_eq_false']at d;have f:=A1 d.2;refine⟨rfl,rfl,rfl,rfl,fun id hid ab a=>?_⟩;have a:Hp.get (Hp.set hp0 b (Hp.get H b)) id=some ab:=a;rw[F0 _ _ _ _ f hid]at a;by_cases e:id=b
     .subst e;rw[A9 rfl]at a;exact⟨a,fun hm=>by rw[V7.2 hm]at d;exact absurd d.1 (by simp)⟩
     .rw[A7 e,rU]at a;cases a
 | all =>
   simp only at h;obtain⟨f,h⟩:=A3 h;cases h;refine⟨rfl,rfl,rfl,rfl,fun id hid ab a=>?_⟩;have a:Hp.get (CZ H (Z5 us)) id=some ab:=a;rw[CY _ _ (uA f) id hid]at a;by_cases e:id ∈ Z5 us
   .rw[A9 e]at a;cases a
   .rw[A7 e]at a;exact⟨a,e⟩
def gL(M:Nat->Mem)(D:Nat->Bool)(b:Nat):Nat->Bool
 | 0=>false
 | n+1=>(D n && Nat.ble (M n).n b && Nat.blt b (M (n+1)).n) || gL M D b n
def U2{D:Nat->Bool}{b:Nat}:∀ n,gL M D b n=true↔∃ k,k<n/\D k=true/\(M k).n<=b/\b<(M (k+1)).n
 | 0=>by simp[gL]
 | n+1=>by
   simp only[gL,J0,G8,U2 n];constructor
   .rintro(⟨⟨h1,a⟩,h3⟩|⟨k,h1,a⟩)
    .exact⟨n,A2,h1,A1 a,A1 h3⟩
    .exact⟨k,A2,a⟩
   .rintro⟨k,h1,a,h3,d⟩
    by_cases e:k=n
    .subst e;exact .inl ⟨⟨a,C5 h3⟩,C5 d⟩
    .exact .inr ⟨k,A2,a,h3,d⟩
def Dr(lo:Nat)(D:Nat->Bool)(k:Nat):Bool:=Nat.ble lo k && D k
def Y3{lo:Nat}{D:Nat->Bool}{k:Nat}:Dr lo D k=true↔lo<=k/\D k=true:=by
 unfold Dr;rw[G8];exact⟨fun h=>⟨A1 h.1,h.2⟩,fun h=>⟨C5 h.1,h.2⟩⟩
def GD(M:Nat->Mem)(lo N:Nat)(D:Nat->Bool)(b:Nat):Option AB:=bif gL M (Dr lo D) b N then Hp.get (M N).H b else Hp.get (M lo).H b
structure Inv (z:Zn) (P:Program) (base gl nt:Nat) (ops:Array Oper) (F:Nat->Fr) (M:Nat->Mem) (V:Nat->Value) (lo up:Nat) (ρ0:Ren) (w0:World) (D:Nat->Bool) (ρ:Ren) (a:Act) (w:World):Prop where
 ext:∀ b l,ρ0 b=some l->ρ b=some l
 new:∀ b l,ρ b=some l->ρ0 b=none->gL M (Dr lo D) b up=true/\(l.on=true->w0.heap.size<=l.blk)
 hr:HRf P base ρ (GD M lo up D) w
 keep:∀ k,k<w0.heap.size->w.heap[k]? = w0.heap[k]?
 size:w0.heap.size<=w.heap.size
 os:w.os=w0.os/\w.tape=w0.tape/\w.output=w0.output
 tch:∀ k,Ff ρ (GD M lo up D) k->w0.heap.size<=k∨Fp ρ0 (M lo).H k
 tsz:a.tmps.size=nt
 dfr:ZR z ρ nt (F 0) a.defers
 frm:∀ t,t<nt->VR ρ (aU D (fun k=>(ops[k]?).bind (·.dst)) V (F 0).get t ops.size) (a.tmps.getD t undef)
def S5{i:Nat}{o:Oper}(h:ops[i]? = some o):ops.toList[i]? = some o:=by simpa using h
def iA{ops:List Oper}{a:List H4}:∀ (r:List Oper) (i:Nat),JO ops a r i=true->∀ j o,r[j]? = some o->nR (i+j) o.after.toList=true/\sV a (i+j) (V4 ops o) ops 0=true
 | [],i,h,j,o,hj=>by simp at hj
 | x::r,i,h,j,o,hj=>by
   obtain⟨h1,b⟩:=B6 (show(nR i x.after.toList && (sV a i (V4 ops x) ops 0 && JO ops a r (i+1)))=true from h);obtain⟨b,h3⟩:=B6 b;cases j with
   | zero=>simp at hj;subst hj;exact⟨h1,b⟩
   | succ j =>
     have:=iA r (i+1) h3 j o (by simpa using hj)
     rwa[show i+1+j=i+(j+1) by omega]at this
def fD:∀ {es:List Edge} {i:Nat},nR i es=true->∀ e ∈ es,Region.binds .any e=true->e.on<i
 | [],i,h,e,he,_=>by cases he
 | x::r,i,h,e,he,hb=>by
   obtain⟨h1,a⟩:=B6 (show((!(Region.binds .any x) || Nat.blt x.on i) && nR i r)=true from h);rcases B5.1 he with rfl|he
   .rw[hb]at h1;have h1:Nat.blt e.on i=true:=by simpa only [P9,Q0]using h1
    exact A1 h1
   .exact fD a e he hb
def BT{d:List H4}{i:Nat}{b:List Tmp}:∀ (r:List Oper) (a:Nat),sV d i b r a=true->∀ j p t,r[j]? = some p->a+j≠i->p.dst=some t->t ∈ b->A26 d i (a+j)=true
 | [],a,h,j,p,t,hj,_,_,_=>by simp at hj
 | x::r,a,h,j,p,t,hj,hne,hd,ht=>by
   obtain⟨h1,e⟩:=B6 (show((Nat.beq a i || (match x.dst with|none=>true|some t=>!(v8 b t) || A26 d i a)) && sV d i b r (a+1))=true from h);cases j with
   | zero =>
     simp at hj;subst hj;have f:Nat.beq a i=false:=by
      cases g:Nat.beq a i with
      | false=>rfl
      | true=>exact absurd (A0 g) hne
     rw[f,hd,Q0]at h1;simp only[V7.2 ht,P9,Q0]at h1;exact h1
   | succ j =>
     have:=BT r (a+1) e j p t (by simpa using hj) A2 hd ht
     rwa[show a+1+j=a+(j+1) by omega]at this
def Rg.slot(g:Rg P base gl nt call ops F M V R X B){D:Nat->Bool}(q:mO ops.toList fun k=>D k=true)(u:∀ k,D k=true->k<ops.size){i:Nat}{o:Oper}(f:ops[i]? = some o)(hi:D i=false)
  (hr:∀ e ∈ o.after.toList,Region.binds .any e=true->D e.on=true) {t:Tmp} (x:t ∈ V4 ops.toList o):∀ k p,ops[k]? = some p->k≠i->p.dst=some t->(D k=true↔k<i):=fun k p hp l w=>by
 have s:∀ (i:Nat) (o:Oper),ops.toList[i]? = some o->∀ e ∈ o.after.toList,Region.binds .any e=true->e.on<i:=fun i o f=>by
  have:=(iA _ 0 g.ok i o f).1;rw[F4]at this;exact fD this
 have h1:=(iA _ 0 g.ok i o (S5 f)).2;have a:=BT _ 0 h1 k p t (S5 hp) A2 w x;rw[F4,F4]at a;unfold A26 at a;rcases Nat.lt_trichotomy k i with b|heq|j
 .have d:Nat.blt i k=false:=by
   cases d:Nat.blt i k with
   | false=>rfl
   | true=>have:i<k:=A1 d;omega
  rw[d]at a;have hm:=V7.1 (by simpa using a);exact⟨fun _=>b,fun _=>AI q s (i+1) i k o (J3 i) (S5 f) hr hm⟩
 .exact absurd heq l
 .have d:Nat.blt i k=true:=C5 j;rw[d]at a;have hm:=V7.1 (by simpa using a);refine⟨fun v=>?_,fun h=>by omega⟩
  have:=AI q s (k+1) k i p (J3 k) (S5 hp) (fun e he n=>q k p (S5 hp) v e he n) hm;rw[hi]at this;cases this
def Rg.frame(g:Rg P base gl nt call ops F M V R X B)(a:nt<=512){t:Tmp}(j:t<nt):∀ i,i<=ops.size->(F i).get t=aU (fun k=>Nat.blt k i) (fun k=>(ops[k]?).bind (·.dst)) V (F 0).get t i
 | 0,_=>rfl
 | i+1,h=>by
   obtain⟨o,f⟩:=P5 (ops:=ops) (i:=i) A2;obtain⟨h1,_,h3,_⟩:=g.st i o f;have p:=g.frame a j i A2;have s:aU (fun k=>Nat.blt k (i+1)) (fun k=>(ops[k]?).bind (·.dst)) V (F 0).get t i=aU (fun k=>Nat.blt k i) (fun k=>(ops[k]?).bind (·.dst)) V (F 0).get t i:=fA i fun k l _=>by
    rw[show Nat.blt k (i+1)=true from C5 A2,show Nat.blt k i=true from C5 l]
   have q:Nat.blt i (i+1)=true:=C5 (A6 _);rw[h3];unfold aU;rw[s,<- p];simp only[q,f,F5,true_and];cases n:o.dst with
   | none=>simp[vU]
   | some d =>
     rw[n]at h1;have b:d<nt:=A1 h1;simp only[vU,D2];rw[L8 _ _ _ _ (D3 b a) (D3 j a)];by_cases e:t=d
     .subst e;simp
     .rw[A7 e,A7 (fun h=>e h.symm)]
def Rg.look(g:Rg P base gl nt call ops F M V R X B)(a:nt<=512){D:Nat->Bool}(w:mO ops.toList fun k=>D k=true)(b:∀ k,D k=true->k<ops.size){i:Nat}{o:Oper}(l:ops[i]? = some o)(hi:D i=false)
  (hr:∀ e ∈ o.after.toList,Region.binds .any e=true->D e.on=true) {t:Tmp} (u:t ∈ V4 ops.toList o) (j:t<nt):aU D (fun k=>(ops[k]?).bind (·.dst)) V (F 0).get t ops.size=(F i).get t:=by
 have q:i<ops.size:=(C7.1 l).1;rw[g.frame a j i A2];have y:=g.slot w b l hi hr u;have x:aU D (fun k=>(ops[k]?).bind (·.dst)) V (F 0).get t ops.size=aU (fun k=>Nat.blt k i) (fun k=>(ops[k]?).bind (·.dst)) V (F 0).get t ops.size:=fA _ fun k n f=>by
  obtain⟨p,hp⟩:=P5 (ops:=ops) n;rw[hp]at f;by_cases e:k=i
  .subst e;rw[hi];symm;cases z:Nat.blt k k with
   | false=>rfl
   | true=>have:k<k:=A1 z;omega
  .have:=y k p hp e f;rw[K1,this];exact⟨fun h=>C5 h,fun h=>A1 h⟩
 rw[x];have v:∀ d,i+d<=ops.size->aU (fun k=>Nat.blt k i) (fun k=>(ops[k]?).bind (·.dst)) V (F 0).get t (i+d)=aU (fun k=>Nat.blt k i) (fun k=>(ops[k]?).bind (·.dst)) V (F 0).get t i:=by
  intro d;induction d with
  | zero=>intro _;rfl
  | succ d s =>
    intro f;rw[show i+(d+1)=(i+d)+1 by omega];rw[aU,A7 (fun hh=>by have:i+d<i:=A1 hh.1;omega)];exact s A2
 have:=v (ops.size-i) A2
 rwa[show i+(ops.size-i)=ops.size by omega]at this
def wV{o:Oper}{x:Operand}{t:Tmp}(hx:x ∈ o.op.operands.toList)(a:x=.tmp t):t ∈ V4 ops.toList o:=by
 unfold V4;refine B7.2 (.inr (B7.2 (.inl (List.mem_flatMap.2 ⟨x,hx,?_⟩))));subst a;simp[pY]
def Rg.see{z:Zn}(g:Rg P base gl nt call ops F M V R X B)(b:Ph ops B M lo up){v ρ:Ren}{w0 w:World}{D:Nat->Bool}{a:Act}{i:Nat}{o:Oper}
  (p:At P base gl v (M lo) (M up).hi w0) (O:mO ops.toList fun k=>D k=true) (q:lo<=i) (A:i<up) (x:ops[i]? = some o)
  (hr:∀ e ∈ o.after.toList,Region.binds .any e=true->D e.on=true):∀ id,id<=H7->∀ ab,Hp.get (M i).H id=some ab->id ∉ Z5 (CL ((Z0 ops.toList []).getD i []) (R i))->GD M lo up D id=some ab:=fun id hid ab h1 I=>by
 unfold GD;by_cases d:(M lo).n<=id/\id<(M i).n
 .obtain⟨k,u,Q,s,t⟩:∃ k,lo<=k/\k<i/\(M k).n<=id/\id<(M (k+1)).n:=by
   have:=g.who b (i-lo) A2 id d.1 (by rw[show lo+(i-lo)=i by omega];exact d.2)
   rwa[show lo+(i-lo)=i by omega]at this
  have y:D k=true:=by
   have f:(⟨k,(M k).n,(M (k+1)).n⟩:Rec) ∈ R i:=by
    have:=g.recs b (i-lo) A2 k u A2 id s t
    rwa[show lo+(i-lo)=i by omega]at this
   by_cases C:k ∈ (Z0 ops.toList []).getD i []
   .exact AI O (fun i o x=>by
     have:=(iA _ 0 g.ok i o x).1;rw[F4]at this;exact fD this) (i+1) i k o (J3 i) (S5 x) hr C
   .exfalso;refine I (yD.2 ⟨_,P1.2 ⟨f,?_⟩,s,t⟩);cases h:v8 ((Z0 ops.toList []).getD i []) k with
    | false=>rfl
    | true=>exact absurd (V7.1 h) C
  have hu:gL M (Dr lo D) id up=true:=(U2 _).2 ⟨k,A2,Y3.2 ⟨u,y⟩,s,t⟩;rw[hu];simp only[E3];rw[(g.le b (i:=i) (j:=up) q A2 (A6 _)).2.2 id hid d.2];exact h1
 .have N:=(g.all b q A2).2.2.2.2 id hid A2;rw[N]at h1;have hu:gL M (Dr lo D) id up=false:=by
   cases h:gL M (Dr lo D) id up with
   | false=>rfl
   | true =>
     exfalso;obtain⟨k,Q,J,s,t⟩:=(U2 _).1 h;have u:=(Y3.1 J).1;obtain⟨l,E,_⟩:=p.hr.at_ id hid ab h1;have L:=g.le b (i:=lo) (j:=k) (A6 _) u A2;have G:=g.le b (i:=k+1) (j:=up) A2 A2 (A6 _);have K:=(g.all b b.le (A6 _)).2.2.1;rw[p.fr id A2 A2]at E;cases E
  rw[hu];exact h1
def Rg.quiet{z:Zn}(g:Rg P base gl nt call ops F M V R X B)(E:V3 P base gl call){L ρ:Ren}{w0 w:World}{D D':Nat->Bool}{a:Act}{i:Nat}{o:Oper}{Q:Exit->Act->World->Prop}{K:Act->World->Prop}
  (u:At P base gl L (M lo) (M up).hi w0) (hS:Sat (M (i+1)).lg) (ae:nt<=512) (inv:Inv z P base gl nt ops F M V lo up L w0 D ρ a w) (hc:mO ops.toList fun k=>D k=true) (au:∀ k,D k=true->k<ops.size) (Y:ops[i]? = some o) (hi:D i=false)
  (hr:∀ e ∈ o.after.toList,Region.binds .any e=true->D e.on=true) (hD:∀ k,k≠i->D' k=D k) (ao:D' i=true)
  (ar:dZ nt ops.toList (W4 P call o) ((Z0 ops.toList []).getD i []) (R i) (F i) o (M i) (M (i+1)) (V i) r) (ah:∀ b ab,r=some (b,ab)->GD M lo up D b=some ab)
  (hK:∀ q a' w',Inv z P base gl nt ops F M V lo up L w0 D' q a' w'->K a' w'):gW P z.rd ops Q i K a w:=by
 have al:i<ops.size:=(C7.1 Y).1;obtain⟨bx,ad,hF,_⟩:=g.st i o Y;have J:∀ t,t ∈ V4 ops.toList o->t<nt->VR ρ ((F i).get t) (a.tmps.getD t undef):=fun t Z aw=>by
  rw[<- g.look ae hc au Y hi hr Z aw];exact inv.frm t aw
 have an:FR ρ (F i) a.eval o.op:=fun x hx=>by
  have az:okX nt gl x=true:=D4.1 ad x hx;cases x with
  | tmp t=>exact J t (wV hx rfl) (A1 az)
  | const v=>exact VR.ofC az
  | global gg=>exact VR.ptr (o:=0) (inv.ext _ _ (u.gr gg (A1 az)))
  | func f=>exact .func (a:=[]) (b:=[]) (a':=[]) (b':=[]) rfl rfl (fun i v v' h=>by simp at h) (fun i v v' h=>by simp at h)
 have C:∀ lg b,bG nt (F i) (M i).lg ops.toList o=some (b,lg)->Sat lg->Region.wanted o (yielded ops a.tmps)=b:=fun lg b hw G=>by
  unfold bG at hw;split at hw
  .rename_i hg;cases hw;simp[Region.wanted,hg]
  .rename_i j want hg;split at hw
   .rename_i p hp;split at hw
    .rename_i t Z;obtain⟨h1,s⟩:=A3 hw;have h1:t<nt:=A1 h1;have hv:=J t (by
      unfold V4;refine B7.2 (.inr (B7.2 (.inr ?_)));simp[hg,hp,Z]) h1
     exact mT hg hp Z (by rw[inv.tsz];exact h1) (pS s hv G)
    .cases hw
   .cases hw
 have y:∀ (q:Ren) (v':Value),(∀ b l,ρ b=some l->q b=some l)->VR q (V i) v'->∀ t,t<nt->VR q (aU D' (fun k=>(ops[k]?).bind (·.dst)) V (F 0).get t ops.size) ((a.put o.dst v').tmps.getD t undef):=fun q v' he hv t Z=>by
  by_cases hd:o.dst=some t
  .have T:∀ k,i<k->k<ops.size->(ops[k]?).bind (·.dst)=some t->D k=false:=fun k bw A ax=>by
    obtain⟨p,hp⟩:=P5 (ops:=ops) A;rw[hp]at ax
    have:=g.slot hc au Y hi hr (t:=t) (by unfold V4;simp[hd]) k p hp A2 ax;cases hq:D k with
    | false=>rfl
    | true=>have:=this.1 hq;omega
   rw[rZ hD ao ops.size al (by simp[Y,hd]) T];simp only[hd,Act.put,B8];rw[G1,A9 rfl,A9 (by rw[inv.tsz];exact Z)];exact hv
  .rw[oS hD (by simp[Y];exact hd)];have h1:=(inv.frm t Z).mono he;cases W:o.dst with
   | none=>exact h1
   | some d =>
     have aa:d≠t:=fun e=>hd (e▸W)
     simp only[Act.put,B8]at h1 ⊢;rw[G1,A7 aa];exact h1
 have hM:∃ lg,M (i+1)=(M i).wLg lg:=by
  rcases ar with⟨lg,_,_,h,_⟩|⟨_,aq,_,_,h,_⟩
  .exact⟨lg,h⟩
  .exact⟨aq,h⟩
 have hG:GD M lo up D'=GD M lo up D:=by
  funext b;unfold GD;have:gL M (Dr lo D') b up=gL M (Dr lo D) b up:=by
   obtain⟨lg,hm⟩:=hM;rw[K1,U2,U2];constructor
   .rintro⟨k,h1,s,h3,h4⟩
    have e:k≠i:=fun e=>by
     subst e;rw[hm]at h4;have h4:b<(M k).n:=h4;omega
    obtain⟨U,s⟩:=Y3.1 s;rw[hD k e]at s;exact⟨k,h1,Y3.2 ⟨U,s⟩,h3,h4⟩
   .rintro⟨k,h1,s,h3⟩
    obtain⟨U,s⟩:=Y3.1 s;have e:k≠i:=fun e=>by subst e;rw[hi]at s;cases s
    exact⟨k,h1,Y3.2 ⟨U,by rw[hD k e];exact s⟩,h3⟩
  rw[this]
 have N:∀ b l,ρ b=some l->L b=none->gL M (Dr lo D') b up=true/\(l.on=true->w0.heap.size<=l.blk):=fun b l h1 s=>by
  obtain⟨k1,k2⟩:=inv.new b l h1 s;obtain⟨k,q1,q2,q3⟩:=(U2 _).1 k1;obtain⟨aj,q2⟩:=Y3.1 q2;have e:k≠i:=fun e=>by subst e;rw[hi]at q2;cases q2
  exact⟨(U2 _).2 ⟨k,q1,Y3.2 ⟨aj,by rw[hD k e];exact q2⟩,q3⟩,k2⟩
 unfold gW;simp only[Y];rcases ar with⟨lg,hw,hv,hm,_⟩|⟨lg,aq,hw,hq,hm,ai⟩
 .have G:Sat lg:=by rw[hm]at hS;exact hS
  rw[C lg false hw G];simp only[J7,if_false];refine hK ρ _ w ⟨inv.ext,N,hG▸inv.hr,inv.keep,inv.size,inv.os,hG▸inv.tch,?_,?_,y ρ undef (fun _ _ h=>h) (hv▸pU ρ)⟩
  .cases W:o.dst<;>simp[Act.put,inv.tsz]
  .rw[eQ];exact inv.dfr
 .obtain⟨mv,m',S,O,hW,ak,hl⟩:=lG hq;obtain⟨v1,v2,v3,v4,v5,_⟩:=sW S;have av:Sat m'.lg:=by rw[hm]at hS;rw[hl];exact hS
  have G:Sat lg:=R6.le av (by have:=aC E O;rw[v4]at this;exact this);rw[C lg true hw G];simp only[if_true];have af:HR P base ρ mv.H w:=inv.hr.hr fun id hid ab ay=>ah id ab (ai.trans (v5 id hid ab ay))
  have bz:At P base gl ρ mv m'.hi w:=⟨af,B9 u.bs inv.size,fun b h1 s=>(by rw[v1]at h1;rw[ak]at s;omega),u.gr.mono inv.ext,(by rw[v1,v2];exact A6 _),fun b hb=>(by rw[v3]at hb;cases hb),fun k o A=>⟨(u.gf k o A).1,(inv.keep k (D3 (u.gf k o A).1 u.bs)).trans (u.gf k o A).2⟩⟩;refine qE E O av bz an fun v' q w' hv st=>?_
  have ag:q=ρ:=by
   funext b;cases h0:ρ b with
   | some l=>exact st.ext b l h0
   | none =>
     cases h1:q b with
     | none=>rfl
     | some l =>
       exfalso;have s:=(st.new b l h1 h0).1;have h3:=st.hr.dom b l h1;rw[v1]at s;unfold sP at s;unfold H7 at h3;omega
  subst ag;have I:∀ k,k<w.heap.size->w'.heap[k]? = w.heap[k]? := fun k A=>st.keep k A fun b hb=>by rw[hW]at hb;cases hb
  refine hK q _ w' ⟨inv.ext,N,hG▸⟨inv.hr.dom,fun id hid ab ay=>?_⟩,fun k A=>by rw[I k (D3 A inv.size),inv.keep k A],B9 inv.size st.size,⟨st.os.1.trans inv.os.1,st.os.2.1.trans inv.os.2.1,st.os.2.2.trans inv.os.2.2⟩,hG▸inv.tch,?_,?_,y q v' (fun _ _ h=>h) hv⟩
  .obtain⟨l,e1,e2,e3⟩:=inv.hr.at_ id hid ab ay;exact⟨l,e1,e2.mono (fun _ _ h=>h) (fun k A=>I _ (e2.tc A)),e3⟩
  .cases W:o.dst<;>simp[Act.put,inv.tsz]
  .rw[eQ];exact inv.dfr
def Rg.step{z:Zn}(g:Rg P base gl nt call ops F M V R X B)(ph:Ph ops B M lo up)(T:V3 P base gl call){ao ρ:Ren}{w0 w:World}{D D':Nat->Bool}{a:Act}{i:Nat}{o:Oper}{Q:Exit->Act->World->Prop}{K:Act->World->Prop}
  (N:At P base gl ao (M lo) (M up).hi w0) (hS:Sat (M up).lg) (bd:nt<=512) (inv:Inv z P base gl nt ops F M V lo up ao w0 D ρ a w) (hc:mO ops.toList fun k=>D k=true) (br:∀ k,D k=true->k<ops.size) (az:lo<=i) (av:i<up) (Z:ops[i]? = some o) (hi:D i=false)
  (hr:∀ e ∈ o.after.toList,Region.binds .any e=true->D e.on=true) (hD:∀ k,k≠i->D' k=D k) (ad:D' i=true)
  (bw:¬∃ r,dZ nt ops.toList (W4 P call o) ((Z0 ops.toList []).getD i []) (R i) (F i) o (M i) (M (i+1)) (V i) r)
  (hK:∀ C a' w',Inv z P base gl nt ops F M V lo up ao w0 D' C a' w'->K a' w'):gW P z.rd ops Q i K a w:=by
 have bk:i<ops.size:=(C7.1 Z).1;obtain⟨ct,bc,hF,ae⟩:=g.st i o Z;have bq:=ph.mx i o az av Z;have cu:=ph.sz;have cp:=g.le ph (i:=lo) (j:=i) (A6 _) az A2;have bg:=g.le ph (i:=i+1) (j:=up) A2 A2 (A6 _);have cv:=g.one Z bq (g.all ph az A2).2.2.1;have aq:∀ t,t ∈ V4 ops.toList o->t<nt->VR ρ ((F i).get t) (a.tmps.getD t undef):=fun t ht bu=>by
  rw[<- g.look bd hc br Z hi hr ht bu];exact inv.frm t bu
 have bl:FR ρ (F i) a.eval o.op:=fun x hx=>by
  have af:okX nt gl x=true:=D4.1 bc x hx;cases x with
  | tmp t=>exact aq t (wV hx rfl) (A1 af)
  | const v=>exact VR.ofC af
  | global gg=>exact VR.ptr (o:=0) (inv.ext _ _ (N.gr gg (A1 af)))
  | func f=>exact .func (a:=[]) (b:=[]) (a':=[]) (b':=[]) rfl rfl (fun i v v' h=>by simp at h) (fun i v v' h=>by simp at h)
 have ah:∀ lg b,bG nt (F i) (M i).lg ops.toList o=some (b,lg)->Sat lg->Region.wanted o (yielded ops a.tmps)=b:=fun lg b hw ag=>by
  unfold bG at hw;split at hw
  .rename_i hg;cases hw;simp[Region.wanted,hg]
  .rename_i j want hg;split at hw
   .rename_i p hp;split at hw
    .rename_i t ht;obtain⟨h1,u⟩:=A3 hw;have h1:t<nt:=A1 h1;have hv:=aq t (by
      unfold V4;refine B7.2 (.inr (B7.2 (.inr ?_)));simp[hg,hp,ht]) h1
     exact mT hg hp ht (by rw[inv.tsz];exact h1) (pS u hv ag)
    .cases hw
   .cases hw
 have an:∀ (C:Ren) (v':Value),(∀ b l,ρ b=some l->C b=some l)->VR C (V i) v'->∀ t,t<nt->VR C (aU D' (fun k=>(ops[k]?).bind (·.dst)) V (F 0).get t ops.size) ((a.put o.dst v').tmps.getD t undef):=fun C v' he hv t ht=>by
  by_cases hd:o.dst=some t
  .have aj:∀ k,i<k->k<ops.size->(ops[k]?).bind (·.dst)=some t->D k=false:=fun k cr U bx=>by
    obtain⟨p,hp⟩:=P5 (ops:=ops) U;rw[hp]at bx
    have:=g.slot hc br Z hi hr (t:=t) (by unfold V4;simp[hd]) k p hp A2 bx;cases hq:D k with
    | false=>rfl
    | true=>have:=this.1 hq;omega
   rw[rZ hD ad ops.size bk (by simp[Z,hd]) aj];simp only[hd,Act.put,B8];rw[G1,A9 rfl,A9 (by rw[inv.tsz];exact ht)];exact hv
  .rw[oS hD (by simp[Z];exact hd)];have h1:=(inv.frm t ht).mono he;cases bp:o.dst with
   | none=>exact h1
   | some d =>
     have ba:d≠t:=fun e=>hd (e▸bp)
     simp only[Act.put,B8]at h1 ⊢;rw[G1,A7 ba];exact h1
 have O:∀ b,gL M (Dr lo D') b up=true↔(gL M (Dr lo D) b up=true∨((M i).n<=b/\b<(M (i+1)).n)):=fun b=>by
  rw[U2,U2];constructor
  .rintro⟨k,h1,u,h3⟩
   obtain⟨ai,u⟩:=Y3.1 u;by_cases e:k=i
   .subst e;exact .inr h3
   .rw[hD k e]at u;exact .inl ⟨k,h1,Y3.2 ⟨ai,u⟩,h3⟩
  .rintro(⟨k,h1,u,h3⟩|h3)
   .obtain⟨ai,u⟩:=Y3.1 u;have e:k≠i:=fun e=>by subst e;rw[hi]at u;cases u
    exact⟨k,h1,Y3.2 ⟨ai,by rw[hD k e];exact u⟩,h3⟩
   .exact⟨i,av,Y3.2 ⟨az,ad⟩,h3⟩
 unfold gW;simp only[Z];have aa:Sat (M (i+1)).lg:=R6.le hS (by have:=g.lgs T (i:=i+1) (up-(i+1)) A2;rwa[show i+1+(up-(i+1))=up by omega]at this);rcases ae with⟨_,lg,hw,hv,hm⟩|⟨_,lg,cz,hw,hq,hm⟩|⟨bn,_⟩|⟨_,_,lg,hw,mv,m',aw,al,hW,bj,W⟩
 .exact absurd ⟨_,.inl ⟨lg,hw,hv,hm,rfl⟩⟩ bw
 .exact absurd ⟨_,.inr ⟨lg,cz,hw,hq,hm,rfl⟩⟩ bw
 .rw[bq]at bn;cases bn
 .have bt:Sat m'.lg:=by rw[JV W]at aa;exact aa
  have ag:Sat lg:=R6.le bt (by have:=aC T al;rw[PX aw]at this;exact this);rw[ah lg true hw ag];simp only[if_true];obtain⟨v1,v2,v3,_,v4⟩:=A2f aw;have v1:mv.n=(M i).n:=v1;have v2:mv.hi=(M i).hi:=v2;have v4:∀ id,id<=H7->∀ ab,Hp.get mv.H id=some ab->Hp.get (M i).H id=some ab/\id ∉ Z5 (CL ((Z0 ops.toList []).getD i []) (R i)):=v4;have ak:=(g.all ph az A2).2.2.1;obtain⟨q1,q2,q3,q4,q5,q6,_,q7⟩:=JU W ak bj;have q1:(M i).n<=(M (i+1)).n:=q1;have q5:(M (i+1)).n=m'.hi∨((M (i+1)).n=(M i).n/\m'.hi<=(M i).n):=q5;have q7:∀ id,id<=H7->Hp.get (M (i+1)).H id=if(M i).n<=id/\id<(M (i+1)).n then Hp.get m'.H id else Hp.get (M i).H id:=q7
  have I:∀ id,id<=H7->∀ ab,Hp.get mv.H id=some ab->GD M lo up D id=some ab:=fun id hid ab y=>by
   obtain⟨h1,u⟩:=v4 id hid ab y;exact g.see (z:=z) (a:=a) (ρ:=ρ) (w:=w) ph N hc az av Z hr id hid ab h1 u
  have bf:HR P base ρ mv.H w:=inv.hr.hr I;have S:K2 ρ mv.n m'.hi:=fun b h1 u=>by
   rw[v1]at h1;cases hb:ρ b with
   | none=>rfl
   | some l =>
     exfalso;cases h0:ao b with
     | some l0 =>
       rw[N.fr b A2 A2]at h0;cases h0
     | none =>
       obtain⟨k,k1,k2,k3,k4⟩:=(U2 _).1 (inv.new b l hb h0).1;obtain⟨k0,k2⟩:=Y3.1 k2;have cq:k≠i:=fun e=>by subst e;rw[hi]at k2;cases k2
       rcases F8 k i with bz|bz
       .have:=(g.le ph (i:=k+1) (j:=i) A2 A2 A2).1;omega
       .have:=(g.le ph (i:=i+1) (j:=k) A2 A2 A2).1;rcases q5 with q5|⟨_,q5⟩<;>omega
  have cy:At P base gl ρ mv m'.hi w:=⟨bf,B9 N.bs inv.size,S,N.gr.mono inv.ext,(by rw[v1,v2];exact ak),fun b hb=>(by rw[v3]at hb;cases hb),fun k o U=>⟨(N.gf k o U).1,(inv.keep k (D3 (N.gf k o U).1 N.bs)).trans (N.gf k o U).2⟩⟩;refine qE T al bt cy bl fun v' C w' hv st=>hK C _ w' ?_
  have ar:∀ k,k<w.heap.size->w'.heap[k]? = w.heap[k]? := fun k U=>st.keep k U fun b hb=>by rw[hW]at hb;cases hb
  have cw:m'.n<=m'.hi:=st.nhi (by rw[v1,v2];exact ak);have au:∀ b l,C b=some l->ρ b=none->((M i).n<=b/\b<(M (i+1)).n)/\(l.on=true->w.heap.size<=l.blk):=fun b l h1 u=>by
   have h3:=st.new b l h1 u;rw[v1]at h3;refine⟨⟨h3.1,?_⟩,?_⟩
   .rcases q5 with q5|⟨_,q5⟩<;>omega
   .intro Z;rcases st.blk b l h1 u Z with h|⟨b0,h,_⟩
    .exact h
    .rw[hW]at h;cases h
  have ax:∀ id,id<=H7->(M i).n<=id->id<(M (i+1)).n->GD M lo up D' id=Hp.get m'.H id/\ρ id=none:=fun id hid h1 u=>by
   constructor
   .unfold GD;rw[(O id).2 (.inr ⟨h1,u⟩)];simp only[E3];rw[bg.2.2 id hid u,q7 id hid,A9 ⟨h1,u⟩]
   .refine S id (by rw[v1];exact h1) ?_;rcases q5 with q5|⟨q5,_⟩
    .omega
    .rw[q5]at u;omega
  have Y:∀ id,¬ ((M i).n<=id/\id<(M (i+1)).n)->GD M lo up D' id=GD M lo up D id:=fun id hid=>by
   unfold GD;have:gL M (Dr lo D') id up=gL M (Dr lo D) id up:=by
    rw[K1,O id];exact⟨fun h=>h.elim (fun h=>h) (fun h=>absurd h hid),.inl⟩
   rw[this]
  have bb:∀ k,Ff C (GD M lo up D') k->w.heap.size<=k∨Ff ρ (GD M lo up D) k:=fun k ⟨id,ab,l,hid,y,hl,ht⟩=>by
   by_cases hI:(M i).n<=id/\id<(M (i+1)).n
   .rw[(ax id hid hI.1 hI.2).1]at y;rcases st.tch k ⟨id,ab,l,hid,y,hl,ht⟩with h|⟨A,ay,l0,e1,e2,e3,e4⟩
    .exact .inl h
    .exact .inr ⟨A,ay,l0,e1,I A e1 ay e2,e3,e4⟩
   .rw[Y id hI]at y;obtain⟨l3,c1,_⟩:=inv.hr.at_ id hid ab y;rw[st.ext id l3 c1]at hl
    have:=A8 hl;subst this;exact .inr ⟨id,ab,l3,hid,y,c1,ht⟩
  refine⟨fun b l h=>st.ext b l (inv.ext b l h),fun b l h1 u=>?_,⟨st.hr.dom,fun id hid ab y=>?_⟩,fun k U=>by rw[ar k (D3 U inv.size),inv.keep k U],B9 inv.size st.size,⟨st.os.1.trans inv.os.1,st.os.2.1.trans inv.os.2.1,st.os.2.2.trans inv.os.2.2⟩,fun k U=>(bb k U).elim (fun h=>.inl (B9 inv.size h)) (inv.tch k),?_,?_,an C v' st.ext hv⟩
  .cases h0:ρ b with
   | some l1 =>
     rw[st.ext b l1 h0]at h1
     have:=A8 h1;subst this;exact⟨(O b).2 (.inl (inv.new b l1 h0 u).1),(inv.new b l1 h0 u).2⟩
   | none =>
     have:=au b l h1 h0;exact⟨(O b).2 (.inr this.1),fun Z=>B9 inv.size (this.2 Z)⟩
  .by_cases hI:(M i).n<=id/\id<(M (i+1)).n
   .obtain⟨h1,u⟩:=ax id hid hI.1 hI.2;rw[h1]at y;obtain⟨l,e1,e2,e3⟩:=st.hr.at_ id hid ab y;refine⟨l,e1,e2,fun J G=>⟨(e3 J G).1,fun q s L l2 f1 f2 f3=>?_⟩⟩;by_cases E:(M i).n<=q/\q<(M (i+1)).n
    .rw[(ax q s E.1 E.2).1]at f1;exact(e3 J G).2 q s L l2 f1 f2 f3
    .rw[Y q E]at f1;obtain⟨l3,c1,c2,_⟩:=inv.hr.at_ q s L f1;rw[st.ext q l3 c1]at f2
     have:=A8 f2;subst this;have h5:=c2.tc f3;have h6:=(au id l e1 u).2 G;omega
   .rw[Y id hI]at y;obtain⟨l,e1,e2,e3⟩:=inv.hr.at_ id hid ab y;refine⟨l,st.ext _ _ e1,e2.mono st.ext (fun k U=>ar _ (e2.tc U)),fun J G=>⟨(e3 J G).1,fun q s L l2 f1 f2 f3=>?_⟩⟩;by_cases E:(M i).n<=q/\q<(M (i+1)).n
    .exfalso;rw[(ax q s E.1 E.2).1]at f1;have bh:L.fr=true:=by
      cases hq:L.fr with
      | true=>rfl
      | false =>
        exfalso;rcases f3 with⟨_,h1,u⟩|⟨h1,_⟩
        .have h5:=(au q l2 f2 (ax q s E.1 E.2).2).2 h1;have h6:=e2.tc (.inl ⟨AB.rw_on J,G,rfl⟩);omega
        .rw[h1]at hq;cases hq
     rcases st.tch _ ⟨q,L,l2,s,f1,f2,bh,f3⟩with h|⟨A,ay,l0,c1,c2,c3,_,c4⟩
     .have:=e2.tc (.inl ⟨AB.rw_on J,G,rfl⟩);omega
     .have h7:=(e3 J G).2 A c1 ay l0 (I A c1 ay c2) c3 c4;subst h7;have h8:=I A c1 ay c2;rw[y]at h8;have h8:=A8 h8;subst h8;have h9:A<mv.n∨m'.hi<=A:=by
       rcases F8 A mv.n with h|h
       .exact .inl h
       .rcases F8 A m'.hi with h'|h'
        .rw[S A h h']at e1;cases e1
        .exact .inr h'
      have bo:=st.same A c1 (by rw[hW];simp) h9;rw[c2]at bo;obtain⟨_,bm⟩:=st.hr.atl (st.ext _ _ e1) bo
      have:=(bm J G).2 q s L l2 f1 f2 f3;subst this;exact hI E
    .rw[Y q E]at f1;obtain⟨l3,c1,_⟩:=inv.hr.at_ q s L f1;rw[st.ext q l3 c1]at f2
     have:=A8 f2;subst this;exact(e3 J G).2 q s L l3 f1 c1 f3
  .cases bp:o.dst<;>simp[Act.put,inv.tsz]
  .rw[eQ];exact inv.dfr.congr st.ext fun _=>⟨rfl,rfl⟩
end
end
section
open Go
variable [Ora]
def DJ:∀ (l:List Bool) (i:Nat),l[i]? = some false->(l.set i true).countP (fun b=>!b)+1=l.countP (fun b=>!b)
 | [],i,h=>by simp at h
 | b::r,0,h=>by simp at h;subst h;simp
 | b::r,i+1,h=>by
   have:=DJ r i (by simpa using h);rw[List.set_cons_succ,List.countP_cons,List.countP_cons];omega
def PC{l:List Bool}(h:l.countP (fun b=>!b)=0):∀ i,i<l.length->l[i]? = some true:=fun i hi=>by
 rw[List.countP_eq_zero]at h
 have:=h l[i] (N5 hi);rw[A5 hi];cases a:l[i]with
 | true=>rfl
 | false=>rw[a]at this;exact absurd rfl this
section
variable {P:Program} {base gl:Nat} {call:O8}
def A0K(h:lO m m'=some m2)(a:m.hi<=m'.hi):m.hi<=m2.hi:=by
 unfold lO at h;cases b:Nat.ble m'.hi m.n with
 | true=>rw[b]at h;cases h;exact A6 _
 | false =>
   rw[b]at h;obtain⟨_,h⟩:=A3 h;simp only[E5,eF]at h;cases h;exact a
def AG:∀ {n:Nat} {b:H4} {a:Qs},HB n b a=true->∀ k,k<n->k ∈ b∨∃ q ∈ a,q.1=k
 | 0,_,_,_,k,h=>by omega
 | n+1,b,a,h,k,hk=>by
   obtain⟨h1,d⟩:=B6 (show((v8 b n || a.any fun q=>Nat.beq n q.1) && HB n b a)=true from h);by_cases e:k=n
   .subst e;rcases J0 _ _▸h1 with h1|h1
    .exact .inl (V7.1 h1)
    .obtain⟨q,g,f⟩:=P6.1 h1;exact .inr ⟨q,g,(A0 f).symm⟩
   .exact AG d k A2
def yL:∀ {i:Nat} {bs:List H4} {r:List Oper},FQ i bs r=true->∀ (j:Nat) (c:List Nat) (o:Oper),bs[j]? = some c->r[j]? = some o->i ∈ c∨aK o.op=true
 | _,[],_,_,j,c,o,h,_=>by simp at h
 | _,_::_,[],_,j,c,o,_,h=>by simp at h
 | i,c0::bs,o0::r,h,j,c,o,h1,h2=>by
   obtain⟨a,b⟩:=B6 (show((v8 c0 i || aK o0.op) && FQ i bs r)=true from h);cases j with
   | zero =>
     simp at h1 h2;subst h1;subst h2;rcases J0 _ _▸a with a|a
     .exact .inl (V7.1 a)
     .exact .inr a
   | succ j=>exact yL b j c o (by simpa using h1) (by simpa using h2)
def EQ{ops:Array Oper}{X:Nat->Qs}{i:Nat}{o:Oper}(h:A2o ops X i o=true):aK o.op=false:=by
 obtain⟨h,_⟩:=B6 (show(wrO o.op && _)=true from h);cases a:o.op<;>rw[a]at h<;>first
  | rfl
  | cases h
def NJ{ops:Array Oper}{X:Nat->Qs}{i:Nat}{o:Oper}(h:A2o ops X i o=true):∀ k,k<i->k ∈ (Z0 ops.toList []).getD i []∨∃ q ∈ X i,q.1=k:=by
 obtain⟨_,h⟩:=B6 (show(wrO o.op && _)=true from h);obtain⟨h,_⟩:=B6 h;exact AG h
def NI{ops:Array Oper}{X:Nat->Qs}{i:Nat}{o:Oper}(h:A2o ops X i o=true):∀ j p,i<j->ops[j]? = some p->i ∈ (Z0 ops.toList []).getD j []∨aK p.op=true:=fun j p g hp=>by
 obtain⟨_,h⟩:=B6 (show(wrO o.op && _)=true from h);obtain⟨_,h⟩:=B6 h;obtain⟨e,b,d,_⟩:=uC ops.toList [];have hlen:(Z0 ops.toList []).length=ops.size:=by rw[b];simpa using d
 have f:j<ops.size:=(C7.1 hp).1;have a:j<(Z0 ops.toList []).length:=A2
 have:=yL h (j-(i+1)) (Z0 ops.toList [])[j] p (by rw[H9,show i+1+(j-(i+1))=j by omega,A5 a]) (by rw[H9,show i+1+(j-(i+1))=j by omega];exact S5 hp);rw[B1,A5 a];exact this
def tB(ops:Array Oper)(B:Nat->Bool):∀ (d lo:Nat),lo+d=ops.size->∃ up,lo<=up/\up<=ops.size/\(∀ i o,lo<=i->i<up->ops[i]? = some o->B i=false)/\(up<ops.size->∃ o,ops[up]? = some o/\B up=true)
 | 0,lo,h=>⟨lo,A6 _,A2,fun i o h1 f=>by omega,fun f=>by omega⟩
 | d+1,lo,h=>by
   obtain⟨o,j⟩:=P5 (ops:=ops) (i:=lo) A2;cases g:B lo with
   | true=>exact⟨lo,A6 _,A2,fun i o h1 f=>by omega,fun _=>⟨o,j,g⟩⟩
   | false =>
     obtain⟨up,h1,f,h3,k⟩:=tB ops B d (lo+1) A2;refine⟨up,A2,f,fun i o' a b c=>?_,k⟩;by_cases e:i=lo
     .subst e;exact g
     .exact h3 i o' A2 b c
section
variable {nt:Nat} {ops:Array Oper} {F:Nat->Fr} {M:Nat->Mem} {V:Nat->Value} {R:Nat->List Rec} {X:Nat->Qs} {B:Nat->Bool} {lo up:Nat}
def Rg.frameUp(g:Rg P base gl nt call ops F M V R X B)(a:nt<=512){t:Tmp}(f:t<nt){i:Nat}(hi:i<=ops.size):aU (fun k=>Nat.blt k i) (fun k=>(ops[k]?).bind (·.dst)) V (F 0).get t ops.size=(F i).get t:=by
 rw[g.frame a f i hi];have b:∀ d,i+d<=ops.size->aU (fun k=>Nat.blt k i) (fun k=>(ops[k]?).bind (·.dst)) V (F 0).get t (i+d)=aU (fun k=>Nat.blt k i) (fun k=>(ops[k]?).bind (·.dst)) V (F 0).get t i:=by
  intro d;induction d with
  | zero=>intro _;rfl
  | succ d e =>
    intro j;rw[show i+(d+1)=(i+d)+1 by omega];rw[aU,A7 (fun hh=>by have:i+d<i:=A1 hh.1;omega)];exact e A2
 have:=b (ops.size-i) A2
 rwa[show i+(ops.size-i)=ops.size by omega]at this
def B2k{k i:Nat}:Nat.blt k i=true↔k<i:=⟨fun h=>A1 h,fun h=>C5 h⟩
def Rg.own(g:Rg P base gl nt call ops F M V R X B)(b:nt<=510):∀ (i:Nat),i<=ops.size->(F i).get 510=(F 0).get 510/\(F i).get 511=(F 0).get 511
 | 0,_=>⟨rfl,rfl⟩
 | i+1,hi=>by
   obtain⟨o,l⟩:=P5 (ops:=ops) (i:=i) A2;obtain⟨d1,_,d3,_⟩:=g.st i o l;have f:=g.own b i A2;have key:∀ t,510<=t->t<512->(F (i+1)).get t=(F i).get t:=fun t h1 k=>by
    rw[d3];cases j:o.dst with
    | none=>rfl
    | some d =>
      rw[j]at d1;have a:d<nt:=A1 d1;show((F i).set d _).get t=_;rw[L8 _ _ _ _ (D3 a A2) k,A7 (fun e=>by subst e;exact absurd a (Nat.not_lt.2 (B9 b h1)))]
   exact⟨(key 510 E7 E7).trans f.1,(key 511 E7 E7).trans f.2⟩
def Rg.inX(g:Rg P base gl nt call ops F M V R X B):∀ (j:Nat),j<=ops.size->∀ q ∈ X j,q.1<j/\q ∈ X (q.1+1)/\∃ o,ops[q.1]? = some o/\dZ nt ops.toList (W4 P call o) ((Z0 ops.toList []).getD q.1 []) (R q.1) (F q.1) o (M q.1) (M (q.1+1)) (V q.1) q.2
 | 0,_,q,hq=>by rw[g.x0]at hq;cases hq
 | j+1,hj,q,hq=>by
   obtain⟨o,d⟩:=P5 (ops:=ops) (i:=j) A2;have old:q ∈ X j->q.1<j+1/\q ∈ X (q.1+1)/\∃ o,ops[q.1]? = some o/\dZ nt ops.toList (W4 P call o) ((Z0 ops.toList []).getD q.1 []) (R q.1) (F q.1) o (M q.1) (M (q.1+1)) (V q.1) q.2:=fun h=>by
    obtain⟨h1,b⟩:=g.inX j A2 q h;exact⟨A2,b⟩
   rcases g.qs j o d with⟨_,h,_⟩|⟨_,h⟩|⟨_,r,h,b⟩
   .exact old (h▸hq)
   .exact old (h▸hq)
   .have a:=hq;rw[h]at hq;rcases B5.1 hq with e|e
    .subst e;exact⟨J3 _,a,o,d,b⟩
    .exact old e
def CE{all:List Oper}{b:H4}{fr:Fr}{o:Oper}{v:Value}(h:dZ nt all op b rs fr o m m2 v r):∃ lg,m2=m.wLg lg:=by
 rcases h with⟨lg,_,_,h,_⟩|⟨_,a,_,_,h,_⟩
 .exact⟨lg,h⟩
 .exact⟨a,h⟩
def Rg.kind(g:Rg P base gl nt call ops F M V R X B){i:Nat}{o:Oper}(f:ops[i]? = some o)(a:aK o.op=true):dZ nt ops.toList (W4 P call o) ((Z0 ops.toList []).getD i []) (R i) (F i) o (M i) (M (i+1)) (V i) none:=by
 obtain⟨_,_,_,h⟩:=g.st i o f;have j:KV (M i).H (F i) o.op=none:=by
  cases b:o.op<;>rw[b]at a<;>first|rfl|cases a
 rcases h with⟨_,lg,h1,d,h3⟩|⟨_,lg,e,h1,d,h3⟩|⟨h,_⟩|⟨_,h,_⟩
 .exact .inl ⟨lg,h1,d,h3,rfl⟩
 .exact .inr ⟨lg,e,h1,d,h3,j.symm⟩
 .rw[EQ (g.sb i o f h)]at a;cases a
 .rw[a]at h;cases h
def Rg.heap{z:Zn}(g:Rg P base gl nt call ops F M V R X B)(f:Ph ops B M lo up){D:Nat->Bool}{p ρ:Ren}{a:Act}{y w':World}(hD:∀ k,lo<=k->k<up->D k=false->∃ lg,M (k+1)=(M k).wLg lg)(inv:Inv z P base gl nt ops F M V lo up p y D ρ a w'):St P base p ρ (M lo) (M up) y w':=by
 have w:∀ id,id<=H7->GD M lo up D id=Hp.get (M up).H id:=fun id hid=>by
  unfold GD;cases hu:gL M (Dr lo D) id up with
  | true=>rfl
  | false =>
    simp only[D6];refine((g.all f f.le (A6 _)).2.2.2.2 id hid ?_).symm;rcases F8 id (M lo).n with h1|h1
    .exact .inl h1
    .rcases F8 id (M up).n with e|e
     .exfalso;have hle:=f.le;obtain⟨k,q,J,v,o⟩:=g.who f (up-lo) A2 id h1 (by rw[show lo+(up-lo)=up by omega];exact e);have t:D k=true:=by
       cases K:D k with
       | true=>rfl
       | false =>
         obtain⟨lg,hm⟩:=hD k q A2 K;rw[hm]at o;have o:id<(M k).n:=o;omega
      rw[(U2 (M:=M) (D:=Dr lo D) up).2 ⟨k,A2,Y3.2 ⟨q,t⟩,v,o⟩]at hu;cases hu
     .exact .inr e
 have d:=g.all f f.le (A6 _);refine⟨inv.ext,fun b l h1 e=>?_,d.1,d.2.1,fun _=>d.2.2.1,inv.hr.hr fun id hid ab s=>by rw[w id hid];exact s,fun b G=>by rw[d.2.2.2.1];exact G,fun b h1 e=>by rw[d.2.2.2.1]at h1;exact absurd h1 e,
     fun k A _=>inv.keep k A,inv.size,inv.os,fun b l h1 e h=>.inl ((inv.new b l h1 e).2 h),fun id hid h1 e=>?_,fun k ⟨id,ab,l,u,x,E,I⟩=>inv.tch k ⟨id,ab,l,u,(w id u).trans x,E,I⟩⟩
 .obtain⟨k,J,C,v,o⟩:=(U2 _).1 (inv.new b l h1 e).1;have q:=(Y3.1 C).1;have u:=(g.le f (i:=lo) (j:=k) (A6 _) q A2).1;have x:=(g.le f (i:=k+1) (j:=up) A2 A2 (A6 _)).1;omega
 .refine d.2.2.2.2 id hid ?_;rcases e with e|e
  .exact .inl e
  .exact .inr (by have:=d.2.2.1;omega)
def Rg.last{z:Zn}(g:Rg P base gl nt call ops F M V R X B)(b:nt<=512){D:Nat->Bool}{d ρ:Ren}{a:Act}{n w':World}(hD:∀ i,i<ops.size->D i=true)(inv:Inv z P base gl nt ops F M V lo up d n D ρ a w'):FrR z ρ nt (F ops.size) a:=by
 have e:=inv.dfr.congr (fun _ _ h=>h) (fun l=>g.own l ops.size (A6 _));refine⟨inv.tsz,b,e.1,e.2,fun t j=>?_⟩;have h1:=inv.frm t j;rw[<- g.frameUp b j (A6 _)]
 rwa[fA (D':=fun k=>Nat.blt k ops.size) ops.size (fun k f _=>by rw[hD k f];exact(B2k.2 f).symm)]at h1
def Rg.fresh{z:Zn}(g:Rg P base gl nt call ops F M V R X B){D:Nat->Bool}{ρ:Ren}{a:Act}{w:World}(hD:∀ k,lo<=k->D k=true->∃ lg,M (k+1)=(M k).wLg lg)(hr:HR P base ρ (M lo).H w)(j:a.tmps.size=nt)(p:ZR z ρ nt (F 0) a.defers)
  (e:∀ t,t<nt->VR ρ (aU D (fun k=>(ops[k]?).bind (·.dst)) V (F 0).get t ops.size) (a.tmps.getD t undef)):Inv z P base gl nt ops F M V lo up ρ w D ρ a w:=by
 have hu:∀ b n,gL M (Dr lo D) b n=false:=fun b n=>by
  cases y:gL M (Dr lo D) b n with
  | false=>rfl
  | true =>
    obtain⟨k,_,h,A,q⟩:=(U2 _).1 y;obtain⟨h1,o⟩:=Y3.1 h;obtain⟨lg,hm⟩:=hD k h1 o;rw[hm]at q;have q:b<(M k).n:=q;omega
 have i:∀ id ab,GD M lo up D id=some ab->Hp.get (M lo).H id=some ab:=fun id ab d=>by
  unfold GD at d;rw[hu]at d;exact d
 exact⟨fun _ _ h=>h,fun b l h1 o=>(by rw[h1]at o;cases o),hr.f fun id hid ab d=>i id ab d,fun _ _=>rfl,A6 _,⟨rfl,rfl,rfl⟩,fun k ⟨id,ab,l,x,u,s,v⟩=>.inr ⟨id,ab,l,x,i id ab u,s,v⟩,j,p,e⟩
def Rg.old{z:Zn}(g:Rg P base gl nt call ops F M V R X B)(d:Ph ops B M lo up){e:Ren}{w0:World}{D:Nat->Bool}(a:At P base gl e (M lo) (M up).hi w0){b:Nat}{ab:AB}(s:yX (M lo).H b ab=true):GD M lo up D b=some ab:=by
 obtain⟨h1,hid⟩:=yW s;unfold GD;have hu:gL M (Dr lo D) b up=false:=by
  cases u:gL M (Dr lo D) b up with
  | false=>rfl
  | true =>
    exfalso;obtain⟨k,x,o,v,w⟩:=(U2 _).1 u;have t:=(Y3.1 o).1;obtain⟨l,f,_⟩:=a.hr.at_ b hid _ h1;have q:=g.le d (i:=lo) (j:=k) (A6 _) t A2;have n:=g.le d (i:=k+1) (j:=up) A2 A2 (A6 _);have p:=(g.all d d.le (A6 _)).2.2.1;rw[a.fr b A2 A2]at f;cases f
 rw[hu];exact h1
end
def A1k(hm:P.follows .mixedOrders=true)(T:V3 P base gl call):gG P base gl call:=by
 refine⟨hm,?_⟩;intro nt ops br s s' cb;obtain⟨F,M,V,R,X,B,f1,f2,f3,dq,f4,f5,f6⟩:=A4U ops.toList 0 _ _ _ s s' cb;simp only[F4,R4]at f4 f5 f6;have ct:∀ i,i<=ops.size->∀ d,i+d<=ops.size->(M i).hi<=(M (i+d)).hi/\(M i).lg.le (M (i+d)).lg:=by
  intro i _ d;induction d with
  | zero=>intro _;exact⟨A6 _,.refl _⟩
  | succ d ih =>
    intro h;have h1:=ih A2;obtain⟨o,C⟩:=P5 (ops:=ops) (i:=i+d) A2;obtain⟨bl,_⟩:=f6 (i+d) o (S5 C);refine⟨?_,h1.2.trans (BQ T bl)⟩;obtain⟨_,_,_,O⟩:=bl;rcases O with⟨_,_,_,_,O⟩|⟨_,_,_,_,_,O⟩|⟨_,_,_,_,O⟩|⟨_,_,_,_,mv,m',_,_,_,cl,O⟩
    .show _<=(M (i+d+1)).hi;rw[O];exact h1.1
    .show _<=(M (i+d+1)).hi;rw[O];exact h1.1
    .exact B9 h1.1 O
    .exact B9 h1.1 (A0K O cl)
 have E:∀ i j,i<=j->j<=ops.size->(M i).hi<=(M j).hi/\(M i).lg.le (M j).lg:=fun i j h1 O=>by
  have:=ct i A2 (j-i) A2
  rwa[show i+(j-i)=j by omega]at this
 constructor
 .have:=E 0 ops.size A2 (A6 _);rw[f2,f5]at this;exact this
 .intro z aw a0 w id Q cj ar ah hQ;have g:Rg P base gl nt call ops F M V R X B:=⟨fun i o C=>(f6 i o (S5 C)).1,fun i o C=>(f6 i o (S5 C)).2.2.1,fun i o C=>(f6 i o (S5 C)).2.2.2,fun i o C=>(f6 i o (S5 C)).2.1,dq,br⟩;have ca:∀ i o,ops[i]? = some o->∀ e ∈ o.after.toList,Region.binds .any e=true->e.on<i:=fun i o C=>by
   have:=(iA _ 0 g.ok i o (S5 C)).1;rw[F4]at this;exact fD this
  refine kT hm ?_;generalize cq:({ w with drawn:=w.drawn+1 }:World)=w1;have au:w1.heap=w.heap:=by rw[<- cq]
  have cu:w1.os=w.os/\w1.tape=w.tape/\w1.output=w.output:=by rw[<- cq];exact⟨rfl,rfl,rfl⟩
  have an:At P base gl aw (M 0) (M ops.size).hi w1:=by
   rw[f2,f5];exact⟨⟨fun b l h=>ar.hr.dom b l h,fun id hid ab dm=>by
    obtain⟨l,e1,e2,e3⟩:=ar.hr.at_ id hid ab dm;exact⟨l,e1,e2.mono (fun _ _ h=>h) (fun _ _=>by rw[au]),e3⟩⟩,by rw[au];exact ar.bs,ar.fr,ar.gr,ar.nh,ar.wb,fun k o A=>by rw[au];exact ar.gf k o A⟩
  have ag:∀ i,i<=ops.size->Sat (M i).lg:=fun i hi=>R6.le cj (by rw[<- f5];exact(E i ops.size hi (A6 _)).2)
  have ay:K2 aw (M 0).n (M ops.size).hi:=an.fr;have fin:∀ (ρ:Ren) (a:Act) (w':World),FrR z ρ nt (F ops.size) a->St P base aw ρ (M 0) (M ops.size) w1 w'->Q .normal a w':=fun ρ a w' hf st=>by
   refine hQ ρ a w' (by rw[<- f4];exact hf) ?_;rw[<- f2,<- f5];exact⟨st.ext,st.new,st.nle,st.hle,st.nhi,st.hr,st.wsub,st.wrw,fun k A hb=>by rw[st.keep k (by rw[au];exact A) hb,au],by rw[<- au];exact st.size,⟨st.os.1.trans cu.1,st.os.2.1.trans cu.2.1,st.os.2.2.trans cu.2.2⟩,fun b l h1 O h3=>by rw[<- au];exact st.blk b l h1 O h3,st.same,fun k A=>by rw[<- au];exact st.tch k A⟩
  have main:∀ (fuel:Nat) (listed:Array Bool) (lo up:Nat) (L ρ:Ren) (a:Act) (wL w':World),listed.size=ops.size->listed.toList.countP (fun b=>!b)=fuel->mO ops.toList (fun k=>listed.getD k false=true) ->
    Ph ops B M lo up->(up<ops.size->∃ o,ops[up]? = some o/\B up=true)->St P base aw L (M 0) (M lo) w1 wL->At P base gl L (M lo) (M ops.size).hi wL->(∀ q ∈ X lo,listed.getD q.1 false=false->A5g (M lo).H q.2=true)->(∀ k,k<lo->listed.getD k false=false->∃ q ∈ X lo,q.1=k)->(∀ k o,up<=k->ops[k]? = some o->listed.getD k false=true->aK o.op=true) ->
    Inv z P base gl nt ops F M V lo up L wL (fun k=>listed.getD k false) ρ a w'->iN P z.rd .any ops Q fuel listed a w':=by
   have done:∀ (listed:Array Bool) (lo up:Nat) (L ρ:Ren) (a:Act) (wL w':World),(∀ i,i<ops.size->listed.getD i false=true)->Ph ops B M lo up->(up<ops.size->∃ o,ops[up]? = some o/\B up=true)->St P base aw L (M 0) (M lo) w1 wL->(∀ k o,up<=k->ops[k]? = some o->listed.getD k false=true->aK o.op=true) ->
     Inv z P base gl nt ops F M V lo up L wL (fun k=>listed.getD k false) ρ a w'->Q .normal a w':=fun listed lo up L ρ a wL w' W ph J ak K inv=>by
    have cp:up=ops.size:=by
     rcases F8 up ops.size with h|h
     .obtain⟨o,C,hs⟩:=J h
      have:=K up o (A6 _) C (W up h);rw[EQ (g.sb up o C hs)]at this;cases this
     .have:=ph.sz;omega
    subst cp;exact fin ρ a w' (g.last ah.le W inv) (St.trans ay ak (g.heap ph (fun k _ h1 O=>by have O:listed.getD k false=false:=O;rw[W k h1]at O;cases O) inv))
   intro fuel;induction fuel with
   | zero =>
     intro listed lo up L ρ a wL w' bb bg ao ph J ak bz cr bx K inv;have W:∀ i,i<ops.size->listed.getD i false=true:=fun i hi=>by
      have:=PC bg i (by simpa [bb]using hi);have O:listed[i]? = some true:=by simpa using this
      simp[B8,O]
     refine⟨?_,done listed lo up L ρ a wL w' W ph J ak K inv⟩;rw[cB];intro j hj;obtain⟨h1,o,O,_⟩:=mem_ready.1 hj;have av:j<ops.size:=(C7.1 O).1;have h3:=W j av;have bc:j<listed.size:=A2;simp[B8,bc]at h1 h3;rw[h1]at h3;cases h3
   | succ fuel ih =>
     intro listed lo up L ρ a wL w' bb bg ao ph J ak bz cr bx K inv;refine⟨fun ds=>?_,fun i hi=>?_⟩
     ·
      have key:∀ n i,i<n->i<ops.size->listed.getD i false=true:=by
       intro n;induction n with
       | zero=>intro i h;omega
       | succ n bn =>
         intro i dj bo;by_cases h:i<n
         .exact bn i h bo
         .cases Y:listed.getD i false with
          | true=>rfl
          | false =>
            exfalso;obtain⟨o,C⟩:=P5 (ops:=ops) bo;have bj:i ∈ Region.ready .any ops listed:=mem_ready.2 ⟨by
             have bc:i<listed.size:=A2;simp[B8,bc]at Y ⊢;exact Y,o,C,fun e he hb=>by
             have av:=ca i o C e (by simpa using he) hb;exact bn e.on A2 A2⟩
            rw[ds]at bj;cases bj
      exact done listed lo up L ρ a wL w' (fun i hi=>key (i+1) i (J3 i) hi) ph J ak K inv
     .obtain⟨h1,o,C,O⟩:=mem_ready.1 hi;have bo:i<ops.size:=(C7.1 C).1;have ae:i<listed.size:=A2;have az:listed.getD i false=false:=by
       simp[B8,ae]at h1 ⊢;exact h1
      have u:∀ k,k≠i->(listed.setIfInBounds i true).getD k false=listed.getD k false:=fun k A=>by
       simp only[B8,G1];rw[A7 (fun e=>A e.symm)]
      have I:(listed.setIfInBounds i true).getD i false=true:=by
       simp[B8,G1,ae]
      have hr:∀ e ∈ o.after.toList,Region.binds .any e=true->listed.getD e.on false=true:=fun e he hb=>O e (by simpa using he) hb
      have bh:(listed.setIfInBounds i true).size=ops.size:=by simpa using bb
      have bw:(listed.setIfInBounds i true).toList.countP (fun b=>!b)=fuel:=by
       have hg:listed.toList[i]? = some false:=by
        simp[B8,ae]at az;simp[ae,az]
       have:=DJ listed.toList i hg;rw[Array.toList_setIfInBounds];omega
      have bd:mO ops.toList (fun k=>(listed.setIfInBounds i true).getD k false=true):=by
       intro k o' ba A e he hb;by_cases e1:e.on=i
       .rw[e1];exact I
       .show(listed.setIfInBounds i true).getD e.on false=true;rw[u e.on e1];by_cases e2:k=i
        .subst e2;have:ops.toList[k]? = some o:=S5 C;rw[this]at ba;cases ba;exact hr e he hb
        .have A:(listed.setIfInBounds i true).getD k false=true:=A;rw[u k e2]at A;exact ao k o' ba A e he hb
      have bt:∀ k,k ∈ (Z0 ops.toList []).getD i []->listed.getD k false=true:=fun k A=>AI ao (fun i o C=>by
        have:=(iA _ 0 g.ok i o C).1;rw[F4]at this;exact fD this) (i+1) i k o (J3 i) (S5 C) hr A
      have av:∀ k,listed.getD k false=true->k<ops.size:=fun k A=>by
       rcases F8 k ops.size with h|h
       .exact h
       .have S:listed[k]? = none:=Array.getElem?_eq_none_iff.2 A2;rw[B8,S]at A;cases A
      have ad:At P base gl L (M lo) (M up).hi wL:=bz.less (E up ops.size ph.sz (A6 _)).1;have go:∀ (y:Ren) (a':Act) (G:World),(up<=i->aK o.op=true)->Inv z P base gl nt ops F M V lo up L wL (fun k=>(listed.setIfInBounds i true).getD k false) y a' G->iN P z.rd .any ops Q fuel (listed.setIfInBounds i true) a' G:=fun y a' G Y ax =>
       ih (listed.setIfInBounds i true) lo up L y a' wL G bh bw bd ph J ak bz (fun q Y S=>cr q Y (by
        by_cases e:q.1=i
        .rw[e,I]at S;cases S
        .rw[u _ e]at S;exact S)) (fun k A S=>by
        by_cases e:k=i
        .subst e;rw[I]at S;cases S
        .rw[u k e]at S;exact bx k A S) (fun k p A hp Z=>by
        by_cases e:k=i
        .subst e;rw[C]at hp;cases hp;exact Y A
        .rw[u k e]at Z;exact K k p A hp Z) ax
      have quiet:∀ r,(up<=i->aK o.op=true)->dZ nt ops.toList (W4 P call o) ((Z0 ops.toList []).getD i []) (R i) (F i) o (M i) (M (i+1)) (V i) r->(∀ b ab,r=some (b,ab)->GD M lo up (fun k=>listed.getD k false) b=some ab)->gW P z.rd ops Q i (fun a' G=>iN P z.rd .any ops Q fuel (listed.setIfInBounds i true) a' G) a w':=fun r Y U dt =>
       g.quiet T ad (ag (i+1) A2) ah.le inv ao av C az hr u I U dt fun y a' G ax=>go y a' G Y ax
      rcases F8 i lo with aa|aa
      ·
       obtain⟨q,cm,dy⟩:=bx i aa az;obtain⟨_,_,p,hp,U⟩:=g.inX lo (by have:=ph.sz;have:=ph.le;omega) q cm;rw[dy]at hp U;rw[C]at hp;cases hp;refine quiet q.2 (fun h=>by have:=ph.le;omega) U fun b ab hb=>?_
       refine g.old (z:=z) ph ad ?_
       have:=cr q cm (by rw[dy];exact az);rw[hb]at this;exact this
      .rcases F8 i up with cy|cy
       ·
        by_cases hex:∃ r,dZ nt ops.toList (W4 P call o) ((Z0 ops.toList []).getD i []) (R i) (F i) o (M i) (M (i+1)) (V i) r
        .obtain⟨r,U⟩:=hex;refine quiet r (fun h=>by omega) U fun b ab hb=>?_
         rcases U with⟨_,_,_,_,dp⟩|⟨lg,dh,hw,Y,hm,du⟩
         .rw[dp]at hb;cases hb
         .obtain⟨mv,m',cz,_⟩:=lG Y;obtain⟨h3,h4⟩:=(sW cz).2.2.2.2.2 b ab (du.symm.trans hb);obtain⟨h5,h6⟩:=yW h3;exact g.see (z:=z) (a:=a) (ρ:=ρ) (w:=w') ph ad ao aa cy C hr b h6 _ h5 h4
        .exact g.step ph T ad (ag up ph.sz) ah.le inv ao av aa cy C az hr u I hex fun y a' G ax=>go y a' G (fun h=>by omega) ax
       .obtain⟨os,bq,al⟩:=J A2;rcases F8 up i with dn|df
        ·
         have A:aK o.op=true:=by
          rcases NI (g.sb up os bq al) i o dn C with h|h
          .have h3:=K up os (A6 _) bq (bt up h);rw[EQ (g.sb up os bq al)]at h3;cases h3
          .exact h
         exact quiet none (fun _=>A) (g.kind C A) fun b ab hb=>by cases hb
        ·
         have cd:i=up:=A2;subst cd;rw[C]at bq;cases bq;have af:∀ k,k<i->listed.getD k false=false->∃ q ∈ X i,q.1=k:=fun k A S=>by
          rcases NJ (g.sb i o C al) k A with h|h
          .rw[bt k h]at S;cases S
          .exact h
         have q2:=g.heap ph (fun k _ A S=>by
          obtain⟨q,Y,e⟩:=af k A S;obtain⟨_,_,p,hp,U⟩:=g.inX i A2 q Y;rw[e]at U;exact CE U) inv
         have dw:St P base aw ρ (M 0) (M i) w1 w':=St.trans (ay.less (E i ops.size A2 (A6 _)).1) ak q2;have aq:At P base gl ρ (M i) (M ops.size).hi w':=bz.step q2;obtain⟨d1,d2,d3,bl⟩:=g.st i o C;have bp:∀ t,t ∈ V4 ops.toList o->t<nt->VR ρ ((F i).get t) (a.tmps.getD t undef):=fun t ht ch=>by
          rw[<- g.look ah.le ao av C az hr ht ch];exact inv.frm t ch
         have dx:FR ρ (F i) a.eval o.op:=fun x hx=>by
          have br:okX nt gl x=true:=D4.1 d2 x hx;cases x with
          | tmp t=>exact bp t (wV hx rfl) (A1 br)
          | const v=>exact VR.ofC br
          | global gg=>exact VR.ptr (o:=0) (aq.gr gg (A1 br))
          | func f=>exact .func (a:=[]) (b:=[]) (a':=[]) (b':=[]) rfl rfl (fun i v v' h=>by simp at h) (fun i v v' h=>by simp at h)
         have cw:∀ lg b,bG nt (F i) (M i).lg ops.toList o=some (b,lg)->Sat lg->Region.wanted o (yielded ops a.tmps)=b:=fun lg b hw cv=>by
          unfold bG at hw;split at hw
          .rename_i hg;cases hw;simp[Region.wanted,hg]
          .rename_i j want hg;split at hw
           .rename_i p hp;split at hw
            .rename_i t ht;obtain⟨h1,O⟩:=A3 hw;have h1:t<nt:=A1 h1;have hv:=bp t (by
              unfold V4;refine B7.2 (.inr (B7.2 (.inr ?_)));simp[hg,hp,ht]) h1
             exact mT hg hp ht (by rw[inv.tsz];exact h1) (pS O hv cv)
            .cases hw
           .cases hw
         have bm:∀ (y:Ren) (v':Value),(∀ b l,ρ b=some l->y b=some l)->VR y (V i) v'->∀ t,t<nt->VR y (aU (fun k=>(listed.setIfInBounds i true).getD k false) (fun k=>(ops[k]?).bind (·.dst)) V (F 0).get t ops.size) ((a.put o.dst v').tmps.getD t undef):=fun y v' he hv t ht=>by
          by_cases hd:o.dst=some t
          .have aj:∀ k,i<k->k<ops.size->(ops[k]?).bind (·.dst)=some t->listed.getD k false=false:=fun k di A cn=>by
            obtain⟨p,hp⟩:=P5 (ops:=ops) A;rw[hp]at cn
            have:=g.slot ao av C az hr (t:=t) (by unfold V4;simp[hd]) k p hp A2 cn;cases Y:listed.getD k false with
            | false=>rfl
            | true=>have:=this.1 Y;omega
           rw[rZ (D:=fun k=>listed.getD k false) u I ops.size bo (by simp[C,hd]) aj];simp only[hd,Act.put,B8];rw[G1,A9 rfl,A9 (by rw[inv.tsz];exact ht)];exact hv
          .rw[oS (D:=fun k=>listed.getD k false) u (by simp[C];exact hd)];have h1:=(inv.frm t ht).mono he;cases cf:o.dst with
           | none=>exact h1
           | some d =>
             have dk:d≠t:=fun e=>hd (e▸cf)
             simp only[Act.put,B8]at h1 ⊢;rw[G1,A7 dk];exact h1
         have hX:X (i+1)=X i/\A0o ((Z0 ops.toList []).getD i []) (M (i+1)).H (X i)=true:=by
          rcases g.qs i o C with⟨_,h3,h4⟩|⟨h3,_⟩|⟨h3,_⟩
          .exact⟨h3,h4⟩
          .rw[al]at h3;cases h3
          .rw[al]at h3;cases h3
         have aj:∀ (y:Ren) (v':Value) (G:World),VR y (V i) v'->St P base ρ y (M i) (M (i+1)) w' G->iN P z.rd .any ops Q fuel (listed.setIfInBounds i true) (a.put o.dst v') G:=fun y v' G hv ai=>by
          obtain⟨dr,u1,u2,u3,u4⟩:=tB ops B (ops.size-(i+1)) (i+1) A2;have bf:=aq.step ai;refine ih (listed.setIfInBounds i true) (i+1) dr y y _ G G bh bw bd ⟨u1,u2,bf.nh,u3⟩ u4 (St.trans (ay.less (E (i+1) ops.size A2 (A6 _)).1) dw ai) bf (fun q Y S=>?_) (fun k A S=>?_) (fun k p A hp Z=>?_)
           (g.fresh (fun k A Z=>?_) ai.hr ?_ ?_ (bm y v' ai.ext hv))
          .rw[hX.1]at Y;have h5:=D4.1 hX.2 q Y;rcases J0 _ _▸h5 with h5|h5
           .exfalso;have h6:=bt q.1 (V7.1 h5);by_cases e:q.1=i
            .rw[e,az]at h6;cases h6
            .rw[u _ e,h6]at S;cases S
           .exact h5
          .rw[hX.1];by_cases e:k=i
           .subst e;rw[I]at S;cases S
           .rw[u k e]at S;exact af k A2 S
          .rw[u k A2]at Z;exact K k p A2 hp Z
          .have Z:(listed.setIfInBounds i true).getD k false=true:=Z;rw[u k A2]at Z;obtain⟨p,hp⟩:=P5 (ops:=ops) (av k Z);exact CE (g.kind hp (K k p A2 hp Z))
          .cases cf:o.dst<;>simp[Act.put,inv.tsz]
          .rw[eQ];exact inv.dfr.congr ai.ext fun _=>⟨rfl,rfl⟩
         unfold gW;simp only[C];rcases bl with⟨N,_⟩|⟨N,_⟩|⟨_,lg,hw,bu,cl⟩|⟨N,_⟩
         .rw[al]at N;cases N
         .rw[al]at N;cases N
         .have cg:=ag (i+1) A2;have cv:Sat lg:=R6.le cg (by have:=aC T bu;rw[g9]at this;exact this);rw[cw lg true hw cv];simp only[if_true];have dz:At P base gl ρ ((M i).wLg lg) (M (i+1)).hi w':=(aq.wLg lg).less (E (i+1) ops.size A2 (A6 _)).1;refine qE T bu cg dz dx fun v' y G hv ai=>aj y v' G hv ?_
          have ck:=St.wLg (m:=M i) aq.hr lg;exact St.trans (by have:=aq.fr;exact this.less (E (i+1) ops.size A2 (A6 _)).1) ck ai
         .rw[al]at N;cases N
  obtain⟨up,u1,u2,u3,u4⟩:=tB ops B ops.size 0 A2;have bk:∀ k,(Array.replicate ops.size false).getD k false=false:=fun k=>by
   simp only[B8,gU];split<;>simp
  refine main ops.size _ 0 up aw aw a0 w1 w1 (by simp) (by simp[List.countP_replicate]) (fun k o C A=>by have A:(Array.replicate ops.size false).getD k false=true:=A;rw[bk k]at A;cases A) ⟨u1,u2,an.nh,u3⟩ u4 (St.refl an.hr) an (fun q Y=>by rw[g.x0]at Y;cases Y) (fun k A=>by omega) (fun k o A C Z=>by rw[bk k]at Z;cases Z)
   (g.fresh (fun k _ Z=>by have Z:(Array.replicate ops.size false).getD k false=true:=Z;rw[bk k]at Z;cases Z) an.hr ah.size (by rw[f1];exact ah.zr) fun t ht=>?_)
  have h0:∀ n,aU (fun k=>(Array.replicate ops.size false).getD k false) (fun k=>(ops[k]?).bind (·.dst)) V (F 0).get t n=(F 0).get t:=by
   intro n;induction n with
   | zero=>rfl
   | succ n bn=>rw[aU,A7 (fun hh=>by rw[bk n]at hh;exact absurd hh.1 (by simp)),bn]
  rw[h0,f1];exact ah.get t ht
end
end
section
open Go
variable [Ora]
section
variable {P:Program} {base gl:Nat}
def wK{f:FuncId}{e:V8->Sem Value}{args:V8}{w w':World}{v:Value}(d:P.funcs[f]? = some fn)(b:(fn.name == "runtime.NumGoroutine")=false)(i:fn.body=none)(g:Extern.findNext fn=none)(he:Extern.find fn=some e)
  (hr:(e args).run P w=.ok v w'):(callFunc f args).run P w=.ok (.value v) w':=by
 have a:fn.name ≠ "runtime.NumGoroutine":=by simpa using b
 simp[callFunc,A4,run_program,Result.andThen,d,a,i,g,he,mark,Sem.run,hr]
def mD{k:EK}{vs:D0}{v:Value}(h:oV k vs m=some (v,m')) :
  (k=.noEscape/\vs=[v]/\m'=m) ∨
  (k=.indexByteString/\∃ s c,vs=[.string s,.int .u8 (.ofNat c)]/\v=.int .i64 (tL s.data.toList (UInt8.ofNat c) 0)/\m'=m) ∨
  (k=.countString/\∃ s c,vs=[.string s,.int .u8 (.ofNat c)]/\v=.int .i64 (tX (UInt8.ofNat c) s.data.toList 0)/\m'=m) ∨
  (∃ e n,k=.makeNoZero e/\vs=[.int .i64 (.ofNat n)]/\n<=1000000000/\Z4 m (.cells [] e false) (fun b=>.slice (some ⟨b,0,none⟩) n M9)=some (v,m')):=by
 unfold oV at h;split at h
 .cases h;exact .inl ⟨rfl,rfl,rfl⟩
 .cases h;exact .inr (.inl ⟨rfl,_,_,rfl,rfl,rfl⟩)
 .cases h;exact .inr (.inr (.inl ⟨rfl,_,_,rfl,rfl,rfl⟩))
 .obtain⟨h1,h⟩:=A3 h;exact .inr (.inr (.inr ⟨_,_,rfl,rfl,A1 h1,h⟩))
 .cases h
def wM{k:EK}{vs:D0}{v:Value}(h:(FnC.mk (oV k)).run vs m=some (v,m')):m.lg.le m'.lg:=by
 have h:oV k vs m=some (v,m'):=h;rcases mD h with⟨_,_,rfl⟩|⟨_,_,_,_,_,rfl⟩|⟨_,_,_,_,_,rfl⟩|⟨_,_,_,_,_,h⟩
 .exact .refl _
 .exact .refl _
 .exact .refl _
 .obtain⟨_,_,rfl⟩:=L5 h;exact .refl _
def JS{f:FuncId}(g:P.funcs[f]? = some fn)(b:(fn.name == "runtime.NumGoroutine")=false)(i:fn.body=none)(j:Extern.findNext fn=none)(he:Extern.find fn=some Extern.AbiNoEscape.same):mN P base gl f ⟨oV .noEscape⟩:=by
 refine⟨fun vs m m' v hr=>wM hr,?_⟩;intro ρ m m' w vs vs' v hr k a e;have hr:oV .noEscape vs m=some (v,m'):=hr;rcases mD hr with⟨_,rfl,rfl⟩|⟨h,_⟩|⟨h,_⟩|⟨_,_,h,_⟩
 .obtain⟨v',l,rfl,h1,d⟩:=e.tail;cases d.nil_inv;exact .inr ⟨v',ρ,w,wK g b i j he rfl,h1,.refl a.hr⟩
 .cases h
 .cases h
 .cases h
def CW(c:UInt8):∀ (l:List UInt8) (k:Nat),tL l c k=if Lib.indexByte l c == -1 then -1 else Lib.indexByte l c+k
 | [],k=>rfl
 | x::r,k=>by
   have f:=Lib.indexByte_ge r c;have d:=CW c r (k+1);rw[tL,Lib.indexByte];by_cases e:x=c
   .subst e;simp
   .have a:(x == c)=false:=by simpa using e
    simp only[a,E0 e,D6];rw[d];by_cases h:Lib.indexByte r c = -1
    .simp[h]
    .have b:(Lib.indexByte r c == -1)=false:=by simpa using h
     have h3:(Lib.indexByte r c+1 == -1)=false:=by simp;omega
     simp only[b,h3,J7,if_false];omega
def OS(c:UInt8)(l:List UInt8):tL l c 0=Lib.indexByte l c:=by
 rw[CW];by_cases h:Lib.indexByte l c = -1
 .simp[h]
 .have a:(Lib.indexByte l c == -1)=false:=by simpa using h
  simp[a]
def oX(c:UInt8):∀ (l:List UInt8) (n:Nat),tX c l n=n+l.count c
 | [],n=>rfl
 | x::r,n=>by
   rw[tX,List.count_cons];by_cases e:x=c
   .subst e;simp only[decide_true,E3,E5,beq_self_eq_true,if_true];rw[oX x r (n+1)];omega
   .have a:(x == c)=false:=by simpa using e
    simp only[E0 e,D6,a,J7,if_false];rw[oX c r n];omega
def FZ{f:FuncId}(g:P.funcs[f]? = some fn)(b:(fn.name == "runtime.NumGoroutine")=false)(i:fn.body=none)(k:Extern.findNext fn=none)(he:Extern.find fn=some Extern.BytealgIndexByte.indexByte):mN P base gl f ⟨oV .indexByteString⟩:=by
 refine⟨fun vs m m' v hr=>wM hr,?_⟩;intro ρ m m' w vs vs' v hr l a e;have hr:oV .indexByteString vs m=some (v,m'):=hr;rcases mD hr with⟨h,_⟩|⟨_,s,c,rfl,rfl,rfl⟩|⟨h,_⟩|⟨_,_,h,_⟩
 .cases h
 .obtain⟨v1,r1,rfl,h1,d⟩:=e.tail;obtain⟨v2,n,rfl,h3,j⟩:=d.tail;cases j.nil_inv;cases U6 h1;cases J4 h3;refine .inr ⟨_,ρ,w,wK g b i k he (Lib.run_indexByteString s (.ofNat c) w),?_,.refl a.hr⟩;rw[OS];exact .pure rfl
 .cases h
 .cases h
def zP{f:FuncId}(g:P.funcs[f]? = some fn)(b:(fn.name == "runtime.NumGoroutine")=false)(i:fn.body=none)(k:Extern.findNext fn=none)(he:Extern.find fn=some Extern.BytealgCount.count):mN P base gl f ⟨oV .countString⟩:=by
 refine⟨fun vs m m' v hr=>wM hr,?_⟩;intro ρ m m' w vs vs' v hr l a e;have hr:oV .countString vs m=some (v,m'):=hr;rcases mD hr with⟨h,_⟩|⟨h,_⟩|⟨_,s,c,rfl,rfl,rfl⟩|⟨_,_,h,_⟩
 .cases h
 .cases h
 .obtain⟨v1,r1,rfl,h1,d⟩:=e.tail;obtain⟨v2,n,rfl,h3,j⟩:=d.tail;cases j.nil_inv;cases U6 h1;cases J4 h3;refine .inr ⟨_,ρ,w,wK g b i k he (Lib.run_countString s (.ofNat c) w),?_,.refl a.hr⟩;rw[oX,F4];exact .pure rfl
 .cases h
def BC{f:FuncId}{ps:Array TypeId}{t e:TypeId}(p:P.funcs[f]? = some fn)(j:(fn.name == "runtime.NumGoroutine")=false)(s:fn.body=none)(z:Extern.findNext fn=none)(he:Extern.find fn=some (Extern.BytealgMakeNoZero.makeNoZero ps #[t]))
  (hu:P.underlying t=some (.slice e)) (hi:(P.info? e).map (·.size)=some 1):mN P base gl f ⟨oV (.makeNoZero e)⟩:=by
 refine⟨fun vs m m' v hr=>wM hr,?_⟩;intro ρ m m' w vs vs' v hr A a k;have hr:oV (.makeNoZero e) vs m=some (v,m'):=hr;rcases mD hr with⟨h,_⟩|⟨h,_⟩|⟨h,_⟩|⟨e',n,h,rfl,x,hr⟩
 .cases h
 .cases h
 .cases h
 .cases h;obtain⟨v1,r1,rfl,h1,g⟩:=k.tail;cases g.nil_inv;cases J4 h1;obtain⟨cs,d,hle,_⟩:=Lib.run_makeNoZero (P:=P) w ps t e hu n A2;obtain⟨y,q,l⟩:=eC (wd:=w.drew.drew) (fz:=(0,0)) (cap:=cs.size) (C:=cs) (cs':=[]) a.hr a.bs hr a.fr (.nil) (fun i u hi=>by simp at hi) NF.zero
   (fun inf g=>by rw[g]at hi;have hi:some inf.size=some 1:=hi;have hi:=A8 hi;rw[hi];omega) ⟨rfl,rfl,rfl⟩ rfl
  refine .inr ⟨_,_,_,wK p j s z he d,?_,l⟩;rw[y]
  have:=VR.op (ρ:=upd ρ m.n (lc w.heap.size 0 cs.size)) (b:=m.n) (o:=0) (n:=n) (m:=M9) (m':=cs.size) q (A6 _) hle (fun _ _=>rfl)
  simpa using this
end
end
section
open Go
variable [Ora]
structure AK (P:Program) (f:FuncId) (k:EK):Prop where
 row:∃ fn,P.funcs[f]? = some fn/\(fn.name == "runtime.NumGoroutine")=false/\fn.body=none/\Extern.findNext fn=none /\
  ((k=.noEscape/\Extern.find fn=some Extern.AbiNoEscape.same)∨(k=.indexByteString/\Extern.find fn=some Extern.BytealgIndexByte.indexByte)∨(k=.countString/\Extern.find fn=some Extern.BytealgCount.count) ∨
    (∃ e ps t,k=.makeNoZero e/\Extern.find fn=some (Extern.BytealgMakeNoZero.makeNoZero ps #[t])/\P.underlying t=some (.slice e)/\(P.info? e).map (·.size)=some 1))
def AK.ok{P:Program}{f:FuncId}{k:EK}{base gl:Nat}(h:AK P f k):mN P base gl f ⟨oV k⟩:=by
 obtain⟨fn,h1,b,h3,d,a⟩:=h.row;rcases a with⟨rfl,a⟩|⟨rfl,a⟩|⟨rfl,a⟩|⟨e,ps,t,rfl,a,g,i⟩
 .exact JS h1 b h3 d a
 .exact FZ h1 b h3 d a
 .exact zP h1 b h3 d a
 .exact BC h1 b h3 d a g i
def DE:∀ {l:List (FuncId×EK)} {f:FuncId} {k:EK},LD l f=some k->(f,k) ∈ l
 | (g,j)::r,f,k,h=>by
   rw[LD]at h;cases e:Nat.beq g f with
   | true =>
     rw[e]at h;cases h;rw[A0 e];exact .head _
   | false =>
     rw[e]at h;exact .tail _ (DE h)
theorem A3z{P:Program}{ext:List (FuncId×EK)}{gl base:Nat}{con:FuncId->Option FnC}{lp:FuncId->LpT}(hm:P.follows .mixedOrders=true)(d:HF P)(he:∀ p ∈ ext,AK P p.1 p.2)
  (b:∀ f c,con f=some c->mN P base gl f c) (a:∀ f fn body,P.funcs[f]? = some fn->fn.body=some body->PT P base gl fn.ntmps body (lp f)) :
  A4P ⟨P,ext,gl,con,lp⟩ base :=
 { names:=d,ext:=fun f k fn _ _ h=>(he _ (DE h)).ok,con:=b,lp:=a,draws:=fun _ h=>A1k hm h }
end
section
open Go
inductive Sh where
 | s (t:Nat)
 | a (ts:List Nat)
def HU(t:Nat)(u:U):Q3:=if G2 u=t then toV u else none
def TS:H4->List U->Option (D0×List U)
 | [],us=>some ([],us)
 | t::ts,u::us=>match HU t u,TS ts us with
   | some v,some (vs,r)=>some (v::vs,r)
   | _,_=>none
 | _::_,[]=>none
def HT:Sh->List U->Option (Value×List U)
 | .s t,u::us=>match HU t u with
   | some v=>some (v,us)
   | none=>none
 | .s _,[]=>none
 | .a ts,us=>match TS ts us with
   | some (vs,r)=>some (.agg ⟨vs⟩,r)
   | none=>none
def TR:List Sh->List U->Option D0
 | [],[]=>some []
 | [],_::_=>none
 | h::hs,us=>match HT h us with
   | some (v,r)=>match TR hs r with
     | some vs=>some (v::vs)
     | none=>none
   | none=>none
def tup:D0->Value
 | [v]=>v
 | vs=>.tuple ⟨vs⟩
structure mM (w w':World):Prop where
 os:w'.os=w.os/\w'.tape=w.tape/\w'.output=w.output
 size:w.heap.size<=w'.heap.size
 keep:∀ k,k<w.heap.size->w'.heap[k]? = w.heap[k]?
def GOk(G:Nat->Option Obj)(w:World):Prop:=∀ k o,G k=some o->w.heap[k]? = some o
def GOk.lt{G:Nat->Option Obj}{w:World}(h:GOk G w){k:Nat}{o:Obj}(a:G k=some o):k<w.heap.size:=by
 have:=h k o a;rcases F8 k w.heap.size with h1|h1
 .exact h1
 .rw[Array.getElem?_eq_none h1]at this;cases this
abbrev dG:=List U->Option (Nat×List U)
def Sh.tags:Sh->H4
 | .s t=>[t]
 | .a ts=>ts
def BP:List Sh->H4
 | []=>[]
 | s::ss=>s.tags++BP ss
def Sh.n(s:Sh):Nat:=s.tags.length
def shN:List Sh->Nat
 | []=>0
 | h::hs=>h.n+shN hs
def mG(a:List Sh):Bool:=(BP a).any (Nat.ble 10)
inductive ShR (R:Nat->Option Obj):Sh->List U->Value->Prop
 | s {t u v} (h:Enc R u v) (ht:G2 u=t):ShR R (.s t) [u] v
 | a {ts us cs} (h:Z1 R us cs) (ht:us.map G2=ts):ShR R (.a ts) us (.agg ⟨cs⟩)
inductive ShL (R:Nat->Option Obj):List Sh->List U->D0->Prop
 | nil:ShL R [] [] []
 | cons {s ss us us2 v vs} (h:ShR R s us v) (k:ShL R ss us2 vs):ShL R (s::ss) (us++us2) (v::vs)
def Z1.append{R:Nat->Option Obj}{us b:List U}{vs:D0}(h:Z1 R us vs)(k:Z1 R b vs2):Z1 R (us++b) (vs++vs2):=by
 refine⟨by simp[h.1,k.1],fun i u v h1 d=>?_⟩;rcases F8 i us.length with a|a
 .rw[F1 a]at h1;rw[F1 (h.1▸a)]at d;exact h.2 i u v h1 d
 .rw[D8 a]at h1;rw[D8 (h.1▸a),<- h.1]at d;exact k.2 _ u v h1 d
def Z1.split{R:Nat->Option Obj}:∀ {vs vs2:D0} {us:List U},Z1 R us (vs++vs2)->∃ a b,us=a++b/\Z1 R a vs/\Z1 R b vs2
 | [],vs2,us,h=>⟨[],us,rfl,.nil,h⟩
 | v::vs,vs2,[],h=>by have:=h.1;simp at this
 | v::vs,vs2,u::us,h=>by
   obtain⟨a,b,rfl,h1,e⟩:=Z1.split (vs:=vs) (vs2:=vs2) (us:=us) ⟨by have:=h.1;simpa using this,fun i x y d a2=>h.2 (i+1) x y (by simpa using d) (by simpa using a2)⟩;exact⟨u::a,b,rfl,.cons (h.2 0 u v rfl rfl) h1,e⟩
def Z1.mono{R d:Nat->Option Obj}{us:List U}{vs:D0}(h:Z1 R us vs)(k:Sub R d):Z1 d us vs:=⟨h.1,fun i u v a b=>(h.2 i u v a b).mono k⟩
def HW{R:Nat->Option Obj}:∀ {ts:H4} {us r:List U} {vs:D0},TS ts us=some (vs,r)->∃ a,us=a++r/\Z1 R a vs/\a.map G2=ts
 | [],us,r,vs,h=>by cases h;exact⟨[],rfl,.nil,rfl⟩
 | t::ts,u::us,r,vs,h=>by
   unfold TS at h;split at h
   .rename_i v f i h1 d;cases h;obtain⟨a,rfl,b,e⟩:=HW (R:=R) d;unfold HU at h1;split at h1
    .rename_i g;exact⟨u::a,rfl,.cons (.sc h1) b,by simp[g,e]⟩
    .cases h1
   .cases h
 | _::_,[],_,_,h=>by cases h
def TQ{R:Nat->Option Obj}{s:Sh}{us r:List U}{v:Value}(h:HT s us=some (v,r)):∃ a,us=a++r/\ShR R s a v:=by
 cases s with
 | s t =>
   cases us with
   | nil=>cases h
   | cons u us =>
     simp only[HT]at h;split at h
     .rename_i v1 hv;cases h;unfold HU at hv;split at hv
      .rename_i b;exact⟨[u],rfl,.s (.sc hv) b⟩
      .cases hv
     .cases h
 | a ts =>
   simp only[HT]at h;split at h
   .rename_i vs g hv;cases h;obtain⟨a,d,e,f⟩:=HW (R:=R) hv;exact⟨a,d,.a e f⟩
   .cases h
def xF{R:Nat->Option Obj}:∀ {b:List Sh} {us:List U} {vs:D0},TR b us=some vs->ShL R b us vs
 | [],[],vs,h=>by cases h;exact .nil
 | [],_::_,_,h=>by cases h
 | s::b,us,vs,h=>by
   unfold TR at h;split at h
   .rename_i v r hv;split at h
    .rename_i e f;cases h;obtain⟨a,rfl,d⟩:=TQ (R:=R) hv;exact .cons d (xF f)
    .cases h
   .cases h
def A1g{R:Nat->Option Obj}{us:List U}{vs:D0}(h:Z1 R us vs)(b:vs2.length=us.length)(k:∀ (i:Nat) (u:U) (v:Value),us[i]? = some u->vs2[i]? = some v->toV u=some v):vs=vs2:=by
 refine bD fun i=>?_
 rcases F8 i us.length with hi|hi
 .have h1:us[i]? = some us[i]:=A5 hi;have a:vs[i]? = some (vs[i]'(h.1▸hi)):=A5 _;have h3:vs2[i]? = some (vs2[i]'(b▸hi)):=A5 _;rw[a,h3,gA (h.2 i _ _ h1 a) (k i _ _ h1 h3)]
 .rw[T6 (by rw[<- h.1];exact hi),T6 (by rw[b];exact hi)]
def HV:∀ {ts:H4} {us r:List U} {vs:D0},TS ts us=some (vs,r)->∃ a,us=a++r/\vs.length=a.length/\a.length=ts.length/\∀ (i:Nat) (u:U) (v:Value),a[i]? = some u->vs[i]? = some v->toV u=some v
 | [],us,r,vs,h=>by cases h;exact⟨[],rfl,rfl,rfl,fun i u v h=>by simp at h⟩
 | t::ts,u::us,r,vs,h=>by
   unfold TS at h;split at h
   .rename_i v g k h1 d;cases h;obtain⟨a,rfl,j,f,e⟩:=HV d;unfold HU at h1;split at h1
    .refine⟨u::a,rfl,by simp[j],by simp[f],fun i x y b a2=>?_⟩;cases i with
     | zero=>simp at b a2;subst b;subst a2;exact h1
     | succ i=>exact e i x y (by simpa using b) (by simpa using a2)
    .cases h1
   .cases h
 | _::_,[],_,_,h=>by cases h
def U9{R:Nat->Option Obj}:∀ {g:List Sh} {us:List U} {vs vs2:D0},ShL R g us vs->TR g us=some vs2->vs=vs2
 | [],us,vs,vs2,h,k=>by cases h;cases k;rfl
 | s::g,us,vs,vs2,h,k=>by
   cases h with
   | cons h1 j =>
     rename_i f d v vs;unfold TR at k;split at k
     .rename_i v1 r hv;split at k
      .rename_i x l;cases k;have n:f++d=f++d:=rfl;cases h1 with
       | s he i =>
         rename_i t u;have b:(match HU t u with|some v=>some (v,d)|none=>none)=some (v1,r):=hv;cases e:HU t u with
         | none=>rw[e]at b;cases b
         | some w =>
           rw[e]at b;cases b;unfold HU at e;rw[A9 i]at e;rw[gA he e,U9 j l]
       | a he i =>
         rename_i ts cs;simp only[HT]at hv;split at hv
         .rename_i o C y;cases hv;obtain⟨a,A,q,p,z⟩:=HV y;have hlen:a.length=f.length:=by rw[p,<- i];simp
          obtain⟨rfl,rfl⟩:=List.append_inj A hlen.symm;rw[A1g he q z,U9 j l]
         .cases hv
      .cases k
     .cases k
def M3(P:Program)(G:Nat->Option Obj)(f:FuncId)(ps:List Sh)(spec:dG)(rs:List Sh):Prop :=
 ∀ (us outs:List U) (w:World) (vs:List Value) (R:Nat->Option Obj),ShL R ps us vs->spec us=some (0,outs)->GOk G w->GOk R w ->
  (callFunc f ⟨vs⟩).run P w=.ok (.enter f ⟨vs⟩) w/\Calls P f ⟨vs⟩ w (fun e w'=>∃ r a,ShL a rs outs r/\e=.returned (tup r)/\mM w w'/\GOk a w'/\∀ k o,a k=some o->w.heap.size<=k∨∃ o',R k=some o')
def unA:List Sh->D0->Option D0
 | [],[]=>some []
 | .s _::ss,v::vs=>match unA ss vs with
   | some r=>some (v::r)
   | none=>none
 | .a ts::ss,.agg cs::vs=>bif Nat.beq cs.toList.length ts.length then match unA ss vs with
   | some r=>some (cs.toList++r)
   | none=>none else none
 | _,_=>none
def qB(P:Program)(ps:List Sh)(vs:List Value)(m:Mem):Option (D0×Mem) :=
 match unA ps vs with
 | some cs=>match AN (tdP P) (BP ps) cs m with
   | some (xs,[],m)=>some (xs,m)
   | some (xs,gs,m)=>match kA gs m with
     | some (_,m)=>some (xs,m)
     | none=>none
   | none=>none
 | none=>none
def SK(i t b:Nat):Value:=bif Nat.blt t 10 then hole i t else dat b i t
def WE:H4->Nat->Nat->D0
 | [],_,_=>[]
 | t::ts,i,b=>SK i t b::WE ts (i+1) b
def A6y:Sh->Nat->Nat->Value
 | .s t,i,b=>SK i t b
 | .a ts,i,b=>.agg ⟨WE ts i b⟩
def wU:List Sh->Nat->Nat->D0
 | [],_,_=>[]
 | h::hs,i,b=>A6y h i b::wU hs (i+h.n) b
def UK(rs:List Sh)(nx:Nat)(m:Mem):Res :=
 bif mG rs then match gM m fun b m=>some (tup (wU rs nx b),b,m)with
  | some (v,_,m)=>some (v,m)
  | none=>none
 else some (tup (wU rs nx 0),m)
def B0N(m:Mem)(hi:Nat)(v:Value)(lg:Lg):Res :=
 match m with
 | ⟨H,n,W,_,_⟩=>some (v,⟨H,n,W,hi,lg⟩)
def A35(P:Program)(ps:List Sh)(spec:dG)(rs:List Sh):FnC:=⟨fun vs m =>
 match qB P ps vs m with
 | some (xs,⟨H,n,W,hi,⟨nx,pi,log⟩⟩)=>J8 nx fun nx=>Q9 xs fun xs=>J8 (nx+shN rs) fun a=>bif mG rs then UK rs nx ⟨H,n,W,hi,⟨a,pi,.con spec xs nx 0 (shN rs)::log⟩⟩else B0N m hi (tup (wU rs nx 0)) ⟨a,pi,.con spec xs nx 0 (shN rs)::log⟩
 | none=>none⟩
def TG{P:Program}{ps:List Sh}{spec:dG}{rs:List Sh}{vs:D0}{v:Value}(h:(A35 P ps spec rs).run vs m=some (v,m')) :
  ∃ xs m1,qB P ps vs m=some (xs,m1)/\((mG rs=true/\UK rs m1.lg.nx (m1.wLg ⟨m1.lg.nx+shN rs,m1.lg.pi,.con spec xs m1.lg.nx 0 (shN rs)::m1.lg.log⟩)=some (v,m'))∨(mG rs=false/\v=tup (wU rs m1.lg.nx 0)/\m'=⟨m.H,m.n,m.W,m1.hi,⟨m1.lg.nx+shN rs,m1.lg.pi,.con spec xs m1.lg.nx 0 (shN rs)::m1.lg.log⟩⟩)):=by
 unfold A35 at h;simp only at h;split at h
 .rename_i xs H n W hi nx pi log hx;simp only[E5,I1]at h;refine⟨xs,_,hx,?_⟩;cases a:mG rs with
  | true=>rw[a]at h;exact .inl ⟨rfl,h⟩
  | false =>
    rw[a]at h;obtain⟨e,g,f,b,d⟩:=m;cases h;exact .inr ⟨rfl,rfl,rfl⟩
 .cases h
variable [Ora]
def MT{ρ:Ren}:∀ {b:List Sh} {vs vs' cs:D0},unA b vs=some cs->LR ρ vs vs'->∃ cs',unA b vs'=some cs'/\LR ρ cs cs'
 | [],[],vs',cs,h,hl=>by cases h;rw[hl.nil_inv];exact⟨[],rfl,.nil⟩
 | [],_::_,_,_,h,_=>by cases h
 | .s t::b,[],_,_,h,_=>by cases h
 | .a t::b,[],_,_,h,_=>by cases h
 | .s t::b,v::vs,vs',cs,h,hl=>by
   obtain⟨v',k,rfl,h1,e⟩:=hl.tail;unfold unA at h;split at h
   .rename_i r hr;cases h;obtain⟨cs',g,f⟩:=MT hr e;exact⟨v'::cs',by simp[unA,g],.cons h1 f⟩
   .cases h
 | .a ts::b,v::vs,vs',cs,h,hl=>by
   obtain⟨v',k,rfl,h1,e⟩:=hl.tail;cases v with
   | agg c =>
     unfold unA at h;obtain⟨hlen,h⟩:=A3 h;split at h
     .rename_i r hr;cases h;obtain⟨cs',g,f⟩:=MT hr e;obtain⟨i,rfl,j⟩:=V5 h1;refine⟨i++cs',?_,j.append f⟩;have d:Nat.beq i.length ts.length=true:=by rw[<- j.1];exact hlen
      simp[unA,g,d]
     .cases h
   | _=>cases h
def dV{R:Nat->Option Obj}:∀ {e:List Sh} {vs cs:D0} {us:List U},unA e vs=some cs->Z1 R us cs->us.map G2=BP e->ShL R e us vs
 | [],[],cs,us,h,he,ht=>by
   cases h;have:us=[]:=G0.1 he.1;subst this;exact .nil
 | [],_::_,_,_,h,_,_=>by cases h
 | .s t::e,[],_,_,h,_,_=>by cases h
 | .a t::e,[],_,_,h,_,_=>by cases h
 | .s t::e,v::vs,cs,us,h,he,ht=>by
   unfold unA at h;split at h
   .rename_i r hr;cases h;obtain⟨a,b,rfl,d,f⟩:=Z1.split (vs:=[v]) (vs2:=r) he
    match a,d with
    | [u],d =>
      simp only[List.singleton_append,C3,BP,Sh.tags,S2,G5,J5]at ht;exact .cons (.s (d.2 0 u v rfl rfl) ht.1) (dV hr f ht.2)
    | [],d=>have:=d.1;simp at this
    | _::_::_,d=>have:=d.1;simp at this
   .cases h
 | .a ts::e,v::vs,cs,us,h,he,ht=>by
   cases v with
   | agg c =>
     unfold unA at h;obtain⟨hlen,h⟩:=A3 h;have hlen:=A0 hlen;split at h
     .rename_i r hr;cases h;obtain⟨a,b,rfl,d,f⟩:=Z1.split he;simp only[M1,BP,Sh.tags]at ht;obtain⟨t1,t2⟩:=List.append_inj ht (by simp[d.1,hlen]);obtain⟨l⟩:=c;exact .cons (.a d t1) (dV hr f t2)
     .cases h
   | _=>cases h
section
variable {P:Program} {base gl:Nat}
def B1K(ρ:Ren)(m:Mem)(R:Nat->Option Obj):Prop:=∀ k o,R k=some o->∃ id ab l,id<=H7/\Hp.get m.H id=some ab/\ρ id=some l/\Tf ab l k/\ab.rw=false
def IB{ρ:Ren}{w:World}{ps:List Sh}{vs xs:D0}(h:HR P base ρ m.H w)(a:qB P ps vs m=some (xs,m'))(j:K2 ρ m.n m'.hi)(hv:LR ρ vs vs')(z:Sat m'.lg) :
  ∃ d R,St P base ρ d m m' w w/\m.lg.le m'.lg/\ShL R ps (xs.map (D5 Ora.env)) vs'/\GOk R w/\B1K d m' R:=by
 unfold qB at a;split at a
 .rename_i cs u;obtain⟨cs',E,A⟩:=MT u hv;split at a
  .rename_i v m1 q;cases a;obtain⟨d,i,a2,a3,a4,a5,p⟩:=iO V0 h q j A z;exact⟨d,fun _=>none,i,a2,dV E (p _ fun b x=>by cases x) a5,(fun k o f=>by cases f),(fun k o f=>by cases f)⟩
  .rename_i v gs m1 q;split at a
   .rename_i g m2 D;cases a;have t:=N1 D;obtain⟨J,i,a2,a3,a4,a5,p⟩:=iO V0 h q (j.less t.1) A (by rw[<- t.2.1];exact z);obtain⟨ρ2,lg,y,L,N,s,C,K⟩:=eW i.hr D (j.step i);have e:=(y.hr.atl s C).1.2;exact⟨ρ2,lg.G,St.trans j i y,by rw[t.2.1];exact a2,dV E (p _ fun b x l I=>K b x l I) a5,e,fun k o f=>⟨g,_,lg,y.hr.dom _ _ s,C,s,⟨rfl,.inr ⟨rfl,o,f⟩⟩,rfl⟩⟩
   .cases a
  .cases a
 .cases a
def KT{ρ:Ren}{R:Nat->Option Obj}{i t b:Nat}{u:U}{v:Value}(h:Enc R u v)(j:G2 u=t)(he:Ora.env i=u)(k:10<=t->ρ b=some (kO R)):VR ρ (SK i t b) v:=by
 unfold SK;cases e:Nat.blt t 10 with
 | true =>
   have a:t<10:=A1 e;obtain⟨v1,g,_,_⟩:=QA (u:=u) A2
   have:=gA h g;subst this;exact .hole (by rw[he];exact g) (by rw[he];exact j)
 | false =>
   have a:10<=t:=by
    rcases F8 t 10 with f|d
    .rw[show Nat.blt t 10=true from C5 f]at e;cases e
    .exact d
   exact .dat (k a) (by rw[he];exact h) (by rw[he];exact j) a (mF h)
def HS{ρ:Ren}{R:Nat->Option Obj}{b:Nat}:∀ {ts:H4} {us:List U} {cs:D0} {i:Nat},Z1 R us cs->us.map G2=ts->(∀ j u,us[j]? = some u->Ora.env (i+j)=u)->(∀ t ∈ ts,10<=t->ρ b=some (kO R))->LR ρ (WE ts i b) cs
 | [],us,cs,i,h,ht,he,hb=>by
   have:us=[]:=by cases us with|nil=>rfl|cons _ _=>simp at ht
   subst this;have:cs=[]:=G0.1 h.1.symm;subst this;exact .nil
 | t::ts,[],cs,i,h,ht,he,hb=>by simp at ht
 | t::ts,u::us,[],i,h,ht,he,hb=>by have:=h.1;simp at this
 | t::ts,u::us,c::cs,i,h,ht,he,hb=>by
   simp only[C3,J5]at ht;refine .cons (KT (h.2 0 u c rfl rfl) ht.1 (he 0 u rfl) (hb t (.head _))) (HS ⟨by have:=h.1;simpa using this,fun j x y d a2=>h.2 (j+1) x y (by simpa using d) (by simpa using a2)⟩ ht.2 (fun j x f=>?_) fun e a=>hb e (.tail _ a))
   have:=he (j+1) x (by simpa using f);rw[show i+1+j=i+(j+1) by omega];exact this
def pT{ρ:Ren}{R:Nat->Option Obj}{b:Nat}:∀ {g:List Sh} {us:List U} {vs:D0} {i:Nat},ShL R g us vs->(∀ j u,us[j]? = some u->Ora.env (i+j)=u)->(mG g=true->ρ b=some (kO R))->LR ρ (wU g i b) vs/\us.length=shN g
 | [],us,vs,i,h,he,hb=>by cases h;exact⟨.nil,rfl⟩
 | s::g,us,vs,i,h,he,hb=>by
   cases h with
   | cons h1 w =>
     rename_i f x v vs;have p:∀ t ∈ s.tags,10<=t->ρ b=some (kO R):=fun t d e=>hb (P6.2 ⟨t,B7.2 (.inl d),C5 e⟩)
     have o:mG g=true->ρ b=some (kO R):=fun y=>by
      obtain⟨t,d,e⟩:=P6.1 y;exact hb (P6.2 ⟨t,B7.2 (.inr d),e⟩)
     have q:f.length=s.n:=by
      cases h1 with
      | s _ _=>rfl
      | a _ d=>show _=List.length _;rw[<- d];simp[Sh.tags]
     obtain⟨g1,g2⟩:=pT (i:=i+s.n) w (fun j u l=>by
      have:=he (f.length+j) u (by rw[D8 A2,V9];exact l);rw[<- q,cI];exact this) o
     refine⟨.cons ?_ g1,by simp[shN,q,g2]⟩;have k:∀ j u,f[j]? = some u->Ora.env (i+j)=u:=fun j u l=>he j u (by rw[F1 (B0.1 l).1];exact l)
     cases h1 with
     | s h d=>exact KT h d (by have:=k 0 _ rfl;simpa using this) (p _ (.head _))
     | a h d =>
       have:=HS (b:=b) h d k p;exact .agg this.1 this.2
def WG{ρ:Ren}{vs:D0}(h:LR ρ vs vs'):VR ρ (tup vs) (tup vs'):=by
 match vs,vs',h with
 | [],vs',h=>rw[h.nil_inv];exact .tuple (a:=[]) (a':=[]) rfl (fun i v v' h1 _=>by simp at h1)
 | [v],vs',h =>
   obtain⟨v',d,rfl,h1,b⟩:=h.tail;cases b.nil_inv;exact h1
 | v::u::r,vs',h =>
   obtain⟨v',d,rfl,h1,b⟩:=h.tail;obtain⟨e,g,rfl,h3,f⟩:=b.tail;exact .tuple h.1 h.2
def St.grown{ρ:Ren}{w w':World}(h:HR P base ρ m.H w)(g:mM w w'):St P base ρ ρ m m w w' :=
 ⟨fun _ _ h=>h,fun b l h1 a=>(by rw[h1]at a;cases a),A6 _,A6 _,fun h=>h,
  ⟨h.dom,fun id hid ab e=>by
    obtain⟨l,h1,a,h3⟩:=h.at_ id hid ab e;exact⟨l,h1,a.mono (fun _ _ h=>h) (fun k d=>g.keep k (a.tc d)),h3⟩⟩,
  fun _ h=>h,fun b h1 a=>absurd h1 a,fun k d _=>g.keep k d,g.size,g.os,fun b l h1 a=>(by rw[h1]at a;cases a),fun _ _ _ _=>rfl,fun _ h=>.inr h⟩
def St.grownLg{ρ:Ren}{w w':World}(h:HR P base ρ m.H w)(g:mM w w')(lg:Lg):St P base ρ ρ m (m.wLg lg) w w':=by
 obtain⟨H,n,W,hi,l⟩:=m;have r:=St.grown (m:=⟨H,n,W,hi,l⟩) h g;exact⟨r.ext,r.new,r.nle,r.hle,r.nhi,r.hr,r.wsub,r.wrw,r.keep,r.size,r.os,r.blk,r.same,r.tch⟩
def St.ret{ρ:Ren}{w w':World}{G:Nat->Option Obj}(h:HR P base ρ m.H w)(g:mM w w')(W:Z4 m .frz (fun _=>undef)=some (undef,m1))(S:K2 ρ m.n m1.hi)(Q:GOk G w')
  (N:∀ k o,G k=some o->w.heap.size<=k∨∃ id ab l,id<=H7/\Hp.get m.H id=some ab/\ρ id=some l/\Tf ab l k/\ab.rw=false):upd ρ m.n (kO G) m.n=some (kO G)/\St P base ρ (upd ρ m.n (kO G)) m m1 w w':=by
 obtain⟨hle,_,rfl⟩:=L5 W;have t:ρ m.n=none:=S m.n (A6 _) (K9 _ _).2;have i:=W7 (l:=kO G) t;refine⟨L7 _ _ _,i,fun b q h1 f=>?_,by simp,(K9 _ _).1,fun _=>Y7 (K9 _ _).2,⟨fun b q K=>?_,fun id hid a d=>?_⟩,fun b T=>T,fun b h1 f=>absurd h1 f,fun q K _=>g.keep q K,g.size,g.os,fun b q h1 f j=>?_,fun id hid h1 f=>?_,fun q ⟨id,a,l,hid,d,s,L⟩=>?_⟩
 .obtain⟨rfl,rfl⟩:=U3 h1 f;exact⟨A6 _,J3 _⟩
 .cases h0:ρ b with
  | some U=>exact h.dom b U h0
  | none=>obtain⟨rfl,rfl⟩:=U3 K h0;exact hle
 .rw[F0 _ _ _ _ hle hid]at d;by_cases e:id=m.n
  .rw[A9 e]at d;have d:=A8 d;subst d;subst e;exact⟨kO G,L7 _ _ _,⟨rfl,Q⟩,fun _ j=>(by cases j)⟩
  .rw[A7 e]at d;obtain⟨l0,h1,f,h3⟩:=h.at_ id hid a d;refine⟨l0,i _ _ h1,f.mono i (fun k O=>g.keep k (f.tc O)),fun hr j=>⟨(h3 hr j).1,fun y p A l2 g1 g2 g3=>?_⟩⟩;rw[F0 _ _ _ _ hle p]at g1;by_cases E:y=m.n
   .subst E;rw[L7]at g2
    have:=A8 g2;subst this;rcases g3 with⟨_,g3,_⟩|⟨_,o,g3⟩
    .cases g3
    .rcases N _ o g3 with x|⟨v,a3,D,I,u,C,J,z⟩
     .have:=f.tc (.inl ⟨AB.rw_on hr,j,rfl⟩);omega
     .have:=(h3 hr j).2 v I a3 D u C J.2;subst this;rw[d]at u;have u:=A8 u;subst u;rw[hr]at z;cases z
   .rw[A7 E]at g1;unfold upd at g2;rw[A7 E]at g2;exact(h3 hr j).2 y p A l2 g1 g2 g3
 .obtain⟨rfl,rfl⟩:=U3 h1 f;cases j
 .rw[F0 _ _ _ _ hle hid,A7];intro e;subst e;rcases f with f|f
  .omega
  .have f:upN m.hi m.n<=m.n:=f
   have:=(K9 m.hi m.n).2;omega
 .have d:Hp.get (m.H.set m.n (some .frz)) id=some a:=d;rw[F0 _ _ _ _ hle hid]at d;by_cases e:id=m.n
  .subst e;rw[A9 rfl]at d;have d:=A8 d;subst d;rw[L7]at s;have s:=A8 s;subst s;rcases L.2 with⟨_,h3,_⟩|⟨_,o,h3⟩
   .cases h3
   .rcases N _ o h3 with x|⟨v,a3,D,I,u,C,J,z⟩
    .exact .inl x
    .exact .inr ⟨v,a3,D,I,u,C,J⟩
  .rw[A7 e]at d;unfold upd at s;rw[A7 e]at s;exact .inr ⟨id,a,l,hid,d,s,L⟩
def St.back{ρ:Ren}{w w':World}{hi:Nat}{lg:Lg}(h:HR P base ρ m.H w)(g:mM w w')(hh:m.hi<=hi):St P base ρ ρ m ⟨m.H,m.n,m.W,hi,lg⟩ w w':=by
 have r:=St.grownLg (m:=m) h g lg;refine⟨r.ext,fun b l h1 a=>(by rw[h1]at a;cases a),A6 _,hh,fun h=>B9 h hh,?_,fun _ h=>h,fun b h1 a=>absurd h1 a,fun k d _=>g.keep k d,g.size,g.os,fun b l h1 a=>(by rw[h1]at a;cases a),fun _ _ _ _=>rfl,fun _ h=>.inr h⟩
 have:=r.hr;rw[kU]at this;exact this
theorem A34{f:FuncId}{ps:List Sh}{spec:dG}{rs:List Sh}(h:M3 P Ora.G f ps spec rs):mN P base gl f (A35 P ps spec rs):=by
 have p:∀ {nx:Nat} {m m':Mem} {v:Value},mG rs=true->UK rs nx m=some (v,m')->m'.lg=m.lg/\m.hi<=m'.hi/\m.n<=m'.n:=fun{nx m m' v} a hr=>by
  unfold UK at hr;rw[a]at hr;simp only[E3]at hr;split at hr
  .rename_i D;cases hr;obtain⟨m2,C,A,_⟩:=Q5 D;cases A;obtain⟨_,_,rfl⟩:=L5 C;exact⟨rfl,(K9 _ _).1,W6 _⟩
  .cases hr
 have i:∀ {vs xs:D0} {m m1:Mem},qB P ps vs m=some (xs,m1)->m.lg.le m1.lg/\m.hi<=m1.hi:=fun{vs xs m m1} h1=>by
  unfold qB at h1;split at h1
  .split at h1
   .rename_i a;cases h1;exact⟨(S1 V0 a).2.1,(S1 V0 a).1⟩
   .rename_i a;split at h1
    .rename_i O;cases h1;exact⟨by rw[(N1 O).2.1];exact(S1 V0 a).2.1,B9 (S1 V0 a).1 (N1 O).1⟩
    .cases h1
   .cases h1
  .cases h1
 refine⟨fun vs m m' v hr=>?_,fun ρ m m' w vs vs' v hr K d U=>.inl ?_⟩
 .obtain⟨xs,m1,h1,⟨a,g⟩|⟨a,_,rfl⟩⟩:=TG hr
  .rw[(p a g).1,g9];exact(i h1).1.trans ⟨[_],rfl⟩
  .exact(i h1).1.trans ⟨[_],rfl⟩
 .obtain⟨xs,m1,h1,g⟩:=TG hr;have E:m'.lg=⟨m1.lg.nx+shN rs,m1.lg.pi,.con spec xs m1.lg.nx 0 (shN rs)::m1.lg.log⟩/\m1.hi<=m'.hi:=by
   rcases g with⟨a,g⟩|⟨a,_,rfl⟩
   .obtain⟨r1,u,_⟩:=p a g;simp only[g9,MQ]at r1 u;exact⟨r1,u⟩
   .exact⟨rfl,A6 _⟩
  obtain⟨r1,u⟩:=E;have s:n7.con spec xs m1.lg.nx 0 (shN rs) ∈ m'.lg.log:=by rw[r1];exact B4
  have H:Sat m1.lg:=R6.le K (by rw[r1];exact⟨[_],rfl⟩);obtain⟨t,R,z,a2,a3,a4,a5⟩:=IB d.hr h1 (d.fr.less u) U H;obtain⟨outs,h3,h4,N⟩:=K _ s;obtain⟨T,h7⟩:=h _ outs w vs' R a3 h3 (fun k o y=>(d.gf k o y).2) a4;refine⟨T,h7.mono fun e w' ⟨r,Q,g1,g2,g3,g4,g5⟩=>?_⟩;rcases g with⟨a,g⟩|⟨a,rfl,rfl⟩
  .let j:Lg:=⟨m1.lg.nx+shN rs,m1.lg.pi,.con spec xs m1.lg.nx 0 (shN rs)::m1.lg.log⟩
   have g:UK rs m1.lg.nx (m1.wLg j)=some (v,m'):=g;have q:St P base ρ t m (m1.wLg j) w w:=St.trans (d.fr.less (by simpa using u)) z (St.wLg z.hr j);have I:K2 t (m1.wLg j).n m'.hi:=by simpa using d.fr.step z
   unfold UK at g;rw[a]at g;simp only[E3]at g;split at g
   .rename_i v0 b m2 D;cases g;obtain⟨m3,C,A,_⟩:=Q5 D;cases A;obtain⟨e1,Y⟩:=St.ret (G:=Q) q.hr g3 C I g4 fun k o y=>by
     rcases g5 k o y with J|⟨o',x⟩
     .exact .inl J
     .obtain⟨id,ab,l,S,Z,p3,p4,W⟩:=a5 k o' x;exact .inr ⟨id,ab,l,S,by rw[kU];exact Z,p3,p4,W⟩
    exact⟨_,_,g2,WG (pT g1 N fun _=>e1).1,St.trans d.fr q Y⟩
   .cases g
  .exact⟨_,ρ,g2,WG (pT g1 N fun L=>by rw[a]at L;cases L).1,St.back d.hr g3 (i h1).2⟩
end
end
end Go.Sx
