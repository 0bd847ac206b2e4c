import Derived.Test.YtdimocjaepnifaaGreatDoorX6
import Derived.Lib.Bytealg
import Derived.Lib.MakeNoZero
set_option linter.all false
set_option maxRecDepth 100000
set_option maxHeartbeats 4000000
namespace Go.Sx
variable {m m' m1 m2:Mem}{c:Cls}{r:Option (Nat×AB)}{rs:List Rec}{op:OpC}{fn:Func}{vs' vs2:D5}
section
open Go
variable [Ora]
def A62(ops:Array Oper)(X:Nat→Qs)(i:Nat)(o:Oper):Bool:=PO o.op i ((x9 ops.toList []).getD i []) ((x9 ops.toList []).drop (i+1)) (ops.toList.drop (i+1)) (X i)
structure Rg (P:Program) (base gl nt:Nat) (call:T8) (ops:Array Oper) (F:Nat→Fr) (M:Nat→Mem) (V:Nat→Value) (R:Nat→List Rec) (X:Nat→Qs) (B:Nat→Bool):Prop where
 st:∀ i o,ops[i]? = some o→OC P nt gl call ops.toList ((x9 ops.toList []).getD i []) (R i) (B i) o (F i) (F (i+1)) (M i) (M (i+1)) (V i)
 rc:∀ i o,ops[i]? = some o→(R (i+1)=R i∧∃ lg,M (i+1)=(M i).wLg lg)∨(B i=true∧R (i+1)=[])∨R (i+1)=⟨i,(M i).n,(M (i+1)).n⟩::R i
 qs:∀ i o,ops[i]? = some o→QsN (B i) i nt ops.toList (p9 P call o) ((x9 ops.toList []).getD i []) (R i) (F i) o (M i) (M (i+1)) (V i) (X i) (X (i+1))
 sb:∀ i o,ops[i]? = some o→B i=true→A62 ops X i o=true
 x0:X 0=[]
 ok:QY ops.toList (x9 ops.toList []) ops.toList 0=true
structure Ph (ops:Array Oper) (B:Nat→Bool) (M:Nat→Mem) (lo up:Nat):Prop where
 le:lo≤up
 sz:up≤ops.size
 nh:(M lo).n≤(M lo).hi
 mx:∀ i o,lo≤i→i<up→ops[i]? = some o→B i=false
section
variable {P:Program} {base gl nt:Nat} {call:T8} {ops:Array Oper} {F:Nat→Fr} {M:Nat→Mem} {V:Nat→Value} {R:Nat→List Rec} {X:Nat→Qs} {B:Nat→Bool} {lo up:Nat}
def V2{i:Nat}(h:i<ops.size):∃ o,ops[i]? = some o:=⟨ops[i],by simp[h]⟩
def Rg.one(g:Rg P base gl nt call ops F M V R X B){i:Nat}{o:Oper}(ho:ops[i]? = some o)(hso:B i=false)(hn:(M i).n≤(M i).hi):(M i).n≤(M (i+1)).n∧(M i).hi≤(M (i+1)).hi∧(M (i+1)).n≤(M (i+1)).hi∧(M (i+1)).W=(M i).W ∧
  ∀ id,id≤I7→(id<(M i).n∨(M (i+1)).n≤id)→Hp.get (M (i+1)).H id=Hp.get (M i).H id:=by
 obtain⟨_,_,_,h⟩:=g.st i o ho;rcases h with⟨_,lg,_,_,h⟩|⟨_,lg,lg2,_,_,h⟩|⟨h,_⟩|⟨_,_,lg,_,mv,m',_,_,_,hhi,hm⟩
 ·rw[h];exact⟨B0 _,B0 _,hn,rfl,fun _ _ _=>rfl⟩
 ·rw[h];exact⟨B0 _,B0 _,hn,rfl,fun _ _ _=>rfl⟩
 ·rw[hso]at h;cases h
 ·obtain⟨h1,h2,h3,h4,_,_,_,h5⟩:=RF hm hn hhi;exact⟨h1,h2,h3,h4,fun id hid hh=>by rw[h5 id hid,A3 (by show ¬ ((M i).n≤id∧_);omega)];rfl⟩
def Rg.allD(g:Rg P base gl nt call ops F M V R X B)(ph:Ph ops B M lo up):∀ d,lo+d≤up→(M lo).n≤(M (lo+d)).n∧(M lo).hi≤(M (lo+d)).hi∧(M (lo+d)).n≤(M (lo+d)).hi∧(M (lo+d)).W=(M lo).W ∧
  ∀ id,id≤I7→(id<(M lo).n∨(M (lo+d)).n≤id)→Hp.get (M (lo+d)).H id=Hp.get (M lo).H id
 | 0,_=>⟨B0 _,B0 _,ph.nh,rfl,fun _ _ _=>rfl⟩
 | d+1,h=>by
   obtain⟨h1,h2,h3,h4,h5⟩:=g.allD ph d A0;obtain⟨o,ho⟩:=V2 (ops:=ops) (i:=lo+d) (by have:=ph.sz;omega);obtain⟨k1,k2,k3,k4,k5⟩:=g.one ho (ph.mx _ o A0 A0 ho) h3;exact⟨B7 h1 k1,B7 h2 k2,k3,k4.trans h4,fun id hid hh=>by
    rw[show lo+(d+1)=lo+d+1 by omega]at hh ⊢;rw[k5 id hid A0,h5 id hid A0]⟩
def Rg.all(g:Rg P base gl nt call ops F M V R X B)(ph:Ph ops B M lo up){i:Nat}(h0:lo≤i)(h:i≤up):(M lo).n≤(M i).n∧(M lo).hi≤(M i).hi∧(M i).n≤(M i).hi∧(M i).W=(M lo).W ∧
  ∀ id,id≤I7→(id<(M lo).n∨(M i).n≤id)→Hp.get (M i).H id=Hp.get (M lo).H id:=by
 have:=g.allD ph (i-lo) A0
 rwa[show lo+(i-lo)=i by omega]at this
def Rg.mono(g:Rg P base gl nt call ops F M V R X B)(ph:Ph ops B M lo up){i:Nat}(h0:lo≤i):∀ d,i+d≤up→(M i).n≤(M (i+d)).n∧(M i).hi≤(M (i+d)).hi∧∀ id,id≤I7→id<(M i).n→Hp.get (M (i+d)).H id=Hp.get (M i).H id
 | 0,_=>⟨B0 _,B0 _,fun _ _ _=>rfl⟩
 | d+1,h=>by
   obtain⟨h1,h2,h5⟩:=g.mono ph h0 d A0;obtain⟨o,ho⟩:=V2 (ops:=ops) (i:=i+d) (by have:=ph.sz;omega);obtain⟨k1,k2,k3,k4,k5⟩:=g.one ho (ph.mx _ o A0 A0 ho) (g.all ph (i:=i+d) A0 A0).2.2.1;exact⟨B7 h1 k1,B7 h2 k2,fun id hid hh=>by rw[show i+(d+1)=i+d+1 by omega,k5 id hid A0,h5 id hid hh]⟩
def Rg.le(g:Rg P base gl nt call ops F M V R X B)(ph:Ph ops B M lo up){i j:Nat}(h0:lo≤i)(h:i≤j)(hj:j≤up):(M i).n≤(M j).n∧(M i).hi≤(M j).hi∧∀ id,id≤I7→id<(M i).n→Hp.get (M j).H id=Hp.get (M i).H id:=by
 have:=g.mono ph h0 (j-i) A0
 rwa[show i+(j-i)=j by omega]at this
def XM{mv:Mem}{us:List Rec}(h:GX m c us=some mv):mv.lg=m.lg:=by
 obtain⟨H,n,W,hi,lg⟩:=m;unfold GX at h;simp only at h;cases c with
 | free=>cases h;rfl
 | one b =>
   simp only at h;cases hq:cF (y8 us) b || !(Nat.ble b I7)with
   | true=>rw[hq]at h;cases h
   | false=>rw[hq,iA]at h;cases h;rfl
 | all =>
   simp only at h;obtain⟨hb,h⟩:=A6 h;cases h;rfl
def RG(h:oZ m m'=some m2):m2.lg=m'.lg:=by
 unfold oZ at h;cases hq:Nat.ble m'.hi m.n with
 | true=>rw[hq]at h;cases h;rfl
 | false =>
   rw[hq]at h;obtain⟨_,h⟩:=A6 h;simp only[F8,gN]at h;cases h;rfl
def qS{a b:Addr}(h:LG a b=true):a=b:=by
 unfold LG at h;split at h
 ·obtain⟨h1,h2⟩:=B8 h;rw[A1 h1,A1 h2]
 ·cases h
def A1I{a b:Fn}(h:VE a b=true):a=b:=by
 unfold VE at h;split at h
 ·rw[A1 h]
 ·rw[A1 h]
 ·cases h
def uN{s:Value→Value→Bool}(hs:∀ a b,s a b=true→a=b):∀ {l r:D5},HM s l r=true→l=r
 | [],[],_=>rfl
 | [],_::_,h=>by cases h
 | _::_,[],h=>by cases h
 | a::l,b::r,h=>by
   obtain⟨h1,h2⟩:=B8 (show(s a b && HM s l r)=true from h);rw[hs a b h1,uN hs h2]
def B70{a b:o7}(h:a.toList=b.toList):a=b:=by cases a;cases b;cases h;rfl
def A21:∀ (d:Nat) (v w:Value),CP d v w=true→v=w:=by
 intro d;induction d with
 | zero =>
   intro v w h;unfold CP at h;split at h
   ·rw[eq_of_beq h]
   ·obtain⟨h1,h2⟩:=B8 h;rw[eM]at h2;rw[kX h1,eq_of_beq h2]
   ·obtain⟨h1,h2⟩:=B8 h;rw[A1 h1,A1 h2]
   ·obtain⟨h1,h2⟩:=B8 h;rw[A1 h1,A1 h2]
   ·rename_i s t;have h1:=F9 h;cases s with|mk s=>cases t with|mk t=>cases s;cases t;cases h1;rfl
   ·rfl
   ·rw[qS h]
   ·obtain⟨h1,h2⟩:=B8 h;rw[A1 h1,A1 h2]
   ·obtain⟨h0,h⟩:=B8 h;obtain⟨h1,h2⟩:=B8 h;rw[qS h0,A1 h1,A1 h2]
   ·rfl
   ·rw[A1 h]
   ·rfl
   ·rfl
   all_goals first|cases h|(rename_i hh;cases hh)
 | succ d ih =>
   intro v w h;unfold CP at h;split at h
   ·rw[eq_of_beq h]
   ·obtain⟨h1,h2⟩:=B8 h;rw[eM]at h2;rw[kX h1,eq_of_beq h2]
   ·obtain⟨h1,h2⟩:=B8 h;rw[A1 h1,A1 h2]
   ·obtain⟨h1,h2⟩:=B8 h;rw[A1 h1,A1 h2]
   ·rename_i s t;have h1:=F9 h;cases s with|mk s=>cases t with|mk t=>cases s;cases t;cases h1;rfl
   ·rfl
   ·rw[qS h]
   ·obtain⟨h1,h2⟩:=B8 h;rw[A1 h1,A1 h2]
   ·obtain⟨h0,h⟩:=B8 h;obtain⟨h1,h2⟩:=B8 h;rw[qS h0,A1 h1,A1 h2]
   ·rfl
   ·rw[A1 h]
   ·rfl
   ·rfl
   ·rename_i d' f a b g a' b' he;cases he;obtain⟨h0,h⟩:=B8 h;obtain⟨h1,h2⟩:=B8 h;rw[A1I h0,B70 (uN ih h1),B70 (uN ih h2)]
   ·rename_i d' t v u w he;cases he;obtain⟨h1,h2⟩:=B8 h;rw[A1 h1,ih _ _ h2]
   ·cases h
def A25{a b:AB}(h:A26 a b=true):a=b:=by
 unfold A26 at h;split at h
 ·rfl
 ·obtain⟨h0,h⟩:=B8 h;obtain⟨h1,h2⟩:=B8 h;rw[uN (A21 6) h0,A1 h1,eq_of_beq h2]
 ·cases h
def DX{H:Hp AB}{b:Nat}{ab:AB}(h:DY H b ab=true):Hp.get H b=some ab∧b≤I7:=by
 unfold DY at h;split at h
 ·rename_i x hq;obtain⟨h1,h2⟩:=B8 h;exact⟨by rw[hq,A25 h2],A2 h1⟩
 ·cases h
def wY{mv:Mem}{us:List Rec}(h:LT m r us=some mv):mv.n=wK∧mv.hi=wK∧mv.W=[]∧mv.lg=m.lg∧(∀ id,id≤I7→∀ ab,Hp.get mv.H id=some ab→r=some (id,ab))∧∀ b ab,r=some (b,ab)→DY m.H b ab=true∧b ∉ y8 us:=by
 obtain⟨H,n,W,hi,lg⟩:=m;unfold LT at h;simp only at h;cases r with
 | none =>
   cases h;exact⟨rfl,rfl,rfl,rfl,fun id _ ab hab=>(by rw[vT]at hab;cases hab),fun b ab hb=>by cases hb⟩
 | some p =>
   obtain⟨b,ab0⟩:=p;simp only at h;cases hq:cF (y8 us) b || !(DY H b ab0)with
   | true=>rw[hq]at h;cases h
   | false =>
     rw[hq,iA]at h;cases h;simp only[P0,Bool.not_eq_false']at hq;have hb:=(DX hq.2).2;refine⟨rfl,rfl,rfl,rfl,fun id hid ab hab=>?_,fun b' ab' hb'=>?_⟩
     ·have hab:Hp.get (Hp.set hp0 b (some ab0)) id=some ab:=hab;rw[F2 _ _ _ _ hb hid]at hab;by_cases e:id=b
      ·subst e;rw[A4 rfl]at hab;cases hab;rfl
      ·rw[A3 e,vT]at hab;cases hab
     ·cases hb';exact⟨hq.2,fun hm=>by rw[m9.2 hm]at hq;exact absurd hq.1 (by simp)⟩
def oT{fr:Fr}{o:Oper}{b:I6}{v:Value}{lg:Lg}(h:oU fr m o b rs op=some (v,lg)):∃ mv m',LT m (SG m.H fr o.op) (IG b rs)=some mv∧op.run fr mv=some (v,m')∧m'.W=[]∧m'.hi=wK∧m'.lg=lg:=by
 unfold oU at h;split at h
 ·rename_i mv hv;split at h
  ·rename_i v' H n hi lg' hr;obtain⟨h1,h2⟩:=A6 h;cases h2;exact⟨mv,_,hv,hr,rfl,A1 h1,rfl⟩
  ·cases h
 ·cases h
def HE{all:List Oper}{b:I6}{so:Bool}{o:Oper}{fr fr':Fr}{v:Value}(hc:e9 P base gl call)(h:OC P nt gl call all b rs so o fr fr' m m2 v):m.lg.le m2.lg:=by
 obtain⟨_,_,_,h⟩:=h;rcases h with⟨_,lg,hw,_,h⟩|⟨_,lg,lg2,hw,hq,h⟩|⟨_,lg,hw,hr,_⟩|⟨_,_,lg,hw,mv,m',hv,hr,_,hhi,hm⟩
 ·rw[h];exact kQ hw
 ·obtain⟨mv,m',hv,hr,_,_,hl⟩:=oT hq;have h1:=cO hc hr;rw[(wY hv).2.2.2.1,hl]at h1;rw[h];exact(kQ hw).trans h1
 ·have h1:=cO hc hr;rw[u9]at h1;exact(kQ hw).trans h1
 ·rw[RG hm];have h1:=cO hc hr;rw[XM hv]at h1;exact(kQ hw).trans h1
def Rg.lgs(g:Rg P base gl nt call ops F M V R X B)(hc:e9 P base gl call){i:Nat}:∀ d,i+d≤ops.size→(M i).lg.le (M (i+d)).lg
 | 0,_=>.refl _
 | d+1,h=>by
   obtain⟨o,ho⟩:=V2 (ops:=ops) (i:=i+d) A0;exact(g.lgs hc d A0).trans (HE hc (g.st (i+d) o ho))
def Rg.who(g:Rg P base gl nt call ops F M V R X B)(ph:Ph ops B M lo up):∀ d,lo+d≤up→∀ b,(M lo).n≤b→b<(M (lo+d)).n→∃ k,lo≤k∧k<lo+d∧(M k).n≤b∧b<(M (k+1)).n
 | 0,_,b,h1,h2=>by have h2:b<(M lo).n:=h2;omega
 | d+1,h,b,h1,h2=>by
   rcases G6 b (M (lo+d)).n with h3|h3
   ·obtain⟨k,k0,k1,k2⟩:=g.who ph d A0 b h1 h3;exact⟨k,k0,A0,k2⟩
   ·exact⟨lo+d,A0,A0,h3,h2⟩
def DJ:∀ {rs:List Rec} {b:Nat},b ∈ y8 rs↔∃ r ∈ rs,r.lo≤b∧b<r.hi
 | [],b=>by simp[y8]
 | r::rs,b=>by
   simp only[y8,B5,pA,DJ (rs:=rs),B6];constructor
   ·rintro(h|⟨r',h1,h2⟩)
    ·exact⟨r,.inl rfl,A0⟩
    ·exact⟨r',.inr h1,h2⟩
   ·rintro⟨r',rfl|h1,h2⟩
    ·exact .inl A0
    ·exact .inr ⟨r',h1,h2⟩
def Rg.recs(g:Rg P base gl nt call ops F M V R X B)(ph:Ph ops B M lo up):∀ d,lo+d≤up→∀ k,lo≤k→k<lo+d→∀ b,(M k).n≤b→b<(M (k+1)).n→⟨k,(M k).n,(M (k+1)).n⟩ ∈ R (lo+d)
 | 0,_,k,_,h,_,_,_=>by omega
 | d+1,hi,k,hk,h,b,h1,h2=>by
   obtain⟨o,ho⟩:=V2 (ops:=ops) (i:=lo+d) (by have:=ph.sz;omega);have hmx:=ph.mx _ o A0 A0 ho;show _ ∈ R (lo+d+1);by_cases e:k=lo+d
   ·subst e;rcases g.rc (lo+d) o ho with⟨_,lg,h3⟩|⟨h3,_⟩|h3
    ·rw[h3]at h2;have h2:b<(M (lo+d)).n:=h2;omega
    ·rw[hmx]at h3;cases h3
    ·rw[h3];exact C5
   ·have:=g.recs ph d A0 k hk A0 b h1 h2;rcases g.rc (lo+d) o ho with⟨h3,_⟩|⟨h3,_⟩|h3
    ·rw[h3];exact this
    ·rw[hmx]at h3;cases h3
    ·rw[h3];exact C8 _ this
def A6p{mv:Mem}{us:List Rec}(h:GX m c us=some mv):mv.n=m.n∧mv.hi=m.hi∧mv.W=[]∧mv.lg=m.lg∧∀ id,id≤I7→∀ ab,Hp.get mv.H id=some ab→Hp.get m.H id=some ab∧id ∉ y8 us:=by
 obtain⟨H,n,W,hi,lg⟩:=m;unfold GX at h;simp only at h;cases c with
 | free =>
   cases h;exact⟨rfl,rfl,rfl,rfl,fun id _ ab hab=>by rw[vT]at hab;cases hab⟩
 | one b =>
   simp only at h;cases hq:cF (y8 us) b || !(Nat.ble b I7)with
   | true=>rw[hq]at h;cases h
   | false =>
     rw[hq,iA]at h;cases h;simp only[P0,Bool.not_eq_false']at hq;have hb:=A2 hq.2;refine⟨rfl,rfl,rfl,rfl,fun id hid ab hab=>?_⟩;have hab:Hp.get (Hp.set hp0 b (Hp.get H b)) id=some ab:=hab;rw[F2 _ _ _ _ hb hid]at hab;by_cases e:id=b
     ·subst e;rw[A4 rfl]at hab;exact⟨hab,fun hm=>by rw[m9.2 hm]at hq;exact absurd hq.1 (by simp)⟩
     ·rw[A3 e,vT]at hab;cases hab
 | all =>
   simp only at h;obtain⟨hb,h⟩:=A6 h;cases h;refine⟨rfl,rfl,rfl,rfl,fun id hid ab hab=>?_⟩;have hab:Hp.get (IX H (y8 us)) id=some ab:=hab;rw[IW _ _ (xY hb) id hid]at hab;by_cases e:id ∈ y8 us
   ·rw[A4 e]at hab;cases hab
   ·rw[A3 e]at hab;exact⟨hab,e⟩
def kG(M:Nat→Mem)(D:Nat→Bool)(b:Nat):Nat→Bool
 | 0=>false
 | n+1=>(D n && Nat.ble (M n).n b && Nat.blt b (M (n+1)).n) || kG M D b n
def Z5{D:Nat→Bool}{b:Nat}:∀ n,kG M D b n=true↔∃ k,k<n∧D k=true∧(M k).n≤b∧b<(M (k+1)).n
 | 0=>by simp[kG]
 | n+1=>by
   simp only[kG,K3,I3,Z5 n];constructor
   ·rintro(⟨⟨h1,h2⟩,h3⟩|⟨k,h1,h2⟩)
    ·exact⟨n,A0,h1,A2 h2,A2 h3⟩
    ·exact⟨k,A0,h2⟩
   ·rintro⟨k,h1,h2,h3,h4⟩
    by_cases e:k=n
    ·subst e;exact .inl ⟨⟨h2,C9 h3⟩,C9 h4⟩
    ·exact .inr ⟨k,A0,h2,h3,h4⟩
def Dr(lo:Nat)(D:Nat→Bool)(k:Nat):Bool:=Nat.ble lo k && D k
def v8{lo:Nat}{D:Nat→Bool}{k:Nat}:Dr lo D k=true↔lo≤k∧D k=true:=by
 unfold Dr;rw[I3];exact⟨fun h=>⟨A2 h.1,h.2⟩,fun h=>⟨C9 h.1,h.2⟩⟩
def GD(M:Nat→Mem)(lo N:Nat)(D:Nat→Bool)(b:Nat):Option AB:=bif kG M (Dr lo D) b N then Hp.get (M N).H b else Hp.get (M lo).H b
structure Inv (z:Zn) (P:Program) (base gl nt:Nat) (ops:Array Oper) (F:Nat→Fr) (M:Nat→Mem) (V:Nat→Value) (lo up:Nat) (ρ0:Ren) (w0:World) (D:Nat→Bool) (ρ:Ren) (a:Act) (w:World):Prop where
 ext:∀ b l,ρ0 b=some l→ρ b=some l
 new:∀ b l,ρ b=some l→ρ0 b=none→kG M (Dr lo D) b up=true∧(l.on=true→w0.heap.size≤l.blk)
 hr:HRf P base ρ (GD M lo up D) w
 keep:∀ k,k<w0.heap.size→w.heap[k]? = w0.heap[k]?
 size:w0.heap.size≤w.heap.size
 os:w.os=w0.os∧w.tape=w0.tape∧w.output=w0.output
 tch:∀ k,Ff ρ (GD M lo up D) k→w0.heap.size≤k∨Fp ρ0 (M lo).H k
 tsz:a.tmps.size=nt
 dfr:ZR z ρ nt (F 0) a.defers
 frm:∀ t,t<nt→VR ρ (cW D (fun k=>(ops[k]?).bind (·.dst)) V (F 0).get t ops.size) (a.tmps.getD t undef)
def Y3{i:Nat}{o:Oper}(h:ops[i]? = some o):ops.toList[i]? = some o:=by simpa using h
def lE{ops:List Oper}{an:List I6}:∀ (r:List Oper) (i:Nat),QY ops an r i=true→∀ j o,r[j]? = some o→rT (i+j) o.after.toList=true∧wU an (i+j) (l7 ops o) ops 0=true
 | [],i,h,j,o,hj=>by simp at hj
 | x::r,i,h,j,o,hj=>by
   obtain⟨h1,h2⟩:=B8 (show(rT i x.after.toList && (wU an i (l7 ops x) ops 0 && QY ops an r (i+1)))=true from h);obtain⟨h2,h3⟩:=B8 h2;cases j with
   | zero=>simp at hj;subst hj;exact⟨h1,h2⟩
   | succ j =>
     have:=lE r (i+1) h3 j o (by simpa using hj)
     rwa[show i+1+j=i+(j+1) by omega]at this
def iS:∀ {es:List Edge} {i:Nat},rT i es=true→∀ e ∈ es,Region.binds .any e=true→e.on<i
 | [],i,h,e,he,_=>by cases he
 | x::r,i,h,e,he,hb=>by
   obtain⟨h1,h2⟩:=B8 (show((!(Region.binds .any x) || Nat.blt x.on i) && rT i r)=true from h);rcases B6.1 he with rfl|he
   ·rw[hb]at h1;have h1:Nat.blt e.on i=true:=by simpa only [V4,R7]using h1
    exact A2 h1
   ·exact iS h2 e he hb
def HJ{an:List I6}{i:Nat}{sl:List Tmp}:∀ (r:List Oper) (k0:Nat),wU an i sl r k0=true→∀ j p t,r[j]? = some p→k0+j≠i→p.dst=some t→t ∈ sl→A7h an i (k0+j)=true
 | [],k0,h,j,p,t,hj,_,_,_=>by simp at hj
 | x::r,k0,h,j,p,t,hj,hne,hd,ht=>by
   obtain⟨h1,h2⟩:=B8 (show((Nat.beq k0 i || (match x.dst with|none=>true|some t=>!(cF sl t) || A7h an i k0)) && wU an i sl r (k0+1))=true from h);cases j with
   | zero =>
     simp at hj;subst hj;have hb:Nat.beq k0 i=false:=by
      cases hq:Nat.beq k0 i with
      | false=>rfl
      | true=>exact absurd (A1 hq) hne
     rw[hb,hd,R7]at h1;simp only[m9.2 ht,V4,R7]at h1;exact h1
   | succ j =>
     have:=HJ r (k0+1) h2 j p t (by simpa using hj) A0 hd ht
     rwa[show k0+1+j=k0+(j+1) by omega]at this
def Rg.slot(g:Rg P base gl nt call ops F M V R X B){D:Nat→Bool}(hc:qD ops.toList fun k=>D k=true)(hlt:∀ k,D k=true→k<ops.size){i:Nat}{o:Oper}(ho:ops[i]? = some o)(hi:D i=false)
  (hr:∀ e ∈ o.after.toList,Region.binds .any e=true→D e.on=true) {t:Tmp} (ht:t ∈ l7 ops.toList o):∀ k p,ops[k]? = some p→k≠i→p.dst=some t→(D k=true↔k<i):=fun k p hp hne hd=>by
 have hb:∀ (i:Nat) (o:Oper),ops.toList[i]? = some o→∀ e ∈ o.after.toList,Region.binds .any e=true→e.on<i:=fun i o ho=>by
  have:=(lE _ 0 g.ok i o ho).1;rw[F6]at this;exact iS this
 have h1:=(lE _ 0 g.ok i o (Y3 ho)).2;have h2:=HJ _ 0 h1 k p t (Y3 hp) A0 hd ht;rw[F6,F6]at h2;unfold A7h at h2;rcases kC k i with hlt'|heq|hgt
 ·have hq:Nat.blt i k=false:=by
   cases hq:Nat.blt i k with
   | false=>rfl
   | true=>have:i<k:=A2 hq;omega
  rw[hq]at h2;have hm:=m9.1 (by simpa using h2);exact⟨fun _=>hlt',fun _=>FP hc hb (i+1) i k o (K1 i) (Y3 ho) hr hm⟩
 ·exact absurd heq hne
 ·have hq:Nat.blt i k=true:=C9 hgt;rw[hq]at h2;have hm:=m9.1 (by simpa using h2);refine⟨fun hk=>?_,fun h=>by omega⟩
  have:=FP hc hb (k+1) k i p (K1 k) (Y3 hp) (fun e he hbe=>hc k p (Y3 hp) hk e he hbe) hm;rw[hi]at this;cases this
def Rg.frame(g:Rg P base gl nt call ops F M V R X B)(hnt:nt≤512){t:Tmp}(ht:t<nt):∀ i,i≤ops.size→(F i).get t=cW (fun k=>Nat.blt k i) (fun k=>(ops[k]?).bind (·.dst)) V (F 0).get t i
 | 0,_=>rfl
 | i+1,h=>by
   obtain⟨o,ho⟩:=V2 (ops:=ops) (i:=i) A0;obtain⟨h1,_,h3,_⟩:=g.st i o ho;have ih:=g.frame hnt ht i A0;have e1:cW (fun k=>Nat.blt k (i+1)) (fun k=>(ops[k]?).bind (·.dst)) V (F 0).get t i=cW (fun k=>Nat.blt k i) (fun k=>(ops[k]?).bind (·.dst)) V (F 0).get t i:=iN i fun k hk _=>by
    rw[show Nat.blt k (i+1)=true from C9 A0,show Nat.blt k i=true from C9 hk]
   have e2:Nat.blt i (i+1)=true:=C9 (B0 _);rw[h3];unfold cW;rw[e1,← ih];simp only[e2,ho,B9,true_and];cases hd:o.dst with
   | none=>simp[AE]
   | some d =>
     rw[hd]at h1;have hd':d<nt:=A2 h1;simp only[AE,D9];rw[Q2 _ _ _ _ (E3 hd' hnt) (E3 ht hnt)];by_cases e:t=d
     ·subst e;simp
     ·rw[A3 e,A3 (fun h=>e h.symm)]
def Rg.look(g:Rg P base gl nt call ops F M V R X B)(hnt:nt≤512){D:Nat→Bool}(hc:qD ops.toList fun k=>D k=true)(hlt:∀ k,D k=true→k<ops.size){i:Nat}{o:Oper}(ho:ops[i]? = some o)(hi:D i=false)
  (hr:∀ e ∈ o.after.toList,Region.binds .any e=true→D e.on=true) {t:Tmp} (ht:t ∈ l7 ops.toList o) (htn:t<nt):cW D (fun k=>(ops[k]?).bind (·.dst)) V (F 0).get t ops.size=(F i).get t:=by
 have hil:i<ops.size:=(E0.1 ho).1;rw[g.frame hnt htn i A0];have hs:=g.slot hc hlt ho hi hr ht;have e1:cW D (fun k=>(ops[k]?).bind (·.dst)) V (F 0).get t ops.size=cW (fun k=>Nat.blt k i) (fun k=>(ops[k]?).bind (·.dst)) V (F 0).get t ops.size:=iN _ fun k hk hd=>by
  obtain⟨p,hp⟩:=V2 (ops:=ops) hk;rw[hp]at hd;by_cases e:k=i
  ·subst e;rw[hi];symm;cases hq:Nat.blt k k with
   | false=>rfl
   | true=>have:k<k:=A2 hq;omega
  ·have:=hs k p hp e hd;rw[M6,this];exact⟨fun h=>C9 h,fun h=>A2 h⟩
 rw[e1];have e2:∀ d,i+d≤ops.size→cW (fun k=>Nat.blt k i) (fun k=>(ops[k]?).bind (·.dst)) V (F 0).get t (i+d)=cW (fun k=>Nat.blt k i) (fun k=>(ops[k]?).bind (·.dst)) V (F 0).get t i:=by
  intro d;induction d with
  | zero=>intro _;rfl
  | succ d ih =>
    intro hd;rw[show i+(d+1)=(i+d)+1 by omega];rw[cW,A3 (fun hh=>by have:i+d<i:=A2 hh.1;omega)];exact ih A0
 have:=e2 (ops.size-i) A0
 rwa[show i+(ops.size-i)=ops.size by omega]at this
def BY{o:Oper}{x:Operand}{t:Tmp}(hx:x ∈ o.op.operands.toList)(ht:x=.tmp t):t ∈ l7 ops.toList o:=by
 unfold l7;refine B5.2 (.inr (B5.2 (.inl (List.mem_flatMap.2 ⟨x,hx,?_⟩))));subst ht;simp[uE]
def Rg.see{z:Zn}(g:Rg P base gl nt call ops F M V R X B)(ph:Ph ops B M lo up){ρ0 ρ:Ren}{w0 w:World}{D:Nat→Bool}{a:Act}{i:Nat}{o:Oper}
  (hat:At P base gl ρ0 (M lo) (M up).hi w0) (hc:qD ops.toList fun k=>D k=true) (hiL:lo≤i) (hiup:i<up) (ho:ops[i]? = some o)
  (hr:∀ e ∈ o.after.toList,Region.binds .any e=true→D e.on=true):∀ id,id≤I7→∀ ab,Hp.get (M i).H id=some ab→id ∉ y8 (IG ((x9 ops.toList []).getD i []) (R i))→GD M lo up D id=some ab:=fun id hid ab h1 h2=>by
 unfold GD;by_cases hin:(M lo).n≤id∧id<(M i).n
 ·obtain⟨k,k0,k1,k2,k3⟩:∃ k,lo≤k∧k<i∧(M k).n≤id∧id<(M (k+1)).n:=by
   have:=g.who ph (i-lo) A0 id hin.1 (by rw[show lo+(i-lo)=i by omega];exact hin.2)
   rwa[show lo+(i-lo)=i by omega]at this
  have hDk:D k=true:=by
   have hrec:(⟨k,(M k).n,(M (k+1)).n⟩:Rec) ∈ R i:=by
    have:=g.recs ph (i-lo) A0 k k0 A0 id k2 k3
    rwa[show lo+(i-lo)=i by omega]at this
   by_cases hk:k ∈ (x9 ops.toList []).getD i []
   ·exact FP hc (fun i o ho=>by
     have:=(lE _ 0 g.ok i o ho).1;rw[F6]at this;exact iS this) (i+1) i k o (K1 i) (Y3 ho) hr hk
   ·exfalso;refine h2 (DJ.2 ⟨_,W5.2 ⟨hrec,?_⟩,k2,k3⟩);cases hq:cF ((x9 ops.toList []).getD i []) k with
    | false=>rfl
    | true=>exact absurd (m9.1 hq) hk
  have hu:kG M (Dr lo D) id up=true:=(Z5 _).2 ⟨k,A0,v8.2 ⟨k0,hDk⟩,k2,k3⟩;rw[hu];simp only[F3];rw[(g.le ph (i:=i) (j:=up) hiL A0 (B0 _)).2.2 id hid hin.2];exact h1
 ·have hA:=(g.all ph hiL A0).2.2.2.2 id hid A0;rw[hA]at h1;have hu:kG M (Dr lo D) id up=false:=by
   cases hq:kG M (Dr lo D) id up with
   | false=>rfl
   | true =>
     exfalso;obtain⟨k,k1,kD,k2,k3⟩:=(Z5 _).1 hq;have k0:=(v8.1 kD).1;obtain⟨l,e1,_⟩:=hat.hr.at_ id hid ab h1;have hk0:=g.le ph (i:=lo) (j:=k) (B0 _) k0 A0;have hkN:=g.le ph (i:=k+1) (j:=up) A0 A0 (B0 _);have hNn:=(g.all ph ph.le (B0 _)).2.2.1;rw[hat.fr id A0 A0]at e1;cases e1
  rw[hu];exact h1
def Rg.quiet{z:Zn}(g:Rg P base gl nt call ops F M V R X B)(hcall:e9 P base gl call){ρ0 ρ:Ren}{w0 w:World}{D D':Nat→Bool}{a:Act}{i:Nat}{o:Oper}{Q:Exit→Act→World→Prop}{K:Act→World→Prop}
  (hat:At P base gl ρ0 (M lo) (M up).hi w0) (hS:Sat (M (i+1)).lg) (hnt:nt≤512) (inv:Inv z P base gl nt ops F M V lo up ρ0 w0 D ρ a w) (hc:qD ops.toList fun k=>D k=true) (hlt:∀ k,D k=true→k<ops.size) (ho:ops[i]? = some o) (hi:D i=false)
  (hr:∀ e ∈ o.after.toList,Region.binds .any e=true→D e.on=true) (hD:∀ k,k≠i→D' k=D k) (hDi:D' i=true)
  (hqa:gC nt ops.toList (p9 P call o) ((x9 ops.toList []).getD i []) (R i) (F i) o (M i) (M (i+1)) (V i) r) (hfz:∀ b ab,r=some (b,ab)→GD M lo up D b=some ab)
  (hK:∀ ρ' a' w',Inv z P base gl nt ops F M V lo up ρ0 w0 D' ρ' a' w'→K a' w'):kP P z.rd ops Q i K a w:=by
 have hil:i<ops.size:=(E0.1 ho).1;obtain⟨hd1,hd2,hF,_⟩:=g.st i o ho;have hlook:∀ t,t ∈ l7 ops.toList o→t<nt→VR ρ ((F i).get t) (a.tmps.getD t undef):=fun t ht htn=>by
  rw[← g.look hnt hc hlt ho hi hr ht htn];exact inv.frm t htn
 have hFR:FR ρ (F i) a.eval o.op:=fun x hx=>by
  have hok:okX nt gl x=true:=D7.1 hd2 x hx;cases x with
  | tmp t=>exact hlook t (BY hx rfl) (A2 hok)
  | const v=>exact VR.ofC hok
  | global gg=>exact VR.ptr (o:=0) (inv.ext _ _ (hat.gr gg (A2 hok)))
  | func f=>exact .func (a:=[]) (b:=[]) (a':=[]) (b':=[]) rfl rfl (fun i v v' h=>by simp at h) (fun i v v' h=>by simp at h)
 have hwant:∀ lg b,dL nt (F i) (M i).lg ops.toList o=some (b,lg)→Sat lg→Region.wanted o (yielded ops a.tmps)=b:=fun lg b hw hSl=>by
  unfold dL at hw;split at hw
  ·rename_i hg;cases hw;simp[Region.wanted,hg]
  ·rename_i j want hg;split at hw
   ·rename_i p hp;split at hw
    ·rename_i t ht;obtain⟨h1,h2⟩:=A6 hw;have h1:t<nt:=A2 h1;have hv:=hlook t (by
      unfold l7;refine B5.2 (.inr (B5.2 (.inr ?_)));simp[hg,hp,ht]) h1
     exact qF hg hp ht (by rw[inv.tsz];exact h1) (tS h2 hv hSl)
    ·cases hw
   ·cases hw
 have hframe:∀ (ρ':Ren) (v':Value),(∀ b l,ρ b=some l→ρ' b=some l)→VR ρ' (V i) v'→∀ t,t<nt→VR ρ' (cW D' (fun k=>(ops[k]?).bind (·.dst)) V (F 0).get t ops.size) ((a.put o.dst v').tmps.getD t undef):=fun ρ' v' he hv t ht=>by
  by_cases hd:o.dst=some t
  ·have hnext:∀ k,i<k→k<ops.size→(ops[k]?).bind (·.dst)=some t→D k=false:=fun k hik hk hkd=>by
    obtain⟨p,hp⟩:=V2 (ops:=ops) hk;rw[hp]at hkd
    have:=g.slot hc hlt ho hi hr (t:=t) (by unfold l7;simp[hd]) k p hp A0 hkd;cases hq:D k with
    | false=>rfl
    | true=>have:=this.1 hq;omega
   rw[vX hD hDi ops.size hil (by simp[ho,hd]) hnext];simp only[hd,Act.put,C3];rw[H4,A4 rfl,A4 (by rw[inv.tsz];exact ht)];exact hv
  ·rw[sW hD (by simp[ho];exact hd)];have h1:=(inv.frm t ht).mono he;cases hdd:o.dst with
   | none=>exact h1
   | some d =>
     have hne:d≠t:=fun e=>hd (e▸hdd)
     simp only[Act.put,C3]at h1 ⊢;rw[H4,A3 hne];exact h1
 have hM:∃ lg,M (i+1)=(M i).wLg lg:=by
  rcases hqa with⟨lg,_,_,h,_⟩|⟨_,lg2,_,_,h,_⟩
  ·exact⟨lg,h⟩
  ·exact⟨lg2,h⟩
 have hG:GD M lo up D'=GD M lo up D:=by
  funext b;unfold GD;have:kG M (Dr lo D') b up=kG M (Dr lo D) b up:=by
   obtain⟨lg,hm⟩:=hM;rw[M6,Z5,Z5];constructor
   ·rintro⟨k,h1,h2,h3,h4⟩
    have e:k≠i:=fun e=>by
     subst e;rw[hm]at h4;have h4:b<(M k).n:=h4;omega
    obtain⟨h20,h2⟩:=v8.1 h2;rw[hD k e]at h2;exact⟨k,h1,v8.2 ⟨h20,h2⟩,h3,h4⟩
   ·rintro⟨k,h1,h2,h3⟩
    obtain⟨h20,h2⟩:=v8.1 h2;have e:k≠i:=fun e=>by subst e;rw[hi]at h2;cases h2
    exact⟨k,h1,v8.2 ⟨h20,by rw[hD k e];exact h2⟩,h3⟩
  rw[this]
 have hnew:∀ b l,ρ b=some l→ρ0 b=none→kG M (Dr lo D') b up=true∧(l.on=true→w0.heap.size≤l.blk):=fun b l h1 h2=>by
  obtain⟨k1,k2⟩:=inv.new b l h1 h2;obtain⟨k,q1,q2,q3⟩:=(Z5 _).1 k1;obtain⟨q20,q2⟩:=v8.1 q2;have e:k≠i:=fun e=>by subst e;rw[hi]at q2;cases q2
  exact⟨(Z5 _).2 ⟨k,q1,v8.2 ⟨q20,by rw[hD k e];exact q2⟩,q3⟩,k2⟩
 unfold kP;simp only[ho];rcases hqa with⟨lg,hw,hv,hm,_⟩|⟨lg,lg2,hw,hq,hm,hrr⟩
 ·have hSl:Sat lg:=by rw[hm]at hS;exact hS
  rw[hwant lg false hw hSl];simp only[K9,if_false];refine hK ρ _ w ⟨inv.ext,hnew,hG▸inv.hr,inv.keep,inv.size,inv.os,hG▸inv.tch,?_,?_,hframe ρ undef (fun _ _ h=>h) (hv▸tT ρ)⟩
  ·cases hdd:o.dst<;>simp[Act.put,inv.tsz]
  ·rw[iC];exact inv.dfr
 ·obtain⟨mv,m',hview,hrun,hW,hhi,hl⟩:=oT hq;obtain⟨v1,v2,v3,v4,v5,_⟩:=wY hview;have hSm:Sat m'.lg:=by rw[hm]at hS;rw[hl];exact hS
  have hSl:Sat lg:=U9.le hSm (by have:=cO hcall hrun;rw[v4]at this;exact this);rw[hwant lg true hw hSl];simp only[if_true];have hHR:HR P base ρ mv.H w:=inv.hr.hr fun id hid ab hab=>hfz id ab (hrr.trans (v5 id hid ab hab))
  have hAt:At P base gl ρ mv m'.hi w:=⟨hHR,B7 hat.bs inv.size,fun b h1 h2=>(by rw[v1]at h1;rw[hhi]at h2;omega),hat.gr.mono inv.ext,(by rw[v1,v2];exact B0 _),fun b hb=>(by rw[v3]at hb;cases hb),fun k o hk=>⟨(hat.gf k o hk).1,(inv.keep k (E3 (hat.gf k o hk).1 hat.bs)).trans (hat.gf k o hk).2⟩⟩;refine uK hcall hrun hSm hAt hFR fun v' ρ' w' hv st=>?_
  have hρ:ρ'=ρ:=by
   funext b;cases h0:ρ b with
   | some l=>exact st.ext b l h0
   | none =>
     cases h1:ρ' b with
     | none=>rfl
     | some l =>
       exfalso;have h2:=(st.new b l h1 h0).1;have h3:=st.hr.dom b l h1;rw[v1]at h2;unfold wK at h2;unfold I7 at h3;omega
  subst hρ;have hkeep:∀ k,k<w.heap.size→w'.heap[k]? = w.heap[k]? := fun k hk=>st.keep k hk fun b hb=>by rw[hW]at hb;cases hb
  refine hK ρ' _ w' ⟨inv.ext,hnew,hG▸⟨inv.hr.dom,fun id hid ab hab=>?_⟩,fun k hk=>by rw[hkeep k (E3 hk inv.size),inv.keep k hk],B7 inv.size st.size,⟨st.os.1.trans inv.os.1,st.os.2.1.trans inv.os.2.1,st.os.2.2.trans inv.os.2.2⟩,hG▸inv.tch,?_,?_,hframe ρ' v' (fun _ _ h=>h) hv⟩
  ·obtain⟨l,e1,e2,e3⟩:=inv.hr.at_ id hid ab hab;exact⟨l,e1,e2.mono (fun _ _ h=>h) (fun k hk=>hkeep _ (e2.tc hk)),e3⟩
  ·cases hdd:o.dst<;>simp[Act.put,inv.tsz]
  ·rw[iC];exact inv.dfr
def Rg.step{z:Zn}(g:Rg P base gl nt call ops F M V R X B)(ph:Ph ops B M lo up)(hcall:e9 P base gl call){ρ0 ρ:Ren}{w0 w:World}{D D':Nat→Bool}{a:Act}{i:Nat}{o:Oper}{Q:Exit→Act→World→Prop}{K:Act→World→Prop}
  (hat:At P base gl ρ0 (M lo) (M up).hi w0) (hS:Sat (M up).lg) (hnt:nt≤512) (inv:Inv z P base gl nt ops F M V lo up ρ0 w0 D ρ a w) (hc:qD ops.toList fun k=>D k=true) (hlt:∀ k,D k=true→k<ops.size) (hiL:lo≤i) (hiup:i<up) (ho:ops[i]? = some o) (hi:D i=false)
  (hr:∀ e ∈ o.after.toList,Region.binds .any e=true→D e.on=true) (hD:∀ k,k≠i→D' k=D k) (hDi:D' i=true)
  (hnq:¬∃ r,gC nt ops.toList (p9 P call o) ((x9 ops.toList []).getD i []) (R i) (F i) o (M i) (M (i+1)) (V i) r)
  (hK:∀ ρ' a' w',Inv z P base gl nt ops F M V lo up ρ0 w0 D' ρ' a' w'→K a' w'):kP P z.rd ops Q i K a w:=by
 have hil:i<ops.size:=(E0.1 ho).1;obtain⟨hd1,hd2,hF,hstep⟩:=g.st i o ho;have hmx:=ph.mx i o hiL hiup ho;have hsz:=ph.sz;have hlo:=g.le ph (i:=lo) (j:=i) (B0 _) hiL A0;have hup:=g.le ph (i:=i+1) (j:=up) A0 A0 (B0 _);have hone:=g.one ho hmx (g.all ph hiL A0).2.2.1;have hlook:∀ t,t ∈ l7 ops.toList o→t<nt→VR ρ ((F i).get t) (a.tmps.getD t undef):=fun t ht htn=>by
  rw[← g.look hnt hc hlt ho hi hr ht htn];exact inv.frm t htn
 have hFR:FR ρ (F i) a.eval o.op:=fun x hx=>by
  have hok:okX nt gl x=true:=D7.1 hd2 x hx;cases x with
  | tmp t=>exact hlook t (BY hx rfl) (A2 hok)
  | const v=>exact VR.ofC hok
  | global gg=>exact VR.ptr (o:=0) (inv.ext _ _ (hat.gr gg (A2 hok)))
  | func f=>exact .func (a:=[]) (b:=[]) (a':=[]) (b':=[]) rfl rfl (fun i v v' h=>by simp at h) (fun i v v' h=>by simp at h)
 have hwant:∀ lg b,dL nt (F i) (M i).lg ops.toList o=some (b,lg)→Sat lg→Region.wanted o (yielded ops a.tmps)=b:=fun lg b hw hSl=>by
  unfold dL at hw;split at hw
  ·rename_i hg;cases hw;simp[Region.wanted,hg]
  ·rename_i j want hg;split at hw
   ·rename_i p hp;split at hw
    ·rename_i t ht;obtain⟨h1,h2⟩:=A6 hw;have h1:t<nt:=A2 h1;have hv:=hlook t (by
      unfold l7;refine B5.2 (.inr (B5.2 (.inr ?_)));simp[hg,hp,ht]) h1
     exact qF hg hp ht (by rw[inv.tsz];exact h1) (tS h2 hv hSl)
    ·cases hw
   ·cases hw
 have hframe:∀ (ρ':Ren) (v':Value),(∀ b l,ρ b=some l→ρ' b=some l)→VR ρ' (V i) v'→∀ t,t<nt→VR ρ' (cW D' (fun k=>(ops[k]?).bind (·.dst)) V (F 0).get t ops.size) ((a.put o.dst v').tmps.getD t undef):=fun ρ' v' he hv t ht=>by
  by_cases hd:o.dst=some t
  ·have hnext:∀ k,i<k→k<ops.size→(ops[k]?).bind (·.dst)=some t→D k=false:=fun k hik hk hkd=>by
    obtain⟨p,hp⟩:=V2 (ops:=ops) hk;rw[hp]at hkd
    have:=g.slot hc hlt ho hi hr (t:=t) (by unfold l7;simp[hd]) k p hp A0 hkd;cases hq:D k with
    | false=>rfl
    | true=>have:=this.1 hq;omega
   rw[vX hD hDi ops.size hil (by simp[ho,hd]) hnext];simp only[hd,Act.put,C3];rw[H4,A4 rfl,A4 (by rw[inv.tsz];exact ht)];exact hv
  ·rw[sW hD (by simp[ho];exact hd)];have h1:=(inv.frm t ht).mono he;cases hdd:o.dst with
   | none=>exact h1
   | some d =>
     have hne:d≠t:=fun e=>hd (e▸hdd)
     simp only[Act.put,C3]at h1 ⊢;rw[H4,A3 hne];exact h1
 have hused:∀ b,kG M (Dr lo D') b up=true↔(kG M (Dr lo D) b up=true∨((M i).n≤b∧b<(M (i+1)).n)):=fun b=>by
  rw[Z5,Z5];constructor
  ·rintro⟨k,h1,h2,h3⟩
   obtain⟨h20,h2⟩:=v8.1 h2;by_cases e:k=i
   ·subst e;exact .inr h3
   ·rw[hD k e]at h2;exact .inl ⟨k,h1,v8.2 ⟨h20,h2⟩,h3⟩
  ·rintro(⟨k,h1,h2,h3⟩|h3)
   ·obtain⟨h20,h2⟩:=v8.1 h2;have e:k≠i:=fun e=>by subst e;rw[hi]at h2;cases h2
    exact⟨k,h1,v8.2 ⟨h20,by rw[hD k e];exact h2⟩,h3⟩
   ·exact⟨i,hiup,v8.2 ⟨hiL,hDi⟩,h3⟩
 unfold kP;simp only[ho];have hSi:Sat (M (i+1)).lg:=U9.le hS (by have:=g.lgs hcall (i:=i+1) (up-(i+1)) A0;rwa[show i+1+(up-(i+1))=up by omega]at this);rcases hstep with⟨_,lg,hw,hv,hm⟩|⟨_,lg,lg2,hw,hq,hm⟩|⟨hso,_⟩|⟨_,_,lg,hw,mv,m',hview,hrun,hW,hhi,hmerge⟩
 ·exact absurd ⟨_,.inl ⟨lg,hw,hv,hm,rfl⟩⟩ hnq
 ·exact absurd ⟨_,.inr ⟨lg,lg2,hw,hq,hm,rfl⟩⟩ hnq
 ·rw[hmx]at hso;cases hso
 ·have hSm:Sat m'.lg:=by rw[RG hmerge]at hSi;exact hSi
  have hSl:Sat lg:=U9.le hSm (by have:=cO hcall hrun;rw[XM hview]at this;exact this);rw[hwant lg true hw hSl];simp only[if_true];obtain⟨v1,v2,v3,_,v4⟩:=A6p hview;have v1:mv.n=(M i).n:=v1;have v2:mv.hi=(M i).hi:=v2;have v4:∀ id,id≤I7→∀ ab,Hp.get mv.H id=some ab→Hp.get (M i).H id=some ab∧id ∉ y8 (IG ((x9 ops.toList []).getD i []) (R i)):=v4;have hnh:=(g.all ph hiL A0).2.2.1;obtain⟨q1,q2,q3,q4,q5,q6,_,q7⟩:=RF hmerge hnh hhi;have q1:(M i).n≤(M (i+1)).n:=q1;have q5:(M (i+1)).n=m'.hi∨((M (i+1)).n=(M i).n∧m'.hi≤(M i).n):=q5;have q7:∀ id,id≤I7→Hp.get (M (i+1)).H id=if(M i).n≤id∧id<(M (i+1)).n then Hp.get m'.H id else Hp.get (M i).H id:=q7
  have hsubv:∀ id,id≤I7→∀ ab,Hp.get mv.H id=some ab→GD M lo up D id=some ab:=fun id hid ab hab=>by
   obtain⟨h1,h2⟩:=v4 id hid ab hab;exact g.see (z:=z) (a:=a) (ρ:=ρ) (w:=w) ph hat hc hiL hiup ho hr id hid ab h1 h2
  have hHR:HR P base ρ mv.H w:=inv.hr.hr hsubv;have hFree:M4 ρ mv.n m'.hi:=fun b h1 h2=>by
   rw[v1]at h1;cases hb:ρ b with
   | none=>rfl
   | some l =>
     exfalso;cases h0:ρ0 b with
     | some l0 =>
       rw[hat.fr b A0 A0]at h0;cases h0
     | none =>
       obtain⟨k,k1,k2,k3,k4⟩:=(Z5 _).1 (inv.new b l hb h0).1;obtain⟨k0,k2⟩:=v8.1 k2;have hki:k≠i:=fun e=>by subst e;rw[hi]at k2;cases k2
       rcases G6 k i with hki'|hki'
       ·have:=(g.le ph (i:=k+1) (j:=i) A0 A0 A0).1;omega
       ·have:=(g.le ph (i:=i+1) (j:=k) A0 A0 A0).1;rcases q5 with q5|⟨_,q5⟩<;>omega
  have hAt:At P base gl ρ mv m'.hi w:=⟨hHR,B7 hat.bs inv.size,hFree,hat.gr.mono inv.ext,(by rw[v1,v2];exact hnh),fun b hb=>(by rw[v3]at hb;cases hb),fun k o hk=>⟨(hat.gf k o hk).1,(inv.keep k (E3 (hat.gf k o hk).1 hat.bs)).trans (hat.gf k o hk).2⟩⟩;refine uK hcall hrun hSm hAt hFR fun v' ρ' w' hv st=>hK ρ' _ w' ?_
  have hkeep:∀ k,k<w.heap.size→w'.heap[k]? = w.heap[k]? := fun k hk=>st.keep k hk fun b hb=>by rw[hW]at hb;cases hb
  have hm'n:m'.n≤m'.hi:=st.nhi (by rw[v1,v2];exact hnh);have hnew:∀ b l,ρ' b=some l→ρ b=none→((M i).n≤b∧b<(M (i+1)).n)∧(l.on=true→w.heap.size≤l.blk):=fun b l h1 h2=>by
   have h3:=st.new b l h1 h2;rw[v1]at h3;refine⟨⟨h3.1,?_⟩,?_⟩
   ·rcases q5 with q5|⟨_,q5⟩<;>omega
   ·intro ho;rcases st.blk b l h1 h2 ho with h|⟨b0,h,_⟩
    ·exact h
    ·rw[hW]at h;cases h
  have hin:∀ id,id≤I7→(M i).n≤id→id<(M (i+1)).n→GD M lo up D' id=Hp.get m'.H id∧ρ id=none:=fun id hid h1 h2=>by
   constructor
   ·unfold GD;rw[(hused id).2 (.inr ⟨h1,h2⟩)];simp only[F3];rw[hup.2.2 id hid h2,q7 id hid,A4 ⟨h1,h2⟩]
   ·refine hFree id (by rw[v1];exact h1) ?_;rcases q5 with q5|⟨q5,_⟩
    ·omega
    ·rw[q5]at h2;omega
  have hout:∀ id,¬ ((M i).n≤id∧id<(M (i+1)).n)→GD M lo up D' id=GD M lo up D id:=fun id hid=>by
   unfold GD;have:kG M (Dr lo D') id up=kG M (Dr lo D) id up:=by
    rw[M6,hused id];exact⟨fun h=>h.elim (fun h=>h) (fun h=>absurd h hid),.inl⟩
   rw[this]
  have hFf:∀ k,Ff ρ' (GD M lo up D') k→w.heap.size≤k∨Ff ρ (GD M lo up D) k:=fun k ⟨id,ab,l,hid,hab,hl,ht⟩=>by
   by_cases hI:(M i).n≤id∧id<(M (i+1)).n
   ·rw[(hin id hid hI.1 hI.2).1]at hab;rcases st.tch k ⟨id,ab,l,hid,hab,hl,ht⟩with h|⟨id0,ab0,l0,e1,e2,e3,e4⟩
    ·exact .inl h
    ·exact .inr ⟨id0,ab0,l0,e1,hsubv id0 e1 ab0 e2,e3,e4⟩
   ·rw[hout id hI]at hab;obtain⟨l3,c1,_⟩:=inv.hr.at_ id hid ab hab;rw[st.ext id l3 c1]at hl
    have:=A9 hl;subst this;exact .inr ⟨id,ab,l3,hid,hab,c1,ht⟩
  refine⟨fun b l h=>st.ext b l (inv.ext b l h),fun b l h1 h2=>?_,⟨st.hr.dom,fun id hid ab hab=>?_⟩,fun k hk=>by rw[hkeep k (E3 hk inv.size),inv.keep k hk],B7 inv.size st.size,⟨st.os.1.trans inv.os.1,st.os.2.1.trans inv.os.2.1,st.os.2.2.trans inv.os.2.2⟩,fun k hk=>(hFf k hk).elim (fun h=>.inl (B7 inv.size h)) (inv.tch k),?_,?_,hframe ρ' v' st.ext hv⟩
  ·cases h0:ρ b with
   | some l1 =>
     rw[st.ext b l1 h0]at h1
     have:=A9 h1;subst this;exact⟨(hused b).2 (.inl (inv.new b l1 h0 h2).1),(inv.new b l1 h0 h2).2⟩
   | none =>
     have:=hnew b l h1 h0;exact⟨(hused b).2 (.inr this.1),fun ho=>B7 inv.size (this.2 ho)⟩
  ·by_cases hI:(M i).n≤id∧id<(M (i+1)).n
   ·obtain⟨h1,h2⟩:=hin id hid hI.1 hI.2;rw[h1]at hab;obtain⟨l,e1,e2,e3⟩:=st.hr.at_ id hid ab hab;refine⟨l,e1,e2,fun hrw hon=>⟨(e3 hrw hon).1,fun id2 hid2 ab2 l2 f1 f2 f3=>?_⟩⟩;by_cases hI2:(M i).n≤id2∧id2<(M (i+1)).n
    ·rw[(hin id2 hid2 hI2.1 hI2.2).1]at f1;exact(e3 hrw hon).2 id2 hid2 ab2 l2 f1 f2 f3
    ·rw[hout id2 hI2]at f1;obtain⟨l3,c1,c2,_⟩:=inv.hr.at_ id2 hid2 ab2 f1;rw[st.ext id2 l3 c1]at f2
     have:=A9 f2;subst this;have h5:=c2.tc f3;have h6:=(hnew id l e1 h2).2 hon;omega
   ·rw[hout id hI]at hab;obtain⟨l,e1,e2,e3⟩:=inv.hr.at_ id hid ab hab;refine⟨l,st.ext _ _ e1,e2.mono st.ext (fun k hk=>hkeep _ (e2.tc hk)),fun hrw hon=>⟨(e3 hrw hon).1,fun id2 hid2 ab2 l2 f1 f2 f3=>?_⟩⟩;by_cases hI2:(M i).n≤id2∧id2<(M (i+1)).n
    ·exfalso;rw[(hin id2 hid2 hI2.1 hI2.2).1]at f1;have hfr:ab2.fr=true:=by
      cases hq:ab2.fr with
      | true=>rfl
      | false =>
        exfalso;rcases f3 with⟨_,h1,h2⟩|⟨h1,_⟩
        ·have h5:=(hnew id2 l2 f2 (hin id2 hid2 hI2.1 hI2.2).2).2 h1;have h6:=e2.tc (.inl ⟨AB.rw_on hrw,hon,rfl⟩);omega
        ·rw[h1]at hq;cases hq
     rcases st.tch _ ⟨id2,ab2,l2,hid2,f1,f2,hfr,f3⟩with h|⟨id0,ab0,l0,c1,c2,c3,_,c4⟩
     ·have:=e2.tc (.inl ⟨AB.rw_on hrw,hon,rfl⟩);omega
     ·have h7:=(e3 hrw hon).2 id0 c1 ab0 l0 (hsubv id0 c1 ab0 c2) c3 c4;subst h7;have h8:=hsubv id0 c1 ab0 c2;rw[hab]at h8;have h8:=A9 h8;subst h8;have h9:id0<mv.n∨m'.hi≤id0:=by
       rcases G6 id0 mv.n with h|h
       ·exact .inl h
       ·rcases G6 id0 m'.hi with h'|h'
        ·rw[hFree id0 h h']at e1;cases e1
        ·exact .inr h'
      have h10:=st.same id0 c1 (by rw[hW];simp) h9;rw[c2]at h10;obtain⟨_,h11⟩:=st.hr.atl (st.ext _ _ e1) h10
      have:=(h11 hrw hon).2 id2 hid2 ab2 l2 f1 f2 f3;subst this;exact hI hI2
    ·rw[hout id2 hI2]at f1;obtain⟨l3,c1,_⟩:=inv.hr.at_ id2 hid2 ab2 f1;rw[st.ext id2 l3 c1]at f2
     have:=A9 f2;subst this;exact(e3 hrw hon).2 id2 hid2 ab2 l3 f1 c1 f3
  ·cases hdd:o.dst<;>simp[Act.put,inv.tsz]
  ·rw[iC];exact inv.dfr.congr st.ext fun _=>⟨rfl,rfl⟩
end
end
section
open Go
variable [Ora]
def JM:∀ (l:List Bool) (i:Nat),l[i]? = some false→(l.set i true).countP (fun b=>!b)+1=l.countP (fun b=>!b)
 | [],i,h=>by simp at h
 | b::r,0,h=>by simp at h;subst h;simp
 | b::r,i+1,h=>by
   have:=JM r i (by simpa using h);rw[List.set_cons_succ,List.countP_cons,List.countP_cons];omega
def WR{l:List Bool}(h:l.countP (fun b=>!b)=0):∀ i,i<l.length→l[i]? = some true:=fun i hi=>by
 rw[List.countP_eq_zero]at h
 have:=h l[i] (S3 hi);rw[A7 hi];cases hb:l[i]with
 | true=>rfl
 | false=>rw[hb]at this;exact absurd rfl this
section
variable {P:Program} {base gl:Nat} {call:T8}
def A4b(h:oZ m m'=some m2)(hhi:m.hi≤m'.hi):m.hi≤m2.hi:=by
 unfold oZ at h;cases hq:Nat.ble m'.hi m.n with
 | true=>rw[hq]at h;cases h;exact B0 _
 | false =>
   rw[hq]at h;obtain⟨_,h⟩:=A6 h;simp only[F8,gN]at h;cases h;exact hhi
def FK:∀ {n:Nat} {b:I6} {qs:Qs},NX n b qs=true→∀ k,k<n→k ∈ b∨∃ q ∈ qs,q.1=k
 | 0,_,_,_,k,h=>by omega
 | n+1,b,qs,h,k,hk=>by
   obtain⟨h1,h2⟩:=B8 (show((cF b n || qs.any fun q=>Nat.beq n q.1) && NX n b qs)=true from h);by_cases e:k=n
   ·subst e;rcases K3 _ _▸h1 with h1|h1
    ·exact .inl (m9.1 h1)
    ·obtain⟨q,hq,hb⟩:=X9.1 h1;exact .inr ⟨q,hq,(A1 hb).symm⟩
   ·exact FK h2 k A0
def DR:∀ {i:Nat} {bs:List I6} {r:List Oper},MJ i bs r=true→∀ (j:Nat) (c:List Nat) (o:Oper),bs[j]? = some c→r[j]? = some o→i ∈ c∨cR o.op=true
 | _,[],_,_,j,c,o,h,_=>by simp at h
 | _,_::_,[],_,j,c,o,_,h=>by simp at h
 | i,c0::bs,o0::r,h,j,c,o,h1,h2=>by
   obtain⟨k1,k2⟩:=B8 (show((cF c0 i || cR o0.op) && MJ i bs r)=true from h);cases j with
   | zero =>
     simp at h1 h2;subst h1;subst h2;rcases K3 _ _▸k1 with k1|k1
     ·exact .inl (m9.1 k1)
     ·exact .inr k1
   | succ j=>exact DR k2 j c o (by simpa using h1) (by simpa using h2)
def LA{ops:Array Oper}{X:Nat→Qs}{i:Nat}{o:Oper}(h:A62 ops X i o=true):cR o.op=false:=by
 obtain⟨h,_⟩:=B8 (show(wrO o.op && _)=true from h);cases ho:o.op<;>rw[ho]at h<;>first
  | rfl
  | cases h
def VA{ops:Array Oper}{X:Nat→Qs}{i:Nat}{o:Oper}(h:A62 ops X i o=true):∀ k,k<i→k ∈ (x9 ops.toList []).getD i []∨∃ q ∈ X i,q.1=k:=by
 obtain⟨_,h⟩:=B8 (show(wrO o.op && _)=true from h);obtain⟨h,_⟩:=B8 h;exact FK h
def UZ{ops:Array Oper}{X:Nat→Qs}{i:Nat}{o:Oper}(h:A62 ops X i o=true):∀ j p,i<j→ops[j]? = some p→i ∈ (x9 ops.toList []).getD j []∨cR p.op=true:=fun j p hj hp=>by
 obtain⟨_,h⟩:=B8 (show(wrO o.op && _)=true from h);obtain⟨_,h⟩:=B8 h;obtain⟨tl,e1,e2,_⟩:=yA ops.toList [];have hlen:(x9 ops.toList []).length=ops.size:=by rw[e1];simpa using e2
 have hs:j<ops.size:=(E0.1 hp).1;have hj2:j<(x9 ops.toList []).length:=A0
 have:=DR h (j-(i+1)) (x9 ops.toList [])[j] p (by rw[J2,show i+1+(j-(i+1))=j by omega,A7 hj2]) (by rw[J2,show i+1+(j-(i+1))=j by omega];exact Y3 hp);rw[B4,A7 hj2];exact this
def xD(ops:Array Oper)(B:Nat→Bool):∀ (d lo:Nat),lo+d=ops.size→∃ up,lo≤up∧up≤ops.size∧(∀ i o,lo≤i→i<up→ops[i]? = some o→B i=false)∧(up<ops.size→∃ o,ops[up]? = some o∧B up=true)
 | 0,lo,h=>⟨lo,B0 _,A0,fun i o h1 h2=>by omega,fun h2=>by omega⟩
 | d+1,lo,h=>by
   obtain⟨o,ho⟩:=V2 (ops:=ops) (i:=lo) A0;cases hs:B lo with
   | true=>exact⟨lo,B0 _,A0,fun i o h1 h2=>by omega,fun _=>⟨o,ho,hs⟩⟩
   | false =>
     obtain⟨up,h1,h2,h3,h4⟩:=xD ops B d (lo+1) A0;refine⟨up,A0,h2,fun i o' a b c=>?_,h4⟩;by_cases e:i=lo
     ·subst e;exact hs
     ·exact h3 i o' A0 b c
section
variable {nt:Nat} {ops:Array Oper} {F:Nat→Fr} {M:Nat→Mem} {V:Nat→Value} {R:Nat→List Rec} {X:Nat→Qs} {B:Nat→Bool} {lo up:Nat}
def Rg.frameUp(g:Rg P base gl nt call ops F M V R X B)(hnt:nt≤512){t:Tmp}(ht:t<nt){i:Nat}(hi:i≤ops.size):cW (fun k=>Nat.blt k i) (fun k=>(ops[k]?).bind (·.dst)) V (F 0).get t ops.size=(F i).get t:=by
 rw[g.frame hnt ht i hi];have e2:∀ d,i+d≤ops.size→cW (fun k=>Nat.blt k i) (fun k=>(ops[k]?).bind (·.dst)) V (F 0).get t (i+d)=cW (fun k=>Nat.blt k i) (fun k=>(ops[k]?).bind (·.dst)) V (F 0).get t i:=by
  intro d;induction d with
  | zero=>intro _;rfl
  | succ d ih =>
    intro hd;rw[show i+(d+1)=(i+d)+1 by omega];rw[cW,A3 (fun hh=>by have:i+d<i:=A2 hh.1;omega)];exact ih A0
 have:=e2 (ops.size-i) A0
 rwa[show i+(ops.size-i)=ops.size by omega]at this
def C0U{k i:Nat}:Nat.blt k i=true↔k<i:=⟨fun h=>A2 h,fun h=>C9 h⟩
def Rg.own(g:Rg P base gl nt call ops F M V R X B)(hn:nt≤510):∀ (i:Nat),i≤ops.size→(F i).get 510=(F 0).get 510∧(F i).get 511=(F 0).get 511
 | 0,_=>⟨rfl,rfl⟩
 | i+1,hi=>by
   obtain⟨o,ho⟩:=V2 (ops:=ops) (i:=i) A0;obtain⟨d1,_,d3,_⟩:=g.st i o ho;have ih:=g.own hn i A0;have key:∀ t,510≤t→t<512→(F (i+1)).get t=(F i).get t:=fun t h1 h2=>by
    rw[d3];cases hd:o.dst with
    | none=>rfl
    | some d =>
      rw[hd]at d1;have hlt:d<nt:=A2 d1;show((F i).set d _).get t=_;rw[Q2 _ _ _ _ (E3 hlt A0) h2,A3 (fun e=>by subst e;exact absurd hlt (Nat.not_lt.2 (B7 hn h1)))]
   exact⟨(key 510 C7 C7).trans ih.1,(key 511 C7 C7).trans ih.2⟩
def Rg.inX(g:Rg P base gl nt call ops F M V R X B):∀ (j:Nat),j≤ops.size→∀ q ∈ X j,q.1<j∧q ∈ X (q.1+1)∧∃ o,ops[q.1]? = some o∧gC nt ops.toList (p9 P call o) ((x9 ops.toList []).getD q.1 []) (R q.1) (F q.1) o (M q.1) (M (q.1+1)) (V q.1) q.2
 | 0,_,q,hq=>by rw[g.x0]at hq;cases hq
 | j+1,hj,q,hq=>by
   obtain⟨o,ho⟩:=V2 (ops:=ops) (i:=j) A0;have old:q ∈ X j→q.1<j+1∧q ∈ X (q.1+1)∧∃ o,ops[q.1]? = some o∧gC nt ops.toList (p9 P call o) ((x9 ops.toList []).getD q.1 []) (R q.1) (F q.1) o (M q.1) (M (q.1+1)) (V q.1) q.2:=fun h=>by
    obtain⟨h1,h2⟩:=g.inX j A0 q h;exact⟨A0,h2⟩
   rcases g.qs j o ho with⟨_,h,_⟩|⟨_,h⟩|⟨_,r,h,h2⟩
   ·exact old (h▸hq)
   ·exact old (h▸hq)
   ·have hq':=hq;rw[h]at hq;rcases B6.1 hq with e|e
    ·subst e;exact⟨K1 _,hq',o,ho,h2⟩
    ·exact old e
def HY{all:List Oper}{b:I6}{fr:Fr}{o:Oper}{v:Value}(h:gC nt all op b rs fr o m m2 v r):∃ lg,m2=m.wLg lg:=by
 rcases h with⟨lg,_,_,h,_⟩|⟨_,lg2,_,_,h,_⟩
 ·exact⟨lg,h⟩
 ·exact⟨lg2,h⟩
def Rg.kind(g:Rg P base gl nt call ops F M V R X B){i:Nat}{o:Oper}(ho:ops[i]? = some o)(hk:cR o.op=true):gC nt ops.toList (p9 P call o) ((x9 ops.toList []).getD i []) (R i) (F i) o (M i) (M (i+1)) (V i) none:=by
 obtain⟨_,_,_,h⟩:=g.st i o ho;have hf:SG (M i).H (F i) o.op=none:=by
  cases hop:o.op<;>rw[hop]at hk<;>first|rfl|cases hk
 rcases h with⟨_,lg,h1,h2,h3⟩|⟨_,lg,lg2,h1,h2,h3⟩|⟨h,_⟩|⟨_,h,_⟩
 ·exact .inl ⟨lg,h1,h2,h3,rfl⟩
 ·exact .inr ⟨lg,lg2,h1,h2,h3,hf.symm⟩
 ·rw[LA (g.sb i o ho h)]at hk;cases hk
 ·rw[hk]at h;cases h
def Rg.heap{z:Zn}(g:Rg P base gl nt call ops F M V R X B)(ph:Ph ops B M lo up){D:Nat→Bool}{ρL ρ:Ren}{a:Act}{wL w':World}(hD:∀ k,lo≤k→k<up→D k=false→∃ lg,M (k+1)=(M k).wLg lg)(inv:Inv z P base gl nt ops F M V lo up ρL wL D ρ a w'):St P base ρL ρ (M lo) (M up) wL w':=by
 have hG:∀ id,id≤I7→GD M lo up D id=Hp.get (M up).H id:=fun id hid=>by
  unfold GD;cases hu:kG M (Dr lo D) id up with
  | true=>rfl
  | false =>
    simp only[E7];refine((g.all ph ph.le (B0 _)).2.2.2.2 id hid ?_).symm;rcases G6 id (M lo).n with h1|h1
    ·exact .inl h1
    ·rcases G6 id (M up).n with h2|h2
     ·exfalso;have hle:=ph.le;obtain⟨k,k0,k1,k2,k3⟩:=g.who ph (up-lo) A0 id h1 (by rw[show lo+(up-lo)=up by omega];exact h2);have hDk:D k=true:=by
       cases hq:D k with
       | true=>rfl
       | false =>
         obtain⟨lg,hm⟩:=hD k k0 A0 hq;rw[hm]at k3;have k3:id<(M k).n:=k3;omega
      rw[(Z5 (M:=M) (D:=Dr lo D) up).2 ⟨k,A0,v8.2 ⟨k0,hDk⟩,k2,k3⟩]at hu;cases hu
     ·exact .inr h2
 have hall:=g.all ph ph.le (B0 _);refine⟨inv.ext,fun b l h1 h2=>?_,hall.1,hall.2.1,fun _=>hall.2.2.1,inv.hr.hr fun id hid ab hab=>by rw[hG id hid];exact hab,fun b hb=>by rw[hall.2.2.2.1];exact hb,fun b h1 h2=>by rw[hall.2.2.2.1]at h1;exact absurd h1 h2,
     fun k hk _=>inv.keep k hk,inv.size,inv.os,fun b l h1 h2 ho=>.inl ((inv.new b l h1 h2).2 ho),fun id hid h1 h2=>?_,fun k ⟨id,ab,l,e1,e2,e3,e4⟩=>inv.tch k ⟨id,ab,l,e1,(hG id e1).trans e2,e3,e4⟩⟩
 ·obtain⟨k,k1,kD,k2,k3⟩:=(Z5 _).1 (inv.new b l h1 h2).1;have k0:=(v8.1 kD).1;have e1:=(g.le ph (i:=lo) (j:=k) (B0 _) k0 A0).1;have e2:=(g.le ph (i:=k+1) (j:=up) A0 A0 (B0 _)).1;omega
 ·refine hall.2.2.2.2 id hid ?_;rcases h2 with h2|h2
  ·exact .inl h2
  ·exact .inr (by have:=hall.2.2.1;omega)
def Rg.last{z:Zn}(g:Rg P base gl nt call ops F M V R X B)(hnt:nt≤512){D:Nat→Bool}{ρL ρ:Ren}{a:Act}{wL w':World}(hD:∀ i,i<ops.size→D i=true)(inv:Inv z P base gl nt ops F M V lo up ρL wL D ρ a w'):FrR z ρ nt (F ops.size) a:=by
 have hz:=inv.dfr.congr (fun _ _ h=>h) (fun hn=>g.own hn ops.size (B0 _));refine⟨inv.tsz,hnt,hz.1,hz.2,fun t ht=>?_⟩;have h1:=inv.frm t ht;rw[← g.frameUp hnt ht (B0 _)]
 rwa[iN (D':=fun k=>Nat.blt k ops.size) ops.size (fun k hk _=>by rw[hD k hk];exact(C0U.2 hk).symm)]at h1
def Rg.fresh{z:Zn}(g:Rg P base gl nt call ops F M V R X B){D:Nat→Bool}{ρ:Ren}{a:Act}{w:World}(hD:∀ k,lo≤k→D k=true→∃ lg,M (k+1)=(M k).wLg lg)(hr:HR P base ρ (M lo).H w)(htsz:a.tmps.size=nt)(hdf:ZR z ρ nt (F 0) a.defers)
  (hfrm:∀ t,t<nt→VR ρ (cW D (fun k=>(ops[k]?).bind (·.dst)) V (F 0).get t ops.size) (a.tmps.getD t undef)):Inv z P base gl nt ops F M V lo up ρ w D ρ a w:=by
 have hu:∀ b n,kG M (Dr lo D) b n=false:=fun b n=>by
  cases hq:kG M (Dr lo D) b n with
  | false=>rfl
  | true =>
    obtain⟨k,_,h,k2,k3⟩:=(Z5 _).1 hq;obtain⟨h1,h2⟩:=v8.1 h;obtain⟨lg,hm⟩:=hD k h1 h2;rw[hm]at k3;have k3:b<(M k).n:=k3;omega
 have hGD:∀ id ab,GD M lo up D id=some ab→Hp.get (M lo).H id=some ab:=fun id ab hab=>by
  unfold GD at hab;rw[hu]at hab;exact hab
 exact⟨fun _ _ h=>h,fun b l h1 h2=>(by rw[h1]at h2;cases h2),hr.f fun id hid ab hab=>hGD id ab hab,fun _ _=>rfl,B0 _,⟨rfl,rfl,rfl⟩,fun k ⟨id,ab,l,e1,e2,e3,e4⟩=>.inr ⟨id,ab,l,e1,hGD id ab e2,e3,e4⟩,htsz,hdf,hfrm⟩
def Rg.old{z:Zn}(g:Rg P base gl nt call ops F M V R X B)(ph:Ph ops B M lo up){ρ0:Ren}{w0:World}{D:Nat→Bool}(hat:At P base gl ρ0 (M lo) (M up).hi w0){b:Nat}{ab:AB}(hb:DY (M lo).H b ab=true):GD M lo up D b=some ab:=by
 obtain⟨h1,hid⟩:=DX hb;unfold GD;have hu:kG M (Dr lo D) b up=false:=by
  cases hq:kG M (Dr lo D) b up with
  | false=>rfl
  | true =>
    exfalso;obtain⟨k,k1,kD,k2,k3⟩:=(Z5 _).1 hq;have k0:=(v8.1 kD).1;obtain⟨l,e1,_⟩:=hat.hr.at_ b hid _ h1;have hk0:=g.le ph (i:=lo) (j:=k) (B0 _) k0 A0;have hkN:=g.le ph (i:=k+1) (j:=up) A0 A0 (B0 _);have hNn:=(g.all ph ph.le (B0 _)).2.2.1;rw[hat.fr b A0 A0]at e1;cases e1
 rw[hu];exact h1
end
def A5p(hm:P.follows .mixedOrders=true)(hcall:e9 P base gl call):gD P base gl call:=by
 refine⟨hm,?_⟩;intro nt ops hok s s' hrun;obtain⟨F,M,V,R,X,B,f1,f2,f3,f3',f4,f5,f6⟩:=A9a ops.toList 0 _ _ _ s s' hrun;simp only[F6,W9]at f4 f5 f6;have hmono:∀ i,i≤ops.size→∀ d,i+d≤ops.size→(M i).hi≤(M (i+d)).hi∧(M i).lg.le (M (i+d)).lg:=by
  intro i _ d;induction d with
  | zero=>intro _;exact⟨B0 _,.refl _⟩
  | succ d ih =>
    intro h;have h1:=ih A0;obtain⟨o,ho⟩:=V2 (ops:=ops) (i:=i+d) A0;obtain⟨hst,_⟩:=f6 (i+d) o (Y3 ho);refine⟨?_,h1.2.trans (HE hcall hst)⟩;obtain⟨_,_,_,h2⟩:=hst;rcases h2 with⟨_,_,_,_,h2⟩|⟨_,_,_,_,_,h2⟩|⟨_,_,_,_,h2⟩|⟨_,_,_,_,mv,m',_,_,_,hhi,h2⟩
    ·show _≤(M (i+d+1)).hi;rw[h2];exact h1.1
    ·show _≤(M (i+d+1)).hi;rw[h2];exact h1.1
    ·exact B7 h1.1 h2
    ·exact B7 h1.1 (A4b h2 hhi)
 have hmono':∀ i j,i≤j→j≤ops.size→(M i).hi≤(M j).hi∧(M i).lg.le (M j).lg:=fun i j h1 h2=>by
  have:=hmono i A0 (j-i) A0
  rwa[show i+(j-i)=j by omega]at this
 constructor
 ·have:=hmono' 0 ops.size A0 (B0 _);rw[f2,f5]at this;exact this
 ·intro z ρ0 a0 w id Q hSat hat hfr hQ;have g:Rg P base gl nt call ops F M V R X B:=⟨fun i o ho=>(f6 i o (Y3 ho)).1,fun i o ho=>(f6 i o (Y3 ho)).2.2.1,fun i o ho=>(f6 i o (Y3 ho)).2.2.2,fun i o ho=>(f6 i o (Y3 ho)).2.1,f3',hok⟩;have hsub:∀ i o,ops[i]? = some o→∀ e ∈ o.after.toList,Region.binds .any e=true→e.on<i:=fun i o ho=>by
   have:=(lE _ 0 g.ok i o (Y3 ho)).1;rw[F6]at this;exact iS this
  refine oD hm ?_;generalize hw1:({ w with drawn:=w.drawn+1 }:World)=w1;have hh1:w1.heap=w.heap:=by rw[← hw1]
  have ho1:w1.os=w.os∧w1.tape=w.tape∧w1.output=w.output:=by rw[← hw1];exact⟨rfl,rfl,rfl⟩
  have hat1:At P base gl ρ0 (M 0) (M ops.size).hi w1:=by
   rw[f2,f5];exact⟨⟨fun b l h=>hat.hr.dom b l h,fun id hid ab hab=>by
    obtain⟨l,e1,e2,e3⟩:=hat.hr.at_ id hid ab hab;exact⟨l,e1,e2.mono (fun _ _ h=>h) (fun _ _=>by rw[hh1]),e3⟩⟩,by rw[hh1];exact hat.bs,hat.fr,hat.gr,hat.nh,hat.wb,fun k o hk=>by rw[hh1];exact hat.gf k o hk⟩
  have hSatM:∀ i,i≤ops.size→Sat (M i).lg:=fun i hi=>U9.le hSat (by rw[← f5];exact(hmono' i ops.size hi (B0 _)).2)
  have hfree1:M4 ρ0 (M 0).n (M ops.size).hi:=hat1.fr;have fin:∀ (ρ:Ren) (a:Act) (w':World),FrR z ρ nt (F ops.size) a→St P base ρ0 ρ (M 0) (M ops.size) w1 w'→Q .normal a w':=fun ρ a w' hf st=>by
   refine hQ ρ a w' (by rw[← f4];exact hf) ?_;rw[← f2,← f5];exact⟨st.ext,st.new,st.nle,st.hle,st.nhi,st.hr,st.wsub,st.wrw,fun k hk hb=>by rw[st.keep k (by rw[hh1];exact hk) hb,hh1],by rw[← hh1];exact st.size,⟨st.os.1.trans ho1.1,st.os.2.1.trans ho1.2.1,st.os.2.2.trans ho1.2.2⟩,fun b l h1 h2 h3=>by rw[← hh1];exact st.blk b l h1 h2 h3,st.same,fun k hk=>by rw[← hh1];exact st.tch k hk⟩
  have main:∀ (fuel:Nat) (listed:Array Bool) (lo up:Nat) (ρL ρ:Ren) (a:Act) (wL w':World),listed.size=ops.size→listed.toList.countP (fun b=>!b)=fuel→qD ops.toList (fun k=>listed.getD k false=true) →
    Ph ops B M lo up→(up<ops.size→∃ o,ops[up]? = some o∧B up=true)→St P base ρ0 ρL (M 0) (M lo) w1 wL→At P base gl ρL (M lo) (M ops.size).hi wL→(∀ q ∈ X lo,listed.getD q.1 false=false→B1s (M lo).H q.2=true)→(∀ k,k<lo→listed.getD k false=false→∃ q ∈ X lo,q.1=k)→(∀ k o,up≤k→ops[k]? = some o→listed.getD k false=true→cR o.op=true) →
    Inv z P base gl nt ops F M V lo up ρL wL (fun k=>listed.getD k false) ρ a w'→mA P z.rd .any ops Q fuel listed a w':=by
   have done:∀ (listed:Array Bool) (lo up:Nat) (ρL ρ:Ren) (a:Act) (wL w':World),(∀ i,i<ops.size→listed.getD i false=true)→Ph ops B M lo up→(up<ops.size→∃ o,ops[up]? = some o∧B up=true)→St P base ρ0 ρL (M 0) (M lo) w1 wL→(∀ k o,up≤k→ops[k]? = some o→listed.getD k false=true→cR o.op=true) →
     Inv z P base gl nt ops F M V lo up ρL wL (fun k=>listed.getD k false) ρ a w'→Q .normal a w':=fun listed lo up ρL ρ a wL w' hall ph hsolo st0 hup0 inv=>by
    have hups:up=ops.size:=by
     rcases G6 up ops.size with h|h
     ·obtain⟨o,ho,hs⟩:=hsolo h
      have:=hup0 up o (B0 _) ho (hall up h);rw[LA (g.sb up o ho hs)]at this;cases this
     ·have:=ph.sz;omega
    subst hups;exact fin ρ a w' (g.last hfr.le hall inv) (St.trans hfree1 st0 (g.heap ph (fun k _ h1 h2=>by have h2:listed.getD k false=false:=h2;rw[hall k h1]at h2;cases h2) inv))
   intro fuel;induction fuel with
   | zero =>
     intro listed lo up ρL ρ a wL w' hsz hcnt hcl ph hsolo st0 hatL hkf hlo0 hup0 inv;have hall:∀ i,i<ops.size→listed.getD i false=true:=fun i hi=>by
      have:=WR hcnt i (by simpa [hsz]using hi);have h2:listed[i]? = some true:=by simpa using this
      simp[C3,h2]
     refine⟨?_,done listed lo up ρL ρ a wL w' hall ph hsolo st0 hup0 inv⟩;rw[eA];intro j hj;obtain⟨h1,o,h2,_⟩:=mem_ready.1 hj;have hlt:j<ops.size:=(E0.1 h2).1;have h3:=hall j hlt;have hj2:j<listed.size:=A0;simp[C3,hj2]at h1 h3;rw[h1]at h3;cases h3
   | succ fuel ih =>
     intro listed lo up ρL ρ a wL w' hsz hcnt hcl ph hsolo st0 hatL hkf hlo0 hup0 inv;refine⟨fun hre=>?_,fun i hi=>?_⟩
     ·
      have key:∀ n i,i<n→i<ops.size→listed.getD i false=true:=by
       intro n;induction n with
       | zero=>intro i h;omega
       | succ n ihn =>
         intro i hin hil;by_cases h:i<n
         ·exact ihn i h hil
         ·cases hq:listed.getD i false with
          | true=>rfl
          | false =>
            exfalso;obtain⟨o,ho⟩:=V2 (ops:=ops) hil;have hmem:i ∈ Region.ready .any ops listed:=mem_ready.2 ⟨by
             have hj2:i<listed.size:=A0;simp[C3,hj2]at hq ⊢;exact hq,o,ho,fun e he hb=>by
             have hlt:=hsub i o ho e (by simpa using he) hb;exact ihn e.on A0 A0⟩
            rw[hre]at hmem;cases hmem
      exact done listed lo up ρL ρ a wL w' (fun i hi=>key (i+1) i (K1 i) hi) ph hsolo st0 hup0 inv
     ·obtain⟨h1,o,ho,h2⟩:=mem_ready.1 hi;have hil:i<ops.size:=(E0.1 ho).1;have hil2:i<listed.size:=A0;have h1':listed.getD i false=false:=by
       simp[C3,hil2]at h1 ⊢;exact h1
      have hother:∀ k,k≠i→(listed.setIfInBounds i true).getD k false=listed.getD k false:=fun k hk=>by
       simp only[C3,H4];rw[A3 (fun e=>hk e.symm)]
      have hself:(listed.setIfInBounds i true).getD i false=true:=by
       simp[C3,H4,hil2]
      have hr:∀ e ∈ o.after.toList,Region.binds .any e=true→listed.getD e.on false=true:=fun e he hb=>h2 e (by simpa using he) hb
      have hsz':(listed.setIfInBounds i true).size=ops.size:=by simpa using hsz
      have hcnt':(listed.setIfInBounds i true).toList.countP (fun b=>!b)=fuel:=by
       have hg:listed.toList[i]? = some false:=by
        simp[C3,hil2]at h1';simp[hil2,h1']
       have:=JM listed.toList i hg;rw[Array.toList_setIfInBounds];omega
      have hcl':qD ops.toList (fun k=>(listed.setIfInBounds i true).getD k false=true):=by
       intro k o' ho' hk e he hb;by_cases e1:e.on=i
       ·rw[e1];exact hself
       ·show(listed.setIfInBounds i true).getD e.on false=true;rw[hother e.on e1];by_cases e2:k=i
        ·subst e2;have:ops.toList[k]? = some o:=Y3 ho;rw[this]at ho';cases ho';exact hr e he hb
        ·have hk:(listed.setIfInBounds i true).getD k false=true:=hk;rw[hother k e2]at hk;exact hcl k o' ho' hk e he hb
      have hanc:∀ k,k ∈ (x9 ops.toList []).getD i []→listed.getD k false=true:=fun k hk=>FP hcl (fun i o ho=>by
        have:=(lE _ 0 g.ok i o ho).1;rw[F6]at this;exact iS this) (i+1) i k o (K1 i) (Y3 ho) hr hk
      have hlt:∀ k,listed.getD k false=true→k<ops.size:=fun k hk=>by
       rcases G6 k ops.size with h|h
       ·exact h
       ·have hn:listed[k]? = none:=Array.getElem?_eq_none_iff.2 A0;rw[C3,hn]at hk;cases hk
      have hatU:At P base gl ρL (M lo) (M up).hi wL:=hatL.less (hmono' up ops.size ph.sz (B0 _)).1;have go:∀ (ρ':Ren) (a':Act) (w'':World),(up≤i→cR o.op=true)→Inv z P base gl nt ops F M V lo up ρL wL (fun k=>(listed.setIfInBounds i true).getD k false) ρ' a' w''→mA P z.rd .any ops Q fuel (listed.setIfInBounds i true) a' w'':=fun ρ' a' w'' hq inv' =>
       ih (listed.setIfInBounds i true) lo up ρL ρ' a' wL w'' hsz' hcnt' hcl' ph hsolo st0 hatL (fun q hq hn=>hkf q hq (by
        by_cases e:q.1=i
        ·rw[e,hself]at hn;cases hn
        ·rw[hother _ e]at hn;exact hn)) (fun k hk hn=>by
        by_cases e:k=i
        ·subst e;rw[hself]at hn;cases hn
        ·rw[hother k e]at hn;exact hlo0 k hk hn) (fun k p hk hp hl=>by
        by_cases e:k=i
        ·subst e;rw[ho]at hp;cases hp;exact hq hk
        ·rw[hother k e]at hl;exact hup0 k p hk hp hl) inv'
      have quiet:∀ r,(up≤i→cR o.op=true)→gC nt ops.toList (p9 P call o) ((x9 ops.toList []).getD i []) (R i) (F i) o (M i) (M (i+1)) (V i) r→(∀ b ab,r=some (b,ab)→GD M lo up (fun k=>listed.getD k false) b=some ab)→kP P z.rd ops Q i (fun a' w''=>mA P z.rd .any ops Q fuel (listed.setIfInBounds i true) a' w'') a w':=fun r hq hqa hfz =>
       g.quiet hcall hatU (hSatM (i+1) A0) hfr.le inv hcl hlt ho h1' hr hother hself hqa hfz fun ρ' a' w'' inv'=>go ρ' a' w'' hq inv'
      rcases G6 i lo with hil0|hil0
      ·
       obtain⟨q,hqm,hqi⟩:=hlo0 i hil0 h1';obtain⟨_,_,p,hp,hqa⟩:=g.inX lo (by have:=ph.sz;have:=ph.le;omega) q hqm;rw[hqi]at hp hqa;rw[ho]at hp;cases hp;refine quiet q.2 (fun h=>by have:=ph.le;omega) hqa fun b ab hb=>?_
       refine g.old (z:=z) ph hatU ?_
       have:=hkf q hqm (by rw[hqi];exact h1');rw[hb]at this;exact this
      ·rcases G6 i up with hiu|hiu
       ·
        by_cases hex:∃ r,gC nt ops.toList (p9 P call o) ((x9 ops.toList []).getD i []) (R i) (F i) o (M i) (M (i+1)) (V i) r
        ·obtain⟨r,hqa⟩:=hex;refine quiet r (fun h=>by omega) hqa fun b ab hb=>?_
         rcases hqa with⟨_,_,_,_,hrn⟩|⟨lg,lg2,hw,hq,hm,hrr⟩
         ·rw[hrn]at hb;cases hb
         ·obtain⟨mv,m',hview,_⟩:=oT hq;obtain⟨h3,h4⟩:=(wY hview).2.2.2.2.2 b ab (hrr.symm.trans hb);obtain⟨h5,h6⟩:=DX h3;exact g.see (z:=z) (a:=a) (ρ:=ρ) (w:=w') ph hatU hcl hil0 hiu ho hr b h6 _ h5 h4
        ·exact g.step ph hcall hatU (hSatM up ph.sz) hfr.le inv hcl hlt hil0 hiu ho h1' hr hother hself hex fun ρ' a' w'' inv'=>go ρ' a' w'' (fun h=>by omega) inv'
       ·obtain⟨os,hos,hso⟩:=hsolo A0;rcases G6 up i with hgt|hge
        ·
         have hk:cR o.op=true:=by
          rcases UZ (g.sb up os hos hso) i o hgt ho with h|h
          ·have h3:=hup0 up os (B0 _) hos (hanc up h);rw[LA (g.sb up os hos hso)]at h3;cases h3
          ·exact h
         exact quiet none (fun _=>hk) (g.kind ho hk) fun b ab hb=>by cases hb
        ·
         have hiup:i=up:=A0;subst hiup;rw[ho]at hos;cases hos;have hquiet:∀ k,k<i→listed.getD k false=false→∃ q ∈ X i,q.1=k:=fun k hk hn=>by
          rcases VA (g.sb i o ho hso) k hk with h|h
          ·rw[hanc k h]at hn;cases hn
          ·exact h
         have q2:=g.heap ph (fun k _ hk hn=>by
          obtain⟨q,hq,e⟩:=hquiet k hk hn;obtain⟨_,_,p,hp,hqa⟩:=g.inX i A0 q hq;rw[e]at hqa;exact HY hqa) inv
         have st1:St P base ρ0 ρ (M 0) (M i) w1 w':=St.trans (hfree1.less (hmono' i ops.size A0 (B0 _)).1) st0 q2;have hat2:At P base gl ρ (M i) (M ops.size).hi w':=hatL.step q2;obtain⟨d1,d2,d3,hst⟩:=g.st i o ho;have hlook:∀ t,t ∈ l7 ops.toList o→t<nt→VR ρ ((F i).get t) (a.tmps.getD t undef):=fun t ht htn=>by
          rw[← g.look hfr.le hcl hlt ho h1' hr ht htn];exact inv.frm t htn
         have hFR:FR ρ (F i) a.eval o.op:=fun x hx=>by
          have hok:okX nt gl x=true:=D7.1 d2 x hx;cases x with
          | tmp t=>exact hlook t (BY hx rfl) (A2 hok)
          | const v=>exact VR.ofC hok
          | global gg=>exact VR.ptr (o:=0) (hat2.gr gg (A2 hok))
          | func f=>exact .func (a:=[]) (b:=[]) (a':=[]) (b':=[]) rfl rfl (fun i v v' h=>by simp at h) (fun i v v' h=>by simp at h)
         have hwant:∀ lg b,dL nt (F i) (M i).lg ops.toList o=some (b,lg)→Sat lg→Region.wanted o (yielded ops a.tmps)=b:=fun lg b hw hSl=>by
          unfold dL at hw;split at hw
          ·rename_i hg;cases hw;simp[Region.wanted,hg]
          ·rename_i j want hg;split at hw
           ·rename_i p hp;split at hw
            ·rename_i t ht;obtain⟨h1,h2⟩:=A6 hw;have h1:t<nt:=A2 h1;have hv:=hlook t (by
              unfold l7;refine B5.2 (.inr (B5.2 (.inr ?_)));simp[hg,hp,ht]) h1
             exact qF hg hp ht (by rw[inv.tsz];exact h1) (tS h2 hv hSl)
            ·cases hw
           ·cases hw
         have hframe:∀ (ρ':Ren) (v':Value),(∀ b l,ρ b=some l→ρ' b=some l)→VR ρ' (V i) v'→∀ t,t<nt→VR ρ' (cW (fun k=>(listed.setIfInBounds i true).getD k false) (fun k=>(ops[k]?).bind (·.dst)) V (F 0).get t ops.size) ((a.put o.dst v').tmps.getD t undef):=fun ρ' v' he hv t ht=>by
          by_cases hd:o.dst=some t
          ·have hnext:∀ k,i<k→k<ops.size→(ops[k]?).bind (·.dst)=some t→listed.getD k false=false:=fun k hik hk hkd=>by
            obtain⟨p,hp⟩:=V2 (ops:=ops) hk;rw[hp]at hkd
            have:=g.slot hcl hlt ho h1' hr (t:=t) (by unfold l7;simp[hd]) k p hp A0 hkd;cases hq:listed.getD k false with
            | false=>rfl
            | true=>have:=this.1 hq;omega
           rw[vX (D:=fun k=>listed.getD k false) hother hself ops.size hil (by simp[ho,hd]) hnext];simp only[hd,Act.put,C3];rw[H4,A4 rfl,A4 (by rw[inv.tsz];exact ht)];exact hv
          ·rw[sW (D:=fun k=>listed.getD k false) hother (by simp[ho];exact hd)];have h1:=(inv.frm t ht).mono he;cases hdd:o.dst with
           | none=>exact h1
           | some d =>
             have hne:d≠t:=fun e=>hd (e▸hdd)
             simp only[Act.put,C3]at h1 ⊢;rw[H4,A3 hne];exact h1
         have hX:X (i+1)=X i∧A4u ((x9 ops.toList []).getD i []) (M (i+1)).H (X i)=true:=by
          rcases g.qs i o ho with⟨_,h3,h4⟩|⟨h3,_⟩|⟨h3,_⟩
          ·exact⟨h3,h4⟩
          ·rw[hso]at h3;cases h3
          ·rw[hso]at h3;cases h3
         have hnext:∀ (ρ':Ren) (v':Value) (w'':World),VR ρ' (V i) v'→St P base ρ ρ' (M i) (M (i+1)) w' w''→mA P z.rd .any ops Q fuel (listed.setIfInBounds i true) (a.put o.dst v') w'':=fun ρ' v' w'' hv st2=>by
          obtain⟨up',u1,u2,u3,u4⟩:=xD ops B (ops.size-(i+1)) (i+1) A0;have hat3:=hat2.step st2;refine ih (listed.setIfInBounds i true) (i+1) up' ρ' ρ' _ w'' w'' hsz' hcnt' hcl' ⟨u1,u2,hat3.nh,u3⟩ u4 (St.trans (hfree1.less (hmono' (i+1) ops.size A0 (B0 _)).1) st1 st2) hat3 (fun q hq hn=>?_) (fun k hk hn=>?_) (fun k p hk hp hl=>?_)
           (g.fresh (fun k hk hl=>?_) st2.hr ?_ ?_ (hframe ρ' v' st2.ext hv))
          ·rw[hX.1]at hq;have h5:=D7.1 hX.2 q hq;rcases K3 _ _▸h5 with h5|h5
           ·exfalso;have h6:=hanc q.1 (m9.1 h5);by_cases e:q.1=i
            ·rw[e,h1']at h6;cases h6
            ·rw[hother _ e,h6]at hn;cases hn
           ·exact h5
          ·rw[hX.1];by_cases e:k=i
           ·subst e;rw[hself]at hn;cases hn
           ·rw[hother k e]at hn;exact hquiet k A0 hn
          ·rw[hother k A0]at hl;exact hup0 k p A0 hp hl
          ·have hl:(listed.setIfInBounds i true).getD k false=true:=hl;rw[hother k A0]at hl;obtain⟨p,hp⟩:=V2 (ops:=ops) (hlt k hl);exact HY (g.kind hp (hup0 k p A0 hp hl))
          ·cases hdd:o.dst<;>simp[Act.put,inv.tsz]
          ·rw[iC];exact inv.dfr.congr st2.ext fun _=>⟨rfl,rfl⟩
         unfold kP;simp only[ho];rcases hst with⟨hso2,_⟩|⟨hso2,_⟩|⟨_,lg,hw,hrun2,hhi⟩|⟨hso2,_⟩
         ·rw[hso]at hso2;cases hso2
         ·rw[hso]at hso2;cases hso2
         ·have hSm:=hSatM (i+1) A0;have hSl:Sat lg:=U9.le hSm (by have:=cO hcall hrun2;rw[u9]at this;exact this);rw[hwant lg true hw hSl];simp only[if_true];have hat4:At P base gl ρ ((M i).wLg lg) (M (i+1)).hi w':=(hat2.wLg lg).less (hmono' (i+1) ops.size A0 (B0 _)).1;refine uK hcall hrun2 hSm hat4 hFR fun v' ρ' w'' hv st2=>hnext ρ' v' w'' hv ?_
          have hst3:=St.wLg (m:=M i) hat2.hr lg;exact St.trans (by have:=hat2.fr;exact this.less (hmono' (i+1) ops.size A0 (B0 _)).1) hst3 st2
         ·rw[hso]at hso2;cases hso2
  obtain⟨up,u1,u2,u3,u4⟩:=xD ops B ops.size 0 A0;have hD0:∀ k,(Array.replicate ops.size false).getD k false=false:=fun k=>by
   simp only[C3,kO];split<;>simp
  refine main ops.size _ 0 up ρ0 ρ0 a0 w1 w1 (by simp) (by simp[List.countP_replicate]) (fun k o ho hk=>by have hk:(Array.replicate ops.size false).getD k false=true:=hk;rw[hD0 k]at hk;cases hk) ⟨u1,u2,hat1.nh,u3⟩ u4 (St.refl hat1.hr) hat1 (fun q hq=>by rw[g.x0]at hq;cases hq) (fun k hk=>by omega) (fun k o hk ho hl=>by rw[hD0 k]at hl;cases hl)
   (g.fresh (fun k _ hl=>by have hl:(Array.replicate ops.size false).getD k false=true:=hl;rw[hD0 k]at hl;cases hl) hat1.hr hfr.size (by rw[f1];exact hfr.zr) fun t ht=>?_)
  have h0:∀ n,cW (fun k=>(Array.replicate ops.size false).getD k false) (fun k=>(ops[k]?).bind (·.dst)) V (F 0).get t n=(F 0).get t:=by
   intro n;induction n with
   | zero=>rfl
   | succ n ihn=>rw[cW,A3 (fun hh=>by rw[hD0 n]at hh;exact absurd hh.1 (by simp)),ihn]
  rw[h0,f1];exact hfr.get t ht
end
end
section
open Go
variable [Ora]
section
variable {P:Program} {base gl:Nat}
def BJ{f:FuncId}{e:o7→Sem Value}{args:o7}{w w':World}{v:Value}(hf:P.funcs[f]? = some fn)(hnm:(fn.name == "runtime.NumGoroutine")=false)(hb:fn.body=none)(hn:Extern.findNext fn=none)(he:Extern.find fn=some e)
  (hr:(e args).run P w=.ok v w'):(callFunc f args).run P w=.ok (.value v) w':=by
 have hnm':fn.name ≠ "runtime.NumGoroutine":=by simpa using hnm
 simp[callFunc,A8,run_program,Result.andThen,hf,hnm',hb,hn,he,mark,Sem.run,hr]
def pQ{k:EK}{vs:D5}{v:Value}(h:sY k vs m=some (v,m')) :
  (k=.noEscape∧vs=[v]∧m'=m) ∨
  (k=.indexByteString∧∃ s c,vs=[.string s,.int .u8 (.ofNat c)]∧v=.int .i64 (xN s.data.toList (UInt8.ofNat c) 0)∧m'=m) ∨
  (k=.countString∧∃ s c,vs=[.string s,.int .u8 (.ofNat c)]∧v=.int .i64 (countB (UInt8.ofNat c) s.data.toList 0)∧m'=m) ∨
  (∃ e n,k=.makeNoZero e∧vs=[.int .i64 (.ofNat n)]∧n≤1000000000∧x8 m (.cells [] e false) (fun b=>.slice (some ⟨b,0,none⟩) n R5)=some (v,m')):=by
 unfold sY at h;split at h
 ·cases h;exact .inl ⟨rfl,rfl,rfl⟩
 ·cases h;exact .inr (.inl ⟨rfl,_,_,rfl,rfl,rfl⟩)
 ·cases h;exact .inr (.inr (.inl ⟨rfl,_,_,rfl,rfl,rfl⟩))
 ·obtain⟨h1,h⟩:=A6 h;exact .inr (.inr (.inr ⟨_,_,rfl,rfl,A2 h1,h⟩))
 ·cases h
def BK{k:EK}{vs:D5}{v:Value}(h:(FnC.mk (sY k)).run vs m=some (v,m')):m.lg.le m'.lg:=by
 have h:sY k vs m=some (v,m'):=h;rcases pQ h with⟨_,_,rfl⟩|⟨_,_,_,_,_,rfl⟩|⟨_,_,_,_,_,rfl⟩|⟨_,_,_,_,_,h⟩
 ·exact .refl _
 ·exact .refl _
 ·exact .refl _
 ·obtain⟨_,_,rfl⟩:=M7 h;exact .refl _
def RD{f:FuncId}(hf:P.funcs[f]? = some fn)(hnm:(fn.name == "runtime.NumGoroutine")=false)(hb:fn.body=none)(hn:Extern.findNext fn=none)(he:Extern.find fn=some Extern.AbiNoEscape.same):nG P base gl f ⟨sY .noEscape⟩:=by
 refine⟨fun vs m m' v hr=>BK hr,?_⟩;intro ρ m m' w vs vs' v hr hS hat hl;have hr:sY .noEscape vs m=some (v,m'):=hr;rcases pQ hr with⟨_,rfl,rfl⟩|⟨h,_⟩|⟨h,_⟩|⟨_,_,h,_⟩
 ·obtain⟨v',r',rfl,h1,h2⟩:=hl.tail;cases h2.nil_inv;exact .inr ⟨v',ρ,w,BJ hf hnm hb hn he rfl,h1,.refl hat.hr⟩
 ·cases h
 ·cases h
 ·cases h
def IU(c:UInt8):∀ (l:List UInt8) (k:Nat),xN l c k=if Lib.indexByte l c == -1 then -1 else Lib.indexByte l c+k
 | [],k=>rfl
 | x::r,k=>by
   have hg:=Lib.indexByte_ge r c;have ih:=IU c r (k+1);rw[xN,Lib.indexByte];by_cases e:x=c
   ·subst e;simp
   ·have e1:(x == c)=false:=by simpa using e
    simp only[e1,D0 e,E7];rw[ih];by_cases h:Lib.indexByte r c = -1
    ·simp[h]
    ·have h2:(Lib.indexByte r c == -1)=false:=by simpa using h
     have h3:(Lib.indexByte r c+1 == -1)=false:=by simp;omega
     simp only[h2,h3,K9,if_false];omega
def WH(c:UInt8)(l:List UInt8):xN l c 0=Lib.indexByte l c:=by
 rw[IU];by_cases h:Lib.indexByte l c = -1
 ·simp[h]
 ·have h2:(Lib.indexByte l c == -1)=false:=by simpa using h
  simp[h2]
def tA(c:UInt8):∀ (l:List UInt8) (n:Nat),countB c l n=n+l.count c
 | [],n=>rfl
 | x::r,n=>by
   rw[countB,List.count_cons];by_cases e:x=c
   ·subst e;simp only[decide_true,F3,F8,dZ,if_true];rw[tA x r (n+1)];omega
   ·have e1:(x == c)=false:=by simpa using e
    simp only[D0 e,E7,e1,K9,if_false];rw[tA c r n];omega
def MQ{f:FuncId}(hf:P.funcs[f]? = some fn)(hnm:(fn.name == "runtime.NumGoroutine")=false)(hb:fn.body=none)(hn:Extern.findNext fn=none)(he:Extern.find fn=some Extern.BytealgIndexByte.indexByte):nG P base gl f ⟨sY .indexByteString⟩:=by
 refine⟨fun vs m m' v hr=>BK hr,?_⟩;intro ρ m m' w vs vs' v hr hS hat hl;have hr:sY .indexByteString vs m=some (v,m'):=hr;rcases pQ hr with⟨h,_⟩|⟨_,s,c,rfl,rfl,rfl⟩|⟨h,_⟩|⟨_,_,h,_⟩
 ·cases h
 ·obtain⟨v1,r1,rfl,h1,h2⟩:=hl.tail;obtain⟨v2,r2,rfl,h3,h4⟩:=h2.tail;cases h4.nil_inv;cases l8 h1;cases L7 h3;refine .inr ⟨_,ρ,w,BJ hf hnm hb hn he (Lib.run_indexByteString s (.ofNat c) w),?_,.refl hat.hr⟩;rw[WH];exact .pure rfl
 ·cases h
 ·cases h
def EW{f:FuncId}(hf:P.funcs[f]? = some fn)(hnm:(fn.name == "runtime.NumGoroutine")=false)(hb:fn.body=none)(hn:Extern.findNext fn=none)(he:Extern.find fn=some Extern.BytealgCount.count):nG P base gl f ⟨sY .countString⟩:=by
 refine⟨fun vs m m' v hr=>BK hr,?_⟩;intro ρ m m' w vs vs' v hr hS hat hl;have hr:sY .countString vs m=some (v,m'):=hr;rcases pQ hr with⟨h,_⟩|⟨h,_⟩|⟨_,s,c,rfl,rfl,rfl⟩|⟨_,_,h,_⟩
 ·cases h
 ·cases h
 ·obtain⟨v1,r1,rfl,h1,h2⟩:=hl.tail;obtain⟨v2,r2,rfl,h3,h4⟩:=h2.tail;cases h4.nil_inv;cases l8 h1;cases L7 h3;refine .inr ⟨_,ρ,w,BJ hf hnm hb hn he (Lib.run_countString s (.ofNat c) w),?_,.refl hat.hr⟩;rw[tA,F6];exact .pure rfl
 ·cases h
def GN{f:FuncId}{ps:Array TypeId}{t e:TypeId}(hf:P.funcs[f]? = some fn)(hnm:(fn.name == "runtime.NumGoroutine")=false)(hb:fn.body=none)(hn:Extern.findNext fn=none)(he:Extern.find fn=some (Extern.BytealgMakeNoZero.makeNoZero ps #[t]))
  (hu:P.underlying t=some (.slice e)) (hi:(P.info? e).map (·.size)=some 1):nG P base gl f ⟨sY (.makeNoZero e)⟩:=by
 refine⟨fun vs m m' v hr=>BK hr,?_⟩;intro ρ m m' w vs vs' v hr hS hat hl;have hr:sY (.makeNoZero e) vs m=some (v,m'):=hr;rcases pQ hr with⟨h,_⟩|⟨h,_⟩|⟨h,_⟩|⟨e',n,h,rfl,hn9,hr⟩
 ·cases h
 ·cases h
 ·cases h
 ·cases h;obtain⟨v1,r1,rfl,h1,h2⟩:=hl.tail;cases h2.nil_inv;cases L7 h1;obtain⟨cs,hrun,hle,_⟩:=Lib.run_makeNoZero (P:=P) w ps t e hu n A0;obtain⟨e1,e2,e3⟩:=gJ (wd:=w.drew.drew) (fz:=(0,0)) (cap:=cs.size) (C:=cs) (cs':=[]) hat.hr hat.bs hr hat.fr (.nil) (fun i u hi=>by simp at hi) NF.zero
   (fun inf h2=>by rw[h2]at hi;have hi:some inf.size=some 1:=hi;have hi:=A9 hi;rw[hi];omega) ⟨rfl,rfl,rfl⟩ rfl
  refine .inr ⟨_,_,_,BJ hf hnm hb hn he hrun,?_,e3⟩;rw[e1]
  have:=VR.op (ρ:=upd ρ m.n (lc w.heap.size 0 cs.size)) (b:=m.n) (o:=0) (n:=n) (m:=R5) (m':=cs.size) e2 (B0 _) hle (fun _ _=>rfl)
  simpa using this
end
end
section
open Go
variable [Ora]
structure FW (P:Program) (f:FuncId) (k:EK):Prop where
 row:∃ fn,P.funcs[f]? = some fn∧(fn.name == "runtime.NumGoroutine")=false∧fn.body=none∧Extern.findNext fn=none ∧
  ((k=.noEscape∧Extern.find fn=some Extern.AbiNoEscape.same)∨(k=.indexByteString∧Extern.find fn=some Extern.BytealgIndexByte.indexByte)∨(k=.countString∧Extern.find fn=some Extern.BytealgCount.count) ∨
    (∃ e ps t,k=.makeNoZero e∧Extern.find fn=some (Extern.BytealgMakeNoZero.makeNoZero ps #[t])∧P.underlying t=some (.slice e)∧(P.info? e).map (·.size)=some 1))
def FW.ok{P:Program}{f:FuncId}{k:EK}{base gl:Nat}(h:FW P f k):nG P base gl f ⟨sY k⟩:=by
 obtain⟨fn,h1,h2,h3,h4,h5⟩:=h.row;rcases h5 with⟨rfl,h5⟩|⟨rfl,h5⟩|⟨rfl,h5⟩|⟨e,ps,t,rfl,h5,h6,h7⟩
 ·exact RD h1 h2 h3 h4 h5
 ·exact MQ h1 h2 h3 h4 h5
 ·exact EW h1 h2 h3 h4 h5
 ·exact GN h1 h2 h3 h4 h5 h6 h7
def JC:∀ {l:List (FuncId×EK)} {f:FuncId} {k:EK},SN l f=some k→(f,k) ∈ l
 | (g,j)::r,f,k,h=>by
   rw[SN]at h;cases e:Nat.beq g f with
   | true =>
     rw[e]at h;cases h;rw[A1 e];exact .head _
   | false =>
     rw[e]at h;exact .tail _ (JC h)
theorem A8f{P:Program}{ext:List (FuncId×EK)}{gl base:Nat}{con:FuncId→Option FnC}{lp:FuncId→LpT}(hm:P.follows .mixedOrders=true)(hn:OD P)(he:∀ p ∈ ext,FW P p.1 p.2)
  (hc:∀ f c,con f=some c→nG P base gl f c) (hl:∀ f fn body,P.funcs[f]? = some fn→fn.body=some body→XH P base gl fn.ntmps body (lp f)) :
  A86 ⟨P,ext,gl,con,lp⟩ base :=
 { names:=hn,ext:=fun f k fn _ _ h=>(he _ (JC h)).ok,con:=hc,lp:=hl,draws:=fun _ h=>A5p hm h }
end
section
open Go
inductive Sh where
 | s (t:Nat)
 | a (ts:List Nat)
def OO(t:Nat)(u:U):V7:=if H1 u=t then toV u else none
def A01:I6→List U→Option (D5×List U)
 | [],us=>some ([],us)
 | t::ts,u::us=>match OO t u,A01 ts us with
   | some v,some (vs,r)=>some (v::vs,r)
   | _,_=>none
 | _::_,[]=>none
def ON:Sh→List U→Option (Value×List U)
 | .s t,u::us=>match OO t u with
   | some v=>some (v,us)
   | none=>none
 | .s _,[]=>none
 | .a ts,us=>match A01 ts us with
   | some (vs,r)=>some (.agg ⟨vs⟩,r)
   | none=>none
def A00:List Sh→List U→Option D5
 | [],[]=>some []
 | [],_::_=>none
 | h::hs,us=>match ON h us with
   | some (v,r)=>match A00 hs r with
     | some vs=>some (v::vs)
     | none=>none
   | none=>none
def tup:D5→Value
 | [v]=>v
 | vs=>.tuple ⟨vs⟩
structure jY (w w':World):Prop where
 os:w'.os=w.os∧w'.tape=w.tape∧w'.output=w.output
 size:w.heap.size≤w'.heap.size
 keep:∀ k,k<w.heap.size→w'.heap[k]? = w.heap[k]?
def GOk(G:Nat→Option Obj)(w:World):Prop:=∀ k o,G k=some o→w.heap[k]? = some o
def GOk.lt{G:Nat→Option Obj}{w:World}(h:GOk G w){k:Nat}{o:Obj}(hk:G k=some o):k<w.heap.size:=by
 have:=h k o hk;rcases G6 k w.heap.size with h1|h1
 ·exact h1
 ·rw[Array.getElem?_eq_none h1]at this;cases this
abbrev aR:=List U→Option (Nat×List U)
def Sh.tags:Sh→I6
 | .s t=>[t]
 | .a ts=>ts
def CC:List Sh→I6
 | []=>[]
 | s::ss=>s.tags++CC ss
def Sh.n(s:Sh):Nat:=s.tags.length
def shN:List Sh→Nat
 | []=>0
 | h::hs=>h.n+shN hs
def dM(ss:List Sh):Bool:=(CC ss).any (Nat.ble 10)
inductive ShR (R:Nat→Option Obj):Sh→List U→Value→Prop
 | s {t u v} (h:Enc R u v) (ht:H1 u=t):ShR R (.s t) [u] v
 | a {ts us cs} (h:y0 R us cs) (ht:us.map H1=ts):ShR R (.a ts) us (.agg ⟨cs⟩)
inductive ShL (R:Nat→Option Obj):List Sh→List U→D5→Prop
 | nil:ShL R [] [] []
 | cons {s ss us us2 v vs} (h:ShR R s us v) (k:ShL R ss us2 vs):ShL R (s::ss) (us++us2) (v::vs)
def y0.append{R:Nat→Option Obj}{us us2:List U}{vs:D5}(h:y0 R us vs)(k:y0 R us2 vs2):y0 R (us++us2) (vs++vs2):=by
 refine⟨by simp[h.1,k.1],fun i u v h1 h2=>?_⟩;rcases G6 i us.length with hl|hl
 ·rw[F5 hl]at h1;rw[F5 (h.1▸hl)]at h2;exact h.2 i u v h1 h2
 ·rw[E8 hl]at h1;rw[E8 (h.1▸hl),← h.1]at h2;exact k.2 _ u v h1 h2
def y0.split{R:Nat→Option Obj}:∀ {vs vs2:D5} {us:List U},y0 R us (vs++vs2)→∃ a b,us=a++b∧y0 R a vs∧y0 R b vs2
 | [],vs2,us,h=>⟨[],us,rfl,.nil,h⟩
 | v::vs,vs2,[],h=>by have:=h.1;simp at this
 | v::vs,vs2,u::us,h=>by
   obtain⟨a,b,rfl,h1,h2⟩:=y0.split (vs:=vs) (vs2:=vs2) (us:=us) ⟨by have:=h.1;simpa using this,fun i x y a1 a2=>h.2 (i+1) x y (by simpa using a1) (by simpa using a2)⟩;exact⟨u::a,b,rfl,.cons (h.2 0 u v rfl rfl) h1,h2⟩
def y0.mono{R R':Nat→Option Obj}{us:List U}{vs:D5}(h:y0 R us vs)(k:Sub R R'):y0 R' us vs:=⟨h.1,fun i u v a b=>(h.2 i u v a b).mono k⟩
def OQ{R:Nat→Option Obj}:∀ {ts:I6} {us r:List U} {vs:D5},A01 ts us=some (vs,r)→∃ a,us=a++r∧y0 R a vs∧a.map H1=ts
 | [],us,r,vs,h=>by cases h;exact⟨[],rfl,.nil,rfl⟩
 | t::ts,u::us,r,vs,h=>by
   unfold A01 at h;split at h
   ·rename_i v vs0 r0 h1 h2;cases h;obtain⟨a,rfl,e1,e2⟩:=OQ (R:=R) h2;unfold OO at h1;split at h1
    ·rename_i ht;exact⟨u::a,rfl,.cons (.sc h1) e1,by simp[ht,e2]⟩
    ·cases h1
   ·cases h
 | _::_,[],_,_,h=>by cases h
def A0z{R:Nat→Option Obj}{s:Sh}{us r:List U}{v:Value}(h:ON s us=some (v,r)):∃ a,us=a++r∧ShR R s a v:=by
 cases s with
 | s t =>
   cases us with
   | nil=>cases h
   | cons u us =>
     simp only[ON]at h;split at h
     ·rename_i v1 hv;cases h;unfold OO at hv;split at hv
      ·rename_i ht;exact⟨[u],rfl,.s (.sc hv) ht⟩
      ·cases hv
     ·cases h
 | a ts =>
   simp only[ON]at h;split at h
   ·rename_i vs r0 hv;cases h;obtain⟨a,e1,e2,e3⟩:=OQ (R:=R) hv;exact⟨a,e1,.a e2 e3⟩
   ·cases h
def CK{R:Nat→Option Obj}:∀ {ss:List Sh} {us:List U} {vs:D5},A00 ss us=some vs→ShL R ss us vs
 | [],[],vs,h=>by cases h;exact .nil
 | [],_::_,_,h=>by cases h
 | s::ss,us,vs,h=>by
   unfold A00 at h;split at h
   ·rename_i v r hv;split at h
    ·rename_i vs0 hl;cases h;obtain⟨a,rfl,e1⟩:=A0z (R:=R) hv;exact .cons e1 (CK hl)
    ·cases h
   ·cases h
def A5h{R:Nat→Option Obj}{us:List U}{vs:D5}(h:y0 R us vs)(hl:vs2.length=us.length)(k:∀ (i:Nat) (u:U) (v:Value),us[i]? = some u→vs2[i]? = some v→toV u=some v):vs=vs2:=by
 refine d7 fun i=>?_
 rcases G6 i us.length with hi|hi
 ·have h1:us[i]? = some us[i]:=A7 hi;have h2:vs[i]? = some (vs[i]'(h.1▸hi)):=A7 _;have h3:vs2[i]? = some (vs2[i]'(hl▸hi)):=A7 _;rw[h2,h3,rR (h.2 i _ _ h1 h2) (k i _ _ h1 h3)]
 ·rw[L9 (by rw[← h.1];exact hi),L9 (by rw[hl];exact hi)]
def OP:∀ {ts:I6} {us r:List U} {vs:D5},A01 ts us=some (vs,r)→∃ a,us=a++r∧vs.length=a.length∧a.length=ts.length∧∀ (i:Nat) (u:U) (v:Value),a[i]? = some u→vs[i]? = some v→toV u=some v
 | [],us,r,vs,h=>by cases h;exact⟨[],rfl,rfl,rfl,fun i u v h=>by simp at h⟩
 | t::ts,u::us,r,vs,h=>by
   unfold A01 at h;split at h
   ·rename_i v vs0 r0 h1 h2;cases h;obtain⟨a,rfl,e1,e2,e3⟩:=OP h2;unfold OO at h1;split at h1
    ·refine⟨u::a,rfl,by simp[e1],by simp[e2],fun i x y a1 a2=>?_⟩;cases i with
     | zero=>simp at a1 a2;subst a1;subst a2;exact h1
     | succ i=>exact e3 i x y (by simpa using a1) (by simpa using a2)
    ·cases h1
   ·cases h
 | _::_,[],_,_,h=>by cases h
def y4{R:Nat→Option Obj}:∀ {ss:List Sh} {us:List U} {vs vs2:D5},ShL R ss us vs→A00 ss us=some vs2→vs=vs2
 | [],us,vs,vs2,h,k=>by cases h;cases k;rfl
 | s::ss,us,vs,vs2,h,k=>by
   cases h with
   | cons h1 h2 =>
     rename_i us1 us2 v vs;unfold A00 at k;split at k
     ·rename_i v1 r hv;split at k
      ·rename_i vs0 hl;cases k;have hone:us1++us2=us1++us2:=rfl;cases h1 with
       | s he ht =>
         rename_i t u;have hv2:(match OO t u with|some v=>some (v,us2)|none=>none)=some (v1,r):=hv;cases e:OO t u with
         | none=>rw[e]at hv2;cases hv2
         | some w =>
           rw[e]at hv2;cases hv2;unfold OO at e;rw[A4 ht]at e;rw[rR he e,y4 h2 hl]
       | a he ht =>
         rename_i ts cs;simp only[ON]at hv;split at hv
         ·rename_i cs2 r0 hc;cases hv;obtain⟨a,e1,e2,e3,e4⟩:=OP hc;have hlen:a.length=us1.length:=by rw[e3,← ht];simp
          obtain⟨rfl,rfl⟩:=List.append_inj e1 hlen.symm;rw[A5h he e2 e4,y4 h2 hl]
         ·cases hv
      ·cases k
     ·cases k
def K0(P:Program)(G:Nat→Option Obj)(f:FuncId)(ps:List Sh)(spec:aR)(rs:List Sh):Prop :=
 ∀ (us outs:List U) (w:World) (vs:List Value) (R:Nat→Option Obj),ShL R ps us vs→spec us=some (0,outs)→GOk G w→GOk R w →
  (callFunc f ⟨vs⟩).run P w=.ok (.enter f ⟨vs⟩) w∧Calls P f ⟨vs⟩ w (fun e w'=>∃ r R',ShL R' rs outs r∧e=.returned (tup r)∧jY w w'∧GOk R' w'∧∀ k o,R' k=some o→w.heap.size≤k∨∃ o',R k=some o')
def unA:List Sh→D5→Option D5
 | [],[]=>some []
 | .s _::ss,v::vs=>match unA ss vs with
   | some r=>some (v::r)
   | none=>none
 | .a ts::ss,.agg cs::vs=>bif Nat.beq cs.toList.length ts.length then match unA ss vs with
   | some r=>some (cs.toList++r)
   | none=>none else none
 | _,_=>none
def gW(P:Program)(ps:List Sh)(vs:List Value)(m:Mem):Option (D5×Mem) :=
 match unA ps vs with
 | some cs=>match FZ (tdP P) (CC ps) cs m with
   | some (xs,[],m)=>some (xs,m)
   | some (xs,gs,m)=>match nP gs m with
     | some (_,m)=>some (xs,m)
     | none=>none
   | none=>none
 | none=>none
def A0K(i t b:Nat):Value:=bif Nat.blt t 10 then hole i t else dat b i t
def A16:I6→Nat→Nat→D5
 | [],_,_=>[]
 | t::ts,i,b=>A0K i t b::A16 ts (i+1) b
def B3H:Sh→Nat→Nat→Value
 | .s t,i,b=>A0K i t b
 | .a ts,i,b=>.agg ⟨A16 ts i b⟩
def sC:List Sh→Nat→Nat→D5
 | [],_,_=>[]
 | h::hs,i,b=>B3H h i b::sC hs (i+h.n) b
def A1N(rs:List Sh)(nx:Nat)(m:Mem):Res :=
 bif dM rs then match iE m fun b m=>some (tup (sC rs nx b),b,m)with
  | some (v,_,m)=>some (v,m)
  | none=>none
 else some (tup (sC rs nx 0),m)
def B7z(m:Mem)(hi:Nat)(v:Value)(lg:Lg):Res :=
 match m with
 | ⟨H,n,W,_,_⟩=>some (v,⟨H,n,W,hi,lg⟩)
def A8l(P:Program)(ps:List Sh)(spec:aR)(rs:List Sh):FnC:=⟨fun vs m =>
 match gW P ps vs m with
 | some (xs,⟨H,n,W,hi,⟨nx,pi,log⟩⟩)=>M1 nx fun nx=>V6 xs fun xs=>M1 (nx+shN rs) fun nx'=>bif dM rs then A1N rs nx ⟨H,n,W,hi,⟨nx',pi,.con spec xs nx 0 (shN rs)::log⟩⟩else B7z m hi (tup (sC rs nx 0)) ⟨nx',pi,.con spec xs nx 0 (shN rs)::log⟩
 | none=>none⟩
def A0m{P:Program}{ps:List Sh}{spec:aR}{rs:List Sh}{vs:D5}{v:Value}(h:(A8l P ps spec rs).run vs m=some (v,m')) :
  ∃ xs m1,gW P ps vs m=some (xs,m1)∧((dM rs=true∧A1N rs m1.lg.nx (m1.wLg ⟨m1.lg.nx+shN rs,m1.lg.pi,.con spec xs m1.lg.nx 0 (shN rs)::m1.lg.log⟩)=some (v,m'))∨(dM rs=false∧v=tup (sC rs m1.lg.nx 0)∧m'=⟨m.H,m.n,m.W,m1.hi,⟨m1.lg.nx+shN rs,m1.lg.pi,.con spec xs m1.lg.nx 0 (shN rs)::m1.lg.log⟩⟩)):=by
 unfold A8l at h;simp only at h;split at h
 ·rename_i xs H n W hi nx pi log hx;simp only[F8,I9]at h;refine⟨xs,_,hx,?_⟩;cases hd:dM rs with
  | true=>rw[hd]at h;exact .inl ⟨rfl,h⟩
  | false =>
    rw[hd]at h;obtain⟨H2,n2,W2,hi2,lg2⟩:=m;cases h;exact .inr ⟨rfl,rfl,rfl⟩
 ·cases h
variable [Ora]
def UG{ρ:Ren}:∀ {ss:List Sh} {vs vs' cs:D5},unA ss vs=some cs→LR ρ vs vs'→∃ cs',unA ss vs'=some cs'∧LR ρ cs cs'
 | [],[],vs',cs,h,hl=>by cases h;rw[hl.nil_inv];exact⟨[],rfl,.nil⟩
 | [],_::_,_,_,h,_=>by cases h
 | .s t::ss,[],_,_,h,_=>by cases h
 | .a t::ss,[],_,_,h,_=>by cases h
 | .s t::ss,v::vs,vs',cs,h,hl=>by
   obtain⟨v',r',rfl,h1,h2⟩:=hl.tail;unfold unA at h;split at h
   ·rename_i r hr;cases h;obtain⟨cs',e1,e2⟩:=UG hr h2;exact⟨v'::cs',by simp[unA,e1],.cons h1 e2⟩
   ·cases h
 | .a ts::ss,v::vs,vs',cs,h,hl=>by
   obtain⟨v',r',rfl,h1,h2⟩:=hl.tail;cases v with
   | agg c =>
     unfold unA at h;obtain⟨hlen,h⟩:=A6 h;split at h
     ·rename_i r hr;cases h;obtain⟨cs',e1,e2⟩:=UG hr h2;obtain⟨c',rfl,hc⟩:=m5 h1;refine⟨c'++cs',?_,hc.append e2⟩;have hl2:Nat.beq c'.length ts.length=true:=by rw[← hc.1];exact hlen
      simp[unA,e1,hl2]
     ·cases h
   | _=>cases h
def fX{R:Nat→Option Obj}:∀ {ss:List Sh} {vs cs:D5} {us:List U},unA ss vs=some cs→y0 R us cs→us.map H1=CC ss→ShL R ss us vs
 | [],[],cs,us,h,he,ht=>by
   cases h;have:us=[]:=D4.1 he.1;subst this;exact .nil
 | [],_::_,_,_,h,_,_=>by cases h
 | .s t::ss,[],_,_,h,_,_=>by cases h
 | .a t::ss,[],_,_,h,_,_=>by cases h
 | .s t::ss,v::vs,cs,us,h,he,ht=>by
   unfold unA at h;split at h
   ·rename_i r hr;cases h;obtain⟨a,b,rfl,e1,e2⟩:=y0.split (vs:=[v]) (vs2:=r) he
    match a,e1 with
    | [u],e1 =>
      simp only[List.singleton_append,F0,CC,Sh.tags,X8,W4,H8]at ht;exact .cons (.s (e1.2 0 u v rfl rfl) ht.1) (fX hr e2 ht.2)
    | [],e1=>have:=e1.1;simp at this
    | _::_::_,e1=>have:=e1.1;simp at this
   ·cases h
 | .a ts::ss,v::vs,cs,us,h,he,ht=>by
   cases v with
   | agg c =>
     unfold unA at h;obtain⟨hlen,h⟩:=A6 h;have hlen:=A1 hlen;split at h
     ·rename_i r hr;cases h;obtain⟨a,b,rfl,e1,e2⟩:=y0.split he;simp only[N7,CC,Sh.tags]at ht;obtain⟨t1,t2⟩:=List.append_inj ht (by simp[e1.1,hlen]);obtain⟨l⟩:=c;exact .cons (.a e1 t1) (fX hr e2 t2)
     ·cases h
   | _=>cases h
section
variable {P:Program} {base gl:Nat}
def B9P(ρ:Ren)(m:Mem)(R:Nat→Option Obj):Prop:=∀ k o,R k=some o→∃ id ab l,id≤I7∧Hp.get m.H id=some ab∧ρ id=some l∧Tf ab l k∧ab.rw=false
def uG{ρ:Ren}{w:World}{ps:List Sh}{vs xs:D5}(h:HR P base ρ m.H w)(ho:gW P ps vs m=some (xs,m'))(hf:M4 ρ m.n m'.hi)(hv:LR ρ vs vs')(hS:Sat m'.lg) :
  ∃ ρ' R,St P base ρ ρ' m m' w w∧m.lg.le m'.lg∧ShL R ps (xs.map (E6 Ora.env)) vs'∧GOk R w∧B9P ρ' m' R:=by
 unfold gW at ho;split at ho
 ·rename_i cs hcs;obtain⟨cs',e1,e2⟩:=UG hcs hv;split at ho
  ·rename_i xs0 m1 hd;cases ho;obtain⟨ρ',a1,a2,a3,a4,a5,a6⟩:=mB U4 h hd hf e2 hS;exact⟨ρ',fun _=>none,a1,a2,fX e1 (a6 _ fun b hb=>by cases hb) a5,(fun k o hk=>by cases hk),(fun k o hk=>by cases hk)⟩
  ·rename_i xs0 gs m1 hd;split at ho
   ·rename_i g m2 hj;cases ho;have mj:=Q1 hj;obtain⟨ρ1,a1,a2,a3,a4,a5,a6⟩:=mB U4 h hd (hf.less mj.1) e2 (by rw[← mj.2.1];exact hS);obtain⟨ρ2,lg,b1,b2,b3,b4,b5,b6⟩:=iK a1.hr hj (hf.step a1);have hreg:=(b1.hr.atl b4 b5).1.2;exact⟨ρ2,lg.G,St.trans hf a1 b1,by rw[mj.2.1];exact a2,fX e1 (a6 _ fun b hb l hl=>b6 b hb l hl) a5,hreg,fun k o hk=>⟨g,_,lg,b1.hr.dom _ _ b4,b5,b4,⟨rfl,.inr ⟨rfl,o,hk⟩⟩,rfl⟩⟩
   ·cases ho
  ·cases ho
 ·cases ho
def SD{ρ:Ren}{R:Nat→Option Obj}{i t b:Nat}{u:U}{v:Value}(h:Enc R u v)(ht:H1 u=t)(he:Ora.env i=u)(hb:10≤t→ρ b=some (fE R)):VR ρ (A0K i t b) v:=by
 unfold A0K;cases hq:Nat.blt t 10 with
 | true =>
   have h10:t<10:=A2 hq;obtain⟨v1,e1,_,_⟩:=XU (u:=u) A0
   have:=rR h e1;subst this;exact .hole (by rw[he];exact e1) (by rw[he];exact ht)
 | false =>
   have h10:10≤t:=by
    rcases G6 t 10 with hlt|hge
    ·rw[show Nat.blt t 10=true from C9 hlt]at hq;cases hq
    ·exact hge
   exact .dat (hb h10) (by rw[he];exact h) (by rw[he];exact ht) h10 (pU h)
def OM{ρ:Ren}{R:Nat→Option Obj}{b:Nat}:∀ {ts:I6} {us:List U} {cs:D5} {i:Nat},y0 R us cs→us.map H1=ts→(∀ j u,us[j]? = some u→Ora.env (i+j)=u)→(∀ t ∈ ts,10≤t→ρ b=some (fE R))→LR ρ (A16 ts i b) cs
 | [],us,cs,i,h,ht,he,hb=>by
   have:us=[]:=by cases us with|nil=>rfl|cons _ _=>simp at ht
   subst this;have:cs=[]:=D4.1 h.1.symm;subst this;exact .nil
 | t::ts,[],cs,i,h,ht,he,hb=>by simp at ht
 | t::ts,u::us,[],i,h,ht,he,hb=>by have:=h.1;simp at this
 | t::ts,u::us,c::cs,i,h,ht,he,hb=>by
   simp only[F0,H8]at ht;refine .cons (SD (h.2 0 u c rfl rfl) ht.1 (he 0 u rfl) (hb t (.head _))) (OM ⟨by have:=h.1;simpa using this,fun j x y a1 a2=>h.2 (j+1) x y (by simpa using a1) (by simpa using a2)⟩ ht.2 (fun j x hj=>?_) fun t' ht'=>hb t' (.tail _ ht'))
   have:=he (j+1) x (by simpa using hj);rw[show i+1+j=i+(j+1) by omega];exact this
def kR{ρ:Ren}{R:Nat→Option Obj}{b:Nat}:∀ {ss:List Sh} {us:List U} {vs:D5} {i:Nat},ShL R ss us vs→(∀ j u,us[j]? = some u→Ora.env (i+j)=u)→(dM ss=true→ρ b=some (fE R))→LR ρ (sC ss i b) vs∧us.length=shN ss
 | [],us,vs,i,h,he,hb=>by cases h;exact⟨.nil,rfl⟩
 | s::ss,us,vs,i,h,he,hb=>by
   cases h with
   | cons h1 h2 =>
     rename_i us1 us2 v vs;have hd:∀ t ∈ s.tags,10≤t→ρ b=some (fE R):=fun t ht h10=>hb (X9.2 ⟨t,B5.2 (.inl ht),C9 h10⟩)
     have hd2:dM ss=true→ρ b=some (fE R):=fun hq=>by
      obtain⟨t,ht,h10⟩:=X9.1 hq;exact hb (X9.2 ⟨t,B5.2 (.inr ht),h10⟩)
     have hn:us1.length=s.n:=by
      cases h1 with
      | s _ _=>rfl
      | a _ ht=>show _=List.length _;rw[← ht];simp[Sh.tags]
     obtain⟨g1,g2⟩:=kR (i:=i+s.n) h2 (fun j u hj=>by
      have:=he (us1.length+j) u (by rw[E8 A0,o8];exact hj);rw[← hn,eN];exact this) hd2
     refine⟨.cons ?_ g1,by simp[shN,hn,g2]⟩;have he1:∀ j u,us1[j]? = some u→Ora.env (i+j)=u:=fun j u hj=>he j u (by rw[F5 (B3.1 hj).1];exact hj)
     cases h1 with
     | s h ht=>exact SD h ht (by have:=he1 0 _ rfl;simpa using this) (hd _ (.head _))
     | a h ht =>
       have:=OM (b:=b) h ht he1 hd;exact .agg this.1 this.2
def UH{ρ:Ren}{vs:D5}(h:LR ρ vs vs'):VR ρ (tup vs) (tup vs'):=by
 match vs,vs',h with
 | [],vs',h=>rw[h.nil_inv];exact .tuple (a:=[]) (a':=[]) rfl (fun i v v' h1 _=>by simp at h1)
 | [v],vs',h =>
   obtain⟨v',r',rfl,h1,h2⟩:=h.tail;cases h2.nil_inv;exact h1
 | v::u::r,vs',h =>
   obtain⟨v',r',rfl,h1,h2⟩:=h.tail;obtain⟨u',r2,rfl,h3,h4⟩:=h2.tail;exact .tuple h.1 h.2
def St.grown{ρ:Ren}{w w':World}(h:HR P base ρ m.H w)(g:jY w w'):St P base ρ ρ m m w w' :=
 ⟨fun _ _ h=>h,fun b l h1 h2=>(by rw[h1]at h2;cases h2),B0 _,B0 _,fun h=>h,
  ⟨h.dom,fun id hid ab hab=>by
    obtain⟨l,h1,h2,h3⟩:=h.at_ id hid ab hab;exact⟨l,h1,h2.mono (fun _ _ h=>h) (fun k hk=>g.keep k (h2.tc hk)),h3⟩⟩,
  fun _ h=>h,fun b h1 h2=>absurd h1 h2,fun k hk _=>g.keep k hk,g.size,g.os,fun b l h1 h2=>(by rw[h1]at h2;cases h2),fun _ _ _ _=>rfl,fun _ h=>.inr h⟩
def St.grownLg{ρ:Ren}{w w':World}(h:HR P base ρ m.H w)(g:jY w w')(lg:Lg):St P base ρ ρ m (m.wLg lg) w w':=by
 obtain⟨H,n,W,hi,l⟩:=m;have r:=St.grown (m:=⟨H,n,W,hi,l⟩) h g;exact⟨r.ext,r.new,r.nle,r.hle,r.nhi,r.hr,r.wsub,r.wrw,r.keep,r.size,r.os,r.blk,r.same,r.tch⟩
def St.ret{ρ:Ren}{w w':World}{G:Nat→Option Obj}(h:HR P base ρ m.H w)(g:jY w w')(hn:x8 m .frz (fun _=>undef)=some (undef,m1))(hf:M4 ρ m.n m1.hi)(hG:GOk G w')
  (hT:∀ k o,G k=some o→w.heap.size≤k∨∃ id ab l,id≤I7∧Hp.get m.H id=some ab∧ρ id=some l∧Tf ab l k∧ab.rw=false):upd ρ m.n (fE G) m.n=some (fE G)∧St P base ρ (upd ρ m.n (fE G)) m m1 w w':=by
 obtain⟨hle,_,rfl⟩:=M7 hn;have hfree:ρ m.n=none:=hf m.n (B0 _) (L6 _ _).2;have hext:=q9 (l:=fE G) hfree;refine⟨M3 _ _ _,hext,fun b q h1 h2=>?_,by simp,(L6 _ _).1,fun _=>c8 (L6 _ _).2,⟨fun b q hq=>?_,fun id hid a ha=>?_⟩,fun b hb=>hb,fun b h1 h2=>absurd h1 h2,fun q hq _=>g.keep q hq,g.size,g.os,fun b q h1 h2 ho=>?_,fun id hid h1 h2=>?_,fun q ⟨id,a,l,hid,ha,hl,ht⟩=>?_⟩
 ·obtain⟨rfl,rfl⟩:=V8 h1 h2;exact⟨B0 _,K1 _⟩
 ·cases h0:ρ b with
  | some k0=>exact h.dom b k0 h0
  | none=>obtain⟨rfl,rfl⟩:=V8 hq h0;exact hle
 ·rw[F2 _ _ _ _ hle hid]at ha;by_cases e:id=m.n
  ·rw[A4 e]at ha;have ha:=A9 ha;subst ha;subst e;exact⟨fE G,M3 _ _ _,⟨rfl,hG⟩,fun _ ho=>(by cases ho)⟩
  ·rw[A3 e]at ha;obtain⟨l0,h1,h2,h3⟩:=h.at_ id hid a ha;refine⟨l0,hext _ _ h1,h2.mono hext (fun k hk=>g.keep k (h2.tc hk)),fun hr ho=>⟨(h3 hr ho).1,fun id2 hid2 ab2 l2 g1 g2 g3=>?_⟩⟩;rw[F2 _ _ _ _ hle hid2]at g1;by_cases e2:id2=m.n
   ·subst e2;rw[M3]at g2
    have:=A9 g2;subst this;rcases g3 with⟨_,g3,_⟩|⟨_,o,g3⟩
    ·cases g3
    ·rcases hT _ o g3 with hge|⟨id3,a3,l3,q1,q2,q3,q4,q5⟩
     ·have:=h2.tc (.inl ⟨AB.rw_on hr,ho,rfl⟩);omega
     ·have:=(h3 hr ho).2 id3 q1 a3 l3 q2 q3 q4.2;subst this;rw[ha]at q2;have q2:=A9 q2;subst q2;rw[hr]at q5;cases q5
   ·rw[A3 e2]at g1;unfold upd at g2;rw[A3 e2]at g2;exact(h3 hr ho).2 id2 hid2 ab2 l2 g1 g2 g3
 ·obtain⟨rfl,rfl⟩:=V8 h1 h2;cases ho
 ·rw[F2 _ _ _ _ hle hid,A3];intro e;subst e;rcases h2 with h2|h2
  ·omega
  ·have h2:upN m.hi m.n≤m.n:=h2
   have:=(L6 m.hi m.n).2;omega
 ·have ha:Hp.get (m.H.set m.n (some .frz)) id=some a:=ha;rw[F2 _ _ _ _ hle hid]at ha;by_cases e:id=m.n
  ·subst e;rw[A4 rfl]at ha;have ha:=A9 ha;subst ha;rw[M3]at hl;have hl:=A9 hl;subst hl;rcases ht.2 with⟨_,h3,_⟩|⟨_,o,h3⟩
   ·cases h3
   ·rcases hT _ o h3 with hge|⟨id3,a3,l3,q1,q2,q3,q4,q5⟩
    ·exact .inl hge
    ·exact .inr ⟨id3,a3,l3,q1,q2,q3,q4⟩
  ·rw[A3 e]at ha;unfold upd at hl;rw[A3 e]at hl;exact .inr ⟨id,a,l,hid,ha,hl,ht⟩
def St.back{ρ:Ren}{w w':World}{hi:Nat}{lg:Lg}(h:HR P base ρ m.H w)(g:jY w w')(hh:m.hi≤hi):St P base ρ ρ m ⟨m.H,m.n,m.W,hi,lg⟩ w w':=by
 have r:=St.grownLg (m:=m) h g lg;refine⟨r.ext,fun b l h1 h2=>(by rw[h1]at h2;cases h2),B0 _,hh,fun h=>B7 h hh,?_,fun _ h=>h,fun b h1 h2=>absurd h1 h2,fun k hk _=>g.keep k hk,g.size,g.os,fun b l h1 h2=>(by rw[h1]at h2;cases h2),fun _ _ _ _=>rfl,fun _ h=>.inr h⟩
 have:=r.hr;rw[oE]at this;exact this
theorem A8k{f:FuncId}{ps:List Sh}{spec:aR}{rs:List Sh}(h:K0 P Ora.G f ps spec rs):nG P base gl f (A8l P ps spec rs):=by
 have hret:∀ {nx:Nat} {m m':Mem} {v:Value},dM rs=true→A1N rs nx m=some (v,m')→m'.lg=m.lg∧m.hi≤m'.hi∧m.n≤m'.n:=fun{nx m m' v} hd hr=>by
  unfold A1N at hr;rw[hd]at hr;simp only[F3]at hr;split at hr
  ·rename_i hn;cases hr;obtain⟨m2,q1,q2,_⟩:=U0 hn;cases q2;obtain⟨_,_,rfl⟩:=M7 q1;exact⟨rfl,(L6 _ _).1,q8 _⟩
  ·cases hr
 have hmono:∀ {vs xs:D5} {m m1:Mem},gW P ps vs m=some (xs,m1)→m.lg.le m1.lg∧m.hi≤m1.hi:=fun{vs xs m m1} h1=>by
  unfold gW at h1;split at h1
  ·split at h1
   ·rename_i hd;cases h1;exact⟨(S0 U4 hd).2.1,(S0 U4 hd).1⟩
   ·rename_i hd;split at h1
    ·rename_i hj;cases h1;exact⟨by rw[(Q1 hj).2.1];exact(S0 U4 hd).2.1,B7 (S0 U4 hd).1 (Q1 hj).1⟩
    ·cases h1
   ·cases h1
  ·cases h1
 refine⟨fun vs m m' v hr=>?_,fun ρ m m' w vs vs' v hr hS hat hl=>.inl ?_⟩
 ·obtain⟨xs,m1,h1,⟨hd,h2⟩|⟨hd,_,rfl⟩⟩:=A0m hr
  ·rw[(hret hd h2).1,u9];exact(hmono h1).1.trans ⟨[_],rfl⟩
  ·exact(hmono h1).1.trans ⟨[_],rfl⟩
 ·obtain⟨xs,m1,h1,h2⟩:=A0m hr;have hlg:m'.lg=⟨m1.lg.nx+shN rs,m1.lg.pi,.con spec xs m1.lg.nx 0 (shN rs)::m1.lg.log⟩∧m1.hi≤m'.hi:=by
   rcases h2 with⟨hd,h2⟩|⟨hd,_,rfl⟩
   ·obtain⟨r1,r2,_⟩:=hret hd h2;simp only[u9,KK]at r1 r2;exact⟨r1,r2⟩
   ·exact⟨rfl,B0 _⟩
  obtain⟨r1,r2⟩:=hlg;have hlast:p7.con spec xs m1.lg.nx 0 (shN rs) ∈ m'.lg.log:=by rw[r1];exact C5
  have hS1:Sat m1.lg:=U9.le hS (by rw[r1];exact⟨[_],rfl⟩);obtain⟨ρ1,R,a1,a2,a3,a4,a5⟩:=uG hat.hr h1 (hat.fr.less r2) hl hS1;obtain⟨outs,h3,h4,h5⟩:=hS _ hlast;obtain⟨h6,h7⟩:=h _ outs w vs' R a3 h3 (fun k o hk=>(hat.gf k o hk).2) a4;refine⟨h6,h7.mono fun e w' ⟨r,R',g1,g2,g3,g4,g5⟩=>?_⟩;rcases h2 with⟨hd,h2⟩|⟨hd,rfl,rfl⟩
  ·let lg2:Lg:=⟨m1.lg.nx+shN rs,m1.lg.pi,.con spec xs m1.lg.nx 0 (shN rs)::m1.lg.log⟩
   have h2:A1N rs m1.lg.nx (m1.wLg lg2)=some (v,m'):=h2;have hst1:St P base ρ ρ1 m (m1.wLg lg2) w w:=St.trans (hat.fr.less (by simpa using r2)) a1 (St.wLg a1.hr lg2);have hf1:M4 ρ1 (m1.wLg lg2).n m'.hi:=by simpa using hat.fr.step a1
   unfold A1N at h2;rw[hd]at h2;simp only[F3]at h2;split at h2
   ·rename_i v0 b m2 hn;cases h2;obtain⟨m3,q1,q2,_⟩:=U0 hn;cases q2;obtain⟨e1,e2⟩:=St.ret (G:=R') hst1.hr g3 q1 hf1 g4 fun k o hk=>by
     rcases g5 k o hk with hge|⟨o',ho'⟩
     ·exact .inl hge
     ·obtain⟨id,ab,l,p1,p2,p3,p4,p5⟩:=a5 k o' ho';exact .inr ⟨id,ab,l,p1,by rw[oE];exact p2,p3,p4,p5⟩
    exact⟨_,_,g2,UH (kR g1 h5 fun _=>e1).1,St.trans hat.fr hst1 e2⟩
   ·cases h2
  ·exact⟨_,ρ,g2,UH (kR g1 h5 fun hq=>by rw[hd]at hq;cases hq).1,St.back hat.hr g3 (hmono h1).2⟩
end
end
end Go.Sx
