/- The law KeysPastes: for every input the call returns true, and the arguments read behind it as they read before. No condition. -/
import Derived.Test.YtdimocjaepnifaaGreatDoorX6
import Derived.Lib.Bytealg
import Derived.Lib.MakeNoZero
namespace Go.Sx
set_option linter.all false
open Go
set_option linter.unusedVariables false
set_option linter.unusedSimpArgs false
variable [Ora]
def C2I(ops:Array Oper)(X:Nat→Qs)(i:Nat)(o:Oper):Bool:=B3M o.op i ((Z3 ops.toList []).getD i []) ((Z3 ops.toList []).drop (i+1)) (ops.toList.drop (i+1)) (X i)
structure Rg (P:Program) (base gl nt:Nat) (call:P4) (ops:Array Oper) (F:Nat→Fr) (M:Nat→Mem) (V:Nat→Value) (R:Nat→List Rec) (X:Nat→Qs) (B:Nat→Bool):Prop where
 st:∀ i o,ops[i]? = some o→B2y P nt gl call ops.toList ((Z3 ops.toList []).getD i []) (R i) (B i) o (F i) (F (i+1)) (M i) (M (i+1)) (V i)
 rc:∀ i o,ops[i]? = some o→(R (i+1)=R i∧∃ lg,M (i+1)=(M i).wLg lg)∨(B i=true∧R (i+1)=[])∨R (i+1)=⟨i,(M i).n,(M (i+1)).n⟩::R i
 qs:∀ i o,ops[i]? = some o→QsN (B i) i nt ops.toList (X4 P call o) ((Z3 ops.toList []).getD i []) (R i) (F i) o (M i) (M (i+1)) (V i) (X i) (X (i+1))
 sb:∀ i o,ops[i]? = some o→B i=true→C2I ops X i o=true
 x0:X 0=[]
 ok:B3k ops.toList (Z3 ops.toList []) ops.toList 0=true
structure Ph (ops:Array Oper) (B:Nat→Bool) (M:Nat→Mem) (lo up:Nat):Prop where
 le:lo≤up
 sz:up≤ops.size
 nh:(M lo).n≤(M lo).hi
 mx:∀ i o,lo≤i→i<up→ops[i]? = some o→B i=false
section
variable {P:Program} {base gl nt:Nat} {call:P4} {ops:Array Oper} {F:Nat→Fr} {M:Nat→Mem} {V:Nat→Value} {R:Nat→List Rec} {X:Nat→Qs} {B:Nat→Bool} {lo up:Nat}
theorem Q4{i:Nat}(h:i<ops.size):∃ o,ops[i]? = some o:=⟨ops[i],by simp[h]⟩
theorem Rg.one(g:Rg P base gl nt call ops F M V R X B){i:Nat}{o:Oper}(ho:ops[i]? = some o)(hso:B i=false)(hn:(M i).n≤(M i).hi):(M i).n≤(M (i+1)).n∧(M i).hi≤(M (i+1)).hi∧(M (i+1)).n≤(M (i+1)).hi∧(M (i+1)).W=(M i).W ∧
  ∀ id,id≤G2→(id<(M i).n∨(M (i+1)).n≤id)→Hp.get (M (i+1)).H id=Hp.get (M i).H id:=by
 obtain⟨_,_,_,h⟩:=g.st i o ho;rcases h with⟨_,lg,_,_,h⟩|⟨_,lg,lg2,_,_,h⟩|⟨h,_⟩|⟨_,_,lg,_,mv,m',_,_,_,hhi,hm⟩
 ·rw[h];exact⟨A5 _,A5 _,hn,rfl,fun _ _ _=>rfl⟩
 ·rw[h];exact⟨A5 _,A5 _,hn,rfl,fun _ _ _=>rfl⟩
 ·rw[hso]at h;cases h
 ·obtain⟨h1,h2,h3,h4,_,_,_,h5⟩:=B3q hm hn hhi;exact⟨h1,h2,h3,h4,fun id hid hh=>by rw[h5 id hid,if_neg (by show ¬ ((M i).n≤id∧_);omega)];rfl⟩
theorem Rg.allD(g:Rg P base gl nt call ops F M V R X B)(ph:Ph ops B M lo up):∀ d,lo+d≤up→(M lo).n≤(M (lo+d)).n∧(M lo).hi≤(M (lo+d)).hi∧(M (lo+d)).n≤(M (lo+d)).hi∧(M (lo+d)).W=(M lo).W ∧
  ∀ id,id≤G2→(id<(M lo).n∨(M (lo+d)).n≤id)→Hp.get (M (lo+d)).H id=Hp.get (M lo).H id
 | 0,_=>⟨A5 _,A5 _,ph.nh,rfl,fun _ _ _=>rfl⟩
 | d+1,h=>by
   obtain⟨h1,h2,h3,h4,h5⟩:=g.allD ph d (by omega);obtain⟨o,ho⟩:=Q4 (ops:=ops) (i:=lo+d) (by have:=ph.sz;omega);obtain⟨k1,k2,k3,k4,k5⟩:=g.one ho (ph.mx _ o (by omega) (by omega) ho) h3;exact⟨B0 h1 k1,B0 h2 k2,k3,k4.trans h4,fun id hid hh=>by
    rw[show lo+(d+1)=lo+d+1 by omega]at hh ⊢;rw[k5 id hid (by omega),h5 id hid (by omega)]⟩
theorem Rg.all(g:Rg P base gl nt call ops F M V R X B)(ph:Ph ops B M lo up){i:Nat}(h0:lo≤i)(h:i≤up):(M lo).n≤(M i).n∧(M lo).hi≤(M i).hi∧(M i).n≤(M i).hi∧(M i).W=(M lo).W ∧
  ∀ id,id≤G2→(id<(M lo).n∨(M i).n≤id)→Hp.get (M i).H id=Hp.get (M lo).H id:=by
 have:=g.allD ph (i-lo) (by omega)
 rwa[show lo+(i-lo)=i by omega]at this
theorem Rg.mono(g:Rg P base gl nt call ops F M V R X B)(ph:Ph ops B M lo up){i:Nat}(h0:lo≤i):∀ d,i+d≤up→(M i).n≤(M (i+d)).n∧(M i).hi≤(M (i+d)).hi∧∀ id,id≤G2→id<(M i).n→Hp.get (M (i+d)).H id=Hp.get (M i).H id
 | 0,_=>⟨A5 _,A5 _,fun _ _ _=>rfl⟩
 | d+1,h=>by
   obtain⟨h1,h2,h5⟩:=g.mono ph h0 d (by omega);obtain⟨o,ho⟩:=Q4 (ops:=ops) (i:=i+d) (by have:=ph.sz;omega);obtain⟨k1,k2,k3,k4,k5⟩:=g.one ho (ph.mx _ o (by omega) (by omega) ho) (g.all ph (i:=i+d) (by omega) (by omega)).2.2.1;exact⟨B0 h1 k1,B0 h2 k2,fun id hid hh=>by rw[show i+(d+1)=i+d+1 by omega,k5 id hid (by omega),h5 id hid hh]⟩
theorem Rg.le(g:Rg P base gl nt call ops F M V R X B)(ph:Ph ops B M lo up){i j:Nat}(h0:lo≤i)(h:i≤j)(hj:j≤up):(M i).n≤(M j).n∧(M i).hi≤(M j).hi∧∀ id,id≤G2→id<(M i).n→Hp.get (M j).H id=Hp.get (M i).H id:=by
 have:=g.mono ph h0 (j-i) (by omega)
 rwa[show i+(j-i)=j by omega]at this
theorem B52{m mv:Mem}{c:Cls}{us:List Rec}(h:B0Z m c us=some mv):mv.lg=m.lg:=by
 obtain⟨H,n,W,hi,lg⟩:=m;unfold B0Z at h;simp only at h;cases c with
 | free=>cases h;rfl
 | one b =>
   simp only at h;cases hq:v8 (Z9 us) b || !(Nat.ble b G2)with
   | true=>rw[hq]at h;cases h
   | false=>rw[hq,A1d]at h;cases h;rfl
 | all =>
   simp only at h;obtain⟨hb,h⟩:=A2 h;cases h;rfl
theorem B3r{m m' m2:Mem}(h:A35 m m'=some m2):m2.lg=m'.lg:=by
 unfold A35 at h;cases hq:Nat.ble m'.hi m.n with
 | true=>rw[hq]at h;cases h;rfl
 | false =>
   rw[hq]at h;obtain⟨_,h⟩:=A2 h;simp only[E1,A1P]at h;cases h;rfl
theorem A4j{a b:Addr}(h:B1z a b=true):a=b:=by
 unfold B1z at h;split at h
 ·obtain⟨h1,h2⟩:=B2 h;rw[A0 h1,A0 h2]
 ·cases h
theorem B7g{a b:Fn}(h:B5A a b=true):a=b:=by
 unfold B5A at h;split at h
 ·rw[A0 h]
 ·rw[A0 h]
 ·cases h
theorem A5z{s:Value→Value→Bool}(hs:∀ a b,s a b=true→a=b):∀ {l r:List Value},B0k s l r=true→l=r
 | [],[],_=>rfl
 | [],_::_,h=>by cases h
 | _::_,[],h=>by cases h
 | a::l,b::r,h=>by
   obtain⟨h1,h2⟩:=B2 (show(s a b && B0k s l r)=true from h);rw[hs a b h1,A5z hs h2]
theorem D0G{a b:Array Value}(h:a.toList=b.toList):a=b:=by cases a;cases b;cases h;rfl
theorem B81:∀ (d:Nat) (v w:Value),A8y d v w=true→v=w:=by
 intro d;induction d with
 | zero =>
   intro v w h;unfold A8y at h;split at h
   ·rw[eq_of_beq h]
   ·obtain⟨h1,h2⟩:=B2 h;rw[A1E]at h2;rw[A2g h1,eq_of_beq h2]
   ·obtain⟨h1,h2⟩:=B2 h;rw[A0 h1,A0 h2]
   ·obtain⟨h1,h2⟩:=B2 h;rw[A0 h1,A0 h2]
   ·rename_i s t;have h1:=of_decide_eq_true h;cases s with|mk s=>cases t with|mk t=>cases s;cases t;cases h1;rfl
   ·rfl
   ·rw[A4j h]
   ·obtain⟨h1,h2⟩:=B2 h;rw[A0 h1,A0 h2]
   ·obtain⟨h0,h⟩:=B2 h;obtain⟨h1,h2⟩:=B2 h;rw[A4j h0,A0 h1,A0 h2]
   ·rfl
   ·rw[A0 h]
   ·rfl
   ·rfl
   all_goals first|cases h|(rename_i hh;cases hh)
 | succ d ih =>
   intro v w h;unfold A8y at h;split at h
   ·rw[eq_of_beq h]
   ·obtain⟨h1,h2⟩:=B2 h;rw[A1E]at h2;rw[A2g h1,eq_of_beq h2]
   ·obtain⟨h1,h2⟩:=B2 h;rw[A0 h1,A0 h2]
   ·obtain⟨h1,h2⟩:=B2 h;rw[A0 h1,A0 h2]
   ·rename_i s t;have h1:=of_decide_eq_true h;cases s with|mk s=>cases t with|mk t=>cases s;cases t;cases h1;rfl
   ·rfl
   ·rw[A4j h]
   ·obtain⟨h1,h2⟩:=B2 h;rw[A0 h1,A0 h2]
   ·obtain⟨h0,h⟩:=B2 h;obtain⟨h1,h2⟩:=B2 h;rw[A4j h0,A0 h1,A0 h2]
   ·rfl
   ·rw[A0 h]
   ·rfl
   ·rfl
   ·rename_i d' f a b g a' b' he;cases he;obtain⟨h0,h⟩:=B2 h;obtain⟨h1,h2⟩:=B2 h;rw[B7g h0,D0G (A5z ih h1),D0G (A5z ih h2)]
   ·rename_i d' t v u w he;cases he;obtain⟨h1,h2⟩:=B2 h;rw[A0 h1,ih _ _ h2]
   ·cases h
theorem B85{a b:AB}(h:B86 a b=true):a=b:=by
 unfold B86 at h;split at h
 ·rfl
 ·obtain⟨h0,h⟩:=B2 h;obtain⟨h1,h2⟩:=B2 h;rw[A5z (B81 6) h0,A0 h1,eq_of_beq h2]
 ·cases h
theorem A9L{H:Hp AB}{b:Nat}{ab:AB}(h:A9M H b ab=true):Hp.get H b=some ab∧b≤G2:=by
 unfold A9M at h;split at h
 ·rename_i x hq;obtain⟨h1,h2⟩:=B2 h;exact⟨by rw[hq,B85 h2],A1 h1⟩
 ·cases h
theorem A6o{m mv:Mem}{r:Option (Nat×AB)}{us:List Rec}(h:B15 m r us=some mv):mv.n=A6c∧mv.hi=A6c∧mv.W=[]∧mv.lg=m.lg∧(∀ id,id≤G2→∀ ab,Hp.get mv.H id=some ab→r=some (id,ab))∧∀ b ab,r=some (b,ab)→A9M m.H b ab=true∧b ∉ Z9 us:=by
 obtain⟨H,n,W,hi,lg⟩:=m;unfold B15 at h;simp only at h;cases r with
 | none =>
   cases h;exact⟨rfl,rfl,rfl,rfl,fun id _ ab hab=>(by rw[A6K]at hab;cases hab),fun b ab hb=>by cases hb⟩
 | some p =>
   obtain⟨b,ab0⟩:=p;simp only at h;cases hq:v8 (Z9 us) b || !(A9M H b ab0)with
   | true=>rw[hq]at h;cases h
   | false =>
     rw[hq,A1d]at h;cases h;simp only[O5,Bool.not_eq_false']at hq;have hb:=(A9L hq.2).2;refine⟨rfl,rfl,rfl,rfl,fun id hid ab hab=>?_,fun b' ab' hb'=>?_⟩
     ·have hab:Hp.get (Hp.set hp0 b (some ab0)) id=some ab:=hab;rw[E3 _ _ _ _ hb hid]at hab;by_cases e:id=b
      ·subst e;rw[if_pos rfl]at hab;cases hab;rfl
      ·rw[if_neg e,A6K]at hab;cases hab
     ·cases hb';exact⟨hq.2,fun hm=>by rw[W7.2 hm]at hq;exact absurd hq.1 (by simp)⟩
theorem A3y{fr:Fr}{m:Mem}{o:Oper}{b:List Nat}{rs:List Rec}{op:OpC}{v:Value}{lg:Lg}(h:A3z fr m o b rs op=some (v,lg)):∃ mv m',B15 m (B4E m.H fr o.op) (B00 b rs)=some mv∧op.run fr mv=some (v,m')∧m'.W=[]∧m'.hi=A6c∧m'.lg=lg:=by
 unfold A3z at h;split at h
 ·rename_i mv hv;split at h
  ·rename_i v' H n hi lg' hr;obtain⟨h1,h2⟩:=A2 h;cases h2;exact⟨mv,_,hv,hr,rfl,A0 h1,rfl⟩
  ·cases h
 ·cases h
theorem B0c{all:List Oper}{b:List Nat}{rs:List Rec}{so:Bool}{o:Oper}{fr fr':Fr}{m m2:Mem}{v:Value}(hc:V6 P base gl call)(h:B2y P nt gl call all b rs so o fr fr' m m2 v):m.lg.le m2.lg:=by
 obtain⟨_,_,_,h⟩:=h;rcases h with⟨_,lg,hw,_,h⟩|⟨_,lg,lg2,hw,hq,h⟩|⟨_,lg,hw,hr,_⟩|⟨_,_,lg,hw,mv,m',hv,hr,_,hhi,hm⟩
 ·rw[h];exact A2a hw
 ·obtain⟨mv,m',hv,hr,_,_,hl⟩:=A3y hq;have h1:=x4 hc hr;rw[(A6o hv).2.2.2.1,hl]at h1;rw[h];exact(A2a hw).trans h1
 ·have h1:=x4 hc hr;rw[l5]at h1;exact(A2a hw).trans h1
 ·rw[B3r hm];have h1:=x4 hc hr;rw[B52 hv]at h1;exact(A2a hw).trans h1
theorem Rg.lgs(g:Rg P base gl nt call ops F M V R X B)(hc:V6 P base gl call){i:Nat}:∀ d,i+d≤ops.size→(M i).lg.le (M (i+d)).lg
 | 0,_=>.refl _
 | d+1,h=>by
   obtain⟨o,ho⟩:=Q4 (ops:=ops) (i:=i+d) (by omega);exact(g.lgs hc d (by omega)).trans (B0c hc (g.st (i+d) o ho))
theorem Rg.who(g:Rg P base gl nt call ops F M V R X B)(ph:Ph ops B M lo up):∀ d,lo+d≤up→∀ b,(M lo).n≤b→b<(M (lo+d)).n→∃ k,lo≤k∧k<lo+d∧(M k).n≤b∧b<(M (k+1)).n
 | 0,_,b,h1,h2=>by have h2:b<(M lo).n:=h2;omega
 | d+1,h,b,h1,h2=>by
   rcases E9 b (M (lo+d)).n with h3|h3
   ·obtain⟨k,k0,k1,k2⟩:=g.who ph d (by omega) b h1 h3;exact⟨k,k0,by omega,k2⟩
   ·exact⟨lo+d,by omega,by omega,h3,h2⟩
theorem A8_:∀ {rs:List Rec} {b:Nat},b ∈ Z9 rs↔∃ r ∈ rs,r.lo≤b∧b<r.hi
 | [],b=>by simp[Z9]
 | r::rs,b=>by
   simp only[Z9,B1,A36,A8_ (rs:=rs),B7];constructor
   ·rintro(h|⟨r',h1,h2⟩)
    ·exact⟨r,.inl rfl,by omega⟩
    ·exact⟨r',.inr h1,h2⟩
   ·rintro⟨r',rfl|h1,h2⟩
    ·exact .inl (by omega)
    ·exact .inr ⟨r',h1,h2⟩
theorem Rg.recs(g:Rg P base gl nt call ops F M V R X B)(ph:Ph ops B M lo up):∀ d,lo+d≤up→∀ k,lo≤k→k<lo+d→∀ b,(M k).n≤b→b<(M (k+1)).n→⟨k,(M k).n,(M (k+1)).n⟩ ∈ R (lo+d)
 | 0,_,k,_,h,_,_,_=>by omega
 | d+1,hi,k,hk,h,b,h1,h2=>by
   obtain⟨o,ho⟩:=Q4 (ops:=ops) (i:=lo+d) (by have:=ph.sz;omega);have hmx:=ph.mx _ o (by omega) (by omega) ho;show _ ∈ R (lo+d+1);by_cases e:k=lo+d
   ·subst e;rcases g.rc (lo+d) o ho with⟨_,lg,h3⟩|⟨h3,_⟩|h3
    ·rw[h3]at h2;have h2:b<(M (lo+d)).n:=h2;omega
    ·rw[hmx]at h3;cases h3
    ·rw[h3];exact B4
   ·have:=g.recs ph d (by omega) k hk (by omega) b h1 h2;rcases g.rc (lo+d) o ho with⟨h3,_⟩|⟨h3,_⟩|h3
    ·rw[h3];exact this
    ·rw[hmx]at h3;cases h3
    ·rw[h3];exact B8 _ this
theorem C14{m mv:Mem}{c:Cls}{us:List Rec}(h:B0Z m c us=some mv):mv.n=m.n∧mv.hi=m.hi∧mv.W=[]∧mv.lg=m.lg∧∀ id,id≤G2→∀ ab,Hp.get mv.H id=some ab→Hp.get m.H id=some ab∧id ∉ Z9 us:=by
 obtain⟨H,n,W,hi,lg⟩:=m;unfold B0Z at h;simp only at h;cases c with
 | free =>
   cases h;exact⟨rfl,rfl,rfl,rfl,fun id _ ab hab=>by rw[A6K]at hab;cases hab⟩
 | one b =>
   simp only at h;cases hq:v8 (Z9 us) b || !(Nat.ble b G2)with
   | true=>rw[hq]at h;cases h
   | false =>
     rw[hq,A1d]at h;cases h;simp only[O5,Bool.not_eq_false']at hq;have hb:=A1 hq.2;refine⟨rfl,rfl,rfl,rfl,fun id hid ab hab=>?_⟩;have hab:Hp.get (Hp.set hp0 b (Hp.get H b)) id=some ab:=hab;rw[E3 _ _ _ _ hb hid]at hab;by_cases e:id=b
     ·subst e;rw[if_pos rfl]at hab;exact⟨hab,fun hm=>by rw[W7.2 hm]at hq;exact absurd hq.1 (by simp)⟩
     ·rw[if_neg e,A6K]at hab;cases hab
 | all =>
   simp only at h;obtain⟨hb,h⟩:=A2 h;cases h;refine⟨rfl,rfl,rfl,rfl,fun id hid ab hab=>?_⟩;have hab:Hp.get (B1I H (Z9 us)) id=some ab:=hab;rw[B1H _ _ (A7G hb) id hid]at hab;by_cases e:id ∈ Z9 us
   ·rw[if_pos e]at hab;cases hab
   ·rw[if_neg e]at hab;exact⟨hab,e⟩
def A2N(M:Nat→Mem)(D:Nat→Bool)(b:Nat):Nat→Bool
 | 0=>false
 | n+1=>(D n && Nat.ble (M n).n b && Nat.blt b (M (n+1)).n) || A2N M D b n
theorem U7{D:Nat→Bool}{b:Nat}:∀ n,A2N M D b n=true↔∃ k,k<n∧D k=true∧(M k).n≤b∧b<(M (k+1)).n
 | 0=>by simp[A2N]
 | n+1=>by
   simp only[A2N,I1,G7,U7 n];constructor
   ·rintro(⟨⟨h1,h2⟩,h3⟩|⟨k,h1,h2⟩)
    ·exact⟨n,by omega,h1,A1 h2,A1 h3⟩
    ·exact⟨k,by omega,h2⟩
   ·rintro⟨k,h1,h2,h3,h4⟩
    by_cases e:k=n
    ·subst e;exact .inl ⟨⟨h2,C3 h3⟩,C3 h4⟩
    ·exact .inr ⟨k,by omega,h2,h3,h4⟩
def Dr(lo:Nat)(D:Nat→Bool)(k:Nat):Bool:=Nat.ble lo k && D k
theorem Y7{lo:Nat}{D:Nat→Bool}{k:Nat}:Dr lo D k=true↔lo≤k∧D k=true:=by
 unfold Dr;rw[G7];exact⟨fun h=>⟨A1 h.1,h.2⟩,fun h=>⟨C3 h.1,h.2⟩⟩
def GD(M:Nat→Mem)(lo N:Nat)(D:Nat→Bool)(b:Nat):Option AB:=bif A2N M (Dr lo D) b N then Hp.get (M N).H b else Hp.get (M lo).H b
structure Inv (z:Zn) (P:Program) (base gl nt:Nat) (ops:Array Oper) (F:Nat→Fr) (M:Nat→Mem) (V:Nat→Value) (lo up:Nat) (ρ0:Ren) (w0:World) (D:Nat→Bool) (ρ:Ren) (a:Act) (w:World):Prop where
 ext:∀ b l,ρ0 b=some l→ρ b=some l
 new:∀ b l,ρ b=some l→ρ0 b=none→A2N M (Dr lo D) b up=true∧(l.on=true→w0.heap.size≤l.blk)
 hr:HRf P base ρ (GD M lo up D) w
 keep:∀ k,k<w0.heap.size→w.heap[k]? = w0.heap[k]?
 size:w0.heap.size≤w.heap.size
 os:w.os=w0.os∧w.tape=w0.tape∧w.output=w0.output
 tch:∀ k,Ff ρ (GD M lo up D) k→w0.heap.size≤k∨Fp ρ0 (M lo).H k
 tsz:a.tmps.size=nt
 dfr:ZR z ρ nt (F 0) a.defers
 frm:∀ t,t<nt→VR ρ (y5 D (fun k=>(ops[k]?).bind (·.dst)) V (F 0).get t ops.size) (a.tmps.getD t undef)
theorem T6{i:Nat}{o:Oper}(h:ops[i]? = some o):ops.toList[i]? = some o:=by simpa using h
theorem A2l{ops:List Oper}{an:List (List Nat)}:∀ (r:List Oper) (i:Nat),B3k ops an r i=true→∀ j o,r[j]? = some o→A41 (i+j) o.after.toList=true∧A6n an (i+j) (V8 ops o) ops 0=true
 | [],i,h,j,o,hj=>by simp at hj
 | x::r,i,h,j,o,hj=>by
   obtain⟨h1,h2⟩:=B2 (show(A41 i x.after.toList && (A6n an i (V8 ops x) ops 0 && B3k ops an r (i+1)))=true from h);obtain⟨h2,h3⟩:=B2 h2;cases j with
   | zero=>simp at hj;subst hj;exact⟨h1,h2⟩
   | succ j =>
     have:=A2l r (i+1) h3 j o (by simpa using hj)
     rwa[show i+1+j=i+(j+1) by omega]at this
theorem A1q:∀ {es:List Edge} {i:Nat},A41 i es=true→∀ e ∈ es,Region.binds .any e=true→e.on<i
 | [],i,h,e,he,_=>by cases he
 | x::r,i,h,e,he,hb=>by
   obtain⟨h1,h2⟩:=B2 (show((!(Region.binds .any x) || Nat.blt x.on i) && A41 i r)=true from h);rcases B7.1 he with rfl|he
   ·rw[hb]at h1;have h1:Nat.blt e.on i=true:=by simpa only [P0,Q7]using h1
    exact A1 h1
   ·exact A1q h2 e he hb
theorem B0h{an:List (List Nat)}{i:Nat}{sl:List Tmp}:∀ (r:List Oper) (k0:Nat),A6n an i sl r k0=true→∀ j p t,r[j]? = some p→k0+j≠i→p.dst=some t→t ∈ sl→C2e an i (k0+j)=true
 | [],k0,h,j,p,t,hj,_,_,_=>by simp at hj
 | x::r,k0,h,j,p,t,hj,hne,hd,ht=>by
   obtain⟨h1,h2⟩:=B2 (show((Nat.beq k0 i || (match x.dst with|none=>true|some t=>!(v8 sl t) || C2e an i k0)) && A6n an i sl r (k0+1))=true from h);cases j with
   | zero =>
     simp at hj;subst hj;have hb:Nat.beq k0 i=false:=by
      cases hq:Nat.beq k0 i with
      | false=>rfl
      | true=>exact absurd (A0 hq) hne
     rw[hb,hd,Q7]at h1;simp only[W7.2 ht,P0,Q7]at h1;exact h1
   | succ j =>
     have:=B0h r (k0+1) h2 j p t (by simpa using hj) (by omega) hd ht
     rwa[show k0+1+j=k0+(j+1) by omega]at this
theorem Rg.slot(g:Rg P base gl nt call ops F M V R X B){D:Nat→Bool}(hc:A4d ops.toList fun k=>D k=true)(hlt:∀ k,D k=true→k<ops.size){i:Nat}{o:Oper}(ho:ops[i]? = some o)(hi:D i=false)
  (hr:∀ e ∈ o.after.toList,Region.binds .any e=true→D e.on=true) {t:Tmp} (ht:t ∈ V8 ops.toList o):∀ k p,ops[k]? = some p→k≠i→p.dst=some t→(D k=true↔k<i):=fun k p hp hne hd=>by
 have hb:∀ (i:Nat) (o:Oper),ops.toList[i]? = some o→∀ e ∈ o.after.toList,Region.binds .any e=true→e.on<i:=fun i o ho=>by
  have:=(A2l _ 0 g.ok i o ho).1;rw[E4]at this;exact A1q this
 have h1:=(A2l _ 0 g.ok i o (T6 ho)).2;have h2:=B0h _ 0 h1 k p t (T6 hp) (by omega) hd ht;rw[E4,E4]at h2;unfold C2e at h2;rcases Nat.lt_trichotomy k i with hlt'|heq|hgt
 ·have hq:Nat.blt i k=false:=by
   cases hq:Nat.blt i k with
   | false=>rfl
   | true=>have:i<k:=A1 hq;omega
  rw[hq]at h2;have hm:=W7.1 (by simpa using h2);exact⟨fun _=>hlt',fun _=>A91 hc hb (i+1) i k o (I5 i) (T6 ho) hr hm⟩
 ·exact absurd heq hne
 ·have hq:Nat.blt i k=true:=C3 hgt;rw[hq]at h2;have hm:=W7.1 (by simpa using h2);refine⟨fun hk=>?_,fun h=>by omega⟩
  have:=A91 hc hb (k+1) k i p (I5 k) (T6 hp) (fun e he hbe=>hc k p (T6 hp) hk e he hbe) hm;rw[hi]at this;cases this
theorem Rg.frame(g:Rg P base gl nt call ops F M V R X B)(hnt:nt≤512){t:Tmp}(ht:t<nt):∀ i,i≤ops.size→(F i).get t=y5 (fun k=>Nat.blt k i) (fun k=>(ops[k]?).bind (·.dst)) V (F 0).get t i
 | 0,_=>rfl
 | i+1,h=>by
   obtain⟨o,ho⟩:=Q4 (ops:=ops) (i:=i) (by omega);obtain⟨h1,_,h3,_⟩:=g.st i o ho;have ih:=g.frame hnt ht i (by omega);have e1:y5 (fun k=>Nat.blt k (i+1)) (fun k=>(ops[k]?).bind (·.dst)) V (F 0).get t i=y5 (fun k=>Nat.blt k i) (fun k=>(ops[k]?).bind (·.dst)) V (F 0).get t i:=A1o i fun k hk _=>by
    rw[show Nat.blt k (i+1)=true from C3 (by omega),show Nat.blt k i=true from C3 hk]
   have e2:Nat.blt i (i+1)=true:=C3 (A5 _);rw[h3];unfold y5;rw[e1,← ih];simp only[e2,ho,D4,true_and];cases hd:o.dst with
   | none=>simp[A76]
   | some d =>
     rw[hd]at h1;have hd':d<nt:=A1 h1;simp only[A76,C5];rw[L1 _ _ _ _ (C7 hd' hnt) (C7 ht hnt)];by_cases e:t=d
     ·subst e;simp
     ·rw[if_neg e,if_neg (fun h=>e h.symm)]
theorem Rg.look(g:Rg P base gl nt call ops F M V R X B)(hnt:nt≤512){D:Nat→Bool}(hc:A4d ops.toList fun k=>D k=true)(hlt:∀ k,D k=true→k<ops.size){i:Nat}{o:Oper}(ho:ops[i]? = some o)(hi:D i=false)
  (hr:∀ e ∈ o.after.toList,Region.binds .any e=true→D e.on=true) {t:Tmp} (ht:t ∈ V8 ops.toList o) (htn:t<nt):y5 D (fun k=>(ops[k]?).bind (·.dst)) V (F 0).get t ops.size=(F i).get t:=by
 have hil:i<ops.size:=(C6.1 ho).1;rw[g.frame hnt htn i (by omega)];have hs:=g.slot hc hlt ho hi hr ht;have e1:y5 D (fun k=>(ops[k]?).bind (·.dst)) V (F 0).get t ops.size=y5 (fun k=>Nat.blt k i) (fun k=>(ops[k]?).bind (·.dst)) V (F 0).get t ops.size:=A1o _ fun k hk hd=>by
  obtain⟨p,hp⟩:=Q4 (ops:=ops) hk;rw[hp]at hd;by_cases e:k=i
  ·subst e;rw[hi];symm;cases hq:Nat.blt k k with
   | false=>rfl
   | true=>have:k<k:=A1 hq;omega
  ·have:=hs k p hp e hd;rw[J1,this];exact⟨fun h=>C3 h,fun h=>A1 h⟩
 rw[e1];have e2:∀ d,i+d≤ops.size→y5 (fun k=>Nat.blt k i) (fun k=>(ops[k]?).bind (·.dst)) V (F 0).get t (i+d)=y5 (fun k=>Nat.blt k i) (fun k=>(ops[k]?).bind (·.dst)) V (F 0).get t i:=by
  intro d;induction d with
  | zero=>intro _;rfl
  | succ d ih =>
    intro hd;rw[show i+(d+1)=(i+d)+1 by omega];rw[y5,if_neg (fun hh=>by have:i+d<i:=A1 hh.1;omega)];exact ih (by omega)
 have:=e2 (ops.size-i) (by omega)
 rwa[show i+(ops.size-i)=ops.size by omega]at this
theorem A8f{o:Oper}{x:Operand}{t:Tmp}(hx:x ∈ o.op.operands.toList)(ht:x=.tmp t):t ∈ V8 ops.toList o:=by
 unfold V8;refine B1.2 (.inr (B1.2 (.inl (List.mem_flatMap.2 ⟨x,hx,?_⟩))));subst ht;simp[A5r]
theorem Rg.see{z:Zn}(g:Rg P base gl nt call ops F M V R X B)(ph:Ph ops B M lo up){ρ0 ρ:Ren}{w0 w:World}{D:Nat→Bool}{a:Act}{i:Nat}{o:Oper}
  (hat:At P base gl ρ0 (M lo) (M up).hi w0) (hc:A4d ops.toList fun k=>D k=true) (hiL:lo≤i) (hiup:i<up) (ho:ops[i]? = some o)
  (hr:∀ e ∈ o.after.toList,Region.binds .any e=true→D e.on=true):∀ id,id≤G2→∀ ab,Hp.get (M i).H id=some ab→id ∉ Z9 (B00 ((Z3 ops.toList []).getD i []) (R i))→GD M lo up D id=some ab:=fun id hid ab h1 h2=>by
 unfold GD;by_cases hin:(M lo).n≤id∧id<(M i).n
 ·obtain⟨k,k0,k1,k2,k3⟩:∃ k,lo≤k∧k<i∧(M k).n≤id∧id<(M (k+1)).n:=by
   have:=g.who ph (i-lo) (by omega) id hin.1 (by rw[show lo+(i-lo)=i by omega];exact hin.2)
   rwa[show lo+(i-lo)=i by omega]at this
  have hDk:D k=true:=by
   have hrec:(⟨k,(M k).n,(M (k+1)).n⟩:Rec) ∈ R i:=by
    have:=g.recs ph (i-lo) (by omega) k k0 (by omega) id k2 k3
    rwa[show lo+(i-lo)=i by omega]at this
   by_cases hk:k ∈ (Z3 ops.toList []).getD i []
   ·exact A91 hc (fun i o ho=>by
     have:=(A2l _ 0 g.ok i o ho).1;rw[E4]at this;exact A1q this) (i+1) i k o (I5 i) (T6 ho) hr hk
   ·exfalso;refine h2 (A8_.2 ⟨_,S0.2 ⟨hrec,?_⟩,k2,k3⟩);cases hq:v8 ((Z3 ops.toList []).getD i []) k with
    | false=>rfl
    | true=>exact absurd (W7.1 hq) hk
  have hu:A2N M (Dr lo D) id up=true:=(U7 _).2 ⟨k,by omega,Y7.2 ⟨k0,hDk⟩,k2,k3⟩;rw[hu];simp only[cond_true];rw[(g.le ph (i:=i) (j:=up) hiL (by omega) (A5 _)).2.2 id hid hin.2];exact h1
 ·have hA:=(g.all ph hiL (by omega)).2.2.2.2 id hid (by omega);rw[hA]at h1;have hu:A2N M (Dr lo D) id up=false:=by
   cases hq:A2N M (Dr lo D) id up with
   | false=>rfl
   | true =>
     exfalso;obtain⟨k,k1,kD,k2,k3⟩:=(U7 _).1 hq;have k0:=(Y7.1 kD).1;obtain⟨l,e1,_⟩:=hat.hr.at_ id hid ab h1;have hk0:=g.le ph (i:=lo) (j:=k) (A5 _) k0 (by omega);have hkN:=g.le ph (i:=k+1) (j:=up) (by omega) (by omega) (A5 _);have hNn:=(g.all ph ph.le (A5 _)).2.2.1;rw[hat.fr id (by omega) (by omega)]at e1;cases e1
  rw[hu];exact h1
theorem Rg.quiet{z:Zn}(g:Rg P base gl nt call ops F M V R X B)(hcall:V6 P base gl call){ρ0 ρ:Ren}{w0 w:World}{D D':Nat→Bool}{a:Act}{i:Nat}{o:Oper}{r:Option (Nat×AB)}{Q:Exit→Act→World→Prop}{K:Act→World→Prop}
  (hat:At P base gl ρ0 (M lo) (M up).hi w0) (hS:Sat (M (i+1)).lg) (hnt:nt≤512) (inv:Inv z P base gl nt ops F M V lo up ρ0 w0 D ρ a w) (hc:A4d ops.toList fun k=>D k=true) (hlt:∀ k,D k=true→k<ops.size) (ho:ops[i]? = some o) (hi:D i=false)
  (hr:∀ e ∈ o.after.toList,Region.binds .any e=true→D e.on=true) (hD:∀ k,k≠i→D' k=D k) (hDi:D' i=true)
  (hqa:A1F nt ops.toList (X4 P call o) ((Z3 ops.toList []).getD i []) (R i) (F i) o (M i) (M (i+1)) (V i) r) (hfz:∀ b ab,r=some (b,ab)→GD M lo up D b=some ab)
  (hK:∀ ρ' a' w',Inv z P base gl nt ops F M V lo up ρ0 w0 D' ρ' a' w'→K a' w'):A2Y P z.rd ops Q i K a w:=by
 have hil:i<ops.size:=(C6.1 ho).1;obtain⟨hd1,hd2,hF,_⟩:=g.st i o ho;have hlook:∀ t,t ∈ V8 ops.toList o→t<nt→VR ρ ((F i).get t) (a.tmps.getD t undef):=fun t ht htn=>by
  rw[← g.look hnt hc hlt ho hi hr ht htn];exact inv.frm t htn
 have hFR:FR ρ (F i) a.eval o.op:=fun x hx=>by
  have hok:okX nt gl x=true:=D0.1 hd2 x hx;cases x with
  | tmp t=>exact hlook t (A8f hx rfl) (A1 hok)
  | const v=>exact VR.ofC hok
  | global gg=>exact VR.ptr (o:=0) (inv.ext _ _ (hat.gr gg (A1 hok)))
  | func f=>exact .func (a:=[]) (b:=[]) (a':=[]) (b':=[]) rfl rfl (fun i v v' h=>by simp at h) (fun i v v' h=>by simp at h)
 have hwant:∀ lg b,A0M nt (F i) (M i).lg ops.toList o=some (b,lg)→Sat lg→Region.wanted o (yielded ops a.tmps)=b:=fun lg b hw hSl=>by
  unfold A0M at hw;split at hw
  ·rename_i hg;cases hw;simp[Region.wanted,hg]
  ·rename_i j want hg;split at hw
   ·rename_i p hp;split at hw
    ·rename_i t ht;obtain⟨h1,h2⟩:=A2 hw;have h1:t<nt:=A1 h1;have hv:=hlook t (by
      unfold V8;refine B1.2 (.inr (B1.2 (.inr ?_)));simp[hg,hp,ht]) h1
     exact A4e hg hp ht (by rw[inv.tsz];exact h1) (A5j h2 hv hSl)
    ·cases hw
   ·cases hw
 have hframe:∀ (ρ':Ren) (v':Value),(∀ b l,ρ b=some l→ρ' b=some l)→VR ρ' (V i) v'→∀ t,t<nt→VR ρ' (y5 D' (fun k=>(ops[k]?).bind (·.dst)) V (F 0).get t ops.size) ((a.put o.dst v').tmps.getD t undef):=fun ρ' v' he hv t ht=>by
  by_cases hd:o.dst=some t
  ·have hnext:∀ k,i<k→k<ops.size→(ops[k]?).bind (·.dst)=some t→D k=false:=fun k hik hk hkd=>by
    obtain⟨p,hp⟩:=Q4 (ops:=ops) hk;rw[hp]at hkd
    have:=g.slot hc hlt ho hi hr (t:=t) (by unfold V8;simp[hd]) k p hp (by omega) hkd;cases hq:D k with
    | false=>rfl
    | true=>have:=this.1 hq;omega
   rw[A6P hD hDi ops.size hil (by simp[ho,hd]) hnext];simp only[hd,Act.put,B3];rw[E8,if_pos rfl,if_pos (by rw[inv.tsz];exact ht)];exact hv
  ·rw[A5R hD (by simp[ho];exact hd)];have h1:=(inv.frm t ht).mono he;cases hdd:o.dst with
   | none=>exact h1
   | some d =>
     have hne:d≠t:=fun e=>hd (e▸hdd)
     simp only[Act.put,B3]at h1 ⊢;rw[E8,if_neg hne];exact h1
 have hM:∃ lg,M (i+1)=(M i).wLg lg:=by
  rcases hqa with⟨lg,_,_,h,_⟩|⟨_,lg2,_,_,h,_⟩
  ·exact⟨lg,h⟩
  ·exact⟨lg2,h⟩
 have hG:GD M lo up D'=GD M lo up D:=by
  funext b;unfold GD;have:A2N M (Dr lo D') b up=A2N M (Dr lo D) b up:=by
   obtain⟨lg,hm⟩:=hM;rw[J1,U7,U7];constructor
   ·rintro⟨k,h1,h2,h3,h4⟩
    have e:k≠i:=fun e=>by
     subst e;rw[hm]at h4;have h4:b<(M k).n:=h4;omega
    obtain⟨h20,h2⟩:=Y7.1 h2;rw[hD k e]at h2;exact⟨k,h1,Y7.2 ⟨h20,h2⟩,h3,h4⟩
   ·rintro⟨k,h1,h2,h3⟩
    obtain⟨h20,h2⟩:=Y7.1 h2;have e:k≠i:=fun e=>by subst e;rw[hi]at h2;cases h2
    exact⟨k,h1,Y7.2 ⟨h20,by rw[hD k e];exact h2⟩,h3⟩
  rw[this]
 have hnew:∀ b l,ρ b=some l→ρ0 b=none→A2N M (Dr lo D') b up=true∧(l.on=true→w0.heap.size≤l.blk):=fun b l h1 h2=>by
  obtain⟨k1,k2⟩:=inv.new b l h1 h2;obtain⟨k,q1,q2,q3⟩:=(U7 _).1 k1;obtain⟨q20,q2⟩:=Y7.1 q2;have e:k≠i:=fun e=>by subst e;rw[hi]at q2;cases q2
  exact⟨(U7 _).2 ⟨k,q1,Y7.2 ⟨q20,by rw[hD k e];exact q2⟩,q3⟩,k2⟩
 unfold A2Y;simp only[ho];rcases hqa with⟨lg,hw,hv,hm,_⟩|⟨lg,lg2,hw,hq,hm,hrr⟩
 ·have hSl:Sat lg:=by rw[hm]at hS;exact hS
  rw[hwant lg false hw hSl];simp only[I2,if_false];refine hK ρ _ w ⟨inv.ext,hnew,hG▸inv.hr,inv.keep,inv.size,inv.os,hG▸inv.tch,?_,?_,hframe ρ undef (fun _ _ h=>h) (hv▸A5m ρ)⟩
  ·cases hdd:o.dst<;>simp[Act.put,inv.tsz]
  ·rw[A1e];exact inv.dfr
 ·obtain⟨mv,m',hview,hrun,hW,hhi,hl⟩:=A3y hq;obtain⟨v1,v2,v3,v4,v5,_⟩:=A6o hview;have hSm:Sat m'.lg:=by rw[hm]at hS;rw[hl];exact hS
  have hSl:Sat lg:=R9.le hSm (by have:=x4 hcall hrun;rw[v4]at this;exact this);rw[hwant lg true hw hSl];simp only[if_true];have hHR:HR P base ρ mv.H w:=inv.hr.hr fun id hid ab hab=>hfz id ab (hrr.trans (v5 id hid ab hab))
  have hAt:At P base gl ρ mv m'.hi w:=⟨hHR,B0 hat.bs inv.size,fun b h1 h2=>(by rw[v1]at h1;rw[hhi]at h2;omega),hat.gr.mono inv.ext,(by rw[v1,v2];exact A5 _),fun b hb=>(by rw[v3]at hb;cases hb),fun k o hk=>⟨(hat.gf k o hk).1,(inv.keep k (C7 (hat.gf k o hk).1 hat.bs)).trans (hat.gf k o hk).2⟩⟩;refine A5w hcall hrun hSm hAt hFR fun v' ρ' w' hv st=>?_
  have hρ:ρ'=ρ:=by
   funext b;cases h0:ρ b with
   | some l=>exact st.ext b l h0
   | none =>
     cases h1:ρ' b with
     | none=>rfl
     | some l =>
       exfalso;have h2:=(st.new b l h1 h0).1;have h3:=st.hr.dom b l h1;rw[v1]at h2;unfold A6c at h2;unfold G2 at h3;omega
  subst hρ;have hkeep:∀ k,k<w.heap.size→w'.heap[k]? = w.heap[k]? := fun k hk=>st.keep k hk fun b hb=>by rw[hW]at hb;cases hb
  refine hK ρ' _ w' ⟨inv.ext,hnew,hG▸⟨inv.hr.dom,fun id hid ab hab=>?_⟩,fun k hk=>by rw[hkeep k (C7 hk inv.size),inv.keep k hk],B0 inv.size st.size,⟨st.os.1.trans inv.os.1,st.os.2.1.trans inv.os.2.1,st.os.2.2.trans inv.os.2.2⟩,hG▸inv.tch,?_,?_,hframe ρ' v' (fun _ _ h=>h) hv⟩
  ·obtain⟨l,e1,e2,e3⟩:=inv.hr.at_ id hid ab hab;exact⟨l,e1,e2.mono (fun _ _ h=>h) (fun k hk=>hkeep _ (e2.tc hk)),e3⟩
  ·cases hdd:o.dst<;>simp[Act.put,inv.tsz]
  ·rw[A1e];exact inv.dfr
theorem Rg.step{z:Zn}(g:Rg P base gl nt call ops F M V R X B)(ph:Ph ops B M lo up)(hcall:V6 P base gl call){ρ0 ρ:Ren}{w0 w:World}{D D':Nat→Bool}{a:Act}{i:Nat}{o:Oper}{Q:Exit→Act→World→Prop}{K:Act→World→Prop}
  (hat:At P base gl ρ0 (M lo) (M up).hi w0) (hS:Sat (M up).lg) (hnt:nt≤512) (inv:Inv z P base gl nt ops F M V lo up ρ0 w0 D ρ a w) (hc:A4d ops.toList fun k=>D k=true) (hlt:∀ k,D k=true→k<ops.size) (hiL:lo≤i) (hiup:i<up) (ho:ops[i]? = some o) (hi:D i=false)
  (hr:∀ e ∈ o.after.toList,Region.binds .any e=true→D e.on=true) (hD:∀ k,k≠i→D' k=D k) (hDi:D' i=true)
  (hnq:¬∃ r,A1F nt ops.toList (X4 P call o) ((Z3 ops.toList []).getD i []) (R i) (F i) o (M i) (M (i+1)) (V i) r)
  (hK:∀ ρ' a' w',Inv z P base gl nt ops F M V lo up ρ0 w0 D' ρ' a' w'→K a' w'):A2Y P z.rd ops Q i K a w:=by
 have hil:i<ops.size:=(C6.1 ho).1;obtain⟨hd1,hd2,hF,hstep⟩:=g.st i o ho;have hmx:=ph.mx i o hiL hiup ho;have hsz:=ph.sz;have hlo:=g.le ph (i:=lo) (j:=i) (A5 _) hiL (by omega);have hup:=g.le ph (i:=i+1) (j:=up) (by omega) (by omega) (A5 _);have hone:=g.one ho hmx (g.all ph hiL (by omega)).2.2.1;have hlook:∀ t,t ∈ V8 ops.toList o→t<nt→VR ρ ((F i).get t) (a.tmps.getD t undef):=fun t ht htn=>by
  rw[← g.look hnt hc hlt ho hi hr ht htn];exact inv.frm t htn
 have hFR:FR ρ (F i) a.eval o.op:=fun x hx=>by
  have hok:okX nt gl x=true:=D0.1 hd2 x hx;cases x with
  | tmp t=>exact hlook t (A8f hx rfl) (A1 hok)
  | const v=>exact VR.ofC hok
  | global gg=>exact VR.ptr (o:=0) (inv.ext _ _ (hat.gr gg (A1 hok)))
  | func f=>exact .func (a:=[]) (b:=[]) (a':=[]) (b':=[]) rfl rfl (fun i v v' h=>by simp at h) (fun i v v' h=>by simp at h)
 have hwant:∀ lg b,A0M nt (F i) (M i).lg ops.toList o=some (b,lg)→Sat lg→Region.wanted o (yielded ops a.tmps)=b:=fun lg b hw hSl=>by
  unfold A0M at hw;split at hw
  ·rename_i hg;cases hw;simp[Region.wanted,hg]
  ·rename_i j want hg;split at hw
   ·rename_i p hp;split at hw
    ·rename_i t ht;obtain⟨h1,h2⟩:=A2 hw;have h1:t<nt:=A1 h1;have hv:=hlook t (by
      unfold V8;refine B1.2 (.inr (B1.2 (.inr ?_)));simp[hg,hp,ht]) h1
     exact A4e hg hp ht (by rw[inv.tsz];exact h1) (A5j h2 hv hSl)
    ·cases hw
   ·cases hw
 have hframe:∀ (ρ':Ren) (v':Value),(∀ b l,ρ b=some l→ρ' b=some l)→VR ρ' (V i) v'→∀ t,t<nt→VR ρ' (y5 D' (fun k=>(ops[k]?).bind (·.dst)) V (F 0).get t ops.size) ((a.put o.dst v').tmps.getD t undef):=fun ρ' v' he hv t ht=>by
  by_cases hd:o.dst=some t
  ·have hnext:∀ k,i<k→k<ops.size→(ops[k]?).bind (·.dst)=some t→D k=false:=fun k hik hk hkd=>by
    obtain⟨p,hp⟩:=Q4 (ops:=ops) hk;rw[hp]at hkd
    have:=g.slot hc hlt ho hi hr (t:=t) (by unfold V8;simp[hd]) k p hp (by omega) hkd;cases hq:D k with
    | false=>rfl
    | true=>have:=this.1 hq;omega
   rw[A6P hD hDi ops.size hil (by simp[ho,hd]) hnext];simp only[hd,Act.put,B3];rw[E8,if_pos rfl,if_pos (by rw[inv.tsz];exact ht)];exact hv
  ·rw[A5R hD (by simp[ho];exact hd)];have h1:=(inv.frm t ht).mono he;cases hdd:o.dst with
   | none=>exact h1
   | some d =>
     have hne:d≠t:=fun e=>hd (e▸hdd)
     simp only[Act.put,B3]at h1 ⊢;rw[E8,if_neg hne];exact h1
 have hused:∀ b,A2N M (Dr lo D') b up=true↔(A2N M (Dr lo D) b up=true∨((M i).n≤b∧b<(M (i+1)).n)):=fun b=>by
  rw[U7,U7];constructor
  ·rintro⟨k,h1,h2,h3⟩
   obtain⟨h20,h2⟩:=Y7.1 h2;by_cases e:k=i
   ·subst e;exact .inr h3
   ·rw[hD k e]at h2;exact .inl ⟨k,h1,Y7.2 ⟨h20,h2⟩,h3⟩
  ·rintro(⟨k,h1,h2,h3⟩|h3)
   ·obtain⟨h20,h2⟩:=Y7.1 h2;have e:k≠i:=fun e=>by subst e;rw[hi]at h2;cases h2
    exact⟨k,h1,Y7.2 ⟨h20,by rw[hD k e];exact h2⟩,h3⟩
   ·exact⟨i,hiup,Y7.2 ⟨hiL,hDi⟩,h3⟩
 unfold A2Y;simp only[ho];have hSi:Sat (M (i+1)).lg:=R9.le hS (by have:=g.lgs hcall (i:=i+1) (up-(i+1)) (by omega);rwa[show i+1+(up-(i+1))=up by omega]at this);rcases hstep with⟨_,lg,hw,hv,hm⟩|⟨_,lg,lg2,hw,hq,hm⟩|⟨hso,_⟩|⟨_,_,lg,hw,mv,m',hview,hrun,hW,hhi,hmerge⟩
 ·exact absurd ⟨_,.inl ⟨lg,hw,hv,hm,rfl⟩⟩ hnq
 ·exact absurd ⟨_,.inr ⟨lg,lg2,hw,hq,hm,rfl⟩⟩ hnq
 ·rw[hmx]at hso;cases hso
 ·have hSm:Sat m'.lg:=by rw[B3r hmerge]at hSi;exact hSi
  have hSl:Sat lg:=R9.le hSm (by have:=x4 hcall hrun;rw[B52 hview]at this;exact this);rw[hwant lg true hw hSl];simp only[if_true];obtain⟨v1,v2,v3,_,v4⟩:=C14 hview;have v1:mv.n=(M i).n:=v1;have v2:mv.hi=(M i).hi:=v2;have v4:∀ id,id≤G2→∀ ab,Hp.get mv.H id=some ab→Hp.get (M i).H id=some ab∧id ∉ Z9 (B00 ((Z3 ops.toList []).getD i []) (R i)):=v4;have hnh:=(g.all ph hiL (by omega)).2.2.1;obtain⟨q1,q2,q3,q4,q5,q6,_,q7⟩:=B3q hmerge hnh hhi;have q1:(M i).n≤(M (i+1)).n:=q1;have q5:(M (i+1)).n=m'.hi∨((M (i+1)).n=(M i).n∧m'.hi≤(M i).n):=q5;have q7:∀ id,id≤G2→Hp.get (M (i+1)).H id=if(M i).n≤id∧id<(M (i+1)).n then Hp.get m'.H id else Hp.get (M i).H id:=q7
  have hsubv:∀ id,id≤G2→∀ ab,Hp.get mv.H id=some ab→GD M lo up D id=some ab:=fun id hid ab hab=>by
   obtain⟨h1,h2⟩:=v4 id hid ab hab;exact g.see (z:=z) (a:=a) (ρ:=ρ) (w:=w) ph hat hc hiL hiup ho hr id hid ab h1 h2
  have hHR:HR P base ρ mv.H w:=inv.hr.hr hsubv;have hFree:J6 ρ mv.n m'.hi:=fun b h1 h2=>by
   rw[v1]at h1;cases hb:ρ b with
   | none=>rfl
   | some l =>
     exfalso;cases h0:ρ0 b with
     | some l0 =>
       rw[hat.fr b (by omega) (by omega)]at h0;cases h0
     | none =>
       obtain⟨k,k1,k2,k3,k4⟩:=(U7 _).1 (inv.new b l hb h0).1;obtain⟨k0,k2⟩:=Y7.1 k2;have hki:k≠i:=fun e=>by subst e;rw[hi]at k2;cases k2
       rcases E9 k i with hki'|hki'
       ·have:=(g.le ph (i:=k+1) (j:=i) (by omega) (by omega) (by omega)).1;omega
       ·have:=(g.le ph (i:=i+1) (j:=k) (by omega) (by omega) (by omega)).1;rcases q5 with q5|⟨_,q5⟩<;>omega
  have hAt:At P base gl ρ mv m'.hi w:=⟨hHR,B0 hat.bs inv.size,hFree,hat.gr.mono inv.ext,(by rw[v1,v2];exact hnh),fun b hb=>(by rw[v3]at hb;cases hb),fun k o hk=>⟨(hat.gf k o hk).1,(inv.keep k (C7 (hat.gf k o hk).1 hat.bs)).trans (hat.gf k o hk).2⟩⟩;refine A5w hcall hrun hSm hAt hFR fun v' ρ' w' hv st=>hK ρ' _ w' ?_
  have hkeep:∀ k,k<w.heap.size→w'.heap[k]? = w.heap[k]? := fun k hk=>st.keep k hk fun b hb=>by rw[hW]at hb;cases hb
  have hm'n:m'.n≤m'.hi:=st.nhi (by rw[v1,v2];exact hnh);have hnew:∀ b l,ρ' b=some l→ρ b=none→((M i).n≤b∧b<(M (i+1)).n)∧(l.on=true→w.heap.size≤l.blk):=fun b l h1 h2=>by
   have h3:=st.new b l h1 h2;rw[v1]at h3;refine⟨⟨h3.1,?_⟩,?_⟩
   ·rcases q5 with q5|⟨_,q5⟩<;>omega
   ·intro ho;rcases st.blk b l h1 h2 ho with h|⟨b0,h,_⟩
    ·exact h
    ·rw[hW]at h;cases h
  have hin:∀ id,id≤G2→(M i).n≤id→id<(M (i+1)).n→GD M lo up D' id=Hp.get m'.H id∧ρ id=none:=fun id hid h1 h2=>by
   constructor
   ·unfold GD;rw[(hused id).2 (.inr ⟨h1,h2⟩)];simp only[cond_true];rw[hup.2.2 id hid h2,q7 id hid,if_pos ⟨h1,h2⟩]
   ·refine hFree id (by rw[v1];exact h1) ?_;rcases q5 with q5|⟨q5,_⟩
    ·omega
    ·rw[q5]at h2;omega
  have hout:∀ id,¬ ((M i).n≤id∧id<(M (i+1)).n)→GD M lo up D' id=GD M lo up D id:=fun id hid=>by
   unfold GD;have:A2N M (Dr lo D') id up=A2N M (Dr lo D) id up:=by
    rw[J1,hused id];exact⟨fun h=>h.elim (fun h=>h) (fun h=>absurd h hid),.inl⟩
   rw[this]
  have hFf:∀ k,Ff ρ' (GD M lo up D') k→w.heap.size≤k∨Ff ρ (GD M lo up D) k:=fun k ⟨id,ab,l,hid,hab,hl,ht⟩=>by
   by_cases hI:(M i).n≤id∧id<(M (i+1)).n
   ·rw[(hin id hid hI.1 hI.2).1]at hab;rcases st.tch k ⟨id,ab,l,hid,hab,hl,ht⟩with h|⟨id0,ab0,l0,e1,e2,e3,e4⟩
    ·exact .inl h
    ·exact .inr ⟨id0,ab0,l0,e1,hsubv id0 e1 ab0 e2,e3,e4⟩
   ·rw[hout id hI]at hab;obtain⟨l3,c1,_⟩:=inv.hr.at_ id hid ab hab;rw[st.ext id l3 c1]at hl
    have:=A4 hl;subst this;exact .inr ⟨id,ab,l3,hid,hab,c1,ht⟩
  refine⟨fun b l h=>st.ext b l (inv.ext b l h),fun b l h1 h2=>?_,⟨st.hr.dom,fun id hid ab hab=>?_⟩,fun k hk=>by rw[hkeep k (C7 hk inv.size),inv.keep k hk],B0 inv.size st.size,⟨st.os.1.trans inv.os.1,st.os.2.1.trans inv.os.2.1,st.os.2.2.trans inv.os.2.2⟩,fun k hk=>(hFf k hk).elim (fun h=>.inl (B0 inv.size h)) (inv.tch k),?_,?_,hframe ρ' v' st.ext hv⟩
  ·cases h0:ρ b with
   | some l1 =>
     rw[st.ext b l1 h0]at h1
     have:=A4 h1;subst this;exact⟨(hused b).2 (.inl (inv.new b l1 h0 h2).1),(inv.new b l1 h0 h2).2⟩
   | none =>
     have:=hnew b l h1 h0;exact⟨(hused b).2 (.inr this.1),fun ho=>B0 inv.size (this.2 ho)⟩
  ·by_cases hI:(M i).n≤id∧id<(M (i+1)).n
   ·obtain⟨h1,h2⟩:=hin id hid hI.1 hI.2;rw[h1]at hab;obtain⟨l,e1,e2,e3⟩:=st.hr.at_ id hid ab hab;refine⟨l,e1,e2,fun hrw hon=>⟨(e3 hrw hon).1,fun id2 hid2 ab2 l2 f1 f2 f3=>?_⟩⟩;by_cases hI2:(M i).n≤id2∧id2<(M (i+1)).n
    ·rw[(hin id2 hid2 hI2.1 hI2.2).1]at f1;exact(e3 hrw hon).2 id2 hid2 ab2 l2 f1 f2 f3
    ·rw[hout id2 hI2]at f1;obtain⟨l3,c1,c2,_⟩:=inv.hr.at_ id2 hid2 ab2 f1;rw[st.ext id2 l3 c1]at f2
     have:=A4 f2;subst this;have h5:=c2.tc f3;have h6:=(hnew id l e1 h2).2 hon;omega
   ·rw[hout id hI]at hab;obtain⟨l,e1,e2,e3⟩:=inv.hr.at_ id hid ab hab;refine⟨l,st.ext _ _ e1,e2.mono st.ext (fun k hk=>hkeep _ (e2.tc hk)),fun hrw hon=>⟨(e3 hrw hon).1,fun id2 hid2 ab2 l2 f1 f2 f3=>?_⟩⟩;by_cases hI2:(M i).n≤id2∧id2<(M (i+1)).n
    ·exfalso;rw[(hin id2 hid2 hI2.1 hI2.2).1]at f1;have hfr:ab2.fr=true:=by
      cases hq:ab2.fr with
      | true=>rfl
      | false =>
        exfalso;rcases f3 with⟨_,h1,h2⟩|⟨h1,_⟩
        ·have h5:=(hnew id2 l2 f2 (hin id2 hid2 hI2.1 hI2.2).2).2 h1;have h6:=e2.tc (.inl ⟨AB.rw_on hrw,hon,rfl⟩);omega
        ·rw[h1]at hq;cases hq
     rcases st.tch _ ⟨id2,ab2,l2,hid2,f1,f2,hfr,f3⟩with h|⟨id0,ab0,l0,c1,c2,c3,_,c4⟩
     ·have:=e2.tc (.inl ⟨AB.rw_on hrw,hon,rfl⟩);omega
     ·have h7:=(e3 hrw hon).2 id0 c1 ab0 l0 (hsubv id0 c1 ab0 c2) c3 c4;subst h7;have h8:=hsubv id0 c1 ab0 c2;rw[hab]at h8;have h8:=A4 h8;subst h8;have h9:id0<mv.n∨m'.hi≤id0:=by
       rcases E9 id0 mv.n with h|h
       ·exact .inl h
       ·rcases E9 id0 m'.hi with h'|h'
        ·rw[hFree id0 h h']at e1;cases e1
        ·exact .inr h'
      have h10:=st.same id0 c1 (by rw[hW];simp) h9;rw[c2]at h10;obtain⟨_,h11⟩:=st.hr.atl (st.ext _ _ e1) h10
      have:=(h11 hrw hon).2 id2 hid2 ab2 l2 f1 f2 f3;subst this;exact hI hI2
    ·rw[hout id2 hI2]at f1;obtain⟨l3,c1,_⟩:=inv.hr.at_ id2 hid2 ab2 f1;rw[st.ext id2 l3 c1]at f2
     have:=A4 f2;subst this;exact(e3 hrw hon).2 id2 hid2 ab2 l3 f1 c1 f3
  ·cases hdd:o.dst<;>simp[Act.put,inv.tsz]
  ·rw[A1e];exact inv.dfr.congr st.ext fun _=>⟨rfl,rfl⟩
end
end Go.Sx
namespace Go.Sx
set_option linter.all false
open Go
set_option linter.unusedVariables false
set_option linter.unusedSimpArgs false
variable [Ora]
theorem B1T:∀ (l:List Bool) (i:Nat),l[i]? = some false→(l.set i true).countP (fun b=>!b)+1=l.countP (fun b=>!b)
 | [],i,h=>by simp at h
 | b::r,0,h=>by simp at h;subst h;simp
 | b::r,i+1,h=>by
   have:=B1T r i (by simpa using h);rw[List.set_cons_succ,List.countP_cons,List.countP_cons];omega
theorem B5j{l:List Bool}(h:l.countP (fun b=>!b)=0):∀ i,i<l.length→l[i]? = some true:=fun i hi=>by
 rw[List.countP_eq_zero]at h
 have:=h l[i] (O4 hi);rw[A3 hi];cases hb:l[i]with
 | true=>rfl
 | false=>rw[hb]at this;exact absurd rfl this
section
variable {P:Program} {base gl:Nat} {call:P4}
theorem B9e{m m' m2:Mem}(h:A35 m m'=some m2)(hhi:m.hi≤m'.hi):m.hi≤m2.hi:=by
 unfold A35 at h;cases hq:Nat.ble m'.hi m.n with
 | true=>rw[hq]at h;cases h;exact A5 _
 | false =>
   rw[hq]at h;obtain⟨_,h⟩:=A2 h;simp only[E1,A1P]at h;cases h;exact hhi
theorem A9z:∀ {n:Nat} {b:List Nat} {qs:Qs},B2q n b qs=true→∀ k,k<n→k ∈ b∨∃ q ∈ qs,q.1=k
 | 0,_,_,_,k,h=>by omega
 | n+1,b,qs,h,k,hk=>by
   obtain⟨h1,h2⟩:=B2 (show((v8 b n || qs.any fun q=>Nat.beq n q.1) && B2q n b qs)=true from h);by_cases e:k=n
   ·subst e;rcases I1 _ _▸h1 with h1|h1
    ·exact .inl (W7.1 h1)
    ·obtain⟨q,hq,hb⟩:=X0.1 h1;exact .inr ⟨q,hq,(A0 hb).symm⟩
   ·exact A9z h2 k (by omega)
theorem A9F:∀ {i:Nat} {bs:List (List Nat)} {r:List Oper},B2K i bs r=true→∀ (j:Nat) (c:List Nat) (o:Oper),bs[j]? = some c→r[j]? = some o→i ∈ c∨x6 o.op=true
 | _,[],_,_,j,c,o,h,_=>by simp at h
 | _,_::_,[],_,j,c,o,_,h=>by simp at h
 | i,c0::bs,o0::r,h,j,c,o,h1,h2=>by
   obtain⟨k1,k2⟩:=B2 (show((v8 c0 i || x6 o0.op) && B2K i bs r)=true from h);cases j with
   | zero =>
     simp at h1 h2;subst h1;subst h2;rcases I1 _ _▸k1 with k1|k1
     ·exact .inl (W7.1 k1)
     ·exact .inr k1
   | succ j=>exact A9F k2 j c o (by simpa using h1) (by simpa using h2)
theorem B1v{ops:Array Oper}{X:Nat→Qs}{i:Nat}{o:Oper}(h:C2I ops X i o=true):x6 o.op=false:=by
 obtain⟨h,_⟩:=B2 (show(wrO o.op && _)=true from h);cases ho:o.op<;>rw[ho]at h<;>first
  | rfl
  | cases h
theorem B48{ops:Array Oper}{X:Nat→Qs}{i:Nat}{o:Oper}(h:C2I ops X i o=true):∀ k,k<i→k ∈ (Z3 ops.toList []).getD i []∨∃ q ∈ X i,q.1=k:=by
 obtain⟨_,h⟩:=B2 (show(wrO o.op && _)=true from h);obtain⟨h,_⟩:=B2 h;exact A9z h
theorem B47{ops:Array Oper}{X:Nat→Qs}{i:Nat}{o:Oper}(h:C2I ops X i o=true):∀ j p,i<j→ops[j]? = some p→i ∈ (Z3 ops.toList []).getD j []∨x6 p.op=true:=fun j p hj hp=>by
 obtain⟨_,h⟩:=B2 (show(wrO o.op && _)=true from h);obtain⟨_,h⟩:=B2 h;obtain⟨tl,e1,e2,_⟩:=A7J ops.toList [];have hlen:(Z3 ops.toList []).length=ops.size:=by rw[e1];simpa using e2
 have hs:j<ops.size:=(C6.1 hp).1;have hj2:j<(Z3 ops.toList []).length:=by omega
 have:=A9F h (j-(i+1)) (Z3 ops.toList [])[j] p (by rw[F9,show i+1+(j-(i+1))=j by omega,A3 hj2]) (by rw[F9,show i+1+(j-(i+1))=j by omega];exact T6 hp);rw[B5,A3 hj2];exact this
theorem A6s(ops:Array Oper)(B:Nat→Bool):∀ (d lo:Nat),lo+d=ops.size→∃ up,lo≤up∧up≤ops.size∧(∀ i o,lo≤i→i<up→ops[i]? = some o→B i=false)∧(up<ops.size→∃ o,ops[up]? = some o∧B up=true)
 | 0,lo,h=>⟨lo,A5 _,by omega,fun i o h1 h2=>by omega,fun h2=>by omega⟩
 | d+1,lo,h=>by
   obtain⟨o,ho⟩:=Q4 (ops:=ops) (i:=lo) (by omega);cases hs:B lo with
   | true=>exact⟨lo,A5 _,by omega,fun i o h1 h2=>by omega,fun _=>⟨o,ho,hs⟩⟩
   | false =>
     obtain⟨up,h1,h2,h3,h4⟩:=A6s ops B d (lo+1) (by omega);refine⟨up,by omega,h2,fun i o' a b c=>?_,h4⟩;by_cases e:i=lo
     ·subst e;exact hs
     ·exact h3 i o' (by omega) b c
section
variable {nt:Nat} {ops:Array Oper} {F:Nat→Fr} {M:Nat→Mem} {V:Nat→Value} {R:Nat→List Rec} {X:Nat→Qs} {B:Nat→Bool} {lo up:Nat}
theorem Rg.frameUp(g:Rg P base gl nt call ops F M V R X B)(hnt:nt≤512){t:Tmp}(ht:t<nt){i:Nat}(hi:i≤ops.size):y5 (fun k=>Nat.blt k i) (fun k=>(ops[k]?).bind (·.dst)) V (F 0).get t ops.size=(F i).get t:=by
 rw[g.frame hnt ht i hi];have e2:∀ d,i+d≤ops.size→y5 (fun k=>Nat.blt k i) (fun k=>(ops[k]?).bind (·.dst)) V (F 0).get t (i+d)=y5 (fun k=>Nat.blt k i) (fun k=>(ops[k]?).bind (·.dst)) V (F 0).get t i:=by
  intro d;induction d with
  | zero=>intro _;rfl
  | succ d ih =>
    intro hd;rw[show i+(d+1)=(i+d)+1 by omega];rw[y5,if_neg (fun hh=>by have:i+d<i:=A1 hh.1;omega)];exact ih (by omega)
 have:=e2 (ops.size-i) (by omega)
 rwa[show i+(ops.size-i)=ops.size by omega]at this
theorem D0v{k i:Nat}:Nat.blt k i=true↔k<i:=⟨fun h=>A1 h,fun h=>C3 h⟩
theorem Rg.own(g:Rg P base gl nt call ops F M V R X B)(hn:nt≤510):∀ (i:Nat),i≤ops.size→(F i).get 510=(F 0).get 510∧(F i).get 511=(F 0).get 511
 | 0,_=>⟨rfl,rfl⟩
 | i+1,hi=>by
   obtain⟨o,ho⟩:=Q4 (ops:=ops) (i:=i) (by omega);obtain⟨d1,_,d3,_⟩:=g.st i o ho;have ih:=g.own hn i (by omega);have key:∀ t,510≤t→t<512→(F (i+1)).get t=(F i).get t:=fun t h1 h2=>by
    rw[d3];cases hd:o.dst with
    | none=>rfl
    | some d =>
      rw[hd]at d1;have hlt:d<nt:=A1 d1;show((F i).set d _).get t=_;rw[L1 _ _ _ _ (C7 hlt (by omega)) h2,if_neg (fun e=>by subst e;exact absurd hlt (Nat.not_lt.2 (B0 hn h1)))]
   exact⟨(key 510 (by decide) (by decide)).trans ih.1,(key 511 (by decide) (by decide)).trans ih.2⟩
theorem Rg.inX(g:Rg P base gl nt call ops F M V R X B):∀ (j:Nat),j≤ops.size→∀ q ∈ X j,q.1<j∧q ∈ X (q.1+1)∧∃ o,ops[q.1]? = some o∧A1F nt ops.toList (X4 P call o) ((Z3 ops.toList []).getD q.1 []) (R q.1) (F q.1) o (M q.1) (M (q.1+1)) (V q.1) q.2
 | 0,_,q,hq=>by rw[g.x0]at hq;cases hq
 | j+1,hj,q,hq=>by
   obtain⟨o,ho⟩:=Q4 (ops:=ops) (i:=j) (by omega);have old:q ∈ X j→q.1<j+1∧q ∈ X (q.1+1)∧∃ o,ops[q.1]? = some o∧A1F nt ops.toList (X4 P call o) ((Z3 ops.toList []).getD q.1 []) (R q.1) (F q.1) o (M q.1) (M (q.1+1)) (V q.1) q.2:=fun h=>by
    obtain⟨h1,h2⟩:=g.inX j (by omega) q h;exact⟨by omega,h2⟩
   rcases g.qs j o ho with⟨_,h,_⟩|⟨_,h⟩|⟨_,r,h,h2⟩
   ·exact old (h▸hq)
   ·exact old (h▸hq)
   ·have hq':=hq;rw[h]at hq;rcases B7.1 hq with e|e
    ·subst e;exact⟨I5 _,hq',o,ho,h2⟩
    ·exact old e
theorem B0r{all:List Oper}{op:OpC}{b:List Nat}{rs:List Rec}{fr:Fr}{o:Oper}{m m2:Mem}{v:Value}{r:Option (Nat×AB)}(h:A1F nt all op b rs fr o m m2 v r):∃ lg,m2=m.wLg lg:=by
 rcases h with⟨lg,_,_,h,_⟩|⟨_,lg2,_,_,h,_⟩
 ·exact⟨lg,h⟩
 ·exact⟨lg2,h⟩
theorem Rg.kind(g:Rg P base gl nt call ops F M V R X B){i:Nat}{o:Oper}(ho:ops[i]? = some o)(hk:x6 o.op=true):A1F nt ops.toList (X4 P call o) ((Z3 ops.toList []).getD i []) (R i) (F i) o (M i) (M (i+1)) (V i) none:=by
 obtain⟨_,_,_,h⟩:=g.st i o ho;have hf:B4E (M i).H (F i) o.op=none:=by
  cases hop:o.op<;>rw[hop]at hk<;>first|rfl|cases hk
 rcases h with⟨_,lg,h1,h2,h3⟩|⟨_,lg,lg2,h1,h2,h3⟩|⟨h,_⟩|⟨_,h,_⟩
 ·exact .inl ⟨lg,h1,h2,h3,rfl⟩
 ·exact .inr ⟨lg,lg2,h1,h2,h3,hf.symm⟩
 ·rw[B1v (g.sb i o ho h)]at hk;cases hk
 ·rw[hk]at h;cases h
theorem Rg.heap{z:Zn}(g:Rg P base gl nt call ops F M V R X B)(ph:Ph ops B M lo up){D:Nat→Bool}{ρL ρ:Ren}{a:Act}{wL w':World}(hD:∀ k,lo≤k→k<up→D k=false→∃ lg,M (k+1)=(M k).wLg lg)(inv:Inv z P base gl nt ops F M V lo up ρL wL D ρ a w'):St P base ρL ρ (M lo) (M up) wL w':=by
 have hG:∀ id,id≤G2→GD M lo up D id=Hp.get (M up).H id:=fun id hid=>by
  unfold GD;cases hu:A2N M (Dr lo D) id up with
  | true=>rfl
  | false =>
    simp only[cond_false];refine((g.all ph ph.le (A5 _)).2.2.2.2 id hid ?_).symm;rcases E9 id (M lo).n with h1|h1
    ·exact .inl h1
    ·rcases E9 id (M up).n with h2|h2
     ·exfalso;have hle:=ph.le;obtain⟨k,k0,k1,k2,k3⟩:=g.who ph (up-lo) (by omega) id h1 (by rw[show lo+(up-lo)=up by omega];exact h2);have hDk:D k=true:=by
       cases hq:D k with
       | true=>rfl
       | false =>
         obtain⟨lg,hm⟩:=hD k k0 (by omega) hq;rw[hm]at k3;have k3:id<(M k).n:=k3;omega
      rw[(U7 (M:=M) (D:=Dr lo D) up).2 ⟨k,by omega,Y7.2 ⟨k0,hDk⟩,k2,k3⟩]at hu;cases hu
     ·exact .inr h2
 have hall:=g.all ph ph.le (A5 _);refine⟨inv.ext,fun b l h1 h2=>?_,hall.1,hall.2.1,fun _=>hall.2.2.1,inv.hr.hr fun id hid ab hab=>by rw[hG id hid];exact hab,fun b hb=>by rw[hall.2.2.2.1];exact hb,fun b h1 h2=>by rw[hall.2.2.2.1]at h1;exact absurd h1 h2,
     fun k hk _=>inv.keep k hk,inv.size,inv.os,fun b l h1 h2 ho=>.inl ((inv.new b l h1 h2).2 ho),fun id hid h1 h2=>?_,fun k ⟨id,ab,l,e1,e2,e3,e4⟩=>inv.tch k ⟨id,ab,l,e1,(hG id e1).trans e2,e3,e4⟩⟩
 ·obtain⟨k,k1,kD,k2,k3⟩:=(U7 _).1 (inv.new b l h1 h2).1;have k0:=(Y7.1 kD).1;have e1:=(g.le ph (i:=lo) (j:=k) (A5 _) k0 (by omega)).1;have e2:=(g.le ph (i:=k+1) (j:=up) (by omega) (by omega) (A5 _)).1;omega
 ·refine hall.2.2.2.2 id hid ?_;rcases h2 with h2|h2
  ·exact .inl h2
  ·exact .inr (by have:=hall.2.2.1;omega)
theorem Rg.last{z:Zn}(g:Rg P base gl nt call ops F M V R X B)(hnt:nt≤512){D:Nat→Bool}{ρL ρ:Ren}{a:Act}{wL w':World}(hD:∀ i,i<ops.size→D i=true)(inv:Inv z P base gl nt ops F M V lo up ρL wL D ρ a w'):FrR z ρ nt (F ops.size) a:=by
 have hz:=inv.dfr.congr (fun _ _ h=>h) (fun hn=>g.own hn ops.size (A5 _));refine⟨inv.tsz,hnt,hz.1,hz.2,fun t ht=>?_⟩;have h1:=inv.frm t ht;rw[← g.frameUp hnt ht (A5 _)]
 rwa[A1o (D':=fun k=>Nat.blt k ops.size) ops.size (fun k hk _=>by rw[hD k hk];exact(D0v.2 hk).symm)]at h1
theorem Rg.fresh{z:Zn}(g:Rg P base gl nt call ops F M V R X B){D:Nat→Bool}{ρ:Ren}{a:Act}{w:World}(hD:∀ k,lo≤k→D k=true→∃ lg,M (k+1)=(M k).wLg lg)(hr:HR P base ρ (M lo).H w)(htsz:a.tmps.size=nt)(hdf:ZR z ρ nt (F 0) a.defers)
  (hfrm:∀ t,t<nt→VR ρ (y5 D (fun k=>(ops[k]?).bind (·.dst)) V (F 0).get t ops.size) (a.tmps.getD t undef)):Inv z P base gl nt ops F M V lo up ρ w D ρ a w:=by
 have hu:∀ b n,A2N M (Dr lo D) b n=false:=fun b n=>by
  cases hq:A2N M (Dr lo D) b n with
  | false=>rfl
  | true =>
    obtain⟨k,_,h,k2,k3⟩:=(U7 _).1 hq;obtain⟨h1,h2⟩:=Y7.1 h;obtain⟨lg,hm⟩:=hD k h1 h2;rw[hm]at k3;have k3:b<(M k).n:=k3;omega
 have hGD:∀ id ab,GD M lo up D id=some ab→Hp.get (M lo).H id=some ab:=fun id ab hab=>by
  unfold GD at hab;rw[hu]at hab;exact hab
 exact⟨fun _ _ h=>h,fun b l h1 h2=>(by rw[h1]at h2;cases h2),hr.f fun id hid ab hab=>hGD id ab hab,fun _ _=>rfl,A5 _,⟨rfl,rfl,rfl⟩,fun k ⟨id,ab,l,e1,e2,e3,e4⟩=>.inr ⟨id,ab,l,e1,hGD id ab e2,e3,e4⟩,htsz,hdf,hfrm⟩
theorem Rg.old{z:Zn}(g:Rg P base gl nt call ops F M V R X B)(ph:Ph ops B M lo up){ρ0:Ren}{w0:World}{D:Nat→Bool}(hat:At P base gl ρ0 (M lo) (M up).hi w0){b:Nat}{ab:AB}(hb:A9M (M lo).H b ab=true):GD M lo up D b=some ab:=by
 obtain⟨h1,hid⟩:=A9L hb;unfold GD;have hu:A2N M (Dr lo D) b up=false:=by
  cases hq:A2N M (Dr lo D) b up with
  | false=>rfl
  | true =>
    exfalso;obtain⟨k,k1,kD,k2,k3⟩:=(U7 _).1 hq;have k0:=(Y7.1 kD).1;obtain⟨l,e1,_⟩:=hat.hr.at_ b hid _ h1;have hk0:=g.le ph (i:=lo) (j:=k) (A5 _) k0 (by omega);have hkN:=g.le ph (i:=k+1) (j:=up) (by omega) (by omega) (A5 _);have hNn:=(g.all ph ph.le (A5 _)).2.2.1;rw[hat.fr b (by omega) (by omega)]at e1;cases e1
 rw[hu];exact h1
end
theorem C0a(hm:P.follows .mixedOrders=true)(hcall:V6 P base gl call):A1G P base gl call:=by
 refine⟨hm,?_⟩;intro nt ops hok s s' hrun;obtain⟨F,M,V,R,X,B,f1,f2,f3,f3',f4,f5,f6⟩:=C4E ops.toList 0 _ _ _ s s' hrun;simp only[E4,S2]at f4 f5 f6;have hmono:∀ i,i≤ops.size→∀ d,i+d≤ops.size→(M i).hi≤(M (i+d)).hi∧(M i).lg.le (M (i+d)).lg:=by
  intro i _ d;induction d with
  | zero=>intro _;exact⟨A5 _,.refl _⟩
  | succ d ih =>
    intro h;have h1:=ih (by omega);obtain⟨o,ho⟩:=Q4 (ops:=ops) (i:=i+d) (by omega);obtain⟨hst,_⟩:=f6 (i+d) o (T6 ho);refine⟨?_,h1.2.trans (B0c hcall hst)⟩;obtain⟨_,_,_,h2⟩:=hst;rcases h2 with⟨_,_,_,_,h2⟩|⟨_,_,_,_,_,h2⟩|⟨_,_,_,_,h2⟩|⟨_,_,_,_,mv,m',_,_,_,hhi,h2⟩
    ·show _≤(M (i+d+1)).hi;rw[h2];exact h1.1
    ·show _≤(M (i+d+1)).hi;rw[h2];exact h1.1
    ·exact B0 h1.1 h2
    ·exact B0 h1.1 (B9e h2 hhi)
 have hmono':∀ i j,i≤j→j≤ops.size→(M i).hi≤(M j).hi∧(M i).lg.le (M j).lg:=fun i j h1 h2=>by
  have:=hmono i (by omega) (j-i) (by omega)
  rwa[show i+(j-i)=j by omega]at this
 constructor
 ·have:=hmono' 0 ops.size (by omega) (A5 _);rw[f2,f5]at this;exact this
 ·intro z ρ0 a0 w id Q hSat hat hfr hQ;have g:Rg P base gl nt call ops F M V R X B:=⟨fun i o ho=>(f6 i o (T6 ho)).1,fun i o ho=>(f6 i o (T6 ho)).2.2.1,fun i o ho=>(f6 i o (T6 ho)).2.2.2,fun i o ho=>(f6 i o (T6 ho)).2.1,f3',hok⟩;have hsub:∀ i o,ops[i]? = some o→∀ e ∈ o.after.toList,Region.binds .any e=true→e.on<i:=fun i o ho=>by
   have:=(A2l _ 0 g.ok i o (T6 ho)).1;rw[E4]at this;exact A1q this
  refine A3m hm ?_;generalize hw1:({ w with drawn:=w.drawn+1 }:World)=w1;have hh1:w1.heap=w.heap:=by rw[← hw1]
  have ho1:w1.os=w.os∧w1.tape=w.tape∧w1.output=w.output:=by rw[← hw1];exact⟨rfl,rfl,rfl⟩
  have hat1:At P base gl ρ0 (M 0) (M ops.size).hi w1:=by
   rw[f2,f5];exact⟨⟨fun b l h=>hat.hr.dom b l h,fun id hid ab hab=>by
    obtain⟨l,e1,e2,e3⟩:=hat.hr.at_ id hid ab hab;exact⟨l,e1,e2.mono (fun _ _ h=>h) (fun _ _=>by rw[hh1]),e3⟩⟩,by rw[hh1];exact hat.bs,hat.fr,hat.gr,hat.nh,hat.wb,fun k o hk=>by rw[hh1];exact hat.gf k o hk⟩
  have hSatM:∀ i,i≤ops.size→Sat (M i).lg:=fun i hi=>R9.le hSat (by rw[← f5];exact(hmono' i ops.size hi (A5 _)).2)
  have hfree1:J6 ρ0 (M 0).n (M ops.size).hi:=hat1.fr;have fin:∀ (ρ:Ren) (a:Act) (w':World),FrR z ρ nt (F ops.size) a→St P base ρ0 ρ (M 0) (M ops.size) w1 w'→Q .normal a w':=fun ρ a w' hf st=>by
   refine hQ ρ a w' (by rw[← f4];exact hf) ?_;rw[← f2,← f5];exact⟨st.ext,st.new,st.nle,st.hle,st.nhi,st.hr,st.wsub,st.wrw,fun k hk hb=>by rw[st.keep k (by rw[hh1];exact hk) hb,hh1],by rw[← hh1];exact st.size,⟨st.os.1.trans ho1.1,st.os.2.1.trans ho1.2.1,st.os.2.2.trans ho1.2.2⟩,fun b l h1 h2 h3=>by rw[← hh1];exact st.blk b l h1 h2 h3,st.same,fun k hk=>by rw[← hh1];exact st.tch k hk⟩
  have main:∀ (fuel:Nat) (listed:Array Bool) (lo up:Nat) (ρL ρ:Ren) (a:Act) (wL w':World),listed.size=ops.size→listed.toList.countP (fun b=>!b)=fuel→A4d ops.toList (fun k=>listed.getD k false=true) →
    Ph ops B M lo up→(up<ops.size→∃ o,ops[up]? = some o∧B up=true)→St P base ρ0 ρL (M 0) (M lo) w1 wL→At P base gl ρL (M lo) (M ops.size).hi wL→(∀ q ∈ X lo,listed.getD q.1 false=false→C43 (M lo).H q.2=true)→(∀ k,k<lo→listed.getD k false=false→∃ q ∈ X lo,q.1=k)→(∀ k o,up≤k→ops[k]? = some o→listed.getD k false=true→x6 o.op=true) →
    Inv z P base gl nt ops F M V lo up ρL wL (fun k=>listed.getD k false) ρ a w'→A20 P z.rd .any ops Q fuel listed a w':=by
   have done:∀ (listed:Array Bool) (lo up:Nat) (ρL ρ:Ren) (a:Act) (wL w':World),(∀ i,i<ops.size→listed.getD i false=true)→Ph ops B M lo up→(up<ops.size→∃ o,ops[up]? = some o∧B up=true)→St P base ρ0 ρL (M 0) (M lo) w1 wL→(∀ k o,up≤k→ops[k]? = some o→listed.getD k false=true→x6 o.op=true) →
     Inv z P base gl nt ops F M V lo up ρL wL (fun k=>listed.getD k false) ρ a w'→Q .normal a w':=fun listed lo up ρL ρ a wL w' hall ph hsolo st0 hup0 inv=>by
    have hups:up=ops.size:=by
     rcases E9 up ops.size with h|h
     ·obtain⟨o,ho,hs⟩:=hsolo h
      have:=hup0 up o (A5 _) ho (hall up h);rw[B1v (g.sb up o ho hs)]at this;cases this
     ·have:=ph.sz;omega
    subst hups;exact fin ρ a w' (g.last hfr.le hall inv) (St.trans hfree1 st0 (g.heap ph (fun k _ h1 h2=>by have h2:listed.getD k false=false:=h2;rw[hall k h1]at h2;cases h2) inv))
   intro fuel;induction fuel with
   | zero =>
     intro listed lo up ρL ρ a wL w' hsz hcnt hcl ph hsolo st0 hatL hkf hlo0 hup0 inv;have hall:∀ i,i<ops.size→listed.getD i false=true:=fun i hi=>by
      have:=B5j hcnt i (by simpa [hsz]using hi);have h2:listed[i]? = some true:=by simpa using this
      simp[B3,h2]
     refine⟨?_,done listed lo up ρL ρ a wL w' hall ph hsolo st0 hup0 inv⟩;rw[A0a];intro j hj;obtain⟨h1,o,h2,_⟩:=mem_ready.1 hj;have hlt:j<ops.size:=(C6.1 h2).1;have h3:=hall j hlt;have hj2:j<listed.size:=by omega
     simp[B3,hj2]at h1 h3;rw[h1]at h3;cases h3
   | succ fuel ih =>
     intro listed lo up ρL ρ a wL w' hsz hcnt hcl ph hsolo st0 hatL hkf hlo0 hup0 inv;refine⟨fun hre=>?_,fun i hi=>?_⟩
     ·
      have key:∀ n i,i<n→i<ops.size→listed.getD i false=true:=by
       intro n;induction n with
       | zero=>intro i h;omega
       | succ n ihn =>
         intro i hin hil;by_cases h:i<n
         ·exact ihn i h hil
         ·cases hq:listed.getD i false with
          | true=>rfl
          | false =>
            exfalso;obtain⟨o,ho⟩:=Q4 (ops:=ops) hil;have hmem:i ∈ Region.ready .any ops listed:=mem_ready.2 ⟨by
             have hj2:i<listed.size:=by omega
             simp[B3,hj2]at hq ⊢;exact hq,o,ho,fun e he hb=>by
             have hlt:=hsub i o ho e (by simpa using he) hb;exact ihn e.on (by omega) (by omega)⟩
            rw[hre]at hmem;cases hmem
      exact done listed lo up ρL ρ a wL w' (fun i hi=>key (i+1) i (I5 i) hi) ph hsolo st0 hup0 inv
     ·obtain⟨h1,o,ho,h2⟩:=mem_ready.1 hi;have hil:i<ops.size:=(C6.1 ho).1;have hil2:i<listed.size:=by omega
      have h1':listed.getD i false=false:=by
       simp[B3,hil2]at h1 ⊢;exact h1
      have hother:∀ k,k≠i→(listed.setIfInBounds i true).getD k false=listed.getD k false:=fun k hk=>by
       simp only[B3,E8];rw[if_neg (fun e=>hk e.symm)]
      have hself:(listed.setIfInBounds i true).getD i false=true:=by
       simp[B3,E8,hil2]
      have hr:∀ e ∈ o.after.toList,Region.binds .any e=true→listed.getD e.on false=true:=fun e he hb=>h2 e (by simpa using he) hb
      have hsz':(listed.setIfInBounds i true).size=ops.size:=by simpa using hsz
      have hcnt':(listed.setIfInBounds i true).toList.countP (fun b=>!b)=fuel:=by
       have hg:listed.toList[i]? = some false:=by
        simp[B3,hil2]at h1';simp[hil2,h1']
       have:=B1T listed.toList i hg;rw[Array.toList_setIfInBounds];omega
      have hcl':A4d ops.toList (fun k=>(listed.setIfInBounds i true).getD k false=true):=by
       intro k o' ho' hk e he hb;by_cases e1:e.on=i
       ·rw[e1];exact hself
       ·show(listed.setIfInBounds i true).getD e.on false=true;rw[hother e.on e1];by_cases e2:k=i
        ·subst e2;have:ops.toList[k]? = some o:=T6 ho;rw[this]at ho';cases ho';exact hr e he hb
        ·have hk:(listed.setIfInBounds i true).getD k false=true:=hk;rw[hother k e2]at hk;exact hcl k o' ho' hk e he hb
      have hanc:∀ k,k ∈ (Z3 ops.toList []).getD i []→listed.getD k false=true:=fun k hk=>A91 hcl (fun i o ho=>by
        have:=(A2l _ 0 g.ok i o ho).1;rw[E4]at this;exact A1q this) (i+1) i k o (I5 i) (T6 ho) hr hk
      have hlt:∀ k,listed.getD k false=true→k<ops.size:=fun k hk=>by
       rcases E9 k ops.size with h|h
       ·exact h
       ·have hn:listed[k]? = none:=Array.getElem?_eq_none_iff.2 (by omega);rw[B3,hn]at hk;cases hk
      have hatU:At P base gl ρL (M lo) (M up).hi wL:=hatL.less (hmono' up ops.size ph.sz (A5 _)).1;have go:∀ (ρ':Ren) (a':Act) (w'':World),(up≤i→x6 o.op=true)→Inv z P base gl nt ops F M V lo up ρL wL (fun k=>(listed.setIfInBounds i true).getD k false) ρ' a' w''→A20 P z.rd .any ops Q fuel (listed.setIfInBounds i true) a' w'':=fun ρ' a' w'' hq inv' =>
       ih (listed.setIfInBounds i true) lo up ρL ρ' a' wL w'' hsz' hcnt' hcl' ph hsolo st0 hatL (fun q hq hn=>hkf q hq (by
        by_cases e:q.1=i
        ·rw[e,hself]at hn;cases hn
        ·rw[hother _ e]at hn;exact hn)) (fun k hk hn=>by
        by_cases e:k=i
        ·subst e;rw[hself]at hn;cases hn
        ·rw[hother k e]at hn;exact hlo0 k hk hn) (fun k p hk hp hl=>by
        by_cases e:k=i
        ·subst e;rw[ho]at hp;cases hp;exact hq hk
        ·rw[hother k e]at hl;exact hup0 k p hk hp hl) inv'
      have quiet:∀ r,(up≤i→x6 o.op=true)→A1F nt ops.toList (X4 P call o) ((Z3 ops.toList []).getD i []) (R i) (F i) o (M i) (M (i+1)) (V i) r→(∀ b ab,r=some (b,ab)→GD M lo up (fun k=>listed.getD k false) b=some ab)→A2Y P z.rd ops Q i (fun a' w''=>A20 P z.rd .any ops Q fuel (listed.setIfInBounds i true) a' w'') a w':=fun r hq hqa hfz =>
       g.quiet hcall hatU (hSatM (i+1) (by omega)) hfr.le inv hcl hlt ho h1' hr hother hself hqa hfz fun ρ' a' w'' inv'=>go ρ' a' w'' hq inv'
      rcases E9 i lo with hil0|hil0
      ·
       obtain⟨q,hqm,hqi⟩:=hlo0 i hil0 h1';obtain⟨_,_,p,hp,hqa⟩:=g.inX lo (by have:=ph.sz;have:=ph.le;omega) q hqm;rw[hqi]at hp hqa;rw[ho]at hp;cases hp;refine quiet q.2 (fun h=>by have:=ph.le;omega) hqa fun b ab hb=>?_
       refine g.old (z:=z) ph hatU ?_
       have:=hkf q hqm (by rw[hqi];exact h1');rw[hb]at this;exact this
      ·rcases E9 i up with hiu|hiu
       ·
        by_cases hex:∃ r,A1F nt ops.toList (X4 P call o) ((Z3 ops.toList []).getD i []) (R i) (F i) o (M i) (M (i+1)) (V i) r
        ·obtain⟨r,hqa⟩:=hex;refine quiet r (fun h=>by omega) hqa fun b ab hb=>?_
         rcases hqa with⟨_,_,_,_,hrn⟩|⟨lg,lg2,hw,hq,hm,hrr⟩
         ·rw[hrn]at hb;cases hb
         ·obtain⟨mv,m',hview,_⟩:=A3y hq;obtain⟨h3,h4⟩:=(A6o hview).2.2.2.2.2 b ab (hrr.symm.trans hb);obtain⟨h5,h6⟩:=A9L h3;exact g.see (z:=z) (a:=a) (ρ:=ρ) (w:=w') ph hatU hcl hil0 hiu ho hr b h6 _ h5 h4
        ·exact g.step ph hcall hatU (hSatM up ph.sz) hfr.le inv hcl hlt hil0 hiu ho h1' hr hother hself hex fun ρ' a' w'' inv'=>go ρ' a' w'' (fun h=>by omega) inv'
       ·obtain⟨os,hos,hso⟩:=hsolo (by omega);rcases E9 up i with hgt|hge
        ·
         have hk:x6 o.op=true:=by
          rcases B47 (g.sb up os hos hso) i o hgt ho with h|h
          ·have h3:=hup0 up os (A5 _) hos (hanc up h);rw[B1v (g.sb up os hos hso)]at h3;cases h3
          ·exact h
         exact quiet none (fun _=>hk) (g.kind ho hk) fun b ab hb=>by cases hb
        ·
         have hiup:i=up:=by omega
         subst hiup;rw[ho]at hos;cases hos;have hquiet:∀ k,k<i→listed.getD k false=false→∃ q ∈ X i,q.1=k:=fun k hk hn=>by
          rcases B48 (g.sb i o ho hso) k hk with h|h
          ·rw[hanc k h]at hn;cases hn
          ·exact h
         have q2:=g.heap ph (fun k _ hk hn=>by
          obtain⟨q,hq,e⟩:=hquiet k hk hn;obtain⟨_,_,p,hp,hqa⟩:=g.inX i (by omega) q hq;rw[e]at hqa;exact B0r hqa) inv
         have st1:St P base ρ0 ρ (M 0) (M i) w1 w':=St.trans (hfree1.less (hmono' i ops.size (by omega) (A5 _)).1) st0 q2;have hat2:At P base gl ρ (M i) (M ops.size).hi w':=hatL.step q2;obtain⟨d1,d2,d3,hst⟩:=g.st i o ho;have hlook:∀ t,t ∈ V8 ops.toList o→t<nt→VR ρ ((F i).get t) (a.tmps.getD t undef):=fun t ht htn=>by
          rw[← g.look hfr.le hcl hlt ho h1' hr ht htn];exact inv.frm t htn
         have hFR:FR ρ (F i) a.eval o.op:=fun x hx=>by
          have hok:okX nt gl x=true:=D0.1 d2 x hx;cases x with
          | tmp t=>exact hlook t (A8f hx rfl) (A1 hok)
          | const v=>exact VR.ofC hok
          | global gg=>exact VR.ptr (o:=0) (hat2.gr gg (A1 hok))
          | func f=>exact .func (a:=[]) (b:=[]) (a':=[]) (b':=[]) rfl rfl (fun i v v' h=>by simp at h) (fun i v v' h=>by simp at h)
         have hwant:∀ lg b,A0M nt (F i) (M i).lg ops.toList o=some (b,lg)→Sat lg→Region.wanted o (yielded ops a.tmps)=b:=fun lg b hw hSl=>by
          unfold A0M at hw;split at hw
          ·rename_i hg;cases hw;simp[Region.wanted,hg]
          ·rename_i j want hg;split at hw
           ·rename_i p hp;split at hw
            ·rename_i t ht;obtain⟨h1,h2⟩:=A2 hw;have h1:t<nt:=A1 h1;have hv:=hlook t (by
              unfold V8;refine B1.2 (.inr (B1.2 (.inr ?_)));simp[hg,hp,ht]) h1
             exact A4e hg hp ht (by rw[inv.tsz];exact h1) (A5j h2 hv hSl)
            ·cases hw
           ·cases hw
         have hframe:∀ (ρ':Ren) (v':Value),(∀ b l,ρ b=some l→ρ' b=some l)→VR ρ' (V i) v'→∀ t,t<nt→VR ρ' (y5 (fun k=>(listed.setIfInBounds i true).getD k false) (fun k=>(ops[k]?).bind (·.dst)) V (F 0).get t ops.size) ((a.put o.dst v').tmps.getD t undef):=fun ρ' v' he hv t ht=>by
          by_cases hd:o.dst=some t
          ·have hnext:∀ k,i<k→k<ops.size→(ops[k]?).bind (·.dst)=some t→listed.getD k false=false:=fun k hik hk hkd=>by
            obtain⟨p,hp⟩:=Q4 (ops:=ops) hk;rw[hp]at hkd
            have:=g.slot hcl hlt ho h1' hr (t:=t) (by unfold V8;simp[hd]) k p hp (by omega) hkd;cases hq:listed.getD k false with
            | false=>rfl
            | true=>have:=this.1 hq;omega
           rw[A6P (D:=fun k=>listed.getD k false) hother hself ops.size hil (by simp[ho,hd]) hnext];simp only[hd,Act.put,B3];rw[E8,if_pos rfl,if_pos (by rw[inv.tsz];exact ht)];exact hv
          ·rw[A5R (D:=fun k=>listed.getD k false) hother (by simp[ho];exact hd)];have h1:=(inv.frm t ht).mono he;cases hdd:o.dst with
           | none=>exact h1
           | some d =>
             have hne:d≠t:=fun e=>hd (e▸hdd)
             simp only[Act.put,B3]at h1 ⊢;rw[E8,if_neg hne];exact h1
         have hX:X (i+1)=X i∧B9u ((Z3 ops.toList []).getD i []) (M (i+1)).H (X i)=true:=by
          rcases g.qs i o ho with⟨_,h3,h4⟩|⟨h3,_⟩|⟨h3,_⟩
          ·exact⟨h3,h4⟩
          ·rw[hso]at h3;cases h3
          ·rw[hso]at h3;cases h3
         have hnext:∀ (ρ':Ren) (v':Value) (w'':World),VR ρ' (V i) v'→St P base ρ ρ' (M i) (M (i+1)) w' w''→A20 P z.rd .any ops Q fuel (listed.setIfInBounds i true) (a.put o.dst v') w'':=fun ρ' v' w'' hv st2=>by
          obtain⟨up',u1,u2,u3,u4⟩:=A6s ops B (ops.size-(i+1)) (i+1) (by omega);have hat3:=hat2.step st2;refine ih (listed.setIfInBounds i true) (i+1) up' ρ' ρ' _ w'' w'' hsz' hcnt' hcl' ⟨u1,u2,hat3.nh,u3⟩ u4 (St.trans (hfree1.less (hmono' (i+1) ops.size (by omega) (A5 _)).1) st1 st2) hat3 (fun q hq hn=>?_) (fun k hk hn=>?_) (fun k p hk hp hl=>?_)
           (g.fresh (fun k hk hl=>?_) st2.hr ?_ ?_ (hframe ρ' v' st2.ext hv))
          ·rw[hX.1]at hq;have h5:=D0.1 hX.2 q hq;rcases I1 _ _▸h5 with h5|h5
           ·exfalso;have h6:=hanc q.1 (W7.1 h5);by_cases e:q.1=i
            ·rw[e,h1']at h6;cases h6
            ·rw[hother _ e,h6]at hn;cases hn
           ·exact h5
          ·rw[hX.1];by_cases e:k=i
           ·subst e;rw[hself]at hn;cases hn
           ·rw[hother k e]at hn;exact hquiet k (by omega) hn
          ·rw[hother k (by omega)]at hl;exact hup0 k p (by omega) hp hl
          ·have hl:(listed.setIfInBounds i true).getD k false=true:=hl;rw[hother k (by omega)]at hl;obtain⟨p,hp⟩:=Q4 (ops:=ops) (hlt k hl);exact B0r (g.kind hp (hup0 k p (by omega) hp hl))
          ·cases hdd:o.dst<;>simp[Act.put,inv.tsz]
          ·rw[A1e];exact inv.dfr.congr st2.ext fun _=>⟨rfl,rfl⟩
         unfold A2Y;simp only[ho];rcases hst with⟨hso2,_⟩|⟨hso2,_⟩|⟨_,lg,hw,hrun2,hhi⟩|⟨hso2,_⟩
         ·rw[hso]at hso2;cases hso2
         ·rw[hso]at hso2;cases hso2
         ·have hSm:=hSatM (i+1) (by omega);have hSl:Sat lg:=R9.le hSm (by have:=x4 hcall hrun2;rw[l5]at this;exact this);rw[hwant lg true hw hSl];simp only[if_true];have hat4:At P base gl ρ ((M i).wLg lg) (M (i+1)).hi w':=(hat2.wLg lg).less (hmono' (i+1) ops.size (by omega) (A5 _)).1;refine A5w hcall hrun2 hSm hat4 hFR fun v' ρ' w'' hv st2=>hnext ρ' v' w'' hv ?_
          have hst3:=St.wLg (m:=M i) hat2.hr lg;exact St.trans (by have:=hat2.fr;exact this.less (hmono' (i+1) ops.size (by omega) (A5 _)).1) hst3 st2
         ·rw[hso]at hso2;cases hso2
  obtain⟨up,u1,u2,u3,u4⟩:=A6s ops B ops.size 0 (by omega);have hD0:∀ k,(Array.replicate ops.size false).getD k false=false:=fun k=>by
   simp only[B3,A2X];split<;>simp
  refine main ops.size _ 0 up ρ0 ρ0 a0 w1 w1 (by simp) (by simp[List.countP_replicate]) (fun k o ho hk=>by have hk:(Array.replicate ops.size false).getD k false=true:=hk;rw[hD0 k]at hk;cases hk) ⟨u1,u2,hat1.nh,u3⟩ u4 (St.refl hat1.hr) hat1 (fun q hq=>by rw[g.x0]at hq;cases hq) (fun k hk=>by omega) (fun k o hk ho hl=>by rw[hD0 k]at hl;cases hl)
   (g.fresh (fun k _ hl=>by have hl:(Array.replicate ops.size false).getD k false=true:=hl;rw[hD0 k]at hl;cases hl) hat1.hr hfr.size (by rw[f1];exact hfr.zr) fun t ht=>?_)
  have h0:∀ n,y5 (fun k=>(Array.replicate ops.size false).getD k false) (fun k=>(ops[k]?).bind (·.dst)) V (F 0).get t n=(F 0).get t:=by
   intro n;induction n with
   | zero=>rfl
   | succ n ihn=>rw[y5,if_neg (fun hh=>by rw[hD0 n]at hh;exact absurd hh.1 (by simp)),ihn]
  rw[h0,f1];exact hfr.get t ht
end
end Go.Sx
namespace Go.Sx
set_option linter.all false
open Go
set_option linter.unusedVariables false
set_option linter.unusedSimpArgs false
variable [Ora]
section
variable {P:Program} {base gl:Nat}
theorem A8P{f:FuncId}{fn:Func}{e:Array Value→Sem Value}{args:Array Value}{w w':World}{v:Value}(hf:P.funcs[f]? = some fn)(hnm:(fn.name == "runtime.NumGoroutine")=false)(hb:fn.body=none)(hn:Extern.findNext fn=none)(he:Extern.find fn=some e)
  (hr:(e args).run P w=.ok v w'):(callFunc f args).run P w=.ok (.value v) w':=by
 have hnm':fn.name ≠ "runtime.NumGoroutine":=by simpa using hnm
 simp[callFunc,Sem.run_bind,run_program,Result.andThen,hf,hnm',hb,hn,he,mark,Sem.run,hr]
theorem A4K{k:EK}{vs:List Value}{m m':Mem}{v:Value}(h:A5V k vs m=some (v,m')) :
  (k=.noEscape∧vs=[v]∧m'=m) ∨
  (k=.indexByteString∧∃ s c,vs=[.string s,.int .u8 (.ofNat c)]∧v=.int .i64 (A63 s.data.toList (UInt8.ofNat c) 0)∧m'=m) ∨
  (k=.countString∧∃ s c,vs=[.string s,.int .u8 (.ofNat c)]∧v=.int .i64 (countB (UInt8.ofNat c) s.data.toList 0)∧m'=m) ∨
  (∃ e n,k=.makeNoZero e∧vs=[.int .i64 (.ofNat n)]∧n≤1000000000∧e9 m (.cells [] e false) (fun b=>.slice (some ⟨b,0,none⟩) n M0)=some (v,m')):=by
 unfold A5V at h;split at h
 ·cases h;exact .inl ⟨rfl,rfl,rfl⟩
 ·cases h;exact .inr (.inl ⟨rfl,_,_,rfl,rfl,rfl⟩)
 ·cases h;exact .inr (.inr (.inl ⟨rfl,_,_,rfl,rfl,rfl⟩))
 ·obtain⟨h1,h⟩:=A2 h;exact .inr (.inr (.inr ⟨_,_,rfl,rfl,A1 h1,h⟩))
 ·cases h
theorem A8Q{k:EK}{vs:List Value}{m m':Mem}{v:Value}(h:(FnC.mk (A5V k)).run vs m=some (v,m')):m.lg.le m'.lg:=by
 have h:A5V k vs m=some (v,m'):=h;rcases A4K h with⟨_,_,rfl⟩|⟨_,_,_,_,_,rfl⟩|⟨_,_,_,_,_,rfl⟩|⟨_,_,_,_,_,h⟩
 ·exact .refl _
 ·exact .refl _
 ·exact .refl _
 ·obtain⟨_,_,rfl⟩:=L4 h;exact .refl _
theorem B3o{f:FuncId}{fn:Func}(hf:P.funcs[f]? = some fn)(hnm:(fn.name == "runtime.NumGoroutine")=false)(hb:fn.body=none)(hn:Extern.findNext fn=none)(he:Extern.find fn=some Extern.AbiNoEscape.same):A3j P base gl f ⟨A5V .noEscape⟩:=by
 refine⟨fun vs m m' v hr=>A8Q hr,?_⟩;intro ρ m m' w vs vs' v hr hS hat hl;have hr:A5V .noEscape vs m=some (v,m'):=hr;rcases A4K hr with⟨_,rfl,rfl⟩|⟨h,_⟩|⟨h,_⟩|⟨_,_,h,_⟩
 ·obtain⟨v',r',rfl,h1,h2⟩:=hl.tail;cases h2.nil_inv;exact .inr ⟨v',ρ,w,A8P hf hnm hb hn he rfl,h1,.refl hat.hr⟩
 ·cases h
 ·cases h
 ·cases h
theorem B1F(c:UInt8):∀ (l:List UInt8) (k:Nat),A63 l c k=if Lib.indexByte l c == -1 then -1 else Lib.indexByte l c+k
 | [],k=>rfl
 | x::r,k=>by
   have hg:=Lib.indexByte_ge r c;have ih:=B1F c r (k+1);rw[A63,Lib.indexByte];by_cases e:x=c
   ·subst e;simp
   ·have e1:(x == c)=false:=by simpa using e
    simp only[e1,decide_eq_false e,cond_false];rw[ih];by_cases h:Lib.indexByte r c = -1
    ·simp[h]
    ·have h2:(Lib.indexByte r c == -1)=false:=by simpa using h
     have h3:(Lib.indexByte r c+1 == -1)=false:=by simp;omega
     simp only[h2,h3,I2,if_false];omega
theorem B5Z(c:UInt8)(l:List UInt8):A63 l c 0=Lib.indexByte l c:=by
 rw[B1F];by_cases h:Lib.indexByte l c = -1
 ·simp[h]
 ·have h2:(Lib.indexByte l c == -1)=false:=by simpa using h
  simp[h2]
theorem A5W(c:UInt8):∀ (l:List UInt8) (n:Nat),countB c l n=n+l.count c
 | [],n=>rfl
 | x::r,n=>by
   rw[countB,List.count_cons];by_cases e:x=c
   ·subst e;simp only[decide_true,cond_true,E1,beq_self_eq_true,if_true];rw[A5W x r (n+1)];omega
   ·have e1:(x == c)=false:=by simpa using e
    simp only[decide_eq_false e,cond_false,e1,I2,if_false];rw[A5W c r n];omega
theorem B2Q{f:FuncId}{fn:Func}(hf:P.funcs[f]? = some fn)(hnm:(fn.name == "runtime.NumGoroutine")=false)(hb:fn.body=none)(hn:Extern.findNext fn=none)(he:Extern.find fn=some Extern.BytealgIndexByte.indexByte):A3j P base gl f ⟨A5V .indexByteString⟩:=by
 refine⟨fun vs m m' v hr=>A8Q hr,?_⟩;intro ρ m m' w vs vs' v hr hS hat hl;have hr:A5V .indexByteString vs m=some (v,m'):=hr;rcases A4K hr with⟨h,_⟩|⟨_,s,c,rfl,rfl,rfl⟩|⟨h,_⟩|⟨_,_,h,_⟩
 ·cases h
 ·obtain⟨v1,r1,rfl,h1,h2⟩:=hl.tail;obtain⟨v2,r2,rfl,h3,h4⟩:=h2.tail;cases h4.nil_inv;cases V9 h1;cases I6 h3;refine .inr ⟨_,ρ,w,A8P hf hnm hb hn he (Lib.run_indexByteString s (.ofNat c) w),?_,.refl hat.hr⟩;rw[B5Z];exact .pure rfl
 ·cases h
 ·cases h
theorem A9l{f:FuncId}{fn:Func}(hf:P.funcs[f]? = some fn)(hnm:(fn.name == "runtime.NumGoroutine")=false)(hb:fn.body=none)(hn:Extern.findNext fn=none)(he:Extern.find fn=some Extern.BytealgCount.count):A3j P base gl f ⟨A5V .countString⟩:=by
 refine⟨fun vs m m' v hr=>A8Q hr,?_⟩;intro ρ m m' w vs vs' v hr hS hat hl;have hr:A5V .countString vs m=some (v,m'):=hr;rcases A4K hr with⟨h,_⟩|⟨h,_⟩|⟨_,s,c,rfl,rfl,rfl⟩|⟨_,_,h,_⟩
 ·cases h
 ·cases h
 ·obtain⟨v1,r1,rfl,h1,h2⟩:=hl.tail;obtain⟨v2,r2,rfl,h3,h4⟩:=h2.tail;cases h4.nil_inv;cases V9 h1;cases I6 h3;refine .inr ⟨_,ρ,w,A8P hf hnm hb hn he (Lib.run_countString s (.ofNat c) w),?_,.refl hat.hr⟩;rw[A5W,E4];exact .pure rfl
 ·cases h
theorem B0O{f:FuncId}{fn:Func}{ps:Array TypeId}{t e:TypeId}(hf:P.funcs[f]? = some fn)(hnm:(fn.name == "runtime.NumGoroutine")=false)(hb:fn.body=none)(hn:Extern.findNext fn=none)(he:Extern.find fn=some (Extern.BytealgMakeNoZero.makeNoZero ps #[t]))
  (hu:P.underlying t=some (.slice e)) (hi:(P.info? e).map (·.size)=some 1):A3j P base gl f ⟨A5V (.makeNoZero e)⟩:=by
 refine⟨fun vs m m' v hr=>A8Q hr,?_⟩;intro ρ m m' w vs vs' v hr hS hat hl;have hr:A5V (.makeNoZero e) vs m=some (v,m'):=hr;rcases A4K hr with⟨h,_⟩|⟨h,_⟩|⟨h,_⟩|⟨e',n,h,rfl,hn9,hr⟩
 ·cases h
 ·cases h
 ·cases h
 ·cases h;obtain⟨v1,r1,rfl,h1,h2⟩:=hl.tail;cases h2.nil_inv;cases I6 h1;obtain⟨cs,hrun,hle,_⟩:=Lib.run_makeNoZero (P:=P) w ps t e hu n (by omega);obtain⟨e1,e2,e3⟩:=A1L (wd:=w.drew.drew) (fz:=(0,0)) (cap:=cs.size) (C:=cs) (cs':=[]) hat.hr hat.bs hr hat.fr (.nil) (fun i u hi=>by simp at hi) NF.zero
   (fun inf h2=>by rw[h2]at hi;have hi:some inf.size=some 1:=hi;have hi:=A4 hi;rw[hi];omega) ⟨rfl,rfl,rfl⟩ rfl
  refine .inr ⟨_,_,_,A8P hf hnm hb hn he hrun,?_,e3⟩;rw[e1]
  have:=VR.op (ρ:=upd ρ m.n (lc w.heap.size 0 cs.size)) (b:=m.n) (o:=0) (n:=n) (m:=M0) (m':=cs.size) e2 (A5 _) hle (fun _ _=>rfl)
  simpa using this
end
end Go.Sx
namespace Go.Sx
set_option linter.all false
open Go
set_option linter.unusedVariables false
variable [Ora]
structure A99 (P:Program) (f:FuncId) (k:EK):Prop where
 row:∃ fn,P.funcs[f]? = some fn∧(fn.name == "runtime.NumGoroutine")=false∧fn.body=none∧Extern.findNext fn=none ∧
  ((k=.noEscape∧Extern.find fn=some Extern.AbiNoEscape.same)∨(k=.indexByteString∧Extern.find fn=some Extern.BytealgIndexByte.indexByte)∨(k=.countString∧Extern.find fn=some Extern.BytealgCount.count) ∨
    (∃ e ps t,k=.makeNoZero e∧Extern.find fn=some (Extern.BytealgMakeNoZero.makeNoZero ps #[t])∧P.underlying t=some (.slice e)∧(P.info? e).map (·.size)=some 1))
theorem A99.ok{P:Program}{f:FuncId}{k:EK}{base gl:Nat}(h:A99 P f k):A3j P base gl f ⟨A5V k⟩:=by
 obtain⟨fn,h1,h2,h3,h4,h5⟩:=h.row;rcases h5 with⟨rfl,h5⟩|⟨rfl,h5⟩|⟨rfl,h5⟩|⟨e,ps,t,rfl,h5,h6,h7⟩
 ·exact B3o h1 h2 h3 h4 h5
 ·exact B2Q h1 h2 h3 h4 h5
 ·exact A9l h1 h2 h3 h4 h5
 ·exact B0O h1 h2 h3 h4 h5 h6 h7
theorem B1M:∀ {l:List (FuncId×EK)} {f:FuncId} {k:EK},B4K l f=some k→(f,k) ∈ l
 | (g,j)::r,f,k,h=>by
   rw[B4K]at h;cases e:Nat.beq g f with
   | true =>
     rw[e]at h;cases h;rw[A0 e];exact .head _
   | false =>
     rw[e]at h;exact .tail _ (B1M h)
theorem C3Q{P:Program}{ext:List (FuncId×EK)}{gl base:Nat}{con:FuncId→Option FnC}{lp:FuncId→LpT}(hm:P.follows .mixedOrders=true)(hn:B20 P)(he:∀ p ∈ ext,A99 P p.1 p.2)
  (hc:∀ f c,con f=some c→A3j P base gl f c) (hl:∀ f fn body,P.funcs[f]? = some fn→fn.body=some body→B5y P base gl fn.ntmps body (lp f)) :
  C3o ⟨P,ext,gl,con,lp⟩ base :=
 { names:=hn,ext:=fun f k fn _ _ h=>(he _ (B1M h)).ok,con:=hc,lp:=hl,draws:=fun _ h=>C0a hm h }
end Go.Sx
namespace Go.Sx
set_option linter.all false
open Go
set_option linter.unusedVariables false
set_option linter.unusedSimpArgs false
inductive Sh where
 | s (t:Nat)
 | a (ts:List Nat)
def B27(t:Nat)(u:U):Option Value:=if F1 u=t then toV u else none
def B7Q:List Nat→List U→Option (List Value×List U)
 | [],us=>some ([],us)
 | t::ts,u::us=>match B27 t u,B7Q ts us with
   | some v,some (vs,r)=>some (v::vs,r)
   | _,_=>none
 | _::_,[]=>none
def B26:Sh→List U→Option (Value×List U)
 | .s t,u::us=>match B27 t u with
   | some v=>some (v,us)
   | none=>none
 | .s _,[]=>none
 | .a ts,us=>match B7Q ts us with
   | some (vs,r)=>some (.agg ⟨vs⟩,r)
   | none=>none
def B7P:List Sh→List U→Option (List Value)
 | [],[]=>some []
 | [],_::_=>none
 | h::hs,us=>match B26 h us with
   | some (v,r)=>match B7P hs r with
     | some vs=>some (v::vs)
     | none=>none
   | none=>none
def tup:List Value→Value
 | [v]=>v
 | vs=>.tuple ⟨vs⟩
structure A4c (w w':World):Prop where
 os:w'.os=w.os∧w'.tape=w.tape∧w'.output=w.output
 size:w.heap.size≤w'.heap.size
 keep:∀ k,k<w.heap.size→w'.heap[k]? = w.heap[k]?
def GOk(G:Nat→Option Obj)(w:World):Prop:=∀ k o,G k=some o→w.heap[k]? = some o
theorem GOk.lt{G:Nat→Option Obj}{w:World}(h:GOk G w){k:Nat}{o:Obj}(hk:G k=some o):k<w.heap.size:=by
 have:=h k o hk;rcases E9 k w.heap.size with h1|h1
 ·exact h1
 ·rw[Array.getElem?_eq_none h1]at this;cases this
abbrev A0L:=List U→Option (Nat×List U)
def Sh.tags:Sh→List Nat
 | .s t=>[t]
 | .a ts=>ts
def B0b:List Sh→List Nat
 | []=>[]
 | s::ss=>s.tags++B0b ss
def Sh.n(s:Sh):Nat:=s.tags.length
def shN:List Sh→Nat
 | []=>0
 | h::hs=>h.n+shN hs
def A4P(ss:List Sh):Bool:=(B0b ss).any (Nat.ble 10)
inductive ShR (R:Nat→Option Obj):Sh→List U→Value→Prop
 | s {t u v} (h:Enc R u v) (ht:F1 u=t):ShR R (.s t) [u] v
 | a {ts us cs} (h:Z4 R us cs) (ht:us.map F1=ts):ShR R (.a ts) us (.agg ⟨cs⟩)
inductive ShL (R:Nat→Option Obj):List Sh→List U→List Value→Prop
 | nil:ShL R [] [] []
 | cons {s ss us us2 v vs} (h:ShR R s us v) (k:ShL R ss us2 vs):ShL R (s::ss) (us++us2) (v::vs)
theorem Z4.append{R:Nat→Option Obj}{us us2:List U}{vs vs2:List Value}(h:Z4 R us vs)(k:Z4 R us2 vs2):Z4 R (us++us2) (vs++vs2):=by
 refine⟨by simp[h.1,k.1],fun i u v h1 h2=>?_⟩;rcases E9 i us.length with hl|hl
 ·rw[E0 hl]at h1;rw[E0 (h.1▸hl)]at h2;exact h.2 i u v h1 h2
 ·rw[D1 hl]at h1;rw[D1 (h.1▸hl),← h.1]at h2;exact k.2 _ u v h1 h2
theorem Z4.split{R:Nat→Option Obj}:∀ {vs vs2:List Value} {us:List U},Z4 R us (vs++vs2)→∃ a b,us=a++b∧Z4 R a vs∧Z4 R b vs2
 | [],vs2,us,h=>⟨[],us,rfl,.nil,h⟩
 | v::vs,vs2,[],h=>by have:=h.1;simp at this
 | v::vs,vs2,u::us,h=>by
   obtain⟨a,b,rfl,h1,h2⟩:=Z4.split (vs:=vs) (vs2:=vs2) (us:=us) ⟨by have:=h.1;simpa using this,fun i x y a1 a2=>h.2 (i+1) x y (by simpa using a1) (by simpa using a2)⟩;exact⟨u::a,b,rfl,.cons (h.2 0 u v rfl rfl) h1,h2⟩
theorem Z4.mono{R R':Nat→Option Obj}{us:List U}{vs:List Value}(h:Z4 R us vs)(k:Sub R R'):Z4 R' us vs:=⟨h.1,fun i u v a b=>(h.2 i u v a b).mono k⟩
theorem B29{R:Nat→Option Obj}:∀ {ts:List Nat} {us r:List U} {vs:List Value},B7Q ts us=some (vs,r)→∃ a,us=a++r∧Z4 R a vs∧a.map F1=ts
 | [],us,r,vs,h=>by cases h;exact⟨[],rfl,.nil,rfl⟩
 | t::ts,u::us,r,vs,h=>by
   unfold B7Q at h;split at h
   ·rename_i v vs0 r0 h1 h2;cases h;obtain⟨a,rfl,e1,e2⟩:=B29 (R:=R) h2;unfold B27 at h1;split at h1
    ·rename_i ht;exact⟨u::a,rfl,.cons (.sc h1) e1,by simp[ht,e2]⟩
    ·cases h1
   ·cases h
 | _::_,[],_,_,h=>by cases h
theorem B7O{R:Nat→Option Obj}{s:Sh}{us r:List U}{v:Value}(h:B26 s us=some (v,r)):∃ a,us=a++r∧ShR R s a v:=by
 cases s with
 | s t =>
   cases us with
   | nil=>cases h
   | cons u us =>
     simp only[B26]at h;split at h
     ·rename_i v1 hv;cases h;unfold B27 at hv;split at hv
      ·rename_i ht;exact⟨[u],rfl,.s (.sc hv) ht⟩
      ·cases hv
     ·cases h
 | a ts =>
   simp only[B26]at h;split at h
   ·rename_i vs r0 hv;cases h;obtain⟨a,e1,e2,e3⟩:=B29 (R:=R) hv;exact⟨a,e1,.a e2 e3⟩
   ·cases h
theorem A8t{R:Nat→Option Obj}:∀ {ss:List Sh} {us:List U} {vs:List Value},B7P ss us=some vs→ShL R ss us vs
 | [],[],vs,h=>by cases h;exact .nil
 | [],_::_,_,h=>by cases h
 | s::ss,us,vs,h=>by
   unfold B7P at h;split at h
   ·rename_i v r hv;split at h
    ·rename_i vs0 hl;cases h;obtain⟨a,rfl,e1⟩:=B7O (R:=R) hv;exact .cons e1 (A8t hl)
    ·cases h
   ·cases h
theorem C0V{R:Nat→Option Obj}{us:List U}{vs vs2:List Value}(h:Z4 R us vs)(hl:vs2.length=us.length)(k:∀ (i:Nat) (u:U) (v:Value),us[i]? = some u→vs2[i]? = some v→toV u=some v):vs=vs2:=by
 refine A0H fun i=>?_
 rcases E9 i us.length with hi|hi
 ·have h1:us[i]? = some us[i]:=A3 hi;have h2:vs[i]? = some (vs[i]'(h.1▸hi)):=A3 _;have h3:vs2[i]? = some (vs2[i]'(hl▸hi)):=A3 _;rw[h2,h3,A4z (h.2 i _ _ h1 h2) (k i _ _ h1 h3)]
 ·rw[Q1 (by rw[← h.1];exact hi),Q1 (by rw[hl];exact hi)]
theorem B28:∀ {ts:List Nat} {us r:List U} {vs:List Value},B7Q ts us=some (vs,r)→∃ a,us=a++r∧vs.length=a.length∧a.length=ts.length∧∀ (i:Nat) (u:U) (v:Value),a[i]? = some u→vs[i]? = some v→toV u=some v
 | [],us,r,vs,h=>by cases h;exact⟨[],rfl,rfl,rfl,fun i u v h=>by simp at h⟩
 | t::ts,u::us,r,vs,h=>by
   unfold B7Q at h;split at h
   ·rename_i v vs0 r0 h1 h2;cases h;obtain⟨a,rfl,e1,e2,e3⟩:=B28 h2;unfold B27 at h1;split at h1
    ·refine⟨u::a,rfl,by simp[e1],by simp[e2],fun i x y a1 a2=>?_⟩;cases i with
     | zero=>simp at a1 a2;subst a1;subst a2;exact h1
     | succ i=>exact e3 i x y (by simpa using a1) (by simpa using a2)
    ·cases h1
   ·cases h
 | _::_,[],_,_,h=>by cases h
theorem V3{R:Nat→Option Obj}:∀ {ss:List Sh} {us:List U} {vs vs2:List Value},ShL R ss us vs→B7P ss us=some vs2→vs=vs2
 | [],us,vs,vs2,h,k=>by cases h;cases k;rfl
 | s::ss,us,vs,vs2,h,k=>by
   cases h with
   | cons h1 h2 =>
     rename_i us1 us2 v vs;unfold B7P at k;split at k
     ·rename_i v1 r hv;split at k
      ·rename_i vs0 hl;cases k;have hone:us1++us2=us1++us2:=rfl;cases h1 with
       | s he ht =>
         rename_i t u;have hv2:(match B27 t u with|some v=>some (v,us2)|none=>none)=some (v1,r):=hv;cases e:B27 t u with
         | none=>rw[e]at hv2;cases hv2
         | some w =>
           rw[e]at hv2;cases hv2;unfold B27 at e;rw[if_pos ht]at e;rw[A4z he e,V3 h2 hl]
       | a he ht =>
         rename_i ts cs;simp only[B26]at hv;split at hv
         ·rename_i cs2 r0 hc;cases hv;obtain⟨a,e1,e2,e3,e4⟩:=B28 hc;have hlen:a.length=us1.length:=by rw[e3,← ht];simp
          obtain⟨rfl,rfl⟩:=List.append_inj e1 hlen.symm;rw[C0V he e2 e4,V3 h2 hl]
         ·cases hv
      ·cases k
     ·cases k
def L2(P:Program)(G:Nat→Option Obj)(f:FuncId)(ps:List Sh)(spec:A0L)(rs:List Sh):Prop :=
 ∀ (us outs:List U) (w:World) (vs:List Value) (R:Nat→Option Obj),ShL R ps us vs→spec us=some (0,outs)→GOk G w→GOk R w →
  (callFunc f ⟨vs⟩).run P w=.ok (.enter f ⟨vs⟩) w∧Calls P f ⟨vs⟩ w (fun e w'=>∃ r R',ShL R' rs outs r∧e=.returned (tup r)∧A4c w w'∧GOk R' w'∧∀ k o,R' k=some o→w.heap.size≤k∨∃ o',R k=some o')
def unA:List Sh→List Value→Option (List Value)
 | [],[]=>some []
 | .s _::ss,v::vs=>match unA ss vs with
   | some r=>some (v::r)
   | none=>none
 | .a ts::ss,.agg cs::vs=>bif Nat.beq cs.toList.length ts.length then match unA ss vs with
   | some r=>some (cs.toList++r)
   | none=>none else none
 | _,_=>none
def A5t(P:Program)(ps:List Sh)(vs:List Value)(m:Mem):Option (List Value×Mem) :=
 match unA ps vs with
 | some cs=>match B0B (tdP P) (B0b ps) cs m with
   | some (xs,[],m)=>some (xs,m)
   | some (xs,gs,m)=>match A3Y gs m with
     | some (_,m)=>some (xs,m)
     | none=>none
   | none=>none
 | none=>none
def B6p(i t b:Nat):Value:=bif Nat.blt t 10 then hole i t else dat b i t
def B8M:List Nat→Nat→Nat→List Value
 | [],_,_=>[]
 | t::ts,i,b=>B6p i t b::B8M ts (i+1) b
def C6s:Sh→Nat→Nat→Value
 | .s t,i,b=>B6p i t b
 | .a ts,i,b=>.agg ⟨B8M ts i b⟩
def A8Z:List Sh→Nat→Nat→List Value
 | [],_,_=>[]
 | h::hs,i,b=>C6s h i b::A8Z hs (i+h.n) b
def B7k(rs:List Sh)(nx:Nat)(m:Mem):Res :=
 bif A4P rs then match A2O m fun b m=>some (tup (A8Z rs nx b),b,m)with
  | some (v,_,m)=>some (v,m)
  | none=>none
 else some (tup (A8Z rs nx 0),m)
def D0E(m:Mem)(hi:Nat)(v:Value)(lg:Lg):Res :=
 match m with
 | ⟨H,n,W,_,_⟩=>some (v,⟨H,n,W,hi,lg⟩)
def I9(P:Program)(ps:List Sh)(spec:A0L)(rs:List Sh):FnC:=⟨fun vs m =>
 match A5t P ps vs m with
 | some (xs,⟨H,n,W,hi,⟨nx,pi,log⟩⟩)=>J3 nx fun nx=>R8 xs fun xs=>J3 (nx+shN rs) fun nx'=>bif A4P rs then B7k rs nx ⟨H,n,W,hi,⟨nx',pi,.con spec xs nx 0 (shN rs)::log⟩⟩else D0E m hi (tup (A8Z rs nx 0)) ⟨nx',pi,.con spec xs nx 0 (shN rs)::log⟩
 | none=>none⟩
theorem B68{P:Program}{ps:List Sh}{spec:A0L}{rs:List Sh}{vs:List Value}{m m':Mem}{v:Value}(h:(I9 P ps spec rs).run vs m=some (v,m')) :
  ∃ xs m1,A5t P ps vs m=some (xs,m1)∧((A4P rs=true∧B7k rs m1.lg.nx (m1.wLg ⟨m1.lg.nx+shN rs,m1.lg.pi,.con spec xs m1.lg.nx 0 (shN rs)::m1.lg.log⟩)=some (v,m'))∨(A4P rs=false∧v=tup (A8Z rs m1.lg.nx 0)∧m'=⟨m.H,m.n,m.W,m1.hi,⟨m1.lg.nx+shN rs,m1.lg.pi,.con spec xs m1.lg.nx 0 (shN rs)::m1.lg.log⟩⟩)):=by
 unfold I9 at h;simp only at h;split at h
 ·rename_i xs H n W hi nx pi log hx;simp only[E1,G6]at h;refine⟨xs,_,hx,?_⟩;cases hd:A4P rs with
  | true=>rw[hd]at h;exact .inl ⟨rfl,h⟩
  | false =>
    rw[hd]at h;obtain⟨H2,n2,W2,hi2,lg2⟩:=m;cases h;exact .inr ⟨rfl,rfl,rfl⟩
 ·cases h
variable [Ora]
theorem B4w{ρ:Ren}:∀ {ss:List Sh} {vs vs' cs:List Value},unA ss vs=some cs→LR ρ vs vs'→∃ cs',unA ss vs'=some cs'∧LR ρ cs cs'
 | [],[],vs',cs,h,hl=>by cases h;rw[hl.nil_inv];exact⟨[],rfl,.nil⟩
 | [],_::_,_,_,h,_=>by cases h
 | .s t::ss,[],_,_,h,_=>by cases h
 | .a t::ss,[],_,_,h,_=>by cases h
 | .s t::ss,v::vs,vs',cs,h,hl=>by
   obtain⟨v',r',rfl,h1,h2⟩:=hl.tail;unfold unA at h;split at h
   ·rename_i r hr;cases h;obtain⟨cs',e1,e2⟩:=B4w hr h2;exact⟨v'::cs',by simp[unA,e1],.cons h1 e2⟩
   ·cases h
 | .a ts::ss,v::vs,vs',cs,h,hl=>by
   obtain⟨v',r',rfl,h1,h2⟩:=hl.tail;cases v with
   | agg c =>
     unfold unA at h;obtain⟨hlen,h⟩:=A2 h;split at h
     ·rename_i r hr;cases h;obtain⟨cs',e1,e2⟩:=B4w hr h2;obtain⟨c',rfl,hc⟩:=W1 h1;refine⟨c'++cs',?_,hc.append e2⟩;have hl2:Nat.beq c'.length ts.length=true:=by rw[← hc.1];exact hlen
      simp[unA,e1,hl2]
     ·cases h
   | _=>cases h
theorem A1B{R:Nat→Option Obj}:∀ {ss:List Sh} {vs cs:List Value} {us:List U},unA ss vs=some cs→Z4 R us cs→us.map F1=B0b ss→ShL R ss us vs
 | [],[],cs,us,h,he,ht=>by
   cases h;have:us=[]:=D8.1 he.1;subst this;exact .nil
 | [],_::_,_,_,h,_,_=>by cases h
 | .s t::ss,[],_,_,h,_,_=>by cases h
 | .a t::ss,[],_,_,h,_,_=>by cases h
 | .s t::ss,v::vs,cs,us,h,he,ht=>by
   unfold unA at h;split at h
   ·rename_i r hr;cases h;obtain⟨a,b,rfl,e1,e2⟩:=Z4.split (vs:=[v]) (vs2:=r) he
    match a,e1 with
    | [u],e1 =>
      simp only[List.singleton_append,D7,B0b,Sh.tags,j7,M3,G8]at ht;exact .cons (.s (e1.2 0 u v rfl rfl) ht.1) (A1B hr e2 ht.2)
    | [],e1=>have:=e1.1;simp at this
    | _::_::_,e1=>have:=e1.1;simp at this
   ·cases h
 | .a ts::ss,v::vs,cs,us,h,he,ht=>by
   cases v with
   | agg c =>
     unfold unA at h;obtain⟨hlen,h⟩:=A2 h;have hlen:=A0 hlen;split at h
     ·rename_i r hr;cases h;obtain⟨a,b,rfl,e1,e2⟩:=Z4.split he;simp only[P8,B0b,Sh.tags]at ht;obtain⟨t1,t2⟩:=List.append_inj ht (by simp[e1.1,hlen]);obtain⟨l⟩:=c;exact .cons (.a e1 t1) (A1B hr e2 t2)
     ·cases h
   | _=>cases h
section
variable {P:Program} {base gl:Nat}
def D0K(ρ:Ren)(m:Mem)(R:Nat→Option Obj):Prop:=∀ k o,R k=some o→∃ id ab l,id≤G2∧Hp.get m.H id=some ab∧ρ id=some l∧Tf ab l k∧ab.rw=false
theorem B3D{ρ:Ren}{m m':Mem}{w:World}{ps:List Sh}{vs vs' xs:List Value}(h:HR P base ρ m.H w)(ho:A5t P ps vs m=some (xs,m'))(hf:J6 ρ m.n m'.hi)(hv:LR ρ vs vs')(hS:Sat m'.lg) :
  ∃ ρ' R,St P base ρ ρ' m m' w w∧m.lg.le m'.lg∧ShL R ps (xs.map (D2 Ora.env)) vs'∧GOk R w∧D0K ρ' m' R:=by
 unfold A5t at ho;split at ho
 ·rename_i cs hcs;obtain⟨cs',e1,e2⟩:=B4w hcs hv;split at ho
  ·rename_i xs0 m1 hd;cases ho;obtain⟨ρ',a1,a2,a3,a4,a5,a6⟩:=A21 V4 h hd hf e2 hS;exact⟨ρ',fun _=>none,a1,a2,A1B e1 (a6 _ fun b hb=>by cases hb) a5,(fun k o hk=>by cases hk),(fun k o hk=>by cases hk)⟩
  ·rename_i xs0 gs m1 hd;split at ho
   ·rename_i g m2 hj;cases ho;have mj:=N4 hj;obtain⟨ρ1,a1,a2,a3,a4,a5,a6⟩:=A21 V4 h hd (hf.less mj.1) e2 (by rw[← mj.2.1];exact hS);obtain⟨ρ2,lg,b1,b2,b3,b4,b5,b6⟩:=A1m a1.hr hj (hf.step a1);have hreg:=(b1.hr.atl b4 b5).1.2;exact⟨ρ2,lg.G,St.trans hf a1 b1,by rw[mj.2.1];exact a2,A1B e1 (a6 _ fun b hb l hl=>b6 b hb l hl) a5,hreg,fun k o hk=>⟨g,_,lg,b1.hr.dom _ _ b4,b5,b4,⟨rfl,.inr ⟨rfl,o,hk⟩⟩,rfl⟩⟩
   ·cases ho
  ·cases ho
 ·cases ho
theorem B4B{ρ:Ren}{R:Nat→Option Obj}{i t b:Nat}{u:U}{v:Value}(h:Enc R u v)(ht:F1 u=t)(he:Ora.env i=u)(hb:10≤t→ρ b=some (A3i R)):VR ρ (B6p i t b) v:=by
 unfold B6p;cases hq:Nat.blt t 10 with
 | true =>
   have h10:t<10:=A1 hq;obtain⟨v1,e1,_,_⟩:=B59 (u:=u) (by omega)
   have:=A4z h e1;subst this;exact .hole (by rw[he];exact e1) (by rw[he];exact ht)
 | false =>
   have h10:10≤t:=by
    rcases E9 t 10 with hlt|hge
    ·rw[show Nat.blt t 10=true from C3 hlt]at hq;cases hq
    ·exact hge
   exact .dat (hb h10) (by rw[he];exact h) (by rw[he];exact ht) h10 (A4N h)
theorem B25{ρ:Ren}{R:Nat→Option Obj}{b:Nat}:∀ {ts:List Nat} {us:List U} {cs:List Value} {i:Nat},Z4 R us cs→us.map F1=ts→(∀ j u,us[j]? = some u→Ora.env (i+j)=u)→(∀ t ∈ ts,10≤t→ρ b=some (A3i R))→LR ρ (B8M ts i b) cs
 | [],us,cs,i,h,ht,he,hb=>by
   have:us=[]:=by cases us with|nil=>rfl|cons _ _=>simp at ht
   subst this;have:cs=[]:=D8.1 h.1.symm;subst this;exact .nil
 | t::ts,[],cs,i,h,ht,he,hb=>by simp at ht
 | t::ts,u::us,[],i,h,ht,he,hb=>by have:=h.1;simp at this
 | t::ts,u::us,c::cs,i,h,ht,he,hb=>by
   simp only[D7,G8]at ht;refine .cons (B4B (h.2 0 u c rfl rfl) ht.1 (he 0 u rfl) (hb t (.head _))) (B25 ⟨by have:=h.1;simpa using this,fun j x y a1 a2=>h.2 (j+1) x y (by simpa using a1) (by simpa using a2)⟩ ht.2 (fun j x hj=>?_) fun t' ht'=>hb t' (.tail _ ht'))
   have:=he (j+1) x (by simpa using hj);rw[show i+1+j=i+(j+1) by omega];exact this
theorem A5l{ρ:Ren}{R:Nat→Option Obj}{b:Nat}:∀ {ss:List Sh} {us:List U} {vs:List Value} {i:Nat},ShL R ss us vs→(∀ j u,us[j]? = some u→Ora.env (i+j)=u)→(A4P ss=true→ρ b=some (A3i R))→LR ρ (A8Z ss i b) vs∧us.length=shN ss
 | [],us,vs,i,h,he,hb=>by cases h;exact⟨.nil,rfl⟩
 | s::ss,us,vs,i,h,he,hb=>by
   cases h with
   | cons h1 h2 =>
     rename_i us1 us2 v vs;have hd:∀ t ∈ s.tags,10≤t→ρ b=some (A3i R):=fun t ht h10=>hb (X0.2 ⟨t,B1.2 (.inl ht),C3 h10⟩)
     have hd2:A4P ss=true→ρ b=some (A3i R):=fun hq=>by
      obtain⟨t,ht,h10⟩:=X0.1 hq;exact hb (X0.2 ⟨t,B1.2 (.inr ht),h10⟩)
     have hn:us1.length=s.n:=by
      cases h1 with
      | s _ _=>rfl
      | a _ ht=>show _=List.length _;rw[← ht];simp[Sh.tags]
     obtain⟨g1,g2⟩:=A5l (i:=i+s.n) h2 (fun j u hj=>by
      have:=he (us1.length+j) u (by rw[D1 (by omega),R5];exact hj);rw[← hn,A0h];exact this) hd2
     refine⟨.cons ?_ g1,by simp[shN,hn,g2]⟩;have he1:∀ j u,us1[j]? = some u→Ora.env (i+j)=u:=fun j u hj=>he j u (by rw[E0 (A9.1 hj).1];exact hj)
     cases h1 with
     | s h ht=>exact B4B h ht (by have:=he1 0 _ rfl;simpa using this) (hd _ (.head _))
     | a h ht =>
       have:=B25 (b:=b) h ht he1 hd;exact .agg this.1 this.2
theorem B8V{ρ:Ren}{vs vs':List Value}(h:LR ρ vs vs'):VR ρ (tup vs) (tup vs'):=by
 match vs,vs',h with
 | [],vs',h=>rw[h.nil_inv];exact .tuple (a:=[]) (a':=[]) rfl (fun i v v' h1 _=>by simp at h1)
 | [v],vs',h =>
   obtain⟨v',r',rfl,h1,h2⟩:=h.tail;cases h2.nil_inv;exact h1
 | v::u::r,vs',h =>
   obtain⟨v',r',rfl,h1,h2⟩:=h.tail;obtain⟨u',r2,rfl,h3,h4⟩:=h2.tail;exact .tuple h.1 h.2
theorem St.grown{ρ:Ren}{m:Mem}{w w':World}(h:HR P base ρ m.H w)(g:A4c w w'):St P base ρ ρ m m w w' :=
 ⟨fun _ _ h=>h,fun b l h1 h2=>(by rw[h1]at h2;cases h2),A5 _,A5 _,fun h=>h,
  ⟨h.dom,fun id hid ab hab=>by
    obtain⟨l,h1,h2,h3⟩:=h.at_ id hid ab hab;exact⟨l,h1,h2.mono (fun _ _ h=>h) (fun k hk=>g.keep k (h2.tc hk)),h3⟩⟩,
  fun _ h=>h,fun b h1 h2=>absurd h1 h2,fun k hk _=>g.keep k hk,g.size,g.os,fun b l h1 h2=>(by rw[h1]at h2;cases h2),fun _ _ _ _=>rfl,fun _ h=>.inr h⟩
theorem St.grownLg{ρ:Ren}{m:Mem}{w w':World}(h:HR P base ρ m.H w)(g:A4c w w')(lg:Lg):St P base ρ ρ m (m.wLg lg) w w':=by
 obtain⟨H,n,W,hi,l⟩:=m;have r:=St.grown (m:=⟨H,n,W,hi,l⟩) h g;exact⟨r.ext,r.new,r.nle,r.hle,r.nhi,r.hr,r.wsub,r.wrw,r.keep,r.size,r.os,r.blk,r.same,r.tch⟩
theorem St.ret{ρ:Ren}{m m1:Mem}{w w':World}{G:Nat→Option Obj}(h:HR P base ρ m.H w)(g:A4c w w')(hn:e9 m .frz (fun _=>undef)=some (undef,m1))(hf:J6 ρ m.n m1.hi)(hG:GOk G w')
  (hT:∀ k o,G k=some o→w.heap.size≤k∨∃ id ab l,id≤G2∧Hp.get m.H id=some ab∧ρ id=some l∧Tf ab l k∧ab.rw=false):upd ρ m.n (A3i G) m.n=some (A3i G)∧St P base ρ (upd ρ m.n (A3i G)) m m1 w w':=by
 obtain⟨hle,_,rfl⟩:=L4 hn;have hfree:ρ m.n=none:=hf m.n (A5 _) (K3 _ _).2;have hext:=Z0 (l:=A3i G) hfree;refine⟨K9 _ _ _,hext,fun b q h1 h2=>?_,by simp,(K3 _ _).1,fun _=>Z2 (K3 _ _).2,⟨fun b q hq=>?_,fun id hid a ha=>?_⟩,fun b hb=>hb,fun b h1 h2=>absurd h1 h2,fun q hq _=>g.keep q hq,g.size,g.os,fun b q h1 h2 ho=>?_,fun id hid h1 h2=>?_,fun q ⟨id,a,l,hid,ha,hl,ht⟩=>?_⟩
 ·obtain⟨rfl,rfl⟩:=U8 h1 h2;exact⟨A5 _,I5 _⟩
 ·cases h0:ρ b with
  | some k0=>exact h.dom b k0 h0
  | none=>obtain⟨rfl,rfl⟩:=U8 hq h0;exact hle
 ·rw[E3 _ _ _ _ hle hid]at ha;by_cases e:id=m.n
  ·rw[if_pos e]at ha;have ha:=A4 ha;subst ha;subst e;exact⟨A3i G,K9 _ _ _,⟨rfl,hG⟩,fun _ ho=>(by cases ho)⟩
  ·rw[if_neg e]at ha;obtain⟨l0,h1,h2,h3⟩:=h.at_ id hid a ha;refine⟨l0,hext _ _ h1,h2.mono hext (fun k hk=>g.keep k (h2.tc hk)),fun hr ho=>⟨(h3 hr ho).1,fun id2 hid2 ab2 l2 g1 g2 g3=>?_⟩⟩;rw[E3 _ _ _ _ hle hid2]at g1;by_cases e2:id2=m.n
   ·subst e2;rw[K9]at g2
    have:=A4 g2;subst this;rcases g3 with⟨_,g3,_⟩|⟨_,o,g3⟩
    ·cases g3
    ·rcases hT _ o g3 with hge|⟨id3,a3,l3,q1,q2,q3,q4,q5⟩
     ·have:=h2.tc (.inl ⟨AB.rw_on hr,ho,rfl⟩);omega
     ·have:=(h3 hr ho).2 id3 q1 a3 l3 q2 q3 q4.2;subst this;rw[ha]at q2;have q2:=A4 q2;subst q2;rw[hr]at q5;cases q5
   ·rw[if_neg e2]at g1;unfold upd at g2;rw[if_neg e2]at g2;exact(h3 hr ho).2 id2 hid2 ab2 l2 g1 g2 g3
 ·obtain⟨rfl,rfl⟩:=U8 h1 h2;cases ho
 ·rw[E3 _ _ _ _ hle hid,if_neg];intro e;subst e;rcases h2 with h2|h2
  ·omega
  ·have h2:upN m.hi m.n≤m.n:=h2
   have:=(K3 m.hi m.n).2;omega
 ·have ha:Hp.get (m.H.set m.n (some .frz)) id=some a:=ha;rw[E3 _ _ _ _ hle hid]at ha;by_cases e:id=m.n
  ·subst e;rw[if_pos rfl]at ha;have ha:=A4 ha;subst ha;rw[K9]at hl;have hl:=A4 hl;subst hl;rcases ht.2 with⟨_,h3,_⟩|⟨_,o,h3⟩
   ·cases h3
   ·rcases hT _ o h3 with hge|⟨id3,a3,l3,q1,q2,q3,q4,q5⟩
    ·exact .inl hge
    ·exact .inr ⟨id3,a3,l3,q1,q2,q3,q4⟩
  ·rw[if_neg e]at ha;unfold upd at hl;rw[if_neg e]at hl;exact .inr ⟨id,a,l,hid,ha,hl,ht⟩
theorem St.back{ρ:Ren}{m:Mem}{w w':World}{hi:Nat}{lg:Lg}(h:HR P base ρ m.H w)(g:A4c w w')(hh:m.hi≤hi):St P base ρ ρ m ⟨m.H,m.n,m.W,hi,lg⟩ w w':=by
 have r:=St.grownLg (m:=m) h g lg;refine⟨r.ext,fun b l h1 h2=>(by rw[h1]at h2;cases h2),A5 _,hh,fun h=>B0 h hh,?_,fun _ h=>h,fun b h1 h2=>absurd h1 h2,fun k hk _=>g.keep k hk,g.size,g.os,fun b l h1 h2=>(by rw[h1]at h2;cases h2),fun _ _ _ _=>rfl,fun _ h=>.inr h⟩
 have:=r.hr;rw[A48]at this;exact this
theorem C3W{f:FuncId}{ps:List Sh}{spec:A0L}{rs:List Sh}(h:L2 P Ora.G f ps spec rs):A3j P base gl f (I9 P ps spec rs):=by
 have hret:∀ {nx:Nat} {m m':Mem} {v:Value},A4P rs=true→B7k rs nx m=some (v,m')→m'.lg=m.lg∧m.hi≤m'.hi∧m.n≤m'.n:=fun{nx m m' v} hd hr=>by
  unfold B7k at hr;rw[hd]at hr;simp only[cond_true]at hr;split at hr
  ·rename_i hn;cases hr;obtain⟨m2,q1,q2,_⟩:=R4 hn;cases q2;obtain⟨_,_,rfl⟩:=L4 q1;exact⟨rfl,(K3 _ _).1,d7 _⟩
  ·cases hr
 have hmono:∀ {vs xs:List Value} {m m1:Mem},A5t P ps vs m=some (xs,m1)→m.lg.le m1.lg∧m.hi≤m1.hi:=fun{vs xs m m1} h1=>by
  unfold A5t at h1;split at h1
  ·split at h1
   ·rename_i hd;cases h1;exact⟨(S8 V4 hd).2.1,(S8 V4 hd).1⟩
   ·rename_i hd;split at h1
    ·rename_i hj;cases h1;exact⟨by rw[(N4 hj).2.1];exact(S8 V4 hd).2.1,B0 (S8 V4 hd).1 (N4 hj).1⟩
    ·cases h1
   ·cases h1
  ·cases h1
 refine⟨fun vs m m' v hr=>?_,fun ρ m m' w vs vs' v hr hS hat hl=>.inl ?_⟩
 ·obtain⟨xs,m1,h1,⟨hd,h2⟩|⟨hd,_,rfl⟩⟩:=B68 hr
  ·rw[(hret hd h2).1,l5];exact(hmono h1).1.trans ⟨[_],rfl⟩
  ·exact(hmono h1).1.trans ⟨[_],rfl⟩
 ·obtain⟨xs,m1,h1,h2⟩:=B68 hr;have hlg:m'.lg=⟨m1.lg.nx+shN rs,m1.lg.pi,.con spec xs m1.lg.nx 0 (shN rs)::m1.lg.log⟩∧m1.hi≤m'.hi:=by
   rcases h2 with⟨hd,h2⟩|⟨hd,_,rfl⟩
   ·obtain⟨r1,r2,_⟩:=hret hd h2;simp only[l5,B4u]at r1 r2;exact⟨r1,r2⟩
   ·exact⟨rfl,A5 _⟩
  obtain⟨r1,r2⟩:=hlg;have hlast:c9.con spec xs m1.lg.nx 0 (shN rs) ∈ m'.lg.log:=by rw[r1];exact B4
  have hS1:Sat m1.lg:=R9.le hS (by rw[r1];exact⟨[_],rfl⟩);obtain⟨ρ1,R,a1,a2,a3,a4,a5⟩:=B3D hat.hr h1 (hat.fr.less r2) hl hS1;obtain⟨outs,h3,h4,h5⟩:=hS _ hlast;obtain⟨h6,h7⟩:=h _ outs w vs' R a3 h3 (fun k o hk=>(hat.gf k o hk).2) a4;refine⟨h6,h7.mono fun e w' ⟨r,R',g1,g2,g3,g4,g5⟩=>?_⟩;rcases h2 with⟨hd,h2⟩|⟨hd,rfl,rfl⟩
  ·let lg2:Lg:=⟨m1.lg.nx+shN rs,m1.lg.pi,.con spec xs m1.lg.nx 0 (shN rs)::m1.lg.log⟩
   have h2:B7k rs m1.lg.nx (m1.wLg lg2)=some (v,m'):=h2;have hst1:St P base ρ ρ1 m (m1.wLg lg2) w w:=St.trans (hat.fr.less (by simpa using r2)) a1 (St.wLg a1.hr lg2);have hf1:J6 ρ1 (m1.wLg lg2).n m'.hi:=by simpa using hat.fr.step a1
   unfold B7k at h2;rw[hd]at h2;simp only[cond_true]at h2;split at h2
   ·rename_i v0 b m2 hn;cases h2;obtain⟨m3,q1,q2,_⟩:=R4 hn;cases q2;obtain⟨e1,e2⟩:=St.ret (G:=R') hst1.hr g3 q1 hf1 g4 fun k o hk=>by
     rcases g5 k o hk with hge|⟨o',ho'⟩
     ·exact .inl hge
     ·obtain⟨id,ab,l,p1,p2,p3,p4,p5⟩:=a5 k o' ho';exact .inr ⟨id,ab,l,p1,by rw[A48];exact p2,p3,p4,p5⟩
    exact⟨_,_,g2,B8V (A5l g1 h5 fun _=>e1).1,St.trans hat.fr hst1 e2⟩
   ·cases h2
  ·exact⟨_,ρ,g2,B8V (A5l g1 h5 fun hq=>by rw[hd]at hq;cases hq).1,St.back hat.hr g3 (hmono h1).2⟩
end
end Go.Sx
