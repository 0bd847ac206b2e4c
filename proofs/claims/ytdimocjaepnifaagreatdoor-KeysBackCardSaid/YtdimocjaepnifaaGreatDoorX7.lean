import Derived.Test.YtdimocjaepnifaaGreatDoorX6
import Derived.Lib.Bytealg
import Derived.Lib.MakeNoZero
set_option linter.all false
set_option maxRecDepth 100000
set_option maxHeartbeats 4000000
namespace Go.Sx
variable {m m' m1 m2:Mem}{c:Cls}{r:Option (Nat×AB)}{rs:List Rec}{op:OpC}{fn:Func}{vs' vs2:D4}
section
open Go
variable [Ora]
def A4r(ops:Array Oper)(X:Nat→Qs)(i:Nat)(o:Oper):Bool:=LT o.op i ((m6 ops.toList []).getD i []) ((m6 ops.toList []).drop (i+1)) (ops.toList.drop (i+1)) (X i)
structure Rg (P:Program) (base gl nt:Nat) (call:Q9) (ops:Array Oper) (F:Nat→Fr) (M:Nat→Mem) (V:Nat→Value) (R:Nat→List Rec) (X:Nat→Qs) (B:Nat→Bool):Prop where
 st:∀ i o,ops[i]? = some o→KI P nt gl call ops.toList ((m6 ops.toList []).getD i []) (R i) (B i) o (F i) (F (i+1)) (M i) (M (i+1)) (V i)
 rc:∀ i o,ops[i]? = some o→(R (i+1)=R i∧∃ lg,M (i+1)=(M i).wLg lg)∨(B i=true∧R (i+1)=[])∨R (i+1)=⟨i,(M i).n,(M (i+1)).n⟩::R i
 qs:∀ i o,ops[i]? = some o→QsN (B i) i nt ops.toList (Z9 P call o) ((m6 ops.toList []).getD i []) (R i) (F i) o (M i) (M (i+1)) (V i) (X i) (X (i+1))
 sb:∀ i o,ops[i]? = some o→B i=true→A4r ops X i o=true
 x0:X 0=[]
 ok:MZ ops.toList (m6 ops.toList []) ops.toList 0=true
structure Ph (ops:Array Oper) (B:Nat→Bool) (M:Nat→Mem) (lo up:Nat):Prop where
 le:lo≤up
 sz:up≤ops.size
 nh:(M lo).n≤(M lo).hi
 mx:∀ i o,lo≤i→i<up→ops[i]? = some o→B i=false
section
variable {P:Program} {base gl nt:Nat} {call:Q9} {ops:Array Oper} {F:Nat→Fr} {M:Nat→Mem} {V:Nat→Value} {R:Nat→List Rec} {X:Nat→Qs} {B:Nat→Bool} {lo up:Nat}
def S5{i:Nat}(h:i<ops.size):∃ o,ops[i]? = some o:=⟨ops[i],by simp[h]⟩
def Rg.one(g:Rg P base gl nt call ops F M V R X B){i:Nat}{o:Oper}(ho:ops[i]? = some o)(hso:B i=false)(hn:(M i).n≤(M i).hi):(M i).n≤(M (i+1)).n∧(M i).hi≤(M (i+1)).hi∧(M (i+1)).n≤(M (i+1)).hi∧(M (i+1)).W=(M i).W ∧
  ∀ id,id≤I4→(id<(M i).n∨(M (i+1)).n≤id)→Hp.get (M (i+1)).H id=Hp.get (M i).H id:=by
 obtain⟨_,_,_,h⟩:=g.st i o ho;rcases h with⟨_,lg,_,_,h⟩|⟨_,lg,lg2,_,_,h⟩|⟨h,_⟩|⟨_,_,lg,_,mv,m',_,_,_,hhi,hm⟩
 ·rw[h];exact⟨B0 _,B0 _,hn,rfl,fun _ _ _=>rfl⟩
 ·rw[h];exact⟨B0 _,B0 _,hn,rfl,fun _ _ _=>rfl⟩
 ·rw[hso]at h;cases h
 ·obtain⟨h1,h2,h3,h4,_,_,_,h5⟩:=NI hm hn hhi;exact⟨h1,h2,h3,h4,fun id hid hh=>by rw[h5 id hid,A3 (by show ¬ ((M i).n≤id∧_);omega)];rfl⟩
def Rg.allD(g:Rg P base gl nt call ops F M V R X B)(ph:Ph ops B M lo up):∀ d,lo+d≤up→(M lo).n≤(M (lo+d)).n∧(M lo).hi≤(M (lo+d)).hi∧(M (lo+d)).n≤(M (lo+d)).hi∧(M (lo+d)).W=(M lo).W ∧
  ∀ id,id≤I4→(id<(M lo).n∨(M (lo+d)).n≤id)→Hp.get (M (lo+d)).H id=Hp.get (M lo).H id
 | 0,_=>⟨B0 _,B0 _,ph.nh,rfl,fun _ _ _=>rfl⟩
 | d+1,h=>by
   obtain⟨h1,h2,h3,h4,h5⟩:=g.allD ph d A1;obtain⟨o,ho⟩:=S5 (ops:=ops) (i:=lo+d) (by have:=ph.sz;omega);obtain⟨k1,k2,k3,k4,k5⟩:=g.one ho (ph.mx _ o A1 A1 ho) h3;exact⟨C4 h1 k1,C4 h2 k2,k3,k4.trans h4,fun id hid hh=>by
    rw[show lo+(d+1)=lo+d+1 by omega]at hh ⊢;rw[k5 id hid A1,h5 id hid A1]⟩
def Rg.all(g:Rg P base gl nt call ops F M V R X B)(ph:Ph ops B M lo up){i:Nat}(h0:lo≤i)(h:i≤up):(M lo).n≤(M i).n∧(M lo).hi≤(M i).hi∧(M i).n≤(M i).hi∧(M i).W=(M lo).W ∧
  ∀ id,id≤I4→(id<(M lo).n∨(M i).n≤id)→Hp.get (M i).H id=Hp.get (M lo).H id:=by
 have:=g.allD ph (i-lo) A1
 rwa[show lo+(i-lo)=i by omega]at this
def Rg.mono(g:Rg P base gl nt call ops F M V R X B)(ph:Ph ops B M lo up){i:Nat}(h0:lo≤i):∀ d,i+d≤up→(M i).n≤(M (i+d)).n∧(M i).hi≤(M (i+d)).hi∧∀ id,id≤I4→id<(M i).n→Hp.get (M (i+d)).H id=Hp.get (M i).H id
 | 0,_=>⟨B0 _,B0 _,fun _ _ _=>rfl⟩
 | d+1,h=>by
   obtain⟨h1,h2,h5⟩:=g.mono ph h0 d A1;obtain⟨o,ho⟩:=S5 (ops:=ops) (i:=i+d) (by have:=ph.sz;omega);obtain⟨k1,k2,k3,k4,k5⟩:=g.one ho (ph.mx _ o A1 A1 ho) (g.all ph (i:=i+d) A1 A1).2.2.1;exact⟨C4 h1 k1,C4 h2 k2,fun id hid hh=>by rw[show i+(d+1)=i+d+1 by omega,k5 id hid A1,h5 id hid hh]⟩
def Rg.le(g:Rg P base gl nt call ops F M V R X B)(ph:Ph ops B M lo up){i j:Nat}(h0:lo≤i)(h:i≤j)(hj:j≤up):(M i).n≤(M j).n∧(M i).hi≤(M j).hi∧∀ id,id≤I4→id<(M i).n→Hp.get (M j).H id=Hp.get (M i).H id:=by
 have:=g.mono ph h0 (j-i) A1
 rwa[show i+(j-i)=j by omega]at this
def TM{mv:Mem}{us:List Rec}(h:DZ m c us=some mv):mv.lg=m.lg:=by
 obtain⟨H,n,W,hi,lg⟩:=m;unfold DZ at h;simp only at h;cases c with
 | free=>cases h;rfl
 | one b =>
   simp only at h;cases hq:aT (n9 us) b || !(Nat.ble b I4)with
   | true=>rw[hq]at h;cases h
   | false=>rw[hq,gF]at h;cases h;rfl
 | all =>
   simp only at h;obtain⟨hb,h⟩:=A5 h;cases h;rfl
def NJ(h:nG m m'=some m2):m2.lg=m'.lg:=by
 unfold nG at h;cases hq:Nat.ble m'.hi m.n with
 | true=>rw[hq]at h;cases h;rfl
 | false =>
   rw[hq]at h;obtain⟨_,h⟩:=A5 h;simp only[F5,fP]at h;cases h;rfl
def oW{a b:Addr}(h:HW a b=true):a=b:=by
 unfold HW at h;split at h
 ·obtain⟨h1,h2⟩:=B8 h;rw[A0 h1,A0 h2]
 ·cases h
def XZ{a b:Fn}(h:RD a b=true):a=b:=by
 unfold RD at h;split at h
 ·rw[A0 h]
 ·rw[A0 h]
 ·cases h
def sL{s:Value→Value→Bool}(hs:∀ a b,s a b=true→a=b):∀ {l r:D4},EO s l r=true→l=r
 | [],[],_=>rfl
 | [],_::_,h=>by cases h
 | _::_,[],h=>by cases h
 | a::l,b::r,h=>by
   obtain⟨h1,h2⟩:=B8 (show(s a b && EO s l r)=true from h);rw[hs a b h1,sL hs h2]
def B37{a b:Z5}(h:a.toList=b.toList):a=b:=by cases a;cases b;cases h;rfl
def A01:∀ (d:Nat) (v w:Value),AG d v w=true→v=w:=by
 intro d;induction d with
 | zero =>
   intro v w h;unfold AG at h;split at h
   ·rw[eq_of_beq h]
   ·obtain⟨h1,h2⟩:=B8 h;rw[dB]at h2;rw[jO h1,eq_of_beq h2]
   ·obtain⟨h1,h2⟩:=B8 h;rw[A0 h1,A0 h2]
   ·obtain⟨h1,h2⟩:=B8 h;rw[A0 h1,A0 h2]
   ·rename_i s t;have h1:=J0 h;cases s with|mk s=>cases t with|mk t=>cases s;cases t;cases h1;rfl
   ·rfl
   ·rw[oW h]
   ·obtain⟨h1,h2⟩:=B8 h;rw[A0 h1,A0 h2]
   ·obtain⟨h0,h⟩:=B8 h;obtain⟨h1,h2⟩:=B8 h;rw[oW h0,A0 h1,A0 h2]
   ·rfl
   ·rw[A0 h]
   ·rfl
   ·rfl
   all_goals first|cases h|(rename_i hh;cases hh)
 | succ d ih =>
   intro v w h;unfold AG at h;split at h
   ·rw[eq_of_beq h]
   ·obtain⟨h1,h2⟩:=B8 h;rw[dB]at h2;rw[jO h1,eq_of_beq h2]
   ·obtain⟨h1,h2⟩:=B8 h;rw[A0 h1,A0 h2]
   ·obtain⟨h1,h2⟩:=B8 h;rw[A0 h1,A0 h2]
   ·rename_i s t;have h1:=J0 h;cases s with|mk s=>cases t with|mk t=>cases s;cases t;cases h1;rfl
   ·rfl
   ·rw[oW h]
   ·obtain⟨h1,h2⟩:=B8 h;rw[A0 h1,A0 h2]
   ·obtain⟨h0,h⟩:=B8 h;obtain⟨h1,h2⟩:=B8 h;rw[oW h0,A0 h1,A0 h2]
   ·rfl
   ·rw[A0 h]
   ·rfl
   ·rfl
   ·rename_i d' f a b g a' b' he;cases he;obtain⟨h0,h⟩:=B8 h;obtain⟨h1,h2⟩:=B8 h;rw[XZ h0,B37 (sL ih h1),B37 (sL ih h2)]
   ·rename_i d' t v u w he;cases he;obtain⟨h1,h2⟩:=B8 h;rw[A0 h1,ih _ _ h2]
   ·cases h
def A05{a b:AB}(h:A06 a b=true):a=b:=by
 unfold A06 at h;split at h
 ·rfl
 ·obtain⟨h0,h⟩:=B8 h;obtain⟨h1,h2⟩:=B8 h;rw[sL (A01 6) h0,A0 h1,eq_of_beq h2]
 ·cases h
def BJ{H:Hp AB}{b:Nat}{ab:AB}(h:BK H b ab=true):Hp.get H b=some ab∧b≤I4:=by
 unfold BK at h;split at h
 ·rename_i x hq;obtain⟨h1,h2⟩:=B8 h;exact⟨by rw[hq,A05 h2],A2 h1⟩
 ·cases h
def uR{mv:Mem}{us:List Rec}(h:IC m r us=some mv):mv.n=uI∧mv.hi=uI∧mv.W=[]∧mv.lg=m.lg∧(∀ id,id≤I4→∀ ab,Hp.get mv.H id=some ab→r=some (id,ab))∧∀ b ab,r=some (b,ab)→BK m.H b ab=true∧b ∉ n9 us:=by
 obtain⟨H,n,W,hi,lg⟩:=m;unfold IC at h;simp only at h;cases r with
 | none =>
   cases h;exact⟨rfl,rfl,rfl,rfl,fun id _ ab hab=>(by rw[tN]at hab;cases hab),fun b ab hb=>by cases hb⟩
 | some p =>
   obtain⟨b,ab0⟩:=p;simp only at h;cases hq:aT (n9 us) b || !(BK H b ab0)with
   | true=>rw[hq]at h;cases h
   | false =>
     rw[hq,gF]at h;cases h;simp only[M4,Bool.not_eq_false']at hq;have hb:=(BJ hq.2).2;refine⟨rfl,rfl,rfl,rfl,fun id hid ab hab=>?_,fun b' ab' hb'=>?_⟩
     ·have hab:Hp.get (Hp.set hp0 b (some ab0)) id=some ab:=hab;rw[F7 _ _ _ _ hb hid]at hab;by_cases e:id=b
      ·subst e;rw[A4 rfl]at hab;cases hab;rfl
      ·rw[A3 e,tN]at hab;cases hab
     ·cases hb';exact⟨hq.2,fun hm=>by rw[Z2.2 hm]at hq;exact absurd hq.1 (by simp)⟩
def mX{fr:Fr}{o:Oper}{b:I1}{v:Value}{lg:Lg}(h:mY fr m o b rs op=some (v,lg)):∃ mv m',IC m (OM m.H fr o.op) (FF b rs)=some mv∧op.run fr mv=some (v,m')∧m'.W=[]∧m'.hi=uI∧m'.lg=lg:=by
 unfold mY at h;split at h
 ·rename_i mv hv;split at h
  ·rename_i v' H n hi lg' hr;obtain⟨h1,h2⟩:=A5 h;cases h2;exact⟨mv,_,hv,hr,rfl,A0 h1,rfl⟩
  ·cases h
 ·cases h
def EF{all:List Oper}{b:I1}{so:Bool}{o:Oper}{fr fr':Fr}{v:Value}(hc:Y3 P base gl call)(h:KI P nt gl call all b rs so o fr fr' m m2 v):m.lg.le m2.lg:=by
 obtain⟨_,_,_,h⟩:=h;rcases h with⟨_,lg,hw,_,h⟩|⟨_,lg,lg2,hw,hq,h⟩|⟨_,lg,hw,hr,_⟩|⟨_,_,lg,hw,mv,m',hv,hr,_,hhi,hm⟩
 ·rw[h];exact jG hw
 ·obtain⟨mv,m',hv,hr,_,_,hl⟩:=mX hq;have h1:=aY hc hr;rw[(uR hv).2.2.2.1,hl]at h1;rw[h];exact(jG hw).trans h1
 ·have h1:=aY hc hr;rw[s5]at h1;exact(jG hw).trans h1
 ·rw[NJ hm];have h1:=aY hc hr;rw[TM hv]at h1;exact(jG hw).trans h1
def Rg.lgs(g:Rg P base gl nt call ops F M V R X B)(hc:Y3 P base gl call){i:Nat}:∀ d,i+d≤ops.size→(M i).lg.le (M (i+d)).lg
 | 0,_=>.refl _
 | d+1,h=>by
   obtain⟨o,ho⟩:=S5 (ops:=ops) (i:=i+d) A1;exact(g.lgs hc d A1).trans (EF hc (g.st (i+d) o ho))
def Rg.who(g:Rg P base gl nt call ops F M V R X B)(ph:Ph ops B M lo up):∀ d,lo+d≤up→∀ b,(M lo).n≤b→b<(M (lo+d)).n→∃ k,lo≤k∧k<lo+d∧(M k).n≤b∧b<(M (k+1)).n
 | 0,_,b,h1,h2=>by have h2:b<(M lo).n:=h2;omega
 | d+1,h,b,h1,h2=>by
   rcases G4 b (M (lo+d)).n with h3|h3
   ·obtain⟨k,k0,k1,k2⟩:=g.who ph d A1 b h1 h3;exact⟨k,k0,A1,k2⟩
   ·exact⟨lo+d,A1,A1,h3,h2⟩
def AU:∀ {rs:List Rec} {b:Nat},b ∈ n9 rs↔∃ r ∈ rs,r.lo≤b∧b<r.hi
 | [],b=>by simp[n9]
 | r::rs,b=>by
   simp only[n9,B5,nH,AU (rs:=rs),C6];constructor
   ·rintro(h|⟨r',h1,h2⟩)
    ·exact⟨r,.inl rfl,A1⟩
    ·exact⟨r',.inr h1,h2⟩
   ·rintro⟨r',rfl|h1,h2⟩
    ·exact .inl A1
    ·exact .inr ⟨r',h1,h2⟩
def Rg.recs(g:Rg P base gl nt call ops F M V R X B)(ph:Ph ops B M lo up):∀ d,lo+d≤up→∀ k,lo≤k→k<lo+d→∀ b,(M k).n≤b→b<(M (k+1)).n→⟨k,(M k).n,(M (k+1)).n⟩ ∈ R (lo+d)
 | 0,_,k,_,h,_,_,_=>by omega
 | d+1,hi,k,hk,h,b,h1,h2=>by
   obtain⟨o,ho⟩:=S5 (ops:=ops) (i:=lo+d) (by have:=ph.sz;omega);have hmx:=ph.mx _ o A1 A1 ho;show _ ∈ R (lo+d+1);by_cases e:k=lo+d
   ·subst e;rcases g.rc (lo+d) o ho with⟨_,lg,h3⟩|⟨h3,_⟩|h3
    ·rw[h3]at h2;have h2:b<(M (lo+d)).n:=h2;omega
    ·rw[hmx]at h3;cases h3
    ·rw[h3];exact C5
   ·have:=g.recs ph d A1 k hk A1 b h1 h2;rcases g.rc (lo+d) o ho with⟨h3,_⟩|⟨h3,_⟩|h3
    ·rw[h3];exact this
    ·rw[hmx]at h3;cases h3
    ·rw[h3];exact C7 _ this
def A4c{mv:Mem}{us:List Rec}(h:DZ m c us=some mv):mv.n=m.n∧mv.hi=m.hi∧mv.W=[]∧mv.lg=m.lg∧∀ id,id≤I4→∀ ab,Hp.get mv.H id=some ab→Hp.get m.H id=some ab∧id ∉ n9 us:=by
 obtain⟨H,n,W,hi,lg⟩:=m;unfold DZ at h;simp only at h;cases c with
 | free =>
   cases h;exact⟨rfl,rfl,rfl,rfl,fun id _ ab hab=>by rw[tN]at hab;cases hab⟩
 | one b =>
   simp only at h;cases hq:aT (n9 us) b || !(Nat.ble b I4)with
   | true=>rw[hq]at h;cases h
   | false =>
     rw[hq,gF]at h;cases h;simp only[M4,Bool.not_eq_false']at hq;have hb:=A2 hq.2;refine⟨rfl,rfl,rfl,rfl,fun id hid ab hab=>?_⟩;have hab:Hp.get (Hp.set hp0 b (Hp.get H b)) id=some ab:=hab;rw[F7 _ _ _ _ hb hid]at hab;by_cases e:id=b
     ·subst e;rw[A4 rfl]at hab;exact⟨hab,fun hm=>by rw[Z2.2 hm]at hq;exact absurd hq.1 (by simp)⟩
     ·rw[A3 e,tN]at hab;cases hab
 | all =>
   simp only at h;obtain⟨hb,h⟩:=A5 h;cases h;refine⟨rfl,rfl,rfl,rfl,fun id hid ab hab=>?_⟩;have hab:Hp.get (FY H (n9 us)) id=some ab:=hab;rw[FX _ _ (vV hb) id hid]at hab;by_cases e:id ∈ n9 us
   ·rw[A4 e]at hab;cases hab
   ·rw[A3 e]at hab;exact⟨hab,e⟩
def iW(M:Nat→Mem)(D:Nat→Bool)(b:Nat):Nat→Bool
 | 0=>false
 | n+1=>(D n && Nat.ble (M n).n b && Nat.blt b (M (n+1)).n) || iW M D b n
def X3{D:Nat→Bool}{b:Nat}:∀ n,iW M D b n=true↔∃ k,k<n∧D k=true∧(M k).n≤b∧b<(M (k+1)).n
 | 0=>by simp[iW]
 | n+1=>by
   simp only[iW,J9,I7,X3 n];constructor
   ·rintro(⟨⟨h1,h2⟩,h3⟩|⟨k,h1,h2⟩)
    ·exact⟨n,A1,h1,A2 h2,A2 h3⟩
    ·exact⟨k,A1,h2⟩
   ·rintro⟨k,h1,h2,h3,h4⟩
    by_cases e:k=n
    ·subst e;exact .inl ⟨⟨h2,C8 h3⟩,C8 h4⟩
    ·exact .inr ⟨k,A1,h2,h3,h4⟩
def Dr(lo:Nat)(D:Nat→Bool)(k:Nat):Bool:=Nat.ble lo k && D k
def j7{lo:Nat}{D:Nat→Bool}{k:Nat}:Dr lo D k=true↔lo≤k∧D k=true:=by
 unfold Dr;rw[I7];exact⟨fun h=>⟨A2 h.1,h.2⟩,fun h=>⟨C8 h.1,h.2⟩⟩
def GD(M:Nat→Mem)(lo N:Nat)(D:Nat→Bool)(b:Nat):Option AB:=bif iW M (Dr lo D) b N then Hp.get (M N).H b else Hp.get (M lo).H b
structure Inv (z:Zn) (P:Program) (base gl nt:Nat) (ops:Array Oper) (F:Nat→Fr) (M:Nat→Mem) (V:Nat→Value) (lo up:Nat) (ρ0:Ren) (w0:World) (D:Nat→Bool) (ρ:Ren) (a:Act) (w:World):Prop where
 ext:∀ b l,ρ0 b=some l→ρ b=some l
 new:∀ b l,ρ b=some l→ρ0 b=none→iW M (Dr lo D) b up=true∧(l.on=true→w0.heap.size≤l.blk)
 hr:HRf P base ρ (GD M lo up D) w
 keep:∀ k,k<w0.heap.size→w.heap[k]? = w0.heap[k]?
 size:w0.heap.size≤w.heap.size
 os:w.os=w0.os∧w.tape=w0.tape∧w.output=w0.output
 tch:∀ k,Ff ρ (GD M lo up D) k→w0.heap.size≤k∨Fp ρ0 (M lo).H k
 tsz:a.tmps.size=nt
 dfr:ZR z ρ nt (F 0) a.defers
 frm:∀ t,t<nt→VR ρ (bH D (fun k=>(ops[k]?).bind (·.dst)) V (F 0).get t ops.size) (a.tmps.getD t undef)
def V5{i:Nat}{o:Oper}(h:ops[i]? = some o):ops.toList[i]? = some o:=by simpa using h
def jS{ops:List Oper}{an:List I1}:∀ (r:List Oper) (i:Nat),MZ ops an r i=true→∀ j o,r[j]? = some o→pN (i+j) o.after.toList=true∧uP an (i+j) (Y7 ops o) ops 0=true
 | [],i,h,j,o,hj=>by simp at hj
 | x::r,i,h,j,o,hj=>by
   obtain⟨h1,h2⟩:=B8 (show(pN i x.after.toList && (uP an i (Y7 ops x) ops 0 && MZ ops an r (i+1)))=true from h);obtain⟨h2,h3⟩:=B8 h2;cases j with
   | zero=>simp at hj;subst hj;exact⟨h1,h2⟩
   | succ j =>
     have:=jS r (i+1) h3 j o (by simpa using hj)
     rwa[show i+1+j=i+(j+1) by omega]at this
def gT:∀ {es:List Edge} {i:Nat},pN i es=true→∀ e ∈ es,Region.binds .any e=true→e.on<i
 | [],i,h,e,he,_=>by cases he
 | x::r,i,h,e,he,hb=>by
   obtain⟨h1,h2⟩:=B8 (show((!(Region.binds .any x) || Nat.blt x.on i) && pN i r)=true from h);rcases C6.1 he with rfl|he
   ·rw[hb]at h1;have h1:Nat.blt e.on i=true:=by simpa only [Q3,Q4]using h1
    exact A2 h1
   ·exact gT h2 e he hb
def EL{an:List I1}{i:Nat}{sl:List Tmp}:∀ (r:List Oper) (k0:Nat),uP an i sl r k0=true→∀ j p t,r[j]? = some p→k0+j≠i→p.dst=some t→t ∈ sl→A5D an i (k0+j)=true
 | [],k0,h,j,p,t,hj,_,_,_=>by simp at hj
 | x::r,k0,h,j,p,t,hj,hne,hd,ht=>by
   obtain⟨h1,h2⟩:=B8 (show((Nat.beq k0 i || (match x.dst with|none=>true|some t=>!(aT sl t) || A5D an i k0)) && uP an i sl r (k0+1))=true from h);cases j with
   | zero =>
     simp at hj;subst hj;have hb:Nat.beq k0 i=false:=by
      cases hq:Nat.beq k0 i with
      | false=>rfl
      | true=>exact absurd (A0 hq) hne
     rw[hb,hd,Q4]at h1;simp only[Z2.2 ht,Q3,Q4]at h1;exact h1
   | succ j =>
     have:=EL r (k0+1) h2 j p t (by simpa using hj) A1 hd ht
     rwa[show k0+1+j=k0+(j+1) by omega]at this
def Rg.slot(g:Rg P base gl nt call ops F M V R X B){D:Nat→Bool}(hc:oO ops.toList fun k=>D k=true)(hlt:∀ k,D k=true→k<ops.size){i:Nat}{o:Oper}(ho:ops[i]? = some o)(hi:D i=false)
  (hr:∀ e ∈ o.after.toList,Region.binds .any e=true→D e.on=true) {t:Tmp} (ht:t ∈ Y7 ops.toList o):∀ k p,ops[k]? = some p→k≠i→p.dst=some t→(D k=true↔k<i):=fun k p hp hne hd=>by
 have hb:∀ (i:Nat) (o:Oper),ops.toList[i]? = some o→∀ e ∈ o.after.toList,Region.binds .any e=true→e.on<i:=fun i o ho=>by
  have:=(jS _ 0 g.ok i o ho).1;rw[G0]at this;exact gT this
 have h1:=(jS _ 0 g.ok i o (V5 ho)).2;have h2:=EL _ 0 h1 k p t (V5 hp) A1 hd ht;rw[G0,G0]at h2;unfold A5D at h2;rcases Nat.lt_trichotomy k i with hlt'|heq|hgt
 ·have hq:Nat.blt i k=false:=by
   cases hq:Nat.blt i k with
   | false=>rfl
   | true=>have:i<k:=A2 hq;omega
  rw[hq]at h2;have hm:=Z2.1 (by simpa using h2);exact⟨fun _=>hlt',fun _=>CU hc hb (i+1) i k o (K3 i) (V5 ho) hr hm⟩
 ·exact absurd heq hne
 ·have hq:Nat.blt i k=true:=C8 hgt;rw[hq]at h2;have hm:=Z2.1 (by simpa using h2);refine⟨fun hk=>?_,fun h=>by omega⟩
  have:=CU hc hb (k+1) k i p (K3 k) (V5 hp) (fun e he hbe=>hc k p (V5 hp) hk e he hbe) hm;rw[hi]at this;cases this
def Rg.frame(g:Rg P base gl nt call ops F M V R X B)(hnt:nt≤512){t:Tmp}(ht:t<nt):∀ i,i≤ops.size→(F i).get t=bH (fun k=>Nat.blt k i) (fun k=>(ops[k]?).bind (·.dst)) V (F 0).get t i
 | 0,_=>rfl
 | i+1,h=>by
   obtain⟨o,ho⟩:=S5 (ops:=ops) (i:=i) A1;obtain⟨h1,_,h3,_⟩:=g.st i o ho;have ih:=g.frame hnt ht i A1;have e1:bH (fun k=>Nat.blt k (i+1)) (fun k=>(ops[k]?).bind (·.dst)) V (F 0).get t i=bH (fun k=>Nat.blt k i) (fun k=>(ops[k]?).bind (·.dst)) V (F 0).get t i:=gR i fun k hk _=>by
    rw[show Nat.blt k (i+1)=true from C8 A1,show Nat.blt k i=true from C8 hk]
   have e2:Nat.blt i (i+1)=true:=C8 (B0 _);rw[h3];unfold bH;rw[e1,← ih];simp only[e2,ho,D8,true_and];cases hd:o.dst with
   | none=>simp[yA]
   | some d =>
     rw[hd]at h1;have hd':d<nt:=A2 h1;simp only[yA,D7];rw[N2 _ _ _ _ (E1 hd' hnt) (E1 ht hnt)];by_cases e:t=d
     ·subst e;simp
     ·rw[A3 e,A3 (fun h=>e h.symm)]
def Rg.look(g:Rg P base gl nt call ops F M V R X B)(hnt:nt≤512){D:Nat→Bool}(hc:oO ops.toList fun k=>D k=true)(hlt:∀ k,D k=true→k<ops.size){i:Nat}{o:Oper}(ho:ops[i]? = some o)(hi:D i=false)
  (hr:∀ e ∈ o.after.toList,Region.binds .any e=true→D e.on=true) {t:Tmp} (ht:t ∈ Y7 ops.toList o) (htn:t<nt):bH D (fun k=>(ops[k]?).bind (·.dst)) V (F 0).get t ops.size=(F i).get t:=by
 have hil:i<ops.size:=(D9.1 ho).1;rw[g.frame hnt htn i A1];have hs:=g.slot hc hlt ho hi hr ht;have e1:bH D (fun k=>(ops[k]?).bind (·.dst)) V (F 0).get t ops.size=bH (fun k=>Nat.blt k i) (fun k=>(ops[k]?).bind (·.dst)) V (F 0).get t ops.size:=gR _ fun k hk hd=>by
  obtain⟨p,hp⟩:=S5 (ops:=ops) hk;rw[hp]at hd;by_cases e:k=i
  ·subst e;rw[hi];symm;cases hq:Nat.blt k k with
   | false=>rfl
   | true=>have:k<k:=A2 hq;omega
  ·have:=hs k p hp e hd;rw[L1,this];exact⟨fun h=>C8 h,fun h=>A2 h⟩
 rw[e1];have e2:∀ d,i+d≤ops.size→bH (fun k=>Nat.blt k i) (fun k=>(ops[k]?).bind (·.dst)) V (F 0).get t (i+d)=bH (fun k=>Nat.blt k i) (fun k=>(ops[k]?).bind (·.dst)) V (F 0).get t i:=by
  intro d;induction d with
  | zero=>intro _;rfl
  | succ d ih =>
    intro hd;rw[show i+(d+1)=(i+d)+1 by omega];rw[bH,A3 (fun hh=>by have:i+d<i:=A2 hh.1;omega)];exact ih A1
 have:=e2 (ops.size-i) A1
 rwa[show i+(ops.size-i)=ops.size by omega]at this
def zQ{o:Oper}{x:Operand}{t:Tmp}(hx:x ∈ o.op.operands.toList)(ht:x=.tmp t):t ∈ Y7 ops.toList o:=by
 unfold Y7;refine B5.2 (.inr (B5.2 (.inl (List.mem_flatMap.2 ⟨x,hx,?_⟩))));subst ht;simp[sC]
def Rg.see{z:Zn}(g:Rg P base gl nt call ops F M V R X B)(ph:Ph ops B M lo up){ρ0 ρ:Ren}{w0 w:World}{D:Nat→Bool}{a:Act}{i:Nat}{o:Oper}
  (hat:At P base gl ρ0 (M lo) (M up).hi w0) (hc:oO ops.toList fun k=>D k=true) (hiL:lo≤i) (hiup:i<up) (ho:ops[i]? = some o)
  (hr:∀ e ∈ o.after.toList,Region.binds .any e=true→D e.on=true):∀ id,id≤I4→∀ ab,Hp.get (M i).H id=some ab→id ∉ n9 (FF ((m6 ops.toList []).getD i []) (R i))→GD M lo up D id=some ab:=fun id hid ab h1 h2=>by
 unfold GD;by_cases hin:(M lo).n≤id∧id<(M i).n
 ·obtain⟨k,k0,k1,k2,k3⟩:∃ k,lo≤k∧k<i∧(M k).n≤id∧id<(M (k+1)).n:=by
   have:=g.who ph (i-lo) A1 id hin.1 (by rw[show lo+(i-lo)=i by omega];exact hin.2)
   rwa[show lo+(i-lo)=i by omega]at this
  have hDk:D k=true:=by
   have hrec:(⟨k,(M k).n,(M (k+1)).n⟩:Rec) ∈ R i:=by
    have:=g.recs ph (i-lo) A1 k k0 A1 id k2 k3
    rwa[show lo+(i-lo)=i by omega]at this
   by_cases hk:k ∈ (m6 ops.toList []).getD i []
   ·exact CU hc (fun i o ho=>by
     have:=(jS _ 0 g.ok i o ho).1;rw[G0]at this;exact gT this) (i+1) i k o (K3 i) (V5 ho) hr hk
   ·exfalso;refine h2 (AU.2 ⟨_,R7.2 ⟨hrec,?_⟩,k2,k3⟩);cases hq:aT ((m6 ops.toList []).getD i []) k with
    | false=>rfl
    | true=>exact absurd (Z2.1 hq) hk
  have hu:iW M (Dr lo D) id up=true:=(X3 _).2 ⟨k,A1,j7.2 ⟨k0,hDk⟩,k2,k3⟩;rw[hu];simp only[F0];rw[(g.le ph (i:=i) (j:=up) hiL A1 (B0 _)).2.2 id hid hin.2];exact h1
 ·have hA:=(g.all ph hiL A1).2.2.2.2 id hid A1;rw[hA]at h1;have hu:iW M (Dr lo D) id up=false:=by
   cases hq:iW M (Dr lo D) id up with
   | false=>rfl
   | true =>
     exfalso;obtain⟨k,k1,kD,k2,k3⟩:=(X3 _).1 hq;have k0:=(j7.1 kD).1;obtain⟨l,e1,_⟩:=hat.hr.at_ id hid ab h1;have hk0:=g.le ph (i:=lo) (j:=k) (B0 _) k0 A1;have hkN:=g.le ph (i:=k+1) (j:=up) A1 A1 (B0 _);have hNn:=(g.all ph ph.le (B0 _)).2.2.1;rw[hat.fr id A1 A1]at e1;cases e1
  rw[hu];exact h1
def Rg.quiet{z:Zn}(g:Rg P base gl nt call ops F M V R X B)(hcall:Y3 P base gl call){ρ0 ρ:Ren}{w0 w:World}{D D':Nat→Bool}{a:Act}{i:Nat}{o:Oper}{Q:Exit→Act→World→Prop}{K:Act→World→Prop}
  (hat:At P base gl ρ0 (M lo) (M up).hi w0) (hS:Sat (M (i+1)).lg) (hnt:nt≤512) (inv:Inv z P base gl nt ops F M V lo up ρ0 w0 D ρ a w) (hc:oO ops.toList fun k=>D k=true) (hlt:∀ k,D k=true→k<ops.size) (ho:ops[i]? = some o) (hi:D i=false)
  (hr:∀ e ∈ o.after.toList,Region.binds .any e=true→D e.on=true) (hD:∀ k,k≠i→D' k=D k) (hDi:D' i=true)
  (hqa:fF nt ops.toList (Z9 P call o) ((m6 ops.toList []).getD i []) (R i) (F i) o (M i) (M (i+1)) (V i) r) (hfz:∀ b ab,r=some (b,ab)→GD M lo up D b=some ab)
  (hK:∀ ρ' a' w',Inv z P base gl nt ops F M V lo up ρ0 w0 D' ρ' a' w'→K a' w'):jF P z.rd ops Q i K a w:=by
 have hil:i<ops.size:=(D9.1 ho).1;obtain⟨hd1,hd2,hF,_⟩:=g.st i o ho;have hlook:∀ t,t ∈ Y7 ops.toList o→t<nt→VR ρ ((F i).get t) (a.tmps.getD t undef):=fun t ht htn=>by
  rw[← g.look hnt hc hlt ho hi hr ht htn];exact inv.frm t htn
 have hFR:FR ρ (F i) a.eval o.op:=fun x hx=>by
  have hok:okX nt gl x=true:=E4.1 hd2 x hx;cases x with
  | tmp t=>exact hlook t (zQ hx rfl) (A2 hok)
  | const v=>exact VR.ofC hok
  | global gg=>exact VR.ptr (o:=0) (inv.ext _ _ (hat.gr gg (A2 hok)))
  | func f=>exact .func (a:=[]) (b:=[]) (a':=[]) (b':=[]) rfl rfl (fun i v v' h=>by simp at h) (fun i v v' h=>by simp at h)
 have hwant:∀ lg b,bZ nt (F i) (M i).lg ops.toList o=some (b,lg)→Sat lg→Region.wanted o (yielded ops a.tmps)=b:=fun lg b hw hSl=>by
  unfold bZ at hw;split at hw
  ·rename_i hg;cases hw;simp[Region.wanted,hg]
  ·rename_i j want hg;split at hw
   ·rename_i p hp;split at hw
    ·rename_i t ht;obtain⟨h1,h2⟩:=A5 hw;have h1:t<nt:=A2 h1;have hv:=hlook t (by
      unfold Y7;refine B5.2 (.inr (B5.2 (.inr ?_)));simp[hg,hp,ht]) h1
     exact oQ hg hp ht (by rw[inv.tsz];exact h1) (rR h2 hv hSl)
    ·cases hw
   ·cases hw
 have hframe:∀ (ρ':Ren) (v':Value),(∀ b l,ρ b=some l→ρ' b=some l)→VR ρ' (V i) v'→∀ t,t<nt→VR ρ' (bH D' (fun k=>(ops[k]?).bind (·.dst)) V (F 0).get t ops.size) ((a.put o.dst v').tmps.getD t undef):=fun ρ' v' he hv t ht=>by
  by_cases hd:o.dst=some t
  ·have hnext:∀ k,i<k→k<ops.size→(ops[k]?).bind (·.dst)=some t→D k=false:=fun k hik hk hkd=>by
    obtain⟨p,hp⟩:=S5 (ops:=ops) hk;rw[hp]at hkd
    have:=g.slot hc hlt ho hi hr (t:=t) (by unfold Y7;simp[hd]) k p hp A1 hkd;cases hq:D k with
    | false=>rfl
    | true=>have:=this.1 hq;omega
   rw[tR hD hDi ops.size hil (by simp[ho,hd]) hnext];simp only[hd,Act.put,B9];rw[G6,A4 rfl,A4 (by rw[inv.tsz];exact ht)];exact hv
  ·rw[qN hD (by simp[ho];exact hd)];have h1:=(inv.frm t ht).mono he;cases hdd:o.dst with
   | none=>exact h1
   | some d =>
     have hne:d≠t:=fun e=>hd (e▸hdd)
     simp only[Act.put,B9]at h1 ⊢;rw[G6,A3 hne];exact h1
 have hM:∃ lg,M (i+1)=(M i).wLg lg:=by
  rcases hqa with⟨lg,_,_,h,_⟩|⟨_,lg2,_,_,h,_⟩
  ·exact⟨lg,h⟩
  ·exact⟨lg2,h⟩
 have hG:GD M lo up D'=GD M lo up D:=by
  funext b;unfold GD;have:iW M (Dr lo D') b up=iW M (Dr lo D) b up:=by
   obtain⟨lg,hm⟩:=hM;rw[L1,X3,X3];constructor
   ·rintro⟨k,h1,h2,h3,h4⟩
    have e:k≠i:=fun e=>by
     subst e;rw[hm]at h4;have h4:b<(M k).n:=h4;omega
    obtain⟨h20,h2⟩:=j7.1 h2;rw[hD k e]at h2;exact⟨k,h1,j7.2 ⟨h20,h2⟩,h3,h4⟩
   ·rintro⟨k,h1,h2,h3⟩
    obtain⟨h20,h2⟩:=j7.1 h2;have e:k≠i:=fun e=>by subst e;rw[hi]at h2;cases h2
    exact⟨k,h1,j7.2 ⟨h20,by rw[hD k e];exact h2⟩,h3⟩
  rw[this]
 have hnew:∀ b l,ρ b=some l→ρ0 b=none→iW M (Dr lo D') b up=true∧(l.on=true→w0.heap.size≤l.blk):=fun b l h1 h2=>by
  obtain⟨k1,k2⟩:=inv.new b l h1 h2;obtain⟨k,q1,q2,q3⟩:=(X3 _).1 k1;obtain⟨q20,q2⟩:=j7.1 q2;have e:k≠i:=fun e=>by subst e;rw[hi]at q2;cases q2
  exact⟨(X3 _).2 ⟨k,q1,j7.2 ⟨q20,by rw[hD k e];exact q2⟩,q3⟩,k2⟩
 unfold jF;simp only[ho];rcases hqa with⟨lg,hw,hv,hm,_⟩|⟨lg,lg2,hw,hq,hm,hrr⟩
 ·have hSl:Sat lg:=by rw[hm]at hS;exact hS
  rw[hwant lg false hw hSl];simp only[K0,if_false];refine hK ρ _ w ⟨inv.ext,hnew,hG▸inv.hr,inv.keep,inv.size,inv.os,hG▸inv.tch,?_,?_,hframe ρ undef (fun _ _ h=>h) (hv▸rU ρ)⟩
  ·cases hdd:o.dst<;>simp[Act.put,inv.tsz]
  ·rw[gG];exact inv.dfr
 ·obtain⟨mv,m',hview,hrun,hW,hhi,hl⟩:=mX hq;obtain⟨v1,v2,v3,v4,v5,_⟩:=uR hview;have hSm:Sat m'.lg:=by rw[hm]at hS;rw[hl];exact hS
  have hSl:Sat lg:=U3.le hSm (by have:=aY hcall hrun;rw[v4]at this;exact this);rw[hwant lg true hw hSl];simp only[if_true];have hHR:HR P base ρ mv.H w:=inv.hr.hr fun id hid ab hab=>hfz id ab (hrr.trans (v5 id hid ab hab))
  have hAt:At P base gl ρ mv m'.hi w:=⟨hHR,C4 hat.bs inv.size,fun b h1 h2=>(by rw[v1]at h1;rw[hhi]at h2;omega),hat.gr.mono inv.ext,(by rw[v1,v2];exact B0 _),fun b hb=>(by rw[v3]at hb;cases hb),fun k o hk=>⟨(hat.gf k o hk).1,(inv.keep k (E1 (hat.gf k o hk).1 hat.bs)).trans (hat.gf k o hk).2⟩⟩;refine sI hcall hrun hSm hAt hFR fun v' ρ' w' hv st=>?_
  have hρ:ρ'=ρ:=by
   funext b;cases h0:ρ b with
   | some l=>exact st.ext b l h0
   | none =>
     cases h1:ρ' b with
     | none=>rfl
     | some l =>
       exfalso;have h2:=(st.new b l h1 h0).1;have h3:=st.hr.dom b l h1;rw[v1]at h2;unfold uI at h2;unfold I4 at h3;omega
  subst hρ;have hkeep:∀ k,k<w.heap.size→w'.heap[k]? = w.heap[k]? := fun k hk=>st.keep k hk fun b hb=>by rw[hW]at hb;cases hb
  refine hK ρ' _ w' ⟨inv.ext,hnew,hG▸⟨inv.hr.dom,fun id hid ab hab=>?_⟩,fun k hk=>by rw[hkeep k (E1 hk inv.size),inv.keep k hk],C4 inv.size st.size,⟨st.os.1.trans inv.os.1,st.os.2.1.trans inv.os.2.1,st.os.2.2.trans inv.os.2.2⟩,hG▸inv.tch,?_,?_,hframe ρ' v' (fun _ _ h=>h) hv⟩
  ·obtain⟨l,e1,e2,e3⟩:=inv.hr.at_ id hid ab hab;exact⟨l,e1,e2.mono (fun _ _ h=>h) (fun k hk=>hkeep _ (e2.tc hk)),e3⟩
  ·cases hdd:o.dst<;>simp[Act.put,inv.tsz]
  ·rw[gG];exact inv.dfr
def Rg.step{z:Zn}(g:Rg P base gl nt call ops F M V R X B)(ph:Ph ops B M lo up)(hcall:Y3 P base gl call){ρ0 ρ:Ren}{w0 w:World}{D D':Nat→Bool}{a:Act}{i:Nat}{o:Oper}{Q:Exit→Act→World→Prop}{K:Act→World→Prop}
  (hat:At P base gl ρ0 (M lo) (M up).hi w0) (hS:Sat (M up).lg) (hnt:nt≤512) (inv:Inv z P base gl nt ops F M V lo up ρ0 w0 D ρ a w) (hc:oO ops.toList fun k=>D k=true) (hlt:∀ k,D k=true→k<ops.size) (hiL:lo≤i) (hiup:i<up) (ho:ops[i]? = some o) (hi:D i=false)
  (hr:∀ e ∈ o.after.toList,Region.binds .any e=true→D e.on=true) (hD:∀ k,k≠i→D' k=D k) (hDi:D' i=true)
  (hnq:¬∃ r,fF nt ops.toList (Z9 P call o) ((m6 ops.toList []).getD i []) (R i) (F i) o (M i) (M (i+1)) (V i) r)
  (hK:∀ ρ' a' w',Inv z P base gl nt ops F M V lo up ρ0 w0 D' ρ' a' w'→K a' w'):jF P z.rd ops Q i K a w:=by
 have hil:i<ops.size:=(D9.1 ho).1;obtain⟨hd1,hd2,hF,hstep⟩:=g.st i o ho;have hmx:=ph.mx i o hiL hiup ho;have hsz:=ph.sz;have hlo:=g.le ph (i:=lo) (j:=i) (B0 _) hiL A1;have hup:=g.le ph (i:=i+1) (j:=up) A1 A1 (B0 _);have hone:=g.one ho hmx (g.all ph hiL A1).2.2.1;have hlook:∀ t,t ∈ Y7 ops.toList o→t<nt→VR ρ ((F i).get t) (a.tmps.getD t undef):=fun t ht htn=>by
  rw[← g.look hnt hc hlt ho hi hr ht htn];exact inv.frm t htn
 have hFR:FR ρ (F i) a.eval o.op:=fun x hx=>by
  have hok:okX nt gl x=true:=E4.1 hd2 x hx;cases x with
  | tmp t=>exact hlook t (zQ hx rfl) (A2 hok)
  | const v=>exact VR.ofC hok
  | global gg=>exact VR.ptr (o:=0) (inv.ext _ _ (hat.gr gg (A2 hok)))
  | func f=>exact .func (a:=[]) (b:=[]) (a':=[]) (b':=[]) rfl rfl (fun i v v' h=>by simp at h) (fun i v v' h=>by simp at h)
 have hwant:∀ lg b,bZ nt (F i) (M i).lg ops.toList o=some (b,lg)→Sat lg→Region.wanted o (yielded ops a.tmps)=b:=fun lg b hw hSl=>by
  unfold bZ at hw;split at hw
  ·rename_i hg;cases hw;simp[Region.wanted,hg]
  ·rename_i j want hg;split at hw
   ·rename_i p hp;split at hw
    ·rename_i t ht;obtain⟨h1,h2⟩:=A5 hw;have h1:t<nt:=A2 h1;have hv:=hlook t (by
      unfold Y7;refine B5.2 (.inr (B5.2 (.inr ?_)));simp[hg,hp,ht]) h1
     exact oQ hg hp ht (by rw[inv.tsz];exact h1) (rR h2 hv hSl)
    ·cases hw
   ·cases hw
 have hframe:∀ (ρ':Ren) (v':Value),(∀ b l,ρ b=some l→ρ' b=some l)→VR ρ' (V i) v'→∀ t,t<nt→VR ρ' (bH D' (fun k=>(ops[k]?).bind (·.dst)) V (F 0).get t ops.size) ((a.put o.dst v').tmps.getD t undef):=fun ρ' v' he hv t ht=>by
  by_cases hd:o.dst=some t
  ·have hnext:∀ k,i<k→k<ops.size→(ops[k]?).bind (·.dst)=some t→D k=false:=fun k hik hk hkd=>by
    obtain⟨p,hp⟩:=S5 (ops:=ops) hk;rw[hp]at hkd
    have:=g.slot hc hlt ho hi hr (t:=t) (by unfold Y7;simp[hd]) k p hp A1 hkd;cases hq:D k with
    | false=>rfl
    | true=>have:=this.1 hq;omega
   rw[tR hD hDi ops.size hil (by simp[ho,hd]) hnext];simp only[hd,Act.put,B9];rw[G6,A4 rfl,A4 (by rw[inv.tsz];exact ht)];exact hv
  ·rw[qN hD (by simp[ho];exact hd)];have h1:=(inv.frm t ht).mono he;cases hdd:o.dst with
   | none=>exact h1
   | some d =>
     have hne:d≠t:=fun e=>hd (e▸hdd)
     simp only[Act.put,B9]at h1 ⊢;rw[G6,A3 hne];exact h1
 have hused:∀ b,iW M (Dr lo D') b up=true↔(iW M (Dr lo D) b up=true∨((M i).n≤b∧b<(M (i+1)).n)):=fun b=>by
  rw[X3,X3];constructor
  ·rintro⟨k,h1,h2,h3⟩
   obtain⟨h20,h2⟩:=j7.1 h2;by_cases e:k=i
   ·subst e;exact .inr h3
   ·rw[hD k e]at h2;exact .inl ⟨k,h1,j7.2 ⟨h20,h2⟩,h3⟩
  ·rintro(⟨k,h1,h2,h3⟩|h3)
   ·obtain⟨h20,h2⟩:=j7.1 h2;have e:k≠i:=fun e=>by subst e;rw[hi]at h2;cases h2
    exact⟨k,h1,j7.2 ⟨h20,by rw[hD k e];exact h2⟩,h3⟩
   ·exact⟨i,hiup,j7.2 ⟨hiL,hDi⟩,h3⟩
 unfold jF;simp only[ho];have hSi:Sat (M (i+1)).lg:=U3.le hS (by have:=g.lgs hcall (i:=i+1) (up-(i+1)) A1;rwa[show i+1+(up-(i+1))=up by omega]at this);rcases hstep with⟨_,lg,hw,hv,hm⟩|⟨_,lg,lg2,hw,hq,hm⟩|⟨hso,_⟩|⟨_,_,lg,hw,mv,m',hview,hrun,hW,hhi,hmerge⟩
 ·exact absurd ⟨_,.inl ⟨lg,hw,hv,hm,rfl⟩⟩ hnq
 ·exact absurd ⟨_,.inr ⟨lg,lg2,hw,hq,hm,rfl⟩⟩ hnq
 ·rw[hmx]at hso;cases hso
 ·have hSm:Sat m'.lg:=by rw[NJ hmerge]at hSi;exact hSi
  have hSl:Sat lg:=U3.le hSm (by have:=aY hcall hrun;rw[TM hview]at this;exact this);rw[hwant lg true hw hSl];simp only[if_true];obtain⟨v1,v2,v3,_,v4⟩:=A4c hview;have v1:mv.n=(M i).n:=v1;have v2:mv.hi=(M i).hi:=v2;have v4:∀ id,id≤I4→∀ ab,Hp.get mv.H id=some ab→Hp.get (M i).H id=some ab∧id ∉ n9 (FF ((m6 ops.toList []).getD i []) (R i)):=v4;have hnh:=(g.all ph hiL A1).2.2.1;obtain⟨q1,q2,q3,q4,q5,q6,_,q7⟩:=NI hmerge hnh hhi;have q1:(M i).n≤(M (i+1)).n:=q1;have q5:(M (i+1)).n=m'.hi∨((M (i+1)).n=(M i).n∧m'.hi≤(M i).n):=q5;have q7:∀ id,id≤I4→Hp.get (M (i+1)).H id=if(M i).n≤id∧id<(M (i+1)).n then Hp.get m'.H id else Hp.get (M i).H id:=q7
  have hsubv:∀ id,id≤I4→∀ ab,Hp.get mv.H id=some ab→GD M lo up D id=some ab:=fun id hid ab hab=>by
   obtain⟨h1,h2⟩:=v4 id hid ab hab;exact g.see (z:=z) (a:=a) (ρ:=ρ) (w:=w) ph hat hc hiL hiup ho hr id hid ab h1 h2
  have hHR:HR P base ρ mv.H w:=inv.hr.hr hsubv;have hFree:L6 ρ mv.n m'.hi:=fun b h1 h2=>by
   rw[v1]at h1;cases hb:ρ b with
   | none=>rfl
   | some l =>
     exfalso;cases h0:ρ0 b with
     | some l0 =>
       rw[hat.fr b A1 A1]at h0;cases h0
     | none =>
       obtain⟨k,k1,k2,k3,k4⟩:=(X3 _).1 (inv.new b l hb h0).1;obtain⟨k0,k2⟩:=j7.1 k2;have hki:k≠i:=fun e=>by subst e;rw[hi]at k2;cases k2
       rcases G4 k i with hki'|hki'
       ·have:=(g.le ph (i:=k+1) (j:=i) A1 A1 A1).1;omega
       ·have:=(g.le ph (i:=i+1) (j:=k) A1 A1 A1).1;rcases q5 with q5|⟨_,q5⟩<;>omega
  have hAt:At P base gl ρ mv m'.hi w:=⟨hHR,C4 hat.bs inv.size,hFree,hat.gr.mono inv.ext,(by rw[v1,v2];exact hnh),fun b hb=>(by rw[v3]at hb;cases hb),fun k o hk=>⟨(hat.gf k o hk).1,(inv.keep k (E1 (hat.gf k o hk).1 hat.bs)).trans (hat.gf k o hk).2⟩⟩;refine sI hcall hrun hSm hAt hFR fun v' ρ' w' hv st=>hK ρ' _ w' ?_
  have hkeep:∀ k,k<w.heap.size→w'.heap[k]? = w.heap[k]? := fun k hk=>st.keep k hk fun b hb=>by rw[hW]at hb;cases hb
  have hm'n:m'.n≤m'.hi:=st.nhi (by rw[v1,v2];exact hnh);have hnew:∀ b l,ρ' b=some l→ρ b=none→((M i).n≤b∧b<(M (i+1)).n)∧(l.on=true→w.heap.size≤l.blk):=fun b l h1 h2=>by
   have h3:=st.new b l h1 h2;rw[v1]at h3;refine⟨⟨h3.1,?_⟩,?_⟩
   ·rcases q5 with q5|⟨_,q5⟩<;>omega
   ·intro ho;rcases st.blk b l h1 h2 ho with h|⟨b0,h,_⟩
    ·exact h
    ·rw[hW]at h;cases h
  have hin:∀ id,id≤I4→(M i).n≤id→id<(M (i+1)).n→GD M lo up D' id=Hp.get m'.H id∧ρ id=none:=fun id hid h1 h2=>by
   constructor
   ·unfold GD;rw[(hused id).2 (.inr ⟨h1,h2⟩)];simp only[F0];rw[hup.2.2 id hid h2,q7 id hid,A4 ⟨h1,h2⟩]
   ·refine hFree id (by rw[v1];exact h1) ?_;rcases q5 with q5|⟨q5,_⟩
    ·omega
    ·rw[q5]at h2;omega
  have hout:∀ id,¬ ((M i).n≤id∧id<(M (i+1)).n)→GD M lo up D' id=GD M lo up D id:=fun id hid=>by
   unfold GD;have:iW M (Dr lo D') id up=iW M (Dr lo D) id up:=by
    rw[L1,hused id];exact⟨fun h=>h.elim (fun h=>h) (fun h=>absurd h hid),.inl⟩
   rw[this]
  have hFf:∀ k,Ff ρ' (GD M lo up D') k→w.heap.size≤k∨Ff ρ (GD M lo up D) k:=fun k ⟨id,ab,l,hid,hab,hl,ht⟩=>by
   by_cases hI:(M i).n≤id∧id<(M (i+1)).n
   ·rw[(hin id hid hI.1 hI.2).1]at hab;rcases st.tch k ⟨id,ab,l,hid,hab,hl,ht⟩with h|⟨id0,ab0,l0,e1,e2,e3,e4⟩
    ·exact .inl h
    ·exact .inr ⟨id0,ab0,l0,e1,hsubv id0 e1 ab0 e2,e3,e4⟩
   ·rw[hout id hI]at hab;obtain⟨l3,c1,_⟩:=inv.hr.at_ id hid ab hab;rw[st.ext id l3 c1]at hl
    have:=B1 hl;subst this;exact .inr ⟨id,ab,l3,hid,hab,c1,ht⟩
  refine⟨fun b l h=>st.ext b l (inv.ext b l h),fun b l h1 h2=>?_,⟨st.hr.dom,fun id hid ab hab=>?_⟩,fun k hk=>by rw[hkeep k (E1 hk inv.size),inv.keep k hk],C4 inv.size st.size,⟨st.os.1.trans inv.os.1,st.os.2.1.trans inv.os.2.1,st.os.2.2.trans inv.os.2.2⟩,fun k hk=>(hFf k hk).elim (fun h=>.inl (C4 inv.size h)) (inv.tch k),?_,?_,hframe ρ' v' st.ext hv⟩
  ·cases h0:ρ b with
   | some l1 =>
     rw[st.ext b l1 h0]at h1
     have:=B1 h1;subst this;exact⟨(hused b).2 (.inl (inv.new b l1 h0 h2).1),(inv.new b l1 h0 h2).2⟩
   | none =>
     have:=hnew b l h1 h0;exact⟨(hused b).2 (.inr this.1),fun ho=>C4 inv.size (this.2 ho)⟩
  ·by_cases hI:(M i).n≤id∧id<(M (i+1)).n
   ·obtain⟨h1,h2⟩:=hin id hid hI.1 hI.2;rw[h1]at hab;obtain⟨l,e1,e2,e3⟩:=st.hr.at_ id hid ab hab;refine⟨l,e1,e2,fun hrw hon=>⟨(e3 hrw hon).1,fun id2 hid2 ab2 l2 f1 f2 f3=>?_⟩⟩;by_cases hI2:(M i).n≤id2∧id2<(M (i+1)).n
    ·rw[(hin id2 hid2 hI2.1 hI2.2).1]at f1;exact(e3 hrw hon).2 id2 hid2 ab2 l2 f1 f2 f3
    ·rw[hout id2 hI2]at f1;obtain⟨l3,c1,c2,_⟩:=inv.hr.at_ id2 hid2 ab2 f1;rw[st.ext id2 l3 c1]at f2
     have:=B1 f2;subst this;have h5:=c2.tc f3;have h6:=(hnew id l e1 h2).2 hon;omega
   ·rw[hout id hI]at hab;obtain⟨l,e1,e2,e3⟩:=inv.hr.at_ id hid ab hab;refine⟨l,st.ext _ _ e1,e2.mono st.ext (fun k hk=>hkeep _ (e2.tc hk)),fun hrw hon=>⟨(e3 hrw hon).1,fun id2 hid2 ab2 l2 f1 f2 f3=>?_⟩⟩;by_cases hI2:(M i).n≤id2∧id2<(M (i+1)).n
    ·exfalso;rw[(hin id2 hid2 hI2.1 hI2.2).1]at f1;have hfr:ab2.fr=true:=by
      cases hq:ab2.fr with
      | true=>rfl
      | false =>
        exfalso;rcases f3 with⟨_,h1,h2⟩|⟨h1,_⟩
        ·have h5:=(hnew id2 l2 f2 (hin id2 hid2 hI2.1 hI2.2).2).2 h1;have h6:=e2.tc (.inl ⟨AB.rw_on hrw,hon,rfl⟩);omega
        ·rw[h1]at hq;cases hq
     rcases st.tch _ ⟨id2,ab2,l2,hid2,f1,f2,hfr,f3⟩with h|⟨id0,ab0,l0,c1,c2,c3,_,c4⟩
     ·have:=e2.tc (.inl ⟨AB.rw_on hrw,hon,rfl⟩);omega
     ·have h7:=(e3 hrw hon).2 id0 c1 ab0 l0 (hsubv id0 c1 ab0 c2) c3 c4;subst h7;have h8:=hsubv id0 c1 ab0 c2;rw[hab]at h8;have h8:=B1 h8;subst h8;have h9:id0<mv.n∨m'.hi≤id0:=by
       rcases G4 id0 mv.n with h|h
       ·exact .inl h
       ·rcases G4 id0 m'.hi with h'|h'
        ·rw[hFree id0 h h']at e1;cases e1
        ·exact .inr h'
      have h10:=st.same id0 c1 (by rw[hW];simp) h9;rw[c2]at h10;obtain⟨_,h11⟩:=st.hr.atl (st.ext _ _ e1) h10
      have:=(h11 hrw hon).2 id2 hid2 ab2 l2 f1 f2 f3;subst this;exact hI hI2
    ·rw[hout id2 hI2]at f1;obtain⟨l3,c1,_⟩:=inv.hr.at_ id2 hid2 ab2 f1;rw[st.ext id2 l3 c1]at f2
     have:=B1 f2;subst this;exact(e3 hrw hon).2 id2 hid2 ab2 l3 f1 c1 f3
  ·cases hdd:o.dst<;>simp[Act.put,inv.tsz]
  ·rw[gG];exact inv.dfr.congr st.ext fun _=>⟨rfl,rfl⟩
end
end
section
open Go
variable [Ora]
def GM:∀ (l:List Bool) (i:Nat),l[i]? = some false→(l.set i true).countP (fun b=>!b)+1=l.countP (fun b=>!b)
 | [],i,h=>by simp at h
 | b::r,0,h=>by simp at h;subst h;simp
 | b::r,i+1,h=>by
   have:=GM r i (by simpa using h);rw[List.set_cons_succ,List.countP_cons,List.countP_cons];omega
def SV{l:List Bool}(h:l.countP (fun b=>!b)=0):∀ i,i<l.length→l[i]? = some true:=fun i hi=>by
 rw[List.countP_eq_zero]at h
 have:=h l[i] (N9 hi);rw[A8 hi];cases hb:l[i]with
 | true=>rfl
 | false=>rw[hb]at this;exact absurd rfl this
section
variable {P:Program} {base gl:Nat} {call:Q9}
def A11(h:nG m m'=some m2)(hhi:m.hi≤m'.hi):m.hi≤m2.hi:=by
 unfold nG at h;cases hq:Nat.ble m'.hi m.n with
 | true=>rw[hq]at h;cases h;exact B0 _
 | false =>
   rw[hq]at h;obtain⟨_,h⟩:=A5 h;simp only[F5,fP]at h;cases h;exact hhi
def CS:∀ {n:Nat} {b:I1} {qs:Qs},KA n b qs=true→∀ k,k<n→k ∈ b∨∃ q ∈ qs,q.1=k
 | 0,_,_,_,k,h=>by omega
 | n+1,b,qs,h,k,hk=>by
   obtain⟨h1,h2⟩:=B8 (show((aT b n || qs.any fun q=>Nat.beq n q.1) && KA n b qs)=true from h);by_cases e:k=n
   ·subst e;rcases J9 _ _▸h1 with h1|h1
    ·exact .inl (Z2.1 h1)
    ·obtain⟨q,hq,hb⟩:=V2.1 h1;exact .inr ⟨q,hq,(A0 hb).symm⟩
   ·exact CS h2 k A1
def BA:∀ {i:Nat} {bs:List I1} {r:List Oper},IT i bs r=true→∀ (j:Nat) (c:List Nat) (o:Oper),bs[j]? = some c→r[j]? = some o→i ∈ c∨bB o.op=true
 | _,[],_,_,j,c,o,h,_=>by simp at h
 | _,_::_,[],_,j,c,o,_,h=>by simp at h
 | i,c0::bs,o0::r,h,j,c,o,h1,h2=>by
   obtain⟨k1,k2⟩:=B8 (show((aT c0 i || bB o0.op) && IT i bs r)=true from h);cases j with
   | zero =>
     simp at h1 h2;subst h1;subst h2;rcases J9 _ _▸k1 with k1|k1
     ·exact .inl (Z2.1 k1)
     ·exact .inr k1
   | succ j=>exact BA k2 j c o (by simpa using h1) (by simpa using h2)
def HT{ops:Array Oper}{X:Nat→Qs}{i:Nat}{o:Oper}(h:A4r ops X i o=true):bB o.op=false:=by
 obtain⟨h,_⟩:=B8 (show(wrO o.op && _)=true from h);cases ho:o.op<;>rw[ho]at h<;>first
  | rfl
  | cases h
def QZ{ops:Array Oper}{X:Nat→Qs}{i:Nat}{o:Oper}(h:A4r ops X i o=true):∀ k,k<i→k ∈ (m6 ops.toList []).getD i []∨∃ q ∈ X i,q.1=k:=by
 obtain⟨_,h⟩:=B8 (show(wrO o.op && _)=true from h);obtain⟨h,_⟩:=B8 h;exact CS h
def QY{ops:Array Oper}{X:Nat→Qs}{i:Nat}{o:Oper}(h:A4r ops X i o=true):∀ j p,i<j→ops[j]? = some p→i ∈ (m6 ops.toList []).getD j []∨bB p.op=true:=fun j p hj hp=>by
 obtain⟨_,h⟩:=B8 (show(wrO o.op && _)=true from h);obtain⟨_,h⟩:=B8 h;obtain⟨tl,e1,e2,_⟩:=vY ops.toList [];have hlen:(m6 ops.toList []).length=ops.size:=by rw[e1];simpa using e2
 have hs:j<ops.size:=(D9.1 hp).1;have hj2:j<(m6 ops.toList []).length:=A1
 have:=BA h (j-(i+1)) (m6 ops.toList [])[j] p (by rw[H9,show i+1+(j-(i+1))=j by omega,A8 hj2]) (by rw[H9,show i+1+(j-(i+1))=j by omega];exact V5 hp);rw[B4,A8 hj2];exact this
def uW(ops:Array Oper)(B:Nat→Bool):∀ (d lo:Nat),lo+d=ops.size→∃ up,lo≤up∧up≤ops.size∧(∀ i o,lo≤i→i<up→ops[i]? = some o→B i=false)∧(up<ops.size→∃ o,ops[up]? = some o∧B up=true)
 | 0,lo,h=>⟨lo,B0 _,A1,fun i o h1 h2=>by omega,fun h2=>by omega⟩
 | d+1,lo,h=>by
   obtain⟨o,ho⟩:=S5 (ops:=ops) (i:=lo) A1;cases hs:B lo with
   | true=>exact⟨lo,B0 _,A1,fun i o h1 h2=>by omega,fun _=>⟨o,ho,hs⟩⟩
   | false =>
     obtain⟨up,h1,h2,h3,h4⟩:=uW ops B d (lo+1) A1;refine⟨up,A1,h2,fun i o' a b c=>?_,h4⟩;by_cases e:i=lo
     ·subst e;exact hs
     ·exact h3 i o' A1 b c
section
variable {nt:Nat} {ops:Array Oper} {F:Nat→Fr} {M:Nat→Mem} {V:Nat→Value} {R:Nat→List Rec} {X:Nat→Qs} {B:Nat→Bool} {lo up:Nat}
def Rg.frameUp(g:Rg P base gl nt call ops F M V R X B)(hnt:nt≤512){t:Tmp}(ht:t<nt){i:Nat}(hi:i≤ops.size):bH (fun k=>Nat.blt k i) (fun k=>(ops[k]?).bind (·.dst)) V (F 0).get t ops.size=(F i).get t:=by
 rw[g.frame hnt ht i hi];have e2:∀ d,i+d≤ops.size→bH (fun k=>Nat.blt k i) (fun k=>(ops[k]?).bind (·.dst)) V (F 0).get t (i+d)=bH (fun k=>Nat.blt k i) (fun k=>(ops[k]?).bind (·.dst)) V (F 0).get t i:=by
  intro d;induction d with
  | zero=>intro _;rfl
  | succ d ih =>
    intro hd;rw[show i+(d+1)=(i+d)+1 by omega];rw[bH,A3 (fun hh=>by have:i+d<i:=A2 hh.1;omega)];exact ih A1
 have:=e2 (ops.size-i) A1
 rwa[show i+(ops.size-i)=ops.size by omega]at this
def B52{k i:Nat}:Nat.blt k i=true↔k<i:=⟨fun h=>A2 h,fun h=>C8 h⟩
def Rg.own(g:Rg P base gl nt call ops F M V R X B)(hn:nt≤510):∀ (i:Nat),i≤ops.size→(F i).get 510=(F 0).get 510∧(F i).get 511=(F 0).get 511
 | 0,_=>⟨rfl,rfl⟩
 | i+1,hi=>by
   obtain⟨o,ho⟩:=S5 (ops:=ops) (i:=i) A1;obtain⟨d1,_,d3,_⟩:=g.st i o ho;have ih:=g.own hn i A1;have key:∀ t,510≤t→t<512→(F (i+1)).get t=(F i).get t:=fun t h1 h2=>by
    rw[d3];cases hd:o.dst with
    | none=>rfl
    | some d =>
      rw[hd]at d1;have hlt:d<nt:=A2 d1;show((F i).set d _).get t=_;rw[N2 _ _ _ _ (E1 hlt A1) h2,A3 (fun e=>by subst e;exact absurd hlt (Nat.not_lt.2 (C4 hn h1)))]
   exact⟨(key 510 C3 C3).trans ih.1,(key 511 C3 C3).trans ih.2⟩
def Rg.inX(g:Rg P base gl nt call ops F M V R X B):∀ (j:Nat),j≤ops.size→∀ q ∈ X j,q.1<j∧q ∈ X (q.1+1)∧∃ o,ops[q.1]? = some o∧fF nt ops.toList (Z9 P call o) ((m6 ops.toList []).getD q.1 []) (R q.1) (F q.1) o (M q.1) (M (q.1+1)) (V q.1) q.2
 | 0,_,q,hq=>by rw[g.x0]at hq;cases hq
 | j+1,hj,q,hq=>by
   obtain⟨o,ho⟩:=S5 (ops:=ops) (i:=j) A1;have old:q ∈ X j→q.1<j+1∧q ∈ X (q.1+1)∧∃ o,ops[q.1]? = some o∧fF nt ops.toList (Z9 P call o) ((m6 ops.toList []).getD q.1 []) (R q.1) (F q.1) o (M q.1) (M (q.1+1)) (V q.1) q.2:=fun h=>by
    obtain⟨h1,h2⟩:=g.inX j A1 q h;exact⟨A1,h2⟩
   rcases g.qs j o ho with⟨_,h,_⟩|⟨_,h⟩|⟨_,r,h,h2⟩
   ·exact old (h▸hq)
   ·exact old (h▸hq)
   ·have hq':=hq;rw[h]at hq;rcases C6.1 hq with e|e
    ·subst e;exact⟨K3 _,hq',o,ho,h2⟩
    ·exact old e
def EV{all:List Oper}{b:I1}{fr:Fr}{o:Oper}{v:Value}(h:fF nt all op b rs fr o m m2 v r):∃ lg,m2=m.wLg lg:=by
 rcases h with⟨lg,_,_,h,_⟩|⟨_,lg2,_,_,h,_⟩
 ·exact⟨lg,h⟩
 ·exact⟨lg2,h⟩
def Rg.kind(g:Rg P base gl nt call ops F M V R X B){i:Nat}{o:Oper}(ho:ops[i]? = some o)(hk:bB o.op=true):fF nt ops.toList (Z9 P call o) ((m6 ops.toList []).getD i []) (R i) (F i) o (M i) (M (i+1)) (V i) none:=by
 obtain⟨_,_,_,h⟩:=g.st i o ho;have hf:OM (M i).H (F i) o.op=none:=by
  cases hop:o.op<;>rw[hop]at hk<;>first|rfl|cases hk
 rcases h with⟨_,lg,h1,h2,h3⟩|⟨_,lg,lg2,h1,h2,h3⟩|⟨h,_⟩|⟨_,h,_⟩
 ·exact .inl ⟨lg,h1,h2,h3,rfl⟩
 ·exact .inr ⟨lg,lg2,h1,h2,h3,hf.symm⟩
 ·rw[HT (g.sb i o ho h)]at hk;cases hk
 ·rw[hk]at h;cases h
def Rg.heap{z:Zn}(g:Rg P base gl nt call ops F M V R X B)(ph:Ph ops B M lo up){D:Nat→Bool}{ρL ρ:Ren}{a:Act}{wL w':World}(hD:∀ k,lo≤k→k<up→D k=false→∃ lg,M (k+1)=(M k).wLg lg)(inv:Inv z P base gl nt ops F M V lo up ρL wL D ρ a w'):St P base ρL ρ (M lo) (M up) wL w':=by
 have hG:∀ id,id≤I4→GD M lo up D id=Hp.get (M up).H id:=fun id hid=>by
  unfold GD;cases hu:iW M (Dr lo D) id up with
  | true=>rfl
  | false =>
    simp only[E7];refine((g.all ph ph.le (B0 _)).2.2.2.2 id hid ?_).symm;rcases G4 id (M lo).n with h1|h1
    ·exact .inl h1
    ·rcases G4 id (M up).n with h2|h2
     ·exfalso;have hle:=ph.le;obtain⟨k,k0,k1,k2,k3⟩:=g.who ph (up-lo) A1 id h1 (by rw[show lo+(up-lo)=up by omega];exact h2);have hDk:D k=true:=by
       cases hq:D k with
       | true=>rfl
       | false =>
         obtain⟨lg,hm⟩:=hD k k0 A1 hq;rw[hm]at k3;have k3:id<(M k).n:=k3;omega
      rw[(X3 (M:=M) (D:=Dr lo D) up).2 ⟨k,A1,j7.2 ⟨k0,hDk⟩,k2,k3⟩]at hu;cases hu
     ·exact .inr h2
 have hall:=g.all ph ph.le (B0 _);refine⟨inv.ext,fun b l h1 h2=>?_,hall.1,hall.2.1,fun _=>hall.2.2.1,inv.hr.hr fun id hid ab hab=>by rw[hG id hid];exact hab,fun b hb=>by rw[hall.2.2.2.1];exact hb,fun b h1 h2=>by rw[hall.2.2.2.1]at h1;exact absurd h1 h2,
     fun k hk _=>inv.keep k hk,inv.size,inv.os,fun b l h1 h2 ho=>.inl ((inv.new b l h1 h2).2 ho),fun id hid h1 h2=>?_,fun k ⟨id,ab,l,e1,e2,e3,e4⟩=>inv.tch k ⟨id,ab,l,e1,(hG id e1).trans e2,e3,e4⟩⟩
 ·obtain⟨k,k1,kD,k2,k3⟩:=(X3 _).1 (inv.new b l h1 h2).1;have k0:=(j7.1 kD).1;have e1:=(g.le ph (i:=lo) (j:=k) (B0 _) k0 A1).1;have e2:=(g.le ph (i:=k+1) (j:=up) A1 A1 (B0 _)).1;omega
 ·refine hall.2.2.2.2 id hid ?_;rcases h2 with h2|h2
  ·exact .inl h2
  ·exact .inr (by have:=hall.2.2.1;omega)
def Rg.last{z:Zn}(g:Rg P base gl nt call ops F M V R X B)(hnt:nt≤512){D:Nat→Bool}{ρL ρ:Ren}{a:Act}{wL w':World}(hD:∀ i,i<ops.size→D i=true)(inv:Inv z P base gl nt ops F M V lo up ρL wL D ρ a w'):FrR z ρ nt (F ops.size) a:=by
 have hz:=inv.dfr.congr (fun _ _ h=>h) (fun hn=>g.own hn ops.size (B0 _));refine⟨inv.tsz,hnt,hz.1,hz.2,fun t ht=>?_⟩;have h1:=inv.frm t ht;rw[← g.frameUp hnt ht (B0 _)]
 rwa[gR (D':=fun k=>Nat.blt k ops.size) ops.size (fun k hk _=>by rw[hD k hk];exact(B52.2 hk).symm)]at h1
def Rg.fresh{z:Zn}(g:Rg P base gl nt call ops F M V R X B){D:Nat→Bool}{ρ:Ren}{a:Act}{w:World}(hD:∀ k,lo≤k→D k=true→∃ lg,M (k+1)=(M k).wLg lg)(hr:HR P base ρ (M lo).H w)(htsz:a.tmps.size=nt)(hdf:ZR z ρ nt (F 0) a.defers)
  (hfrm:∀ t,t<nt→VR ρ (bH D (fun k=>(ops[k]?).bind (·.dst)) V (F 0).get t ops.size) (a.tmps.getD t undef)):Inv z P base gl nt ops F M V lo up ρ w D ρ a w:=by
 have hu:∀ b n,iW M (Dr lo D) b n=false:=fun b n=>by
  cases hq:iW M (Dr lo D) b n with
  | false=>rfl
  | true =>
    obtain⟨k,_,h,k2,k3⟩:=(X3 _).1 hq;obtain⟨h1,h2⟩:=j7.1 h;obtain⟨lg,hm⟩:=hD k h1 h2;rw[hm]at k3;have k3:b<(M k).n:=k3;omega
 have hGD:∀ id ab,GD M lo up D id=some ab→Hp.get (M lo).H id=some ab:=fun id ab hab=>by
  unfold GD at hab;rw[hu]at hab;exact hab
 exact⟨fun _ _ h=>h,fun b l h1 h2=>(by rw[h1]at h2;cases h2),hr.f fun id hid ab hab=>hGD id ab hab,fun _ _=>rfl,B0 _,⟨rfl,rfl,rfl⟩,fun k ⟨id,ab,l,e1,e2,e3,e4⟩=>.inr ⟨id,ab,l,e1,hGD id ab e2,e3,e4⟩,htsz,hdf,hfrm⟩
def Rg.old{z:Zn}(g:Rg P base gl nt call ops F M V R X B)(ph:Ph ops B M lo up){ρ0:Ren}{w0:World}{D:Nat→Bool}(hat:At P base gl ρ0 (M lo) (M up).hi w0){b:Nat}{ab:AB}(hb:BK (M lo).H b ab=true):GD M lo up D b=some ab:=by
 obtain⟨h1,hid⟩:=BJ hb;unfold GD;have hu:iW M (Dr lo D) b up=false:=by
  cases hq:iW M (Dr lo D) b up with
  | false=>rfl
  | true =>
    exfalso;obtain⟨k,k1,kD,k2,k3⟩:=(X3 _).1 hq;have k0:=(j7.1 kD).1;obtain⟨l,e1,_⟩:=hat.hr.at_ b hid _ h1;have hk0:=g.le ph (i:=lo) (j:=k) (B0 _) k0 A1;have hkN:=g.le ph (i:=k+1) (j:=up) A1 A1 (B0 _);have hNn:=(g.all ph ph.le (B0 _)).2.2.1;rw[hat.fr b A1 A1]at e1;cases e1
 rw[hu];exact h1
end
def A3Q(hm:P.follows .mixedOrders=true)(hcall:Y3 P base gl call):fG P base gl call:=by
 refine⟨hm,?_⟩;intro nt ops hok s s' hrun;obtain⟨F,M,V,R,X,B,f1,f2,f3,f3',f4,f5,f6⟩:=A65 ops.toList 0 _ _ _ s s' hrun;simp only[G0,U6]at f4 f5 f6;have hmono:∀ i,i≤ops.size→∀ d,i+d≤ops.size→(M i).hi≤(M (i+d)).hi∧(M i).lg.le (M (i+d)).lg:=by
  intro i _ d;induction d with
  | zero=>intro _;exact⟨B0 _,.refl _⟩
  | succ d ih =>
    intro h;have h1:=ih A1;obtain⟨o,ho⟩:=S5 (ops:=ops) (i:=i+d) A1;obtain⟨hst,_⟩:=f6 (i+d) o (V5 ho);refine⟨?_,h1.2.trans (EF hcall hst)⟩;obtain⟨_,_,_,h2⟩:=hst;rcases h2 with⟨_,_,_,_,h2⟩|⟨_,_,_,_,_,h2⟩|⟨_,_,_,_,h2⟩|⟨_,_,_,_,mv,m',_,_,_,hhi,h2⟩
    ·show _≤(M (i+d+1)).hi;rw[h2];exact h1.1
    ·show _≤(M (i+d+1)).hi;rw[h2];exact h1.1
    ·exact C4 h1.1 h2
    ·exact C4 h1.1 (A11 h2 hhi)
 have hmono':∀ i j,i≤j→j≤ops.size→(M i).hi≤(M j).hi∧(M i).lg.le (M j).lg:=fun i j h1 h2=>by
  have:=hmono i A1 (j-i) A1
  rwa[show i+(j-i)=j by omega]at this
 constructor
 ·have:=hmono' 0 ops.size A1 (B0 _);rw[f2,f5]at this;exact this
 ·intro z ρ0 a0 w id Q hSat hat hfr hQ;have g:Rg P base gl nt call ops F M V R X B:=⟨fun i o ho=>(f6 i o (V5 ho)).1,fun i o ho=>(f6 i o (V5 ho)).2.2.1,fun i o ho=>(f6 i o (V5 ho)).2.2.2,fun i o ho=>(f6 i o (V5 ho)).2.1,f3',hok⟩;have hsub:∀ i o,ops[i]? = some o→∀ e ∈ o.after.toList,Region.binds .any e=true→e.on<i:=fun i o ho=>by
   have:=(jS _ 0 g.ok i o (V5 ho)).1;rw[G0]at this;exact gT this
  refine mJ hm ?_;generalize hw1:({ w with drawn:=w.drawn+1 }:World)=w1;have hh1:w1.heap=w.heap:=by rw[← hw1]
  have ho1:w1.os=w.os∧w1.tape=w.tape∧w1.output=w.output:=by rw[← hw1];exact⟨rfl,rfl,rfl⟩
  have hat1:At P base gl ρ0 (M 0) (M ops.size).hi w1:=by
   rw[f2,f5];exact⟨⟨fun b l h=>hat.hr.dom b l h,fun id hid ab hab=>by
    obtain⟨l,e1,e2,e3⟩:=hat.hr.at_ id hid ab hab;exact⟨l,e1,e2.mono (fun _ _ h=>h) (fun _ _=>by rw[hh1]),e3⟩⟩,by rw[hh1];exact hat.bs,hat.fr,hat.gr,hat.nh,hat.wb,fun k o hk=>by rw[hh1];exact hat.gf k o hk⟩
  have hSatM:∀ i,i≤ops.size→Sat (M i).lg:=fun i hi=>U3.le hSat (by rw[← f5];exact(hmono' i ops.size hi (B0 _)).2)
  have hfree1:L6 ρ0 (M 0).n (M ops.size).hi:=hat1.fr;have fin:∀ (ρ:Ren) (a:Act) (w':World),FrR z ρ nt (F ops.size) a→St P base ρ0 ρ (M 0) (M ops.size) w1 w'→Q .normal a w':=fun ρ a w' hf st=>by
   refine hQ ρ a w' (by rw[← f4];exact hf) ?_;rw[← f2,← f5];exact⟨st.ext,st.new,st.nle,st.hle,st.nhi,st.hr,st.wsub,st.wrw,fun k hk hb=>by rw[st.keep k (by rw[hh1];exact hk) hb,hh1],by rw[← hh1];exact st.size,⟨st.os.1.trans ho1.1,st.os.2.1.trans ho1.2.1,st.os.2.2.trans ho1.2.2⟩,fun b l h1 h2 h3=>by rw[← hh1];exact st.blk b l h1 h2 h3,st.same,fun k hk=>by rw[← hh1];exact st.tch k hk⟩
  have main:∀ (fuel:Nat) (listed:Array Bool) (lo up:Nat) (ρL ρ:Ren) (a:Act) (wL w':World),listed.size=ops.size→listed.toList.countP (fun b=>!b)=fuel→oO ops.toList (fun k=>listed.getD k false=true) →
    Ph ops B M lo up→(up<ops.size→∃ o,ops[up]? = some o∧B up=true)→St P base ρ0 ρL (M 0) (M lo) w1 wL→At P base gl ρL (M lo) (M ops.size).hi wL→(∀ q ∈ X lo,listed.getD q.1 false=false→A78 (M lo).H q.2=true)→(∀ k,k<lo→listed.getD k false=false→∃ q ∈ X lo,q.1=k)→(∀ k o,up≤k→ops[k]? = some o→listed.getD k false=true→bB o.op=true) →
    Inv z P base gl nt ops F M V lo up ρL wL (fun k=>listed.getD k false) ρ a w'→kK P z.rd .any ops Q fuel listed a w':=by
   have done:∀ (listed:Array Bool) (lo up:Nat) (ρL ρ:Ren) (a:Act) (wL w':World),(∀ i,i<ops.size→listed.getD i false=true)→Ph ops B M lo up→(up<ops.size→∃ o,ops[up]? = some o∧B up=true)→St P base ρ0 ρL (M 0) (M lo) w1 wL→(∀ k o,up≤k→ops[k]? = some o→listed.getD k false=true→bB o.op=true) →
     Inv z P base gl nt ops F M V lo up ρL wL (fun k=>listed.getD k false) ρ a w'→Q .normal a w':=fun listed lo up ρL ρ a wL w' hall ph hsolo st0 hup0 inv=>by
    have hups:up=ops.size:=by
     rcases G4 up ops.size with h|h
     ·obtain⟨o,ho,hs⟩:=hsolo h
      have:=hup0 up o (B0 _) ho (hall up h);rw[HT (g.sb up o ho hs)]at this;cases this
     ·have:=ph.sz;omega
    subst hups;exact fin ρ a w' (g.last hfr.le hall inv) (St.trans hfree1 st0 (g.heap ph (fun k _ h1 h2=>by have h2:listed.getD k false=false:=h2;rw[hall k h1]at h2;cases h2) inv))
   intro fuel;induction fuel with
   | zero =>
     intro listed lo up ρL ρ a wL w' hsz hcnt hcl ph hsolo st0 hatL hkf hlo0 hup0 inv;have hall:∀ i,i<ops.size→listed.getD i false=true:=fun i hi=>by
      have:=SV hcnt i (by simpa [hsz]using hi);have h2:listed[i]? = some true:=by simpa using this
      simp[B9,h2]
     refine⟨?_,done listed lo up ρL ρ a wL w' hall ph hsolo st0 hup0 inv⟩;rw[cT];intro j hj;obtain⟨h1,o,h2,_⟩:=mem_ready.1 hj;have hlt:j<ops.size:=(D9.1 h2).1;have h3:=hall j hlt;have hj2:j<listed.size:=A1;simp[B9,hj2]at h1 h3;rw[h1]at h3;cases h3
   | succ fuel ih =>
     intro listed lo up ρL ρ a wL w' hsz hcnt hcl ph hsolo st0 hatL hkf hlo0 hup0 inv;refine⟨fun hre=>?_,fun i hi=>?_⟩
     ·
      have key:∀ n i,i<n→i<ops.size→listed.getD i false=true:=by
       intro n;induction n with
       | zero=>intro i h;omega
       | succ n ihn =>
         intro i hin hil;by_cases h:i<n
         ·exact ihn i h hil
         ·cases hq:listed.getD i false with
          | true=>rfl
          | false =>
            exfalso;obtain⟨o,ho⟩:=S5 (ops:=ops) hil;have hmem:i ∈ Region.ready .any ops listed:=mem_ready.2 ⟨by
             have hj2:i<listed.size:=A1;simp[B9,hj2]at hq ⊢;exact hq,o,ho,fun e he hb=>by
             have hlt:=hsub i o ho e (by simpa using he) hb;exact ihn e.on A1 A1⟩
            rw[hre]at hmem;cases hmem
      exact done listed lo up ρL ρ a wL w' (fun i hi=>key (i+1) i (K3 i) hi) ph hsolo st0 hup0 inv
     ·obtain⟨h1,o,ho,h2⟩:=mem_ready.1 hi;have hil:i<ops.size:=(D9.1 ho).1;have hil2:i<listed.size:=A1;have h1':listed.getD i false=false:=by
       simp[B9,hil2]at h1 ⊢;exact h1
      have hother:∀ k,k≠i→(listed.setIfInBounds i true).getD k false=listed.getD k false:=fun k hk=>by
       simp only[B9,G6];rw[A3 (fun e=>hk e.symm)]
      have hself:(listed.setIfInBounds i true).getD i false=true:=by
       simp[B9,G6,hil2]
      have hr:∀ e ∈ o.after.toList,Region.binds .any e=true→listed.getD e.on false=true:=fun e he hb=>h2 e (by simpa using he) hb
      have hsz':(listed.setIfInBounds i true).size=ops.size:=by simpa using hsz
      have hcnt':(listed.setIfInBounds i true).toList.countP (fun b=>!b)=fuel:=by
       have hg:listed.toList[i]? = some false:=by
        simp[B9,hil2]at h1';simp[hil2,h1']
       have:=GM listed.toList i hg;rw[Array.toList_setIfInBounds];omega
      have hcl':oO ops.toList (fun k=>(listed.setIfInBounds i true).getD k false=true):=by
       intro k o' ho' hk e he hb;by_cases e1:e.on=i
       ·rw[e1];exact hself
       ·show(listed.setIfInBounds i true).getD e.on false=true;rw[hother e.on e1];by_cases e2:k=i
        ·subst e2;have:ops.toList[k]? = some o:=V5 ho;rw[this]at ho';cases ho';exact hr e he hb
        ·have hk:(listed.setIfInBounds i true).getD k false=true:=hk;rw[hother k e2]at hk;exact hcl k o' ho' hk e he hb
      have hanc:∀ k,k ∈ (m6 ops.toList []).getD i []→listed.getD k false=true:=fun k hk=>CU hcl (fun i o ho=>by
        have:=(jS _ 0 g.ok i o ho).1;rw[G0]at this;exact gT this) (i+1) i k o (K3 i) (V5 ho) hr hk
      have hlt:∀ k,listed.getD k false=true→k<ops.size:=fun k hk=>by
       rcases G4 k ops.size with h|h
       ·exact h
       ·have hn:listed[k]? = none:=Array.getElem?_eq_none_iff.2 A1;rw[B9,hn]at hk;cases hk
      have hatU:At P base gl ρL (M lo) (M up).hi wL:=hatL.less (hmono' up ops.size ph.sz (B0 _)).1;have go:∀ (ρ':Ren) (a':Act) (w'':World),(up≤i→bB o.op=true)→Inv z P base gl nt ops F M V lo up ρL wL (fun k=>(listed.setIfInBounds i true).getD k false) ρ' a' w''→kK P z.rd .any ops Q fuel (listed.setIfInBounds i true) a' w'':=fun ρ' a' w'' hq inv' =>
       ih (listed.setIfInBounds i true) lo up ρL ρ' a' wL w'' hsz' hcnt' hcl' ph hsolo st0 hatL (fun q hq hn=>hkf q hq (by
        by_cases e:q.1=i
        ·rw[e,hself]at hn;cases hn
        ·rw[hother _ e]at hn;exact hn)) (fun k hk hn=>by
        by_cases e:k=i
        ·subst e;rw[hself]at hn;cases hn
        ·rw[hother k e]at hn;exact hlo0 k hk hn) (fun k p hk hp hl=>by
        by_cases e:k=i
        ·subst e;rw[ho]at hp;cases hp;exact hq hk
        ·rw[hother k e]at hl;exact hup0 k p hk hp hl) inv'
      have quiet:∀ r,(up≤i→bB o.op=true)→fF nt ops.toList (Z9 P call o) ((m6 ops.toList []).getD i []) (R i) (F i) o (M i) (M (i+1)) (V i) r→(∀ b ab,r=some (b,ab)→GD M lo up (fun k=>listed.getD k false) b=some ab)→jF P z.rd ops Q i (fun a' w''=>kK P z.rd .any ops Q fuel (listed.setIfInBounds i true) a' w'') a w':=fun r hq hqa hfz =>
       g.quiet hcall hatU (hSatM (i+1) A1) hfr.le inv hcl hlt ho h1' hr hother hself hqa hfz fun ρ' a' w'' inv'=>go ρ' a' w'' hq inv'
      rcases G4 i lo with hil0|hil0
      ·
       obtain⟨q,hqm,hqi⟩:=hlo0 i hil0 h1';obtain⟨_,_,p,hp,hqa⟩:=g.inX lo (by have:=ph.sz;have:=ph.le;omega) q hqm;rw[hqi]at hp hqa;rw[ho]at hp;cases hp;refine quiet q.2 (fun h=>by have:=ph.le;omega) hqa fun b ab hb=>?_
       refine g.old (z:=z) ph hatU ?_
       have:=hkf q hqm (by rw[hqi];exact h1');rw[hb]at this;exact this
      ·rcases G4 i up with hiu|hiu
       ·
        by_cases hex:∃ r,fF nt ops.toList (Z9 P call o) ((m6 ops.toList []).getD i []) (R i) (F i) o (M i) (M (i+1)) (V i) r
        ·obtain⟨r,hqa⟩:=hex;refine quiet r (fun h=>by omega) hqa fun b ab hb=>?_
         rcases hqa with⟨_,_,_,_,hrn⟩|⟨lg,lg2,hw,hq,hm,hrr⟩
         ·rw[hrn]at hb;cases hb
         ·obtain⟨mv,m',hview,_⟩:=mX hq;obtain⟨h3,h4⟩:=(uR hview).2.2.2.2.2 b ab (hrr.symm.trans hb);obtain⟨h5,h6⟩:=BJ h3;exact g.see (z:=z) (a:=a) (ρ:=ρ) (w:=w') ph hatU hcl hil0 hiu ho hr b h6 _ h5 h4
        ·exact g.step ph hcall hatU (hSatM up ph.sz) hfr.le inv hcl hlt hil0 hiu ho h1' hr hother hself hex fun ρ' a' w'' inv'=>go ρ' a' w'' (fun h=>by omega) inv'
       ·obtain⟨os,hos,hso⟩:=hsolo A1;rcases G4 up i with hgt|hge
        ·
         have hk:bB o.op=true:=by
          rcases QY (g.sb up os hos hso) i o hgt ho with h|h
          ·have h3:=hup0 up os (B0 _) hos (hanc up h);rw[HT (g.sb up os hos hso)]at h3;cases h3
          ·exact h
         exact quiet none (fun _=>hk) (g.kind ho hk) fun b ab hb=>by cases hb
        ·
         have hiup:i=up:=A1;subst hiup;rw[ho]at hos;cases hos;have hquiet:∀ k,k<i→listed.getD k false=false→∃ q ∈ X i,q.1=k:=fun k hk hn=>by
          rcases QZ (g.sb i o ho hso) k hk with h|h
          ·rw[hanc k h]at hn;cases hn
          ·exact h
         have q2:=g.heap ph (fun k _ hk hn=>by
          obtain⟨q,hq,e⟩:=hquiet k hk hn;obtain⟨_,_,p,hp,hqa⟩:=g.inX i A1 q hq;rw[e]at hqa;exact EV hqa) inv
         have st1:St P base ρ0 ρ (M 0) (M i) w1 w':=St.trans (hfree1.less (hmono' i ops.size A1 (B0 _)).1) st0 q2;have hat2:At P base gl ρ (M i) (M ops.size).hi w':=hatL.step q2;obtain⟨d1,d2,d3,hst⟩:=g.st i o ho;have hlook:∀ t,t ∈ Y7 ops.toList o→t<nt→VR ρ ((F i).get t) (a.tmps.getD t undef):=fun t ht htn=>by
          rw[← g.look hfr.le hcl hlt ho h1' hr ht htn];exact inv.frm t htn
         have hFR:FR ρ (F i) a.eval o.op:=fun x hx=>by
          have hok:okX nt gl x=true:=E4.1 d2 x hx;cases x with
          | tmp t=>exact hlook t (zQ hx rfl) (A2 hok)
          | const v=>exact VR.ofC hok
          | global gg=>exact VR.ptr (o:=0) (hat2.gr gg (A2 hok))
          | func f=>exact .func (a:=[]) (b:=[]) (a':=[]) (b':=[]) rfl rfl (fun i v v' h=>by simp at h) (fun i v v' h=>by simp at h)
         have hwant:∀ lg b,bZ nt (F i) (M i).lg ops.toList o=some (b,lg)→Sat lg→Region.wanted o (yielded ops a.tmps)=b:=fun lg b hw hSl=>by
          unfold bZ at hw;split at hw
          ·rename_i hg;cases hw;simp[Region.wanted,hg]
          ·rename_i j want hg;split at hw
           ·rename_i p hp;split at hw
            ·rename_i t ht;obtain⟨h1,h2⟩:=A5 hw;have h1:t<nt:=A2 h1;have hv:=hlook t (by
              unfold Y7;refine B5.2 (.inr (B5.2 (.inr ?_)));simp[hg,hp,ht]) h1
             exact oQ hg hp ht (by rw[inv.tsz];exact h1) (rR h2 hv hSl)
            ·cases hw
           ·cases hw
         have hframe:∀ (ρ':Ren) (v':Value),(∀ b l,ρ b=some l→ρ' b=some l)→VR ρ' (V i) v'→∀ t,t<nt→VR ρ' (bH (fun k=>(listed.setIfInBounds i true).getD k false) (fun k=>(ops[k]?).bind (·.dst)) V (F 0).get t ops.size) ((a.put o.dst v').tmps.getD t undef):=fun ρ' v' he hv t ht=>by
          by_cases hd:o.dst=some t
          ·have hnext:∀ k,i<k→k<ops.size→(ops[k]?).bind (·.dst)=some t→listed.getD k false=false:=fun k hik hk hkd=>by
            obtain⟨p,hp⟩:=S5 (ops:=ops) hk;rw[hp]at hkd
            have:=g.slot hcl hlt ho h1' hr (t:=t) (by unfold Y7;simp[hd]) k p hp A1 hkd;cases hq:listed.getD k false with
            | false=>rfl
            | true=>have:=this.1 hq;omega
           rw[tR (D:=fun k=>listed.getD k false) hother hself ops.size hil (by simp[ho,hd]) hnext];simp only[hd,Act.put,B9];rw[G6,A4 rfl,A4 (by rw[inv.tsz];exact ht)];exact hv
          ·rw[qN (D:=fun k=>listed.getD k false) hother (by simp[ho];exact hd)];have h1:=(inv.frm t ht).mono he;cases hdd:o.dst with
           | none=>exact h1
           | some d =>
             have hne:d≠t:=fun e=>hd (e▸hdd)
             simp only[Act.put,B9]at h1 ⊢;rw[G6,A3 hne];exact h1
         have hX:X (i+1)=X i∧A2F ((m6 ops.toList []).getD i []) (M (i+1)).H (X i)=true:=by
          rcases g.qs i o ho with⟨_,h3,h4⟩|⟨h3,_⟩|⟨h3,_⟩
          ·exact⟨h3,h4⟩
          ·rw[hso]at h3;cases h3
          ·rw[hso]at h3;cases h3
         have hnext:∀ (ρ':Ren) (v':Value) (w'':World),VR ρ' (V i) v'→St P base ρ ρ' (M i) (M (i+1)) w' w''→kK P z.rd .any ops Q fuel (listed.setIfInBounds i true) (a.put o.dst v') w'':=fun ρ' v' w'' hv st2=>by
          obtain⟨up',u1,u2,u3,u4⟩:=uW ops B (ops.size-(i+1)) (i+1) A1;have hat3:=hat2.step st2;refine ih (listed.setIfInBounds i true) (i+1) up' ρ' ρ' _ w'' w'' hsz' hcnt' hcl' ⟨u1,u2,hat3.nh,u3⟩ u4 (St.trans (hfree1.less (hmono' (i+1) ops.size A1 (B0 _)).1) st1 st2) hat3 (fun q hq hn=>?_) (fun k hk hn=>?_) (fun k p hk hp hl=>?_)
           (g.fresh (fun k hk hl=>?_) st2.hr ?_ ?_ (hframe ρ' v' st2.ext hv))
          ·rw[hX.1]at hq;have h5:=E4.1 hX.2 q hq;rcases J9 _ _▸h5 with h5|h5
           ·exfalso;have h6:=hanc q.1 (Z2.1 h5);by_cases e:q.1=i
            ·rw[e,h1']at h6;cases h6
            ·rw[hother _ e,h6]at hn;cases hn
           ·exact h5
          ·rw[hX.1];by_cases e:k=i
           ·subst e;rw[hself]at hn;cases hn
           ·rw[hother k e]at hn;exact hquiet k A1 hn
          ·rw[hother k A1]at hl;exact hup0 k p A1 hp hl
          ·have hl:(listed.setIfInBounds i true).getD k false=true:=hl;rw[hother k A1]at hl;obtain⟨p,hp⟩:=S5 (ops:=ops) (hlt k hl);exact EV (g.kind hp (hup0 k p A1 hp hl))
          ·cases hdd:o.dst<;>simp[Act.put,inv.tsz]
          ·rw[gG];exact inv.dfr.congr st2.ext fun _=>⟨rfl,rfl⟩
         unfold jF;simp only[ho];rcases hst with⟨hso2,_⟩|⟨hso2,_⟩|⟨_,lg,hw,hrun2,hhi⟩|⟨hso2,_⟩
         ·rw[hso]at hso2;cases hso2
         ·rw[hso]at hso2;cases hso2
         ·have hSm:=hSatM (i+1) A1;have hSl:Sat lg:=U3.le hSm (by have:=aY hcall hrun2;rw[s5]at this;exact this);rw[hwant lg true hw hSl];simp only[if_true];have hat4:At P base gl ρ ((M i).wLg lg) (M (i+1)).hi w':=(hat2.wLg lg).less (hmono' (i+1) ops.size A1 (B0 _)).1;refine sI hcall hrun2 hSm hat4 hFR fun v' ρ' w'' hv st2=>hnext ρ' v' w'' hv ?_
          have hst3:=St.wLg (m:=M i) hat2.hr lg;exact St.trans (by have:=hat2.fr;exact this.less (hmono' (i+1) ops.size A1 (B0 _)).1) hst3 st2
         ·rw[hso]at hso2;cases hso2
  obtain⟨up,u1,u2,u3,u4⟩:=uW ops B ops.size 0 A1;have hD0:∀ k,(Array.replicate ops.size false).getD k false=false:=fun k=>by
   simp only[B9,jE];split<;>simp
  refine main ops.size _ 0 up ρ0 ρ0 a0 w1 w1 (by simp) (by simp[List.countP_replicate]) (fun k o ho hk=>by have hk:(Array.replicate ops.size false).getD k false=true:=hk;rw[hD0 k]at hk;cases hk) ⟨u1,u2,hat1.nh,u3⟩ u4 (St.refl hat1.hr) hat1 (fun q hq=>by rw[g.x0]at hq;cases hq) (fun k hk=>by omega) (fun k o hk ho hl=>by rw[hD0 k]at hl;cases hl)
   (g.fresh (fun k _ hl=>by have hl:(Array.replicate ops.size false).getD k false=true:=hl;rw[hD0 k]at hl;cases hl) hat1.hr hfr.size (by rw[f1];exact hfr.zr) fun t ht=>?_)
  have h0:∀ n,bH (fun k=>(Array.replicate ops.size false).getD k false) (fun k=>(ops[k]?).bind (·.dst)) V (F 0).get t n=(F 0).get t:=by
   intro n;induction n with
   | zero=>rfl
   | succ n ihn=>rw[bH,A3 (fun hh=>by rw[hD0 n]at hh;exact absurd hh.1 (by simp)),ihn]
  rw[h0,f1];exact hfr.get t ht
end
end
section
open Go
variable [Ora]
section
variable {P:Program} {base gl:Nat}
def zB{f:FuncId}{e:Z5→Sem Value}{args:Z5}{w w':World}{v:Value}(hf:P.funcs[f]? = some fn)(hnm:(fn.name == "runtime.NumGoroutine")=false)(hb:fn.body=none)(hn:Extern.findNext fn=none)(he:Extern.find fn=some e)
  (hr:(e args).run P w=.ok v w'):(callFunc f args).run P w=.ok (.value v) w':=by
 have hnm':fn.name ≠ "runtime.NumGoroutine":=by simpa using hnm
 simp[callFunc,A6,run_program,Result.andThen,hf,hnm',hb,hn,he,mark,Sem.run,hr]
def nY{k:EK}{vs:D4}{v:Value}(h:qS k vs m=some (v,m')) :
  (k=.noEscape∧vs=[v]∧m'=m) ∨
  (k=.indexByteString∧∃ s c,vs=[.string s,.int .u8 (.ofNat c)]∧v=.int .i64 (vG s.data.toList (UInt8.ofNat c) 0)∧m'=m) ∨
  (k=.countString∧∃ s c,vs=[.string s,.int .u8 (.ofNat c)]∧v=.int .i64 (countB (UInt8.ofNat c) s.data.toList 0)∧m'=m) ∨
  (∃ e n,k=.makeNoZero e∧vs=[.int .i64 (.ofNat n)]∧n≤1000000000∧p9 m (.cells [] e false) (fun b=>.slice (some ⟨b,0,none⟩) n O6)=some (v,m')):=by
 unfold qS at h;split at h
 ·cases h;exact .inl ⟨rfl,rfl,rfl⟩
 ·cases h;exact .inr (.inl ⟨rfl,_,_,rfl,rfl,rfl⟩)
 ·cases h;exact .inr (.inr (.inl ⟨rfl,_,_,rfl,rfl,rfl⟩))
 ·obtain⟨h1,h⟩:=A5 h;exact .inr (.inr (.inr ⟨_,_,rfl,rfl,A2 h1,h⟩))
 ·cases h
def zC{k:EK}{vs:D4}{v:Value}(h:(FnC.mk (qS k)).run vs m=some (v,m')):m.lg.le m'.lg:=by
 have h:qS k vs m=some (v,m'):=h;rcases nY h with⟨_,_,rfl⟩|⟨_,_,_,_,_,rfl⟩|⟨_,_,_,_,_,rfl⟩|⟨_,_,_,_,_,h⟩
 ·exact .refl _
 ·exact .refl _
 ·exact .refl _
 ·obtain⟨_,_,rfl⟩:=N5 h;exact .refl _
def NG{f:FuncId}(hf:P.funcs[f]? = some fn)(hnm:(fn.name == "runtime.NumGoroutine")=false)(hb:fn.body=none)(hn:Extern.findNext fn=none)(he:Extern.find fn=some Extern.AbiNoEscape.same):mH P base gl f ⟨qS .noEscape⟩:=by
 refine⟨fun vs m m' v hr=>zC hr,?_⟩;intro ρ m m' w vs vs' v hr hS hat hl;have hr:qS .noEscape vs m=some (v,m'):=hr;rcases nY hr with⟨_,rfl,rfl⟩|⟨h,_⟩|⟨h,_⟩|⟨_,_,h,_⟩
 ·obtain⟨v',r',rfl,h1,h2⟩:=hl.tail;cases h2.nil_inv;exact .inr ⟨v',ρ,w,zB hf hnm hb hn he rfl,h1,.refl hat.hr⟩
 ·cases h
 ·cases h
 ·cases h
def FV(c:UInt8):∀ (l:List UInt8) (k:Nat),vG l c k=if Lib.indexByte l c == -1 then -1 else Lib.indexByte l c+k
 | [],k=>rfl
 | x::r,k=>by
   have hg:=Lib.indexByte_ge r c;have ih:=FV c r (k+1);rw[vG,Lib.indexByte];by_cases e:x=c
   ·subst e;simp
   ·have e1:(x == c)=false:=by simpa using e
    simp only[e1,F6 e,E7];rw[ih];by_cases h:Lib.indexByte r c = -1
    ·simp[h]
    ·have h2:(Lib.indexByte r c == -1)=false:=by simpa using h
     have h3:(Lib.indexByte r c+1 == -1)=false:=by simp;omega
     simp only[h2,h3,K0,if_false];omega
def SI(c:UInt8)(l:List UInt8):vG l c 0=Lib.indexByte l c:=by
 rw[FV];by_cases h:Lib.indexByte l c = -1
 ·simp[h]
 ·have h2:(Lib.indexByte l c == -1)=false:=by simpa using h
  simp[h2]
def qU(c:UInt8):∀ (l:List UInt8) (n:Nat),countB c l n=n+l.count c
 | [],n=>rfl
 | x::r,n=>by
   rw[countB,List.count_cons];by_cases e:x=c
   ·subst e;simp only[decide_true,F0,F5,beq_self_eq_true,if_true];rw[qU x r (n+1)];omega
   ·have e1:(x == c)=false:=by simpa using e
    simp only[F6 e,E7,e1,K0,if_false];rw[qU c r n];omega
def IZ{f:FuncId}(hf:P.funcs[f]? = some fn)(hnm:(fn.name == "runtime.NumGoroutine")=false)(hb:fn.body=none)(hn:Extern.findNext fn=none)(he:Extern.find fn=some Extern.BytealgIndexByte.indexByte):mH P base gl f ⟨qS .indexByteString⟩:=by
 refine⟨fun vs m m' v hr=>zC hr,?_⟩;intro ρ m m' w vs vs' v hr hS hat hl;have hr:qS .indexByteString vs m=some (v,m'):=hr;rcases nY hr with⟨h,_⟩|⟨_,s,c,rfl,rfl,rfl⟩|⟨h,_⟩|⟨_,_,h,_⟩
 ·cases h
 ·obtain⟨v1,r1,rfl,h1,h2⟩:=hl.tail;obtain⟨v2,r2,rfl,h3,h4⟩:=h2.tail;cases h4.nil_inv;cases Y8 h1;cases K4 h3;refine .inr ⟨_,ρ,w,zB hf hnm hb hn he (Lib.run_indexByteString s (.ofNat c) w),?_,.refl hat.hr⟩;rw[SI];exact .pure rfl
 ·cases h
 ·cases h
def CD{f:FuncId}(hf:P.funcs[f]? = some fn)(hnm:(fn.name == "runtime.NumGoroutine")=false)(hb:fn.body=none)(hn:Extern.findNext fn=none)(he:Extern.find fn=some Extern.BytealgCount.count):mH P base gl f ⟨qS .countString⟩:=by
 refine⟨fun vs m m' v hr=>zC hr,?_⟩;intro ρ m m' w vs vs' v hr hS hat hl;have hr:qS .countString vs m=some (v,m'):=hr;rcases nY hr with⟨h,_⟩|⟨h,_⟩|⟨_,s,c,rfl,rfl,rfl⟩|⟨_,_,h,_⟩
 ·cases h
 ·cases h
 ·obtain⟨v1,r1,rfl,h1,h2⟩:=hl.tail;obtain⟨v2,r2,rfl,h3,h4⟩:=h2.tail;cases h4.nil_inv;cases Y8 h1;cases K4 h3;refine .inr ⟨_,ρ,w,zB hf hnm hb hn he (Lib.run_countString s (.ofNat c) w),?_,.refl hat.hr⟩;rw[qU,G0];exact .pure rfl
 ·cases h
def DR{f:FuncId}{ps:Array TypeId}{t e:TypeId}(hf:P.funcs[f]? = some fn)(hnm:(fn.name == "runtime.NumGoroutine")=false)(hb:fn.body=none)(hn:Extern.findNext fn=none)(he:Extern.find fn=some (Extern.BytealgMakeNoZero.makeNoZero ps #[t]))
  (hu:P.underlying t=some (.slice e)) (hi:(P.info? e).map (·.size)=some 1):mH P base gl f ⟨qS (.makeNoZero e)⟩:=by
 refine⟨fun vs m m' v hr=>zC hr,?_⟩;intro ρ m m' w vs vs' v hr hS hat hl;have hr:qS (.makeNoZero e) vs m=some (v,m'):=hr;rcases nY hr with⟨h,_⟩|⟨h,_⟩|⟨h,_⟩|⟨e',n,h,rfl,hn9,hr⟩
 ·cases h
 ·cases h
 ·cases h
 ·cases h;obtain⟨v1,r1,rfl,h1,h2⟩:=hl.tail;cases h2.nil_inv;cases K4 h1;obtain⟨cs,hrun,hle,_⟩:=Lib.run_makeNoZero (P:=P) w ps t e hu n A1;obtain⟨e1,e2,e3⟩:=fM (wd:=w.drew.drew) (fz:=(0,0)) (cap:=cs.size) (C:=cs) (cs':=[]) hat.hr hat.bs hr hat.fr (.nil) (fun i u hi=>by simp at hi) NF.zero
   (fun inf h2=>by rw[h2]at hi;have hi:some inf.size=some 1:=hi;have hi:=B1 hi;rw[hi];omega) ⟨rfl,rfl,rfl⟩ rfl
  refine .inr ⟨_,_,_,zB hf hnm hb hn he hrun,?_,e3⟩;rw[e1]
  have:=VR.op (ρ:=upd ρ m.n (lc w.heap.size 0 cs.size)) (b:=m.n) (o:=0) (n:=n) (m:=O6) (m':=cs.size) e2 (B0 _) hle (fun _ _=>rfl)
  simpa using this
end
end
section
open Go
variable [Ora]
structure DB (P:Program) (f:FuncId) (k:EK):Prop where
 row:∃ fn,P.funcs[f]? = some fn∧(fn.name == "runtime.NumGoroutine")=false∧fn.body=none∧Extern.findNext fn=none ∧
  ((k=.noEscape∧Extern.find fn=some Extern.AbiNoEscape.same)∨(k=.indexByteString∧Extern.find fn=some Extern.BytealgIndexByte.indexByte)∨(k=.countString∧Extern.find fn=some Extern.BytealgCount.count) ∨
    (∃ e ps t,k=.makeNoZero e∧Extern.find fn=some (Extern.BytealgMakeNoZero.makeNoZero ps #[t])∧P.underlying t=some (.slice e)∧(P.info? e).map (·.size)=some 1))
def DB.ok{P:Program}{f:FuncId}{k:EK}{base gl:Nat}(h:DB P f k):mH P base gl f ⟨qS k⟩:=by
 obtain⟨fn,h1,h2,h3,h4,h5⟩:=h.row;rcases h5 with⟨rfl,h5⟩|⟨rfl,h5⟩|⟨rfl,h5⟩|⟨e,ps,t,rfl,h5,h6,h7⟩
 ·exact NG h1 h2 h3 h4 h5
 ·exact IZ h1 h2 h3 h4 h5
 ·exact CD h1 h2 h3 h4 h5
 ·exact DR h1 h2 h3 h4 h5 h6 h7
def GE:∀ {l:List (FuncId×EK)} {f:FuncId} {k:EK},OT l f=some k→(f,k) ∈ l
 | (g,j)::r,f,k,h=>by
   rw[OT]at h;cases e:Nat.beq g f with
   | true =>
     rw[e]at h;cases h;rw[A0 e];exact .head _
   | false =>
     rw[e]at h;exact .tail _ (GE h)
theorem A6A{P:Program}{ext:List (FuncId×EK)}{gl base:Nat}{con:FuncId→Option FnC}{lp:FuncId→LpT}(hm:P.follows .mixedOrders=true)(hn:KJ P)(he:∀ p ∈ ext,DB P p.1 p.2)
  (hc:∀ f c,con f=some c→mH P base gl f c) (hl:∀ f fn body,P.funcs[f]? = some fn→fn.body=some body→TI P base gl fn.ntmps body (lp f)) :
  A6a ⟨P,ext,gl,con,lp⟩ base :=
 { names:=hn,ext:=fun f k fn _ _ h=>(he _ (GE h)).ok,con:=hc,lp:=hl,draws:=fun _ h=>A3Q hm h }
end
section
open Go
inductive Sh where
 | s (t:Nat)
 | a (ts:List Nat)
def KU(t:Nat)(u:U):T5:=if G7 u=t then toV u else none
def XJ:I1→List U→Option (D4×List U)
 | [],us=>some ([],us)
 | t::ts,u::us=>match KU t u,XJ ts us with
   | some v,some (vs,r)=>some (v::vs,r)
   | _,_=>none
 | _::_,[]=>none
def KT:Sh→List U→Option (Value×List U)
 | .s t,u::us=>match KU t u with
   | some v=>some (v,us)
   | none=>none
 | .s _,[]=>none
 | .a ts,us=>match XJ ts us with
   | some (vs,r)=>some (.agg ⟨vs⟩,r)
   | none=>none
def XI:List Sh→List U→Option D4
 | [],[]=>some []
 | [],_::_=>none
 | h::hs,us=>match KT h us with
   | some (v,r)=>match XI hs r with
     | some vs=>some (v::vs)
     | none=>none
   | none=>none
def tup:D4→Value
 | [v]=>v
 | vs=>.tuple ⟨vs⟩
structure oN (w w':World):Prop where
 os:w'.os=w.os∧w'.tape=w.tape∧w'.output=w.output
 size:w.heap.size≤w'.heap.size
 keep:∀ k,k<w.heap.size→w'.heap[k]? = w.heap[k]?
def GOk(G:Nat→Option Obj)(w:World):Prop:=∀ k o,G k=some o→w.heap[k]? = some o
def GOk.lt{G:Nat→Option Obj}{w:World}(h:GOk G w){k:Nat}{o:Obj}(hk:G k=some o):k<w.heap.size:=by
 have:=h k o hk;rcases G4 k w.heap.size with h1|h1
 ·exact h1
 ·rw[Array.getElem?_eq_none h1]at this;cases this
abbrev bY:=List U→Option (Nat×List U)
def Sh.tags:Sh→I1
 | .s t=>[t]
 | .a ts=>ts
def ED:List Sh→I1
 | []=>[]
 | s::ss=>s.tags++ED ss
def Sh.n(s:Sh):Nat:=s.tags.length
def shN:List Sh→Nat
 | []=>0
 | h::hs=>h.n+shN hs
def oC(ss:List Sh):Bool:=(ED ss).any (Nat.ble 10)
inductive ShR (R:Nat→Option Obj):Sh→List U→Value→Prop
 | s {t u v} (h:Enc R u v) (ht:G7 u=t):ShR R (.s t) [u] v
 | a {ts us cs} (h:m7 R us cs) (ht:us.map G7=ts):ShR R (.a ts) us (.agg ⟨cs⟩)
inductive ShL (R:Nat→Option Obj):List Sh→List U→D4→Prop
 | nil:ShL R [] [] []
 | cons {s ss us us2 v vs} (h:ShR R s us v) (k:ShL R ss us2 vs):ShL R (s::ss) (us++us2) (v::vs)
def m7.append{R:Nat→Option Obj}{us us2:List U}{vs:D4}(h:m7 R us vs)(k:m7 R us2 vs2):m7 R (us++us2) (vs++vs2):=by
 refine⟨by simp[h.1,k.1],fun i u v h1 h2=>?_⟩;rcases G4 i us.length with hl|hl
 ·rw[F2 hl]at h1;rw[F2 (h.1▸hl)]at h2;exact h.2 i u v h1 h2
 ·rw[E3 hl]at h1;rw[E3 (h.1▸hl),← h.1]at h2;exact k.2 _ u v h1 h2
def m7.split{R:Nat→Option Obj}:∀ {vs vs2:D4} {us:List U},m7 R us (vs++vs2)→∃ a b,us=a++b∧m7 R a vs∧m7 R b vs2
 | [],vs2,us,h=>⟨[],us,rfl,.nil,h⟩
 | v::vs,vs2,[],h=>by have:=h.1;simp at this
 | v::vs,vs2,u::us,h=>by
   obtain⟨a,b,rfl,h1,h2⟩:=m7.split (vs:=vs) (vs2:=vs2) (us:=us) ⟨by have:=h.1;simpa using this,fun i x y a1 a2=>h.2 (i+1) x y (by simpa using a1) (by simpa using a2)⟩;exact⟨u::a,b,rfl,.cons (h.2 0 u v rfl rfl) h1,h2⟩
def m7.mono{R R':Nat→Option Obj}{us:List U}{vs:D4}(h:m7 R us vs)(k:Sub R R'):m7 R' us vs:=⟨h.1,fun i u v a b=>(h.2 i u v a b).mono k⟩
def KW{R:Nat→Option Obj}:∀ {ts:I1} {us r:List U} {vs:D4},XJ ts us=some (vs,r)→∃ a,us=a++r∧m7 R a vs∧a.map G7=ts
 | [],us,r,vs,h=>by cases h;exact⟨[],rfl,.nil,rfl⟩
 | t::ts,u::us,r,vs,h=>by
   unfold XJ at h;split at h
   ·rename_i v vs0 r0 h1 h2;cases h;obtain⟨a,rfl,e1,e2⟩:=KW (R:=R) h2;unfold KU at h1;split at h1
    ·rename_i ht;exact⟨u::a,rfl,.cons (.sc h1) e1,by simp[ht,e2]⟩
    ·cases h1
   ·cases h
 | _::_,[],_,_,h=>by cases h
def XH{R:Nat→Option Obj}{s:Sh}{us r:List U}{v:Value}(h:KT s us=some (v,r)):∃ a,us=a++r∧ShR R s a v:=by
 cases s with
 | s t =>
   cases us with
   | nil=>cases h
   | cons u us =>
     simp only[KT]at h;split at h
     ·rename_i v1 hv;cases h;unfold KU at hv;split at hv
      ·rename_i ht;exact⟨[u],rfl,.s (.sc hv) ht⟩
      ·cases hv
     ·cases h
 | a ts =>
   simp only[KT]at h;split at h
   ·rename_i vs r0 hv;cases h;obtain⟨a,e1,e2,e3⟩:=KW (R:=R) hv;exact⟨a,e1,.a e2 e3⟩
   ·cases h
def AA{R:Nat→Option Obj}:∀ {ss:List Sh} {us:List U} {vs:D4},XI ss us=some vs→ShL R ss us vs
 | [],[],vs,h=>by cases h;exact .nil
 | [],_::_,_,h=>by cases h
 | s::ss,us,vs,h=>by
   unfold XI at h;split at h
   ·rename_i v r hv;split at h
    ·rename_i vs0 hl;cases h;obtain⟨a,rfl,e1⟩:=XH (R:=R) hv;exact .cons e1 (AA hl)
    ·cases h
   ·cases h
def A3E{R:Nat→Option Obj}{us:List U}{vs:D4}(h:m7 R us vs)(hl:vs2.length=us.length)(k:∀ (i:Nat) (u:U) (v:Value),us[i]? = some u→vs2[i]? = some v→toV u=some v):vs=vs2:=by
 refine bT fun i=>?_
 rcases G4 i us.length with hi|hi
 ·have h1:us[i]? = some us[i]:=A8 hi;have h2:vs[i]? = some (vs[i]'(h.1▸hi)):=A8 _;have h3:vs2[i]? = some (vs2[i]'(hl▸hi)):=A8 _;rw[h2,h3,pL (h.2 i _ _ h1 h2) (k i _ _ h1 h3)]
 ·rw[S0 (by rw[← h.1];exact hi),S0 (by rw[hl];exact hi)]
def KV:∀ {ts:I1} {us r:List U} {vs:D4},XJ ts us=some (vs,r)→∃ a,us=a++r∧vs.length=a.length∧a.length=ts.length∧∀ (i:Nat) (u:U) (v:Value),a[i]? = some u→vs[i]? = some v→toV u=some v
 | [],us,r,vs,h=>by cases h;exact⟨[],rfl,rfl,rfl,fun i u v h=>by simp at h⟩
 | t::ts,u::us,r,vs,h=>by
   unfold XJ at h;split at h
   ·rename_i v vs0 r0 h1 h2;cases h;obtain⟨a,rfl,e1,e2,e3⟩:=KV h2;unfold KU at h1;split at h1
    ·refine⟨u::a,rfl,by simp[e1],by simp[e2],fun i x y a1 a2=>?_⟩;cases i with
     | zero=>simp at a1 a2;subst a1;subst a2;exact h1
     | succ i=>exact e3 i x y (by simpa using a1) (by simpa using a2)
    ·cases h1
   ·cases h
 | _::_,[],_,_,h=>by cases h
def m9{R:Nat→Option Obj}:∀ {ss:List Sh} {us:List U} {vs vs2:D4},ShL R ss us vs→XI ss us=some vs2→vs=vs2
 | [],us,vs,vs2,h,k=>by cases h;cases k;rfl
 | s::ss,us,vs,vs2,h,k=>by
   cases h with
   | cons h1 h2 =>
     rename_i us1 us2 v vs;unfold XI at k;split at k
     ·rename_i v1 r hv;split at k
      ·rename_i vs0 hl;cases k;have hone:us1++us2=us1++us2:=rfl;cases h1 with
       | s he ht =>
         rename_i t u;have hv2:(match KU t u with|some v=>some (v,us2)|none=>none)=some (v1,r):=hv;cases e:KU t u with
         | none=>rw[e]at hv2;cases hv2
         | some w =>
           rw[e]at hv2;cases hv2;unfold KU at e;rw[A4 ht]at e;rw[pL he e,m9 h2 hl]
       | a he ht =>
         rename_i ts cs;simp only[KT]at hv;split at hv
         ·rename_i cs2 r0 hc;cases hv;obtain⟨a,e1,e2,e3,e4⟩:=KV hc;have hlen:a.length=us1.length:=by rw[e3,← ht];simp
          obtain⟨rfl,rfl⟩:=List.append_inj e1 hlen.symm;rw[A3E he e2 e4,m9 h2 hl]
         ·cases hv
      ·cases k
     ·cases k
def M2(P:Program)(G:Nat→Option Obj)(f:FuncId)(ps:List Sh)(spec:bY)(rs:List Sh):Prop :=
 ∀ (us outs:List U) (w:World) (vs:List Value) (R:Nat→Option Obj),ShL R ps us vs→spec us=some (0,outs)→GOk G w→GOk R w →
  (callFunc f ⟨vs⟩).run P w=.ok (.enter f ⟨vs⟩) w∧Calls P f ⟨vs⟩ w (fun e w'=>∃ r R',ShL R' rs outs r∧e=.returned (tup r)∧oN w w'∧GOk R' w'∧∀ k o,R' k=some o→w.heap.size≤k∨∃ o',R k=some o')
def unA:List Sh→D4→Option D4
 | [],[]=>some []
 | .s _::ss,v::vs=>match unA ss vs with
   | some r=>some (v::r)
   | none=>none
 | .a ts::ss,.agg cs::vs=>bif Nat.beq cs.toList.length ts.length then match unA ss vs with
   | some r=>some (cs.toList++r)
   | none=>none else none
 | _,_=>none
def sE(P:Program)(ps:List Sh)(vs:List Value)(m:Mem):Option (D4×Mem) :=
 match unA ps vs with
 | some cs=>match DE (tdP P) (ED ps) cs m with
   | some (xs,[],m)=>some (xs,m)
   | some (xs,gs,m)=>match lT gs m with
     | some (_,m)=>some (xs,m)
     | none=>none
   | none=>none
 | none=>none
def VU(i t b:Nat):Value:=bif Nat.blt t 10 then hole i t else dat b i t
def ZW:I1→Nat→Nat→D4
 | [],_,_=>[]
 | t::ts,i,b=>VU i t b::ZW ts (i+1) b
def A9h:Sh→Nat→Nat→Value
 | .s t,i,b=>VU i t b
 | .a ts,i,b=>.agg ⟨ZW ts i b⟩
def zN:List Sh→Nat→Nat→D4
 | [],_,_=>[]
 | h::hs,i,b=>A9h h i b::zN hs (i+h.n) b
def YD(rs:List Sh)(nx:Nat)(m:Mem):Res :=
 bif oC rs then match iY m fun b m=>some (tup (zN rs nx b),b,m)with
  | some (v,_,m)=>some (v,m)
  | none=>none
 else some (tup (zN rs nx 0),m)
def B36(m:Mem)(hi:Nat)(v:Value)(lg:Lg):Res :=
 match m with
 | ⟨H,n,W,_,_⟩=>some (v,⟨H,n,W,hi,lg⟩)
def A6G(P:Program)(ps:List Sh)(spec:bY)(rs:List Sh):FnC:=⟨fun vs m =>
 match sE P ps vs m with
 | some (xs,⟨H,n,W,hi,⟨nx,pi,log⟩⟩)=>L2 nx fun nx=>U2 xs fun xs=>L2 (nx+shN rs) fun nx'=>bif oC rs then YD rs nx ⟨H,n,W,hi,⟨nx',pi,.con spec xs nx 0 (shN rs)::log⟩⟩else B36 m hi (tup (zN rs nx 0)) ⟨nx',pi,.con spec xs nx 0 (shN rs)::log⟩
 | none=>none⟩
def WS{P:Program}{ps:List Sh}{spec:bY}{rs:List Sh}{vs:D4}{v:Value}(h:(A6G P ps spec rs).run vs m=some (v,m')) :
  ∃ xs m1,sE P ps vs m=some (xs,m1)∧((oC rs=true∧YD rs m1.lg.nx (m1.wLg ⟨m1.lg.nx+shN rs,m1.lg.pi,.con spec xs m1.lg.nx 0 (shN rs)::m1.lg.log⟩)=some (v,m'))∨(oC rs=false∧v=tup (zN rs m1.lg.nx 0)∧m'=⟨m.H,m.n,m.W,m1.hi,⟨m1.lg.nx+shN rs,m1.lg.pi,.con spec xs m1.lg.nx 0 (shN rs)::m1.lg.log⟩⟩)):=by
 unfold A6G at h;simp only at h;split at h
 ·rename_i xs H n W hi nx pi log hx;simp only[F5,I6]at h;refine⟨xs,_,hx,?_⟩;cases hd:oC rs with
  | true=>rw[hd]at h;exact .inl ⟨rfl,h⟩
  | false =>
    rw[hd]at h;obtain⟨H2,n2,W2,hi2,lg2⟩:=m;cases h;exact .inr ⟨rfl,rfl,rfl⟩
 ·cases h
variable [Ora]
def QN{ρ:Ren}:∀ {ss:List Sh} {vs vs' cs:D4},unA ss vs=some cs→LR ρ vs vs'→∃ cs',unA ss vs'=some cs'∧LR ρ cs cs'
 | [],[],vs',cs,h,hl=>by cases h;rw[hl.nil_inv];exact⟨[],rfl,.nil⟩
 | [],_::_,_,_,h,_=>by cases h
 | .s t::ss,[],_,_,h,_=>by cases h
 | .a t::ss,[],_,_,h,_=>by cases h
 | .s t::ss,v::vs,vs',cs,h,hl=>by
   obtain⟨v',r',rfl,h1,h2⟩:=hl.tail;unfold unA at h;split at h
   ·rename_i r hr;cases h;obtain⟨cs',e1,e2⟩:=QN hr h2;exact⟨v'::cs',by simp[unA,e1],.cons h1 e2⟩
   ·cases h
 | .a ts::ss,v::vs,vs',cs,h,hl=>by
   obtain⟨v',r',rfl,h1,h2⟩:=hl.tail;cases v with
   | agg c =>
     unfold unA at h;obtain⟨hlen,h⟩:=A5 h;split at h
     ·rename_i r hr;cases h;obtain⟨cs',e1,e2⟩:=QN hr h2;obtain⟨c',rfl,hc⟩:=Y9 h1;refine⟨c'++cs',?_,hc.append e2⟩;have hl2:Nat.beq c'.length ts.length=true:=by rw[← hc.1];exact hlen
      simp[unA,e1,hl2]
     ·cases h
   | _=>cases h
def eU{R:Nat→Option Obj}:∀ {ss:List Sh} {vs cs:D4} {us:List U},unA ss vs=some cs→m7 R us cs→us.map G7=ED ss→ShL R ss us vs
 | [],[],cs,us,h,he,ht=>by
   cases h;have:us=[]:=D3.1 he.1;subst this;exact .nil
 | [],_::_,_,_,h,_,_=>by cases h
 | .s t::ss,[],_,_,h,_,_=>by cases h
 | .a t::ss,[],_,_,h,_,_=>by cases h
 | .s t::ss,v::vs,cs,us,h,he,ht=>by
   unfold unA at h;split at h
   ·rename_i r hr;cases h;obtain⟨a,b,rfl,e1,e2⟩:=m7.split (vs:=[v]) (vs2:=r) he
    match a,e1 with
    | [u],e1 =>
      simp only[List.singleton_append,E9,ED,Sh.tags,V1,O9,I8]at ht;exact .cons (.s (e1.2 0 u v rfl rfl) ht.1) (eU hr e2 ht.2)
    | [],e1=>have:=e1.1;simp at this
    | _::_::_,e1=>have:=e1.1;simp at this
   ·cases h
 | .a ts::ss,v::vs,cs,us,h,he,ht=>by
   cases v with
   | agg c =>
     unfold unA at h;obtain⟨hlen,h⟩:=A5 h;have hlen:=A0 hlen;split at h
     ·rename_i r hr;cases h;obtain⟨a,b,rfl,e1,e2⟩:=m7.split he;simp only[N4,ED,Sh.tags]at ht;obtain⟨t1,t2⟩:=List.append_inj ht (by simp[e1.1,hlen]);obtain⟨l⟩:=c;exact .cons (.a e1 t1) (eU hr e2 t2)
     ·cases h
   | _=>cases h
section
variable {P:Program} {base gl:Nat}
def B48(ρ:Ren)(m:Mem)(R:Nat→Option Obj):Prop:=∀ k o,R k=some o→∃ id ab l,id≤I4∧Hp.get m.H id=some ab∧ρ id=some l∧Tf ab l k∧ab.rw=false
def LE{ρ:Ren}{w:World}{ps:List Sh}{vs xs:D4}(h:HR P base ρ m.H w)(ho:sE P ps vs m=some (xs,m'))(hf:L6 ρ m.n m'.hi)(hv:LR ρ vs vs')(hS:Sat m'.lg) :
  ∃ ρ' R,St P base ρ ρ' m m' w w∧m.lg.le m'.lg∧ShL R ps (xs.map (E5 Ora.env)) vs'∧GOk R w∧B48 ρ' m' R:=by
 unfold sE at ho;split at ho
 ·rename_i cs hcs;obtain⟨cs',e1,e2⟩:=QN hcs hv;split at ho
  ·rename_i xs0 m1 hd;cases ho;obtain⟨ρ',a1,a2,a3,a4,a5,a6⟩:=kL X9 h hd hf e2 hS;exact⟨ρ',fun _=>none,a1,a2,eU e1 (a6 _ fun b hb=>by cases hb) a5,(fun k o hk=>by cases hk),(fun k o hk=>by cases hk)⟩
  ·rename_i xs0 gs m1 hd;split at ho
   ·rename_i g m2 hj;cases ho;have mj:=P1 hj;obtain⟨ρ1,a1,a2,a3,a4,a5,a6⟩:=kL X9 h hd (hf.less mj.1) e2 (by rw[← mj.2.1];exact hS);obtain⟨ρ2,lg,b1,b2,b3,b4,b5,b6⟩:=gO a1.hr hj (hf.step a1);have hreg:=(b1.hr.atl b4 b5).1.2;exact⟨ρ2,lg.G,St.trans hf a1 b1,by rw[mj.2.1];exact a2,eU e1 (a6 _ fun b hb l hl=>b6 b hb l hl) a5,hreg,fun k o hk=>⟨g,_,lg,b1.hr.dom _ _ b4,b5,b4,⟨rfl,.inr ⟨rfl,o,hk⟩⟩,rfl⟩⟩
   ·cases ho
  ·cases ho
 ·cases ho
def OI{ρ:Ren}{R:Nat→Option Obj}{i t b:Nat}{u:U}{v:Value}(h:Enc R u v)(ht:G7 u=t)(he:Ora.env i=u)(hb:10≤t→ρ b=some (mE R)):VR ρ (VU i t b) v:=by
 unfold VU;cases hq:Nat.blt t 10 with
 | true =>
   have h10:t<10:=A2 hq;obtain⟨v1,e1,_,_⟩:=TT (u:=u) A1
   have:=pL h e1;subst this;exact .hole (by rw[he];exact e1) (by rw[he];exact ht)
 | false =>
   have h10:10≤t:=by
    rcases G4 t 10 with hlt|hge
    ·rw[show Nat.blt t 10=true from C8 hlt]at hq;cases hq
    ·exact hge
   exact .dat (hb h10) (by rw[he];exact h) (by rw[he];exact ht) h10 (oB h)
def KS{ρ:Ren}{R:Nat→Option Obj}{b:Nat}:∀ {ts:I1} {us:List U} {cs:D4} {i:Nat},m7 R us cs→us.map G7=ts→(∀ j u,us[j]? = some u→Ora.env (i+j)=u)→(∀ t ∈ ts,10≤t→ρ b=some (mE R))→LR ρ (ZW ts i b) cs
 | [],us,cs,i,h,ht,he,hb=>by
   have:us=[]:=by cases us with|nil=>rfl|cons _ _=>simp at ht
   subst this;have:cs=[]:=D3.1 h.1.symm;subst this;exact .nil
 | t::ts,[],cs,i,h,ht,he,hb=>by simp at ht
 | t::ts,u::us,[],i,h,ht,he,hb=>by have:=h.1;simp at this
 | t::ts,u::us,c::cs,i,h,ht,he,hb=>by
   simp only[E9,I8]at ht;refine .cons (OI (h.2 0 u c rfl rfl) ht.1 (he 0 u rfl) (hb t (.head _))) (KS ⟨by have:=h.1;simpa using this,fun j x y a1 a2=>h.2 (j+1) x y (by simpa using a1) (by simpa using a2)⟩ ht.2 (fun j x hj=>?_) fun t' ht'=>hb t' (.tail _ ht'))
   have:=he (j+1) x (by simpa using hj);rw[show i+1+j=i+(j+1) by omega];exact this
def rT{ρ:Ren}{R:Nat→Option Obj}{b:Nat}:∀ {ss:List Sh} {us:List U} {vs:D4} {i:Nat},ShL R ss us vs→(∀ j u,us[j]? = some u→Ora.env (i+j)=u)→(oC ss=true→ρ b=some (mE R))→LR ρ (zN ss i b) vs∧us.length=shN ss
 | [],us,vs,i,h,he,hb=>by cases h;exact⟨.nil,rfl⟩
 | s::ss,us,vs,i,h,he,hb=>by
   cases h with
   | cons h1 h2 =>
     rename_i us1 us2 v vs;have hd:∀ t ∈ s.tags,10≤t→ρ b=some (mE R):=fun t ht h10=>hb (V2.2 ⟨t,B5.2 (.inl ht),C8 h10⟩)
     have hd2:oC ss=true→ρ b=some (mE R):=fun hq=>by
      obtain⟨t,ht,h10⟩:=V2.1 hq;exact hb (V2.2 ⟨t,B5.2 (.inr ht),h10⟩)
     have hn:us1.length=s.n:=by
      cases h1 with
      | s _ _=>rfl
      | a _ ht=>show _=List.length _;rw[← ht];simp[Sh.tags]
     obtain⟨g1,g2⟩:=rT (i:=i+s.n) h2 (fun j u hj=>by
      have:=he (us1.length+j) u (by rw[E3 A1,T8];exact hj);rw[← hn,dC];exact this) hd2
     refine⟨.cons ?_ g1,by simp[shN,hn,g2]⟩;have he1:∀ j u,us1[j]? = some u→Ora.env (i+j)=u:=fun j u hj=>he j u (by rw[F2 (B2.1 hj).1];exact hj)
     cases h1 with
     | s h ht=>exact OI h ht (by have:=he1 0 _ rfl;simpa using this) (hd _ (.head _))
     | a h ht =>
       have:=KS (b:=b) h ht he1 hd;exact .agg this.1 this.2
def A0J{ρ:Ren}{vs:D4}(h:LR ρ vs vs'):VR ρ (tup vs) (tup vs'):=by
 match vs,vs',h with
 | [],vs',h=>rw[h.nil_inv];exact .tuple (a:=[]) (a':=[]) rfl (fun i v v' h1 _=>by simp at h1)
 | [v],vs',h =>
   obtain⟨v',r',rfl,h1,h2⟩:=h.tail;cases h2.nil_inv;exact h1
 | v::u::r,vs',h =>
   obtain⟨v',r',rfl,h1,h2⟩:=h.tail;obtain⟨u',r2,rfl,h3,h4⟩:=h2.tail;exact .tuple h.1 h.2
def St.grown{ρ:Ren}{w w':World}(h:HR P base ρ m.H w)(g:oN w w'):St P base ρ ρ m m w w' :=
 ⟨fun _ _ h=>h,fun b l h1 h2=>(by rw[h1]at h2;cases h2),B0 _,B0 _,fun h=>h,
  ⟨h.dom,fun id hid ab hab=>by
    obtain⟨l,h1,h2,h3⟩:=h.at_ id hid ab hab;exact⟨l,h1,h2.mono (fun _ _ h=>h) (fun k hk=>g.keep k (h2.tc hk)),h3⟩⟩,
  fun _ h=>h,fun b h1 h2=>absurd h1 h2,fun k hk _=>g.keep k hk,g.size,g.os,fun b l h1 h2=>(by rw[h1]at h2;cases h2),fun _ _ _ _=>rfl,fun _ h=>.inr h⟩
def St.grownLg{ρ:Ren}{w w':World}(h:HR P base ρ m.H w)(g:oN w w')(lg:Lg):St P base ρ ρ m (m.wLg lg) w w':=by
 obtain⟨H,n,W,hi,l⟩:=m;have r:=St.grown (m:=⟨H,n,W,hi,l⟩) h g;exact⟨r.ext,r.new,r.nle,r.hle,r.nhi,r.hr,r.wsub,r.wrw,r.keep,r.size,r.os,r.blk,r.same,r.tch⟩
def St.ret{ρ:Ren}{w w':World}{G:Nat→Option Obj}(h:HR P base ρ m.H w)(g:oN w w')(hn:p9 m .frz (fun _=>undef)=some (undef,m1))(hf:L6 ρ m.n m1.hi)(hG:GOk G w')
  (hT:∀ k o,G k=some o→w.heap.size≤k∨∃ id ab l,id≤I4∧Hp.get m.H id=some ab∧ρ id=some l∧Tf ab l k∧ab.rw=false):upd ρ m.n (mE G) m.n=some (mE G)∧St P base ρ (upd ρ m.n (mE G)) m m1 w w':=by
 obtain⟨hle,_,rfl⟩:=N5 hn;have hfree:ρ m.n=none:=hf m.n (B0 _) (M5 _ _).2;have hext:=j9 (l:=mE G) hfree;refine⟨N1 _ _ _,hext,fun b q h1 h2=>?_,by simp,(M5 _ _).1,fun _=>m5 (M5 _ _).2,⟨fun b q hq=>?_,fun id hid a ha=>?_⟩,fun b hb=>hb,fun b h1 h2=>absurd h1 h2,fun q hq _=>g.keep q hq,g.size,g.os,fun b q h1 h2 ho=>?_,fun id hid h1 h2=>?_,fun q ⟨id,a,l,hid,ha,hl,ht⟩=>?_⟩
 ·obtain⟨rfl,rfl⟩:=X4 h1 h2;exact⟨B0 _,K3 _⟩
 ·cases h0:ρ b with
  | some k0=>exact h.dom b k0 h0
  | none=>obtain⟨rfl,rfl⟩:=X4 hq h0;exact hle
 ·rw[F7 _ _ _ _ hle hid]at ha;by_cases e:id=m.n
  ·rw[A4 e]at ha;have ha:=B1 ha;subst ha;subst e;exact⟨mE G,N1 _ _ _,⟨rfl,hG⟩,fun _ ho=>(by cases ho)⟩
  ·rw[A3 e]at ha;obtain⟨l0,h1,h2,h3⟩:=h.at_ id hid a ha;refine⟨l0,hext _ _ h1,h2.mono hext (fun k hk=>g.keep k (h2.tc hk)),fun hr ho=>⟨(h3 hr ho).1,fun id2 hid2 ab2 l2 g1 g2 g3=>?_⟩⟩;rw[F7 _ _ _ _ hle hid2]at g1;by_cases e2:id2=m.n
   ·subst e2;rw[N1]at g2
    have:=B1 g2;subst this;rcases g3 with⟨_,g3,_⟩|⟨_,o,g3⟩
    ·cases g3
    ·rcases hT _ o g3 with hge|⟨id3,a3,l3,q1,q2,q3,q4,q5⟩
     ·have:=h2.tc (.inl ⟨AB.rw_on hr,ho,rfl⟩);omega
     ·have:=(h3 hr ho).2 id3 q1 a3 l3 q2 q3 q4.2;subst this;rw[ha]at q2;have q2:=B1 q2;subst q2;rw[hr]at q5;cases q5
   ·rw[A3 e2]at g1;unfold upd at g2;rw[A3 e2]at g2;exact(h3 hr ho).2 id2 hid2 ab2 l2 g1 g2 g3
 ·obtain⟨rfl,rfl⟩:=X4 h1 h2;cases ho
 ·rw[F7 _ _ _ _ hle hid,A3];intro e;subst e;rcases h2 with h2|h2
  ·omega
  ·have h2:upN m.hi m.n≤m.n:=h2
   have:=(M5 m.hi m.n).2;omega
 ·have ha:Hp.get (m.H.set m.n (some .frz)) id=some a:=ha;rw[F7 _ _ _ _ hle hid]at ha;by_cases e:id=m.n
  ·subst e;rw[A4 rfl]at ha;have ha:=B1 ha;subst ha;rw[N1]at hl;have hl:=B1 hl;subst hl;rcases ht.2 with⟨_,h3,_⟩|⟨_,o,h3⟩
   ·cases h3
   ·rcases hT _ o h3 with hge|⟨id3,a3,l3,q1,q2,q3,q4,q5⟩
    ·exact .inl hge
    ·exact .inr ⟨id3,a3,l3,q1,q2,q3,q4⟩
  ·rw[A3 e]at ha;unfold upd at hl;rw[A3 e]at hl;exact .inr ⟨id,a,l,hid,ha,hl,ht⟩
def St.back{ρ:Ren}{w w':World}{hi:Nat}{lg:Lg}(h:HR P base ρ m.H w)(g:oN w w')(hh:m.hi≤hi):St P base ρ ρ m ⟨m.H,m.n,m.W,hi,lg⟩ w w':=by
 have r:=St.grownLg (m:=m) h g lg;refine⟨r.ext,fun b l h1 h2=>(by rw[h1]at h2;cases h2),B0 _,hh,fun h=>C4 h hh,?_,fun _ h=>h,fun b h1 h2=>absurd h1 h2,fun k hk _=>g.keep k hk,g.size,g.os,fun b l h1 h2=>(by rw[h1]at h2;cases h2),fun _ _ _ _=>rfl,fun _ h=>.inr h⟩
 have:=r.hr;rw[pU]at this;exact this
theorem A6F{f:FuncId}{ps:List Sh}{spec:bY}{rs:List Sh}(h:M2 P Ora.G f ps spec rs):mH P base gl f (A6G P ps spec rs):=by
 have hret:∀ {nx:Nat} {m m':Mem} {v:Value},oC rs=true→YD rs nx m=some (v,m')→m'.lg=m.lg∧m.hi≤m'.hi∧m.n≤m'.n:=fun{nx m m' v} hd hr=>by
  unfold YD at hr;rw[hd]at hr;simp only[F0]at hr;split at hr
  ·rename_i hn;cases hr;obtain⟨m2,q1,q2,_⟩:=T6 hn;cases q2;obtain⟨_,_,rfl⟩:=N5 q1;exact⟨rfl,(M5 _ _).1,c8 _⟩
  ·cases hr
 have hmono:∀ {vs xs:D4} {m m1:Mem},sE P ps vs m=some (xs,m1)→m.lg.le m1.lg∧m.hi≤m1.hi:=fun{vs xs m m1} h1=>by
  unfold sE at h1;split at h1
  ·split at h1
   ·rename_i hd;cases h1;exact⟨(V0 X9 hd).2.1,(V0 X9 hd).1⟩
   ·rename_i hd;split at h1
    ·rename_i hj;cases h1;exact⟨by rw[(P1 hj).2.1];exact(V0 X9 hd).2.1,C4 (V0 X9 hd).1 (P1 hj).1⟩
    ·cases h1
   ·cases h1
  ·cases h1
 refine⟨fun vs m m' v hr=>?_,fun ρ m m' w vs vs' v hr hS hat hl=>.inl ?_⟩
 ·obtain⟨xs,m1,h1,⟨hd,h2⟩|⟨hd,_,rfl⟩⟩:=WS hr
  ·rw[(hret hd h2).1,s5];exact(hmono h1).1.trans ⟨[_],rfl⟩
  ·exact(hmono h1).1.trans ⟨[_],rfl⟩
 ·obtain⟨xs,m1,h1,h2⟩:=WS hr;have hlg:m'.lg=⟨m1.lg.nx+shN rs,m1.lg.pi,.con spec xs m1.lg.nx 0 (shN rs)::m1.lg.log⟩∧m1.hi≤m'.hi:=by
   rcases h2 with⟨hd,h2⟩|⟨hd,_,rfl⟩
   ·obtain⟨r1,r2,_⟩:=hret hd h2;simp only[s5,QI]at r1 r2;exact⟨r1,r2⟩
   ·exact⟨rfl,B0 _⟩
  obtain⟨r1,r2⟩:=hlg;have hlast:o7.con spec xs m1.lg.nx 0 (shN rs) ∈ m'.lg.log:=by rw[r1];exact C5
  have hS1:Sat m1.lg:=U3.le hS (by rw[r1];exact⟨[_],rfl⟩);obtain⟨ρ1,R,a1,a2,a3,a4,a5⟩:=LE hat.hr h1 (hat.fr.less r2) hl hS1;obtain⟨outs,h3,h4,h5⟩:=hS _ hlast;obtain⟨h6,h7⟩:=h _ outs w vs' R a3 h3 (fun k o hk=>(hat.gf k o hk).2) a4;refine⟨h6,h7.mono fun e w' ⟨r,R',g1,g2,g3,g4,g5⟩=>?_⟩;rcases h2 with⟨hd,h2⟩|⟨hd,rfl,rfl⟩
  ·let lg2:Lg:=⟨m1.lg.nx+shN rs,m1.lg.pi,.con spec xs m1.lg.nx 0 (shN rs)::m1.lg.log⟩
   have h2:YD rs m1.lg.nx (m1.wLg lg2)=some (v,m'):=h2;have hst1:St P base ρ ρ1 m (m1.wLg lg2) w w:=St.trans (hat.fr.less (by simpa using r2)) a1 (St.wLg a1.hr lg2);have hf1:L6 ρ1 (m1.wLg lg2).n m'.hi:=by simpa using hat.fr.step a1
   unfold YD at h2;rw[hd]at h2;simp only[F0]at h2;split at h2
   ·rename_i v0 b m2 hn;cases h2;obtain⟨m3,q1,q2,_⟩:=T6 hn;cases q2;obtain⟨e1,e2⟩:=St.ret (G:=R') hst1.hr g3 q1 hf1 g4 fun k o hk=>by
     rcases g5 k o hk with hge|⟨o',ho'⟩
     ·exact .inl hge
     ·obtain⟨id,ab,l,p1,p2,p3,p4,p5⟩:=a5 k o' ho';exact .inr ⟨id,ab,l,p1,by rw[pU];exact p2,p3,p4,p5⟩
    exact⟨_,_,g2,A0J (rT g1 h5 fun _=>e1).1,St.trans hat.fr hst1 e2⟩
   ·cases h2
  ·exact⟨_,ρ,g2,A0J (rT g1 h5 fun hq=>by rw[hd]at hq;cases hq).1,St.back hat.hr g3 (hmono h1).2⟩
end
end
end Go.Sx
