import Derived.Test.YtdimocjaepnifaaGreatDoorX1
import Derived.Laws.BytesString
set_option linter.all false
set_option maxRecDepth 100000
set_option maxHeartbeats 4000000
namespace Go.Sx
variable {e pt s t t2 ty:TypeId}{k:Nat→Value}{a' b' c c' p p' u v v' x x' y y' z:Value}{new new' old' vs vs' xs:D5}{d d2:TypeDesc}{a:Addr}{inf:TypeInfo}{ab':AB}{l l':Loc}{r:o7}{i:Nat}{op:BinOp}{tys:List TypeId}{b:Builtin}{hi lo mx o:V7}{g:Operand→Value}
section
open Go
variable [Ora]
def VU(a b:Nat)(h:b<a):Builtin.nextslicecap a b≤3*a+4000:=by
 have grow:∀ r c,Builtin.growBy a r c≤max (c) (2*a+800):=by
  intro r;induction r with
  | zero=>intro c;simp only[Builtin.growBy];exact Nat.le_max_left _ _
  | succ r ih =>
    intro c;simp only[Builtin.growBy];split
    ·exact Nat.le_max_left _ _
    ·have:=ih (c+(c+768) / 4);refine B7 this ?_;rw[Nat.max_le];constructor
     ·refine B7 ?_ (Nat.le_max_right _ _);omega
     ·exact Nat.le_max_right _ _
 unfold Builtin.nextslicecap;split
 ·omega
 ·split
  ·omega
  ·have:=grow 4 b;refine B7 this ?_;rw[Nat.max_le];omega
section
variable {P:Program} {base:Nat} {ρ:Ren} {m m':Mem} {w:World}
def dX{w wd:World}(h:wd.heap=w.heap)(a:Addr):wd.cell? a=w.cell? a:=by simp[World.cell?,h]
def BF(ρ:Ren):∀ l:List UInt8,LR ρ (U5 l) (U5 l)
 | []=>.nil
 | b::r=>.cons (.pure rfl) (BF ρ r)
def zF{s k:Nat}(h:HR P base ρ m.H w)(hn:iF m s y=some (k,new))(hy:VR ρ y y') :
  (∀ wd,(Builtin.lenOf y').run P wd=.ok k wd)∧∃ new',LR ρ new new'∧∀ wd:World,wd.heap=w.heap→(Builtin.firstCells s k y').run P wd=.ok ⟨new'⟩ wd:=by
 unfold iF at hn;split at hn
 ·rename_i n c;obtain⟨h1,h2⟩:=A6 hn;have h1:=A1 h1;subst h1;cases h2;cases V1 hy;exact⟨fun _=>rfl,[],.nil,fun _ _=>rfl⟩
 ·rename_i a n c;split at hn
  ·rename_i cs hr;cases hn;rcases U1 hy with⟨l,hl,_,_,rfl⟩|⟨l,c',hl,_,_,_,_,rfl⟩|⟨a',c',_,rfl,_,rfl⟩
   ·obtain⟨r',h1,h2,h3⟩:=aM h hr hl;exact⟨fun _=>rfl,r',h1,fun wd hw=>N3 h2 fun j v hj=>by rw[dX hw];exact h3 j v hj⟩
   ·obtain⟨r',h1,h2,h3⟩:=aM h hr hl;exact⟨fun _=>rfl,r',h1,fun wd hw=>N3 h2 fun j v hj=>by rw[dX hw];exact h3 j v hj⟩
   ·have:new=[]:=by
     unfold cA at hr;split at hr
     ·have:=(mY hr).2;simp at this;exact this
     ·cases hr
    subst this;refine⟨fun _=>rfl,[],.nil,fun wd _=>?_⟩;simp[Builtin.firstCells,loadCells,loadCellsFrom]
  ·cases hn
 ·rename_i b;obtain⟨_,hn⟩:=A6 hn;cases hn;cases l8 hy;refine⟨fun _=>rfl,U5 b.data.toList,?_,fun wd _=>?_⟩
  ·exact BF _ _
  ·have e:((b.extract 0 b.size).data.map fun b=>Value.int .u8 b.toNat)=⟨U5 b.data.toList⟩:=by
    apply L1;simp[U5]
   show(pure ((b.extract 0 b.size).data.map fun b=>Value.int .u8 b.toNat):Sem o7).run P wd=_;rw[e];rfl
 ·cases hn
def B3V(h:fI d=true):(∃ e,d=.slice e)∨d=.string:=by cases d<;>first|cases h;done|exact .inl ⟨_,rfl⟩|exact .inr rfl
def kY{n k c:Nat}{a:Option Addr}(hu:P.underlying t=some (.slice e))(hu2:P.underlying t2=some d2)(hd2:fI d2=true)
  (hi:P.info? e=some inf) (hz:∀ w,(zeroValue e).run P w=.ok z w) (hlen:∀ wd,(Builtin.lenOf x').run P wd=.ok k wd)
  (hold:∀ wd:World,wd.heap=w.heap→(Builtin.firstCells inf.size n (.slice a n c)).run P wd=.ok ⟨old'⟩ wd) (hnew:∀ wd:World,wd.heap=w.heap→(Builtin.firstCells inf.size k x').run P wd=.ok ⟨new'⟩ wd)
  (hgt:¬ n+k≤c) (hb:(3*(n+k)+4000)*inf.bytes≤281474976710656) (hm:n+k≤1000000000) :
  ∃ nc,n+k≤nc∧(Builtin.append_ #[t,t2] ty #[.slice a n c,x']).run P w=.ok (.slice (some ⟨w.heap.size,0,none⟩) (n+k) nc) { w.drew with heap:=w.heap.push (.cells (⟨old'⟩++⟨new'⟩++Builtin.zeroCells z.cells (nc-(n+k))) e (0,0)) }:=by
 have hs:I4 P e=some inf.size:=by simp[I4,hi]
 have hcap:Builtin.nextslicecap (n+k) c*inf.bytes≤281474976710656:=by
  have:=G7 inf.bytes (VU (n+k) c A0);omega
 let q:Question:=.appendCap (n+k) c e
 let nc:=q.cut (w.tape w.drawn q)
 have hnc:n+k≤nc:=by show n+k≤(n+k)+_;omega
 refine⟨nc,hnc,?_⟩;have hch:(choose q).run P w=.ok nc w.drew:=by
  simp only[choose,Sem.run];rw[A3 (by simp[q,Question.forced])];rfl
 have hask:∀ k w,(askRoom k).run P w=.ok () w:=fun k w=>by unfold askRoom;split<;>rfl
 unfold Builtin.append_;rcases B3V hd2 with⟨e2,rfl⟩|rfl
 all_goals simp only[L8,W1,W3,A8,D8 hu,D8 hu2,Result.andThen,O8 hs,Sem.run_pure,K9,if_false,hlen]
 all_goals
  have hmax:¬ (((n+k:Nat):Int)>IntKind.i64.max):=by simp[IntKind.max,IntKind.bits,IntKind.signed];omega
  simp only[A3 hgt,hmax,false_and,if_false,A8,Result.andThen,d8 hi];rw[A3 (show ¬ (Builtin.nextslicecap (n+k) c*inf.bytes>2 ^ 48) by simpa using hcap)];have hd:w.drew.heap=w.heap:=rfl;simp only[A8,Sem.run_pure,Result.andThen,show(choose (.appendCap (n+k) c e)).run P w=.ok nc w.drew from hch,hask,hold _ hd,hnew _ hd,hz,d8 hi,Bool.not_false,if_true];rfl
def qT{n k c:Nat}{w':World}(hu:P.underlying t=some (.slice e))(hu2:P.underlying t2=some d2)(hd2:fI d2=true)
  (hi:P.info? e=some inf) (hlen:∀ wd,(Builtin.lenOf x').run P wd=.ok k wd) (hnew:(Builtin.firstCells inf.size k x').run P w=.ok ⟨new'⟩ w)
  (hle:n+k≤c) (hst:(storeCells (a.add (n*inf.size)) new').run P w=.ok () w') :
  (Builtin.append_ #[t,t2] ty #[.slice (some a) n c,x']).run P w=.ok (.slice (some a) (n+k) c) w':=by
 have hs:I4 P e=some inf.size:=by simp[I4,hi]
 unfold Builtin.append_;rcases B3V hd2 with⟨e2,rfl⟩|rfl
 all_goals simp only[L8,W1,W3,A8,D8 hu,D8 hu2,Result.andThen,O8 hs,Sem.run_pure,K9,if_false,hlen]
 all_goals simp[A4 hle,A8,hnew,Result.andThen,hst]
def yL(hu:P.underlying t=some (.slice e))(hu2:P.underlying t2=some d2)(hd2:fI d2=true)
  (hi:P.info? e=some inf) (hlen:∀ wd,(Builtin.lenOf x').run P wd=.ok 0 wd) (hnew:(Builtin.firstCells inf.size 0 x').run P w=.ok #[] w) :
  (Builtin.append_ #[t,t2] ty #[.slice none 0 0,x']).run P w=.ok (.slice none 0 0) w:=by
 have hs:I4 P e=some inf.size:=by simp[I4,hi]
 unfold Builtin.append_;rcases B3V hd2 with⟨e2,rfl⟩|rfl
 all_goals simp only[L8,W1,W3,A8,D8 hu,D8 hu2,Result.andThen,O8 hs,Sem.run_pure,K9,if_false,hlen]
 all_goals simp[A8,hnew,Result.andThen]
def St.kill{ab:AB}{id:Nat}(h:HR P base ρ m.H w)(hle:id≤I7)(hg:Hp.get m.H id=some ab)(hrw:ab.rw=true):St P base ρ ρ m (nO m id) w w:=by
 rw[bF];refine⟨fun _ _ h=>h,fun b k h1 h2=>(by rw[h1]at h2;cases h2),B0 _,B0 _,fun h=>h,h.sub fun id2 hid2 a ha=>?_,fun b hb=>C8 _ hb,fun b h1 h2 k hk'=>?_,fun k hk' hb'=>rfl,B0 _,⟨rfl,rfl,rfl⟩,fun b k h1 h2=>(by rw[h1]at h2;cases h2),fun id2 hid2 h4 h5=>?_,fun k ⟨id2,a,q,hid2,ha,hq,ht⟩=>.inr ⟨id2,a,q,hid2,?_,hq,ht⟩⟩
 ·rw[F2 _ _ _ _ hle hid2]at ha;by_cases e:id2=id
  ·rw[A4 e]at ha;cases ha
  ·rw[A3 e]at ha;exact ha
 ·rcases B6.1 h1 with rfl|h1
  ·exact⟨ab,hg,hrw⟩
  ·exact absurd h1 h2
 ·rw[F2 _ _ _ _ hle hid2,A3];intro e;subst e;exact h4 C5
 ·have ha:Hp.get (m.H.set id none) id2=some a:=ha;rw[F2 _ _ _ _ hle hid2]at ha;by_cases e:id2=id
  ·rw[A4 e]at ha;cases ha
  ·rw[A3 e]at ha;exact ha
def St.grow{ab:AB}{id:Nat}{w':World}(h:HR P base ρ m.H w)(hle:id≤I7)(hg:Hp.get m.H id=some ab)(hrw:ab.rw=true)(hl:ρ id=some l)(hon:l.on=true)
  (hn:x8 (nO m id) ab' k=some (v,m')) (hf:M4 ρ m.n m'.hi)
  (ho:w'.os=w.os∧w'.tape=w.tape∧w'.output=w.output) (hsz:w'.heap.size=w.heap.size) (hk:∀ k,k≠l.blk→w'.heap[k]? = w.heap[k]?) (hb:BR P (upd ρ m.n l) ab' l w') (hfz:ab'≠.frz:=by intro h;cases h) :
  v=k m.n∧St P base ρ (upd ρ m.n l) m m' w w':=by
 rw[bF]at hn;obtain⟨hnm,hv,rfl⟩:=M7 hn;have hfree:ρ m.n=none:=hf m.n (B0 _) (L6 _ _).2;have hext:=q9 (l:=l) hfree;obtain⟨h2,h3⟩:=h.atl hl hg;have hTc:∀ k,Tc ab' l k→k=l.blk:=fun k hk=>by
  rcases hk with⟨_,_,rfl⟩|⟨rfl,_⟩
  ·rfl
  ·exact absurd rfl hfz
 have hne:id≠m.n:=fun e=>by subst e;rw[hl]at hfree;cases hfree
 have hget:∀ i,i≤I7→Hp.get ((m.H.set id none).set m.n (some ab')) i=if i=m.n then some ab' else if i=id then none else Hp.get m.H i:=fun i hi=>by
  rw[F2 _ _ _ _ hnm hi,F2 _ _ _ _ hle hi]
 refine⟨hv,hext,fun b q h1 h2=>?_,q8 _,(L6 _ _).1,fun _=>c8 (L6 _ _).2,⟨fun b q hq=>?_,fun i hi a ha=>?_⟩,fun b hb=>C8 _ hb,fun b h1 h2 q hq=>?_,fun q hq hb'=>hk q ?_,by rw[hsz];exact B0 _,ho,fun b q h1 h2 _=>?_,fun i hi h4 h5=>?_,fun k ⟨i,a,q,hi,ha,hq,ht⟩=>.inr ?_⟩
 ·obtain⟨rfl,rfl⟩:=V8 h1 h2;exact⟨B0 _,K1 _⟩
 ·cases h0:ρ b with
  | some q0 =>
    rw[hext b q0 h0]at hq
    have:=A9 hq;subst this;exact h.dom b q0 h0
  | none=>obtain⟨rfl,rfl⟩:=V8 hq h0;exact hnm
 ·have ha:Hp.get ((m.H.set id none).set m.n (some ab')) i=some a:=ha;rw[hget i hi]at ha;have hdis:∀ id2,id2≤I7→∀ ab2 l2,Hp.get ((m.H.set id none).set m.n (some ab')) id2=some ab2→upd ρ m.n l id2=some l2→Tc ab2 l2 l.blk→id2=m.n:=fun id2 hid2 ab2 l2 g1 g2 g3=>by
   rw[hget id2 hid2]at g1;by_cases e2:id2=m.n
   ·exact e2
   ·rw[A3 e2]at g1;unfold upd at g2;rw[A3 e2]at g2;by_cases e3:id2=id
    ·rw[A4 e3]at g1;cases g1
    ·rw[A3 e3]at g1;exact absurd ((h3 hrw hon).2 id2 hid2 ab2 l2 g1 g2 g3) e3
  by_cases e:i=m.n
  ·rw[A4 e]at ha;have ha:=A9 ha;subst ha;subst e;exact⟨l,M3 _ _ _,hb,fun _ _=>⟨(h3 hrw hon).1,hdis⟩⟩
  ·rw[A3 e]at ha;by_cases e3:i=id
   ·rw[A4 e3]at ha;cases ha
   ·rw[A3 e3]at ha;obtain⟨l2,g1,g2,g3⟩:=h.at_ i hi a ha;have hnb:∀ k,Tc a l2 k→k≠l.blk:=fun k hk' hh=>e3 ((h3 hrw hon).2 i hi a l2 ha g1 (hh▸hk'))
    refine⟨l2,hext _ _ g1,g2.mono hext (fun k hk'=>hk _ (hnb k hk')),fun hr ho'=>⟨(g3 hr ho').1,fun id3 hid3 ab3 l3 f1 f2 f3=>?_⟩⟩;have f1:Hp.get ((m.H.set id none).set m.n (some ab')) id3=some ab3:=f1;rw[hget id3 hid3]at f1;by_cases e4:id3=m.n
    ·subst e4;rw[M3]at f2
     have:=A9 f2;subst this;rw[A4 rfl]at f1;have f1:=A9 f1;subst f1;exact absurd (hTc _ f3) (hnb _ (.inl ⟨AB.rw_on hr,ho',rfl⟩))
    ·rw[A3 e4]at f1;unfold upd at f2;rw[A3 e4]at f2;by_cases e5:id3=id
     ·rw[A4 e5]at f1;cases f1
     ·rw[A3 e5]at f1;exact(g3 hr ho').2 id3 hid3 ab3 l3 f1 f2 f3
 ·rcases B6.1 h1 with rfl|h1
  ·exact⟨ab,hg,hrw⟩
  ·exact absurd h1 h2
 ·exact fun e=>hb' id C5 l hl hon e.symm
 ·obtain⟨rfl,rfl⟩:=V8 h1 h2;exact .inr ⟨id,C5,q,hl,hon,rfl⟩
 ·have hgi:=hget i hi;show Hp.get ((m.H.set id none).set m.n (some ab')) i=_;rw[hgi,A3,A3]
  ·intro e;subst e;exact h4 C5
  ·intro e;subst e;rcases h5 with h5|h5
   ·omega
   ·have h5:upN m.hi m.n≤m.n:=h5
    have:=(L6 m.hi m.n).2;omega
 ·have ha:Hp.get ((m.H.set id none).set m.n (some ab')) i=some a:=ha;rw[hget i hi]at ha;by_cases e:i=m.n
  ·rw[A4 e]at ha;have ha:=A9 ha;subst ha;subst e;rw[M3]at hq;have hq:=A9 hq;subst hq;exact⟨id,ab,l,hle,hg,hl,AB.rw_fr hrw,.inl ⟨AB.rw_on hrw,hon,(hTc k ht.2).symm⟩⟩
  ·rw[A3 e]at ha;unfold upd at hq;rw[A3 e]at hq;by_cases e3:i=id
   ·rw[A4 e3]at ha;cases ha
   ·rw[A3 e3]at ha;exact⟨i,a,q,hi,ha,hq,ht⟩
def MD{s k:Nat}(h:HR P base ρ m.H w)(hn:iF m s y=some (k,new))(hz:z.cells.size=s):new.length=k*s:=by
 unfold iF at hn;split at hn
 ·obtain⟨_,q⟩:=A6 hn;cases q;simp
 ·split at hn
  ·rename_i cs hr;cases hn;unfold cA at hr;split at hr
   ·exact(mY hr).2
   ·cases hr
  ·cases hn
 ·rename_i b;obtain⟨q1,hn⟩:=A6 hn;have q1:=A1 q1;subst q1;cases hn;simp[U5]
 ·cases hn
def SE(h:new'[i]? = some u):(({ toList:=[] }:Array Value)++⟨new'⟩++r)[i]? = some u:=by
 have hl:=(B3.1 h).1;rw[Y6 (by simp;exact hl)]
 simpa using h
def gM(h:(old'++new')[i]? = some u):(({ toList:=old' }:Array Value)++⟨new'⟩++r)[i]? = some u:=by
 have hl:=(B3.1 h).1;rw[Y6 (by simpa using hl)]
 simpa using h
def gL{s k n nc:Nat}(h1:new'.length=k*s)(hnc:n+k≤nc)(hz:z.cells.size=s)(ho:old'.length=n*s) :
  nc*s≤(({ toList:=old' }:Array Value)++⟨new'⟩++Builtin.zeroCells z.cells (nc-(n+k))).size:=by
 simp[Builtin.zeroCells,ho,h1,hz];rw[← J1,← J1];exact G7 _ A0
def XA(h:HR P base ρ m.H w)(hb:base≤w.heap.size)(ho:wM P m t t2 x y=some (v,m'))(hf:M4 ρ m.n m'.hi)(hx:VR ρ x x')(hy:VR ρ y y') :
  VOk P base ρ m w (Builtin.append_ #[t,t2] ty #[x',y']) v m':=by
 unfold wM at ho;split at ho
 ·rename_i e d2 hu hu2;cases hd2:fI d2 with
  | false=>rw[hd2]at ho;cases ho
  | true =>
  rw[hd2]at ho;simp only[V4,E7]at ho;split at ho
  ·rename_i inf a n c hi;split at ho
   ·rename_i k new z hnew hz;obtain⟨g1,ho⟩:=A6 ho;obtain⟨g1,g4⟩:=B8 g1;obtain⟨g1,g3⟩:=B8 g1;obtain⟨g1,g2⟩:=B8 g1;have g1:=A2 g1;have g2:=A2 g2;have g3:=A1 g3;obtain⟨hlen,new',hnl,hnr⟩:=zF h hnew hy;have hzr:∀ w,(zeroValue e).run P w=.ok z w:=fun w=>cQ hz w
    have hnn:new'.length=k*inf.size:=by rw[← hnl.1];exact MD h hnew g3
    have OPENv:R5=9223372036854775808:=rfl;cases hk:Nat.beq k 0 with
    | true =>
      have hk:=A1 hk;subst hk;have hb0:Nat.beq 0 0=true:=rfl;simp only[hb0,F3]at ho;have hn0:new'=[]:=D4.1 (by rw[hnn];simp);subst hn0;cases a with
      | none =>
        simp only at ho;obtain⟨q1,ho⟩:=A6 ho;obtain⟨q1,q2⟩:=B8 q1;have q1:=A1 q1;have q2:=A1 q2;subst q1;subst q2;cases ho;cases V1 hx;exact VOk.same h (yL hu hu2 hd2 hi hlen (hnr w rfl)) (.pure rfl)
      | some ad =>
        simp only at ho;obtain⟨q1,ho⟩:=A6 ho;obtain⟨q1,q2⟩:=B8 q1;have q1:=A2 q1;have q2:=A2 q2;cases ho;rcases U1 hx with⟨l,hl,hsp,hc,rfl⟩|⟨l,c',hl,hsp,hc,hn,hcap,rfl⟩|⟨a',c',_,_,he,_⟩
        ·exact VOk.same h (qT hu hu2 hd2 hi hlen (hnr w rfl) A0 rfl) (by simpa using hx)
        ·exact VOk.same h (qT hu hu2 hd2 hi hlen (hnr w rfl) A0 rfl) (by simpa using hx)
        ·omega
    | false =>
      have hk0:k≠0:=fun e=>by subst e;cases hk
      simp only[hk,E7]at ho;cases a with
      | none =>
        simp only at ho;obtain⟨q1,ho⟩:=A6 ho;obtain⟨q1,q2⟩:=B8 q1;have q1:=A1 q1;have q2:=A1 q2;subst q1;subst q2;rw[I9]at ho;cases V1 hx;obtain⟨nc,hnc,hr⟩:=kY (ty:=ty) (c:=0) (a:=none) (old':=[]) hu hu2 hd2 hi hzr hlen (fun _ _=>rfl) hnr A0 g1 g2;have hsz:∀ inf2,P.info? e=some inf2→nc*inf2.size≤(({ toList:=[] }:Array Value)++⟨new'⟩++Builtin.zeroCells z.cells (nc-(0+k))).size:=fun inf2 h2=>by
         rw[hi]at h2;cases h2;exact gL hnn hnc g3 (by simp)
        obtain⟨e1,e2,e3⟩:=gJ (wd:=w.drew) (fz:=(0,0)) (cap:=nc) h hb ho hf hnl (fun i u hi=>by
         show(({ toList:=[] }:Array Value)++⟨new'⟩++Builtin.zeroCells z.cells (nc-(0+k)))[i]? = some u;exact SE hi) NF.zero hsz ⟨rfl,rfl,rfl⟩ rfl
        refine⟨_,_,_,hr,?_,e3⟩;rw[e1,F6]
        have:=VR.op (ρ:=upd ρ m.n (lc w.heap.size 0 nc)) (b:=m.n) (o:=0) (n:=k) (m:=R5) (m':=nc) e2 (B0 _) A0 (fun _ _=>rfl)
        simpa using this
      | some ad =>
        simp only at ho;cases hco:Nat.blt c R5 with
        | true =>
          have hco':c<R5:=A2 hco;simp only[hco,F3]at ho;rcases U1 hx with⟨l,hl,hsp,hc,rfl⟩|⟨l,c',hl,hsp,hc,hn,hcap,rfl⟩|⟨a',c',_,_,he,_⟩
          ·cases hfit:Nat.ble (n+k) c with
           | true =>
             have hfit':=A2 hfit;simp only[hfit,F3]at ho;split at ho
             ·rename_i m2 hw;cases ho;rw[fZ]at hw;obtain⟨w',h1,h2⟩:=tO h hw hl hnl;refine⟨_,ρ,w',qT hu hu2 hd2 hi hlen (hnr w rfl) hfit' ?_,?_,h2⟩
              ·rw[u7,show ad.off+l.sh+n*inf.size=ad.off+n*inf.size+l.sh by omega];exact h1
              ·obtain⟨ab,ao,asp⟩:=ad;simp only at hsp;subst hsp;exact .sl hl hc
             ·cases ho
           | false =>
             have hfit':¬ n+k≤c:=fun hle=>by rw[show Nat.ble (n+k) c=true from C9 hle]at hfit;cases hfit
             simp only[hfit,E7]at ho;split at ho
             ·rename_i old hold;rw[I9]at ho;obtain⟨old',o1,o2,o3⟩:=aM h hold hl;have holdr:∀ wd:World,wd.heap=w.heap→(Builtin.firstCells inf.size n (.slice (some ⟨l.blk,ad.off+l.sh,none⟩) n c)).run P wd=.ok ⟨old'⟩ wd:=fun wd hw=>N3 o2 fun j u hj=>by rw[dX hw];exact o3 j u hj
              obtain⟨nc,hnc,hr⟩:=kY (ty:=ty) hu hu2 hd2 hi hzr hlen holdr hnr hfit' g1 g2;obtain⟨e1,e2,e3⟩:=gJ (wd:=w.drew) (fz:=(0,0)) (cap:=nc) (C:=⟨old'⟩++⟨new'⟩++Builtin.zeroCells z.cells (nc-(n+k))) h hb ho hf (o1.append hnl) (fun i u hi=>gM hi) NF.zero
               (fun inf2 h2=>by rw[hi]at h2;cases h2;exact gL hnn hnc g3 o2) ⟨rfl,rfl,rfl⟩ rfl
              refine⟨_,_,_,hr,?_,e3⟩;rw[e1]
              have:=VR.op (ρ:=upd ρ m.n (lc w.heap.size 0 nc)) (b:=m.n) (o:=0) (n:=n+k) (m:=R5) (m':=nc) e2 (B0 _) hnc (fun _ _=>rfl)
              simpa using this
             ·cases ho
          ·omega
          ·omega
        | false =>
          simp only[hco,E7]at ho;obtain⟨q0,ho2⟩:=A6 ho;clear ho;have ho:=ho2;clear ho2;obtain⟨q1,q2⟩:=B8 q0;replace q1:=A1 q1;replace q2:=A1 q2;clear q0;split at ho
          ·rename_i cs T hsp hg;obtain⟨p1,ho⟩:=A6 ho;rw[I3,I3,I3]at p1;obtain⟨⟨⟨p1,p2⟩,p3⟩,p4⟩:=p1;have p1:=A1 p1;have p2:=A1 p2;have p3:=A2 p3;have p4:ad.block<m.n:=A2 p4;subst p2;rw[I9]at ho;rcases U1 hx with⟨_,_,_,hc,_⟩|⟨l,c',hl,_,_,hn,hcap,rfl⟩|⟨a',c',_,_,he,_⟩
           ·omega
           ·have hcap:=hcap q1 q2;obtain⟨⟨hon,C,fz,T',z2,z3,z4⟩,z5⟩:=h.atl hl hg;obtain⟨rfl,z6,z7⟩:=z4 rfl;have z8:=(z7 inf hi).2;have z7:=(z7 inf hi).1;by_cases hfit:n+k≤c'
            ·
             have hsum:(n+k)*inf.size≤c'*inf.size:=G7 _ hfit;rw[J1]at hsum;obtain⟨w',r1,r2,r3,r4,r5⟩:=y6 (P:=P) (b:=l.blk) (o:=n*inf.size+l.sh) (fz:=fz) new' 0 C w z2 (NC hnl g4) (by rw[hnn];subst hcap;omega) z6;obtain⟨e1,e3⟩:=St.grow (w':=w') (l:=l) h p3 hg rfl hl hon ho hf r2 r3 r5 (by
              have hfree:ρ m.n=none:=by
               rw[bF]at ho;obtain⟨_,_,rfl⟩:=M7 ho;exact hf m.n (B0 _) (L6 _ _).2
              refine⟨hon,_,fz,_,r4,fun i u hi=>?_,fun _=>⟨rfl,z6.sz (by simp[y7]),fun inf2 h2=>⟨by simpa [y7]using(by rw[hi]at h2;cases h2;exact z7:l.sh+l.cap*inf2.size≤C.size),by rw[hi]at h2;cases h2;exact z8⟩⟩⟩;show ∃ u',(Array.mk (eR C.toList (n*inf.size+l.sh+0) new'))[l.sh+i]? = some u'∧_;have hlC:C.toList.length=C.size:=by simp
              rw[L8,oV _ _ _ _ (by rw[hnn];subst hcap;omega)];by_cases hlt:i<cs.length
              ·rw[F5 hlt]at hi;rw[A3 A0];obtain⟨u',y1,y2⟩:=z3 i u hi;exact⟨u',by simpa using y1,y2.mono (q9 hfree)⟩
              ·rw[E8 A0]at hi;have hil:=(B3.1 hi).1;have hnl1:=hnl.1;rw[A4 A0];obtain⟨u',y1,y2⟩:=hnl.get hi;exact⟨u',by rw[show l.sh+i-(n*inf.size+l.sh+0)=i-cs.length by omega];exact y1,y2.mono (q9 hfree)⟩)
             refine⟨_,_,w',qT (ty:=ty) hu hu2 hd2 hi hlen (hnr w rfl) hfit ?_,?_,e3⟩
             ·rw[u7,q2,show 0+l.sh+n*inf.size=n*inf.size+l.sh by omega];exact r1
             ·rw[e1,q2];exact .op (M3 _ _ _) (B0 _) hfit (fun _ _=>hcap)
            ·
             have st1:=St.kill h p3 hg rfl;have hf1:M4 ρ (nO m ad.block).n m'.hi:=by rw[bF];exact hf
             obtain⟨old',o1,o2⟩:=gI (ρ:=ρ) (C:=C) (cs:=cs) (s:=l.sh) z3;have oL:old'.length=n*inf.size:=by rw[← o1.1];exact p1
             have holdr:∀ wd:World,wd.heap=w.heap→(Builtin.firstCells inf.size n (.slice (some ⟨l.blk,ad.off+l.sh,none⟩) n c')).run P wd=.ok ⟨old'⟩ wd:=fun wd hw=>N3 oL fun j u hj=>by
              rw[dX hw,q2]
              have:=o2 j u hj;simp[World.cell?,z2,this]
             obtain⟨nc,hnc,hr⟩:=kY (ty:=ty) hu hu2 hd2 hi hzr hlen holdr hnr hfit g1 g2;obtain⟨e1,e2,e3⟩:=gJ (wd:=w.drew) (fz:=(0,0)) (cap:=nc) (C:=⟨old'⟩++⟨new'⟩++Builtin.zeroCells z.cells (nc-(n+k))) st1.hr hb ho hf1 (o1.append hnl) (fun i u hi=>gM hi) NF.zero
              (fun inf2 h2=>by rw[hi]at h2;cases h2;exact gL hnn hnc g3 oL) ⟨rfl,rfl,rfl⟩ rfl
             refine⟨_,_,_,hr,?_,St.trans hf st1 e3⟩;rw[e1]
             have:=VR.op (ρ:=upd ρ (nO m ad.block).n (lc w.heap.size 0 nc)) (b:=(nO m ad.block).n) (o:=0) (n:=n+k) (m:=R5) (m':=nc) e2 (B0 _) hnc (fun _ _=>rfl)
             simpa using this
           ·omega
          ·cases ho
   ·cases ho
  ·cases ho
 ·cases ho
end
end
section
open Go
variable [Ora]
section
variable {P:Program} {base:Nat} {ρ:Ren} {m m':Mem} {w:World}
def UF{op:UnOp}(h:unM op x=some v)(hx:VR ρ x x')(w:World):(Op.unary op x').run P w=.ok v w∧K2 v=true:=by
 unfold unM at h;split at h
 ·cases L7 hx;cases h;exact⟨by simp[Op.unary,Op.intArith,bR],by simp[bR,K2]⟩
 ·cases L7 hx;obtain⟨h1,h2⟩:=cZ (P:=P) h w;exact⟨by simpa [Op.unary]using h1,h2⟩
 ·cases eT hx;cases h;exact⟨rfl,rfl⟩
 ·cases h
def A8p(ho:B4j P t x=some v)(hx:VR ρ x x')(w:World):(Builtin.cap_ ⟨t::tys⟩ ty #[x']).run P w=.ok v w∧K2 v=true:=by
 unfold B4j at ho;split at ho
 ·rename_i hu;cases V1 hx;cases ho;exact⟨by simp[Builtin.cap_,A8,D8 hu,Result.andThen,goInt],rfl⟩
 ·rename_i hu;obtain⟨hc,ho⟩:=A6 ho;have hc:_<R5:=A2 hc;cases ho;rcases U1 hx with⟨l,_,_,_,rfl⟩|⟨l,c',_,_,_,_,_,rfl⟩|⟨a',c',_,_,he,_⟩
  ·exact⟨by simp[Builtin.cap_,A8,D8 hu,Result.andThen,goInt],rfl⟩
  ·omega
  ·omega
 ·cases ho
def ZY(h:HR P base ρ m.H w)(ho:A4p P m t x=some v)(hx:VR ρ x x'):(Builtin.len_ ⟨t::tys⟩ ty #[x']).run P w=.ok v w∧K2 v=true:=by
 unfold A4p at ho;split at ho
 ·rename_i hu;cases l8 hx;cases ho;refine⟨?_,rfl⟩;simp[Builtin.len_,A8,D8 hu,Result.andThen,goInt]
 ·rename_i hu;cases ho;refine⟨?_,rfl⟩;simp[Builtin.len_,A8,D8 hu,Result.andThen,goInt]
 ·rename_i n c hu;cases ho;refine⟨?_,rfl⟩;have hx':∃ a' c',x'=.slice a' n c':=by
   cases hx with
   | pure _=>exact⟨_,_,rfl⟩
   | sl _ _=>exact⟨_,_,rfl⟩
   | op _ _ _ _=>exact⟨_,_,rfl⟩
   | opE _=>exact⟨_,_,rfl⟩
  obtain⟨a',c',rfl⟩:=hx';simp[Builtin.len_,A8,D8 hu,Result.andThen,goInt]
 ·rename_i hu;cases hx with|pure _=>?_
  cases ho;refine⟨?_,rfl⟩;simp[Builtin.len_,A8,D8 hu,Result.andThen,goInt]
 ·cases ho
def ZQ{tys:Array TypeId}(ho:B31 vs=some v)(hx:LR ρ vs vs')(w:World):(Builtin.max_ tys ty ⟨vs'⟩).run P w=.ok v w∧K2 v=true:=by
 unfold B31 at ho;split at ho
 ·obtain⟨a',r1,rfl,h1,h2⟩:=hx.tail;obtain⟨b',r2,rfl,h3,h4⟩:=h2.tail;cases h4.nil_inv;cases L7 h1;cases L7 h3;cases ho;exact⟨by simp[Builtin.max_,Builtin.max2],rfl⟩
 ·obtain⟨a',r1,rfl,h1,h2⟩:=hx.tail;obtain⟨b',r2,rfl,h3,h4⟩:=h2.tail;obtain⟨c',r3,rfl,h5,h6⟩:=h4.tail;cases h6.nil_inv;rw[xS]at ho;cases L7 h1;cases L7 h3;cases L7 h5;cases ho;exact⟨by simp[Builtin.max_,Builtin.max2],rfl⟩
 ·cases ho
def ZO{tys:Array TypeId}(ho:B30 vs=some v)(hx:LR ρ vs vs')(w:World):(Builtin.min_ tys ty ⟨vs'⟩).run P w=.ok v w∧K2 v=true:=by
 unfold B30 at ho;split at ho
 ·obtain⟨a',r1,rfl,h1,h2⟩:=hx.tail;obtain⟨b',r2,rfl,h3,h4⟩:=h2.tail;cases h4.nil_inv;cases L7 h1;cases L7 h3;cases ho;exact⟨by simp[Builtin.min_,Builtin.min2],rfl⟩
 ·obtain⟨a',r1,rfl,h1,h2⟩:=hx.tail;obtain⟨b',r2,rfl,h3,h4⟩:=h2.tail;obtain⟨c',r3,rfl,h5,h6⟩:=h4.tail;cases h6.nil_inv;rw[xS]at ho;cases L7 h1;cases L7 h3;cases L7 h5;cases ho;exact⟨by simp[Builtin.min_,Builtin.min2],rfl⟩
 ·cases ho
def GJ{tys:Array TypeId}(h:HR P base ρ m.H w)(ho:mH m x=some (v,m'))(hx:VR ρ x x'):VOk P base ρ m w (Builtin.unsafeSliceData_ tys ty #[x']) v m':=by
 unfold mH at ho;split at ho
 ·cases ho;cases V1 hx;exact VOk.same h rfl (.pure rfl)
 ·rename_i a n c;cases hq:Nat.beq n 0 || Nat.beq c 0 || Nat.beq c (R5+2)with
  | true=>rw[hq]at ho;cases ho
  | false =>
    rw[hq]at ho;simp only[E7,D9,R6]at ho;obtain⟨rfl,rfl⟩:=ho;simp only[P0]at hq;obtain⟨⟨q1,q2⟩,q3⟩:=hq;have q1:n≠0:=fun e=>by subst e;cases q1
    have q2:c≠0:=fun e=>by subst e;cases q2
    rcases U1 hx with⟨l,hl,hsp,hc,rfl⟩|⟨l,c',hl,hsp,hc,hn,hcap,rfl⟩|⟨a',c',_,he,_,_⟩
    ·refine VOk.same (v':=.pointer (some ⟨l.blk,a.off+l.sh,none⟩)) h ?_ ?_
     ·have hdef:Builtin.unsafeSliceData_ tys ty #[.slice (some ⟨l.blk,a.off+l.sh,none⟩) n c]=(do
        if c≠0 then pure (.pointer (some ⟨l.blk,a.off+l.sh,none⟩))
        else if(← viewAt l.blk).isSome then pure (.pointer (some ⟨l.blk,a.off+l.sh,none⟩))
        else pure (.pointer (some ⟨← newObj (.view ⟨l.blk,a.off+l.sh,none⟩ (← elemOf ty)),0,none⟩))):=rfl
      rw[hdef,A4 q2];rfl
     ·obtain⟨ab,ao,asp⟩:=a;simp only at hsp;subst hsp;exact .ptr hl
    ·refine VOk.same (v':=.pointer (some ⟨l.blk,a.off+l.sh,none⟩)) h ?_ ?_
     ·have:c'≠0:=A0;have hdef:Builtin.unsafeSliceData_ tys ty #[.slice (some ⟨l.blk,a.off+l.sh,none⟩) n c']=(do
        if c'≠0 then pure (.pointer (some ⟨l.blk,a.off+l.sh,none⟩))
        else if(← viewAt l.blk).isSome then pure (.pointer (some ⟨l.blk,a.off+l.sh,none⟩))
        else pure (.pointer (some ⟨← newObj (.view ⟨l.blk,a.off+l.sh,none⟩ (← elemOf ty)),0,none⟩))):=rfl
      rw[hdef,A4 this];rfl
     ·obtain⟨ab,ao,asp⟩:=a;simp only at hsp;subst hsp;exact .ptr hl
    ·omega
 ·cases ho
def A1U(h:HR P base ρ m.H w)(ho:MB P m t x=some (v,m'))(hx:VR ρ x x'):VOk P base ρ m w (Instr.makeInterface t x') v m':=by
 unfold MB at ho;split at ho
 ·rename_i d hd;have hmi:(∀ ms,d≠.interface ms)→(Instr.makeInterface t x').run P w=.ok (.iface t x') w:=fun hne=>by
   simp only[Instr.makeInterface,A8,D8 hd,Result.andThen];cases d<;>first|rfl|exact absurd rfl (hne _)
  split at ho
  ·cases ho
  ·rename_i hne;obtain⟨_,ho⟩:=A6 ho;cases ho;exact VOk.same h (hmi fun ms e=>hne ms e) (.iface hx)
 ·cases ho
def A7i(ho:A4T m x=some (v,m'))(hx:VR ρ x x'):m'=m∧VR ρ v x'∧((∃ a,x'=.pointer (some a))∨∃ f a b,x'=.func (.func f) a b):=by
 unfold A4T at ho;split at ho
 ·cases ho;obtain⟨l,_,_,rfl⟩:=U7 hx;exact⟨rfl,hx,.inl ⟨_,rfl⟩⟩
 ·cases ho;cases hx with
  | pure hp=>simp[K2]at hp
  | func _ _ _ _=>exact⟨rfl,by constructor<;>assumption,.inr ⟨_,_,_,rfl⟩⟩
 ·cases ho
def A5v(h:HR P base ρ m.H w)(ho:TB P m t x y=some (v,m'))(hx:VR ρ x x')(hy:VR ρ y y'):VOk P base ρ m w (Builtin.copy_ ⟨t::tys⟩ ty #[x',y']) v m':=by
 unfold TB at ho;split at ho
 ·rename_i e a n c hu;split at ho
  ·rename_i s hs;split at ho
   ·rename_i k cs hsrc;have hx':∃ a' c',x'=.slice a' n c':=by
     cases hx with
     | pure _=>exact⟨_,_,rfl⟩
     | sl _ _=>exact⟨_,_,rfl⟩
     | op _ _ _ _=>exact⟨_,_,rfl⟩
     | opE _=>exact⟨_,_,rfl⟩
    obtain⟨a',c',rfl⟩:=hx';have hread:∃ L cs',(Builtin.lenOf y').run P w=.ok L w∧Nat.min L n=k∧LR ρ cs cs'∧(Builtin.firstCells s k y').run P w=.ok ⟨cs'⟩ w:=by
     split at hsrc
     ·rename_i k0 _;obtain⟨q,hsrc⟩:=A6 hsrc;have q:=A1 q;subst q;cases hsrc;cases V1 hy;exact⟨0,[],rfl,by simp,.nil,rfl⟩
     ·rename_i b k0 c0;split at hsrc
      ·rename_i r hr;cases hsrc;rcases U1 hy with⟨l,hl,_,_,rfl⟩|⟨l,c',hl,_,_,_,_,rfl⟩|⟨a',c',_,rfl,_,rfl⟩
       ·obtain⟨r',h1,h2,h3⟩:=aM h hr hl;exact⟨k0,r',rfl,rfl,h1,N3 h2 h3⟩
       ·obtain⟨r',h1,h2,h3⟩:=aM h hr hl;exact⟨k0,r',rfl,rfl,h1,N3 h2 h3⟩
       ·have:cs=[]:=by
         unfold cA at hr;split at hr
         ·have:=(mY hr).2;simp at this;exact this
         ·cases hr
        subst this;exact⟨0,[],rfl,rfl,.nil,by simp[Builtin.firstCells,loadCells,loadCellsFrom]⟩
      ·cases hsrc
     ·rename_i b;cases hsrc;cases l8 hy;refine⟨b.size,U5 (b.data.toList.take (Nat.min b.size n)),rfl,rfl,BF _ _,?_⟩;have e:((b.extract 0 (Nat.min b.size n)).data.map fun b=>Value.int .u8 b.toNat)=⟨U5 (b.data.toList.take (Nat.min b.size n))⟩:=by
       apply L1;simp[U5,kK]
      show(pure ((b.extract 0 (Nat.min b.size n)).data.map fun b=>Value.int .u8 b.toNat):Sem o7).run P w=_;rw[e];rfl
     ·cases hsrc
    obtain⟨L,cs',r1,r2,r3,r4⟩:=hread;have hbase:(Builtin.copy_ ⟨t::tys⟩ ty #[.slice a' n c',y']).run P w=(match a' with|some a=>(do storeCells a cs';pure (goInt k):Sem Value)|none=>pure (goInt k)).run P w:=by
     unfold Builtin.copy_;simp only[L8,W1,W3,A8,D8 hu,O8 hs,r1,r2,r4,Result.andThen];cases a' with
     | none=>rfl
     | some a=>rfl
    cases a with
    | none =>
      cases V1 hx;simp only at ho;obtain⟨q,ho⟩:=A6 ho;have q:=A1 q;cases ho;exact VOk.same h (by rw[hbase,q];rfl) (.pure rfl)
    | some ad =>
      simp only at ho;cases hz:Nat.beq cs.length 0 with
      | true =>
        rw[hz]at ho;cases ho;have hz:=A1 hz;have:cs'=[]:=D4.1 (by rw[← r3.1];exact hz);subst this;refine VOk.same h (v':=.int .i64 k) ?_ (.pure rfl);rw[hbase];cases a'<;>rfl
      | false =>
        rw[hz]at ho;simp only[E7]at ho;obtain⟨hcl,ho⟩:=A6 ho;have hcl:=A2 hcl;split at ho
        ·rename_i m2 hw;cases ho;rcases U1 hx with⟨l,hl,hsp,hc,he⟩|⟨l,c',hl,hsp,hc,hn,hcap,he⟩|⟨a2,c2,_,hn,hc2,he⟩
         ·cases he;obtain⟨w',h1,h2⟩:=tO h hw hl r3;exact⟨.int .i64 k,ρ,w',by rw[hbase];simp[A8,h1,Result.andThen,goInt],.pure rfl,h2⟩
         ·cases he;obtain⟨w',h1,h2⟩:=tO h hw hl r3;exact⟨.int .i64 k,ρ,w',by rw[hbase];simp[A8,h1,Result.andThen,goInt],.pure rfl,h2⟩
         ·have OPENv:R5=9223372036854775808:=rfl;omega
        ·cases ho
   ·cases ho
  ·cases ho
 ·cases ho
def tE:∀ {cs:D5} {l:List UInt8},bytesOf cs=some l→∃ ns:List Int,cs=ns.map (Value.int .u8)∧l=ns.map fun n=>UInt8.ofNat n.toNat
 | [],l,h=>by simp only[bytesOf,D9]at h;subst h;exact⟨[],rfl,rfl⟩
 | v::r,l,h=>by
   unfold bytesOf at h;split at h
   ·rename_i he;cases he
   ·rename_i n r0 he;cases he;split at h
    ·rename_i l0 h0;cases h;obtain⟨ns,h1,h2⟩:=tE h0;exact⟨n::ns,by rw[h1];rfl,by rw[h2];rfl⟩
    ·cases h
   ·cases h
def vP:∀ {ns:List Int} {cs':D5},LR ρ (ns.map (Value.int .u8)) cs'→cs'=ns.map (Value.int .u8)
 | [],cs',h=>h.nil_inv
 | n::r,cs',h=>by
   obtain⟨v',r',rfl,h1,h2⟩:=h.tail;cases L7 h1;rw[vP h2];rfl
def sX:∀ (ns:List Int) (acc:List UInt8),(ns.foldl (fun r n=>r.push (UInt8.ofNat n.toNat)) (ByteArray.mk ⟨acc⟩))=⟨⟨acc++ns.map fun n=>UInt8.ofNat n.toNat⟩⟩
 | [],acc=>by simp
 | n::r,acc=>by
   rw[List.foldl_cons];have:(ByteArray.mk ⟨acc⟩).push (UInt8.ofNat n.toNat)=⟨⟨acc++[UInt8.ofNat n.toNat]⟩⟩:=by
    show ByteArray.mk (Array.push ⟨acc⟩ _)=_;simp
   rw[this,sX r];simp
def A5y(h:HR P base ρ m.H w)(hb:base≤w.heap.size)(ho:JN P m s t x=some (v,m'))(hf:M4 ρ m.n m'.hi)(hx:VR ρ x x'):VOk P base ρ m w (convert s t x') v m':=by
 unfold JN at ho;split at ho
 ·rename_i ds k j n hs ht;cases L7 hx;simp only[D9,R6]at ho;obtain⟨rfl,rfl⟩:=ho;refine VOk.same (v':=.int k (k.wrap n)) h ?_ (by rw[bR,oC];exact .pure rfl);cases ds<;>simp[convert,A8,D8 hs,D8 ht,Result.andThen,Conv.intToInt]
 ·rename_i ds b hs ht;cases l8 hx;cases ho;refine VOk.same h ?_ (.pure rfl);cases ds<;>simp[convert,A8,D8 hs,D8 ht,Result.andThen]
 ·rename_i ds j n hs ht;cases L7 hx;cases ho;refine VOk.same (v':=.string (Utf8.encode n)) h ?_ (.pure rfl);cases ds<;>simp[convert,A8,D8 hs,D8 ht,Result.andThen,Conv.intToString]
 ·rename_i ds e b hs ht;cases l8 hx;split at ho
  ·rename_i he;split at ho
   ·rename_i hsz;rw[I9]at ho;let q:Question:=.appendCap b.size 0 e
    let cap:=q.cut (w.tape w.drawn q)
    have hcap:b.size≤cap:=by show b.size≤b.size+_;omega
    have hch:(choose q).run P w=.ok cap w.drew:=by
     simp only[choose,Sem.run];rw[A3 (by simp[q,Question.forced])];rfl
    let C:o7:=(b.data.map fun b=>Value.int .u8 b.toNat)++Array.replicate (cap-b.size) (.int .u8 0)
    have hC:C.size=cap:=by
     have:b.data.size=b.size:=rfl;simp[C,this];omega
    obtain⟨e1,e2,e3⟩:=gJ (wd:=w.drew) (fz:=(C.size,C.size+1)) (cap:=cap) (C:=C) h hb ho hf (BF ρ b.data.toList) (fun i u hi=>by
      have hl:=(B3.1 hi).1;simp[U5]at hl;have hl':i<(b.data.map fun b=>Value.int .u8 b.toNat).size:=by simpa using hl
      show((b.data.map fun b=>Value.int .u8 b.toNat)++Array.replicate (cap-b.size) (.int .u8 0))[i]? = some u;rw[Y6 hl']
      simpa [U5]using hi) NF.end
     (fun inf h2=>by
       have:inf.size=1:=by unfold I4 at hsz;rw[h2]at hsz;exact A9 hsz
       rw[this,hC];omega) ⟨rfl,rfl,rfl⟩ rfl
    refine⟨.slice (some ⟨w.heap.size,0,none⟩) b.size cap,_,_,?_,?_,e3⟩
    ·have hmk:∀ w2:World,w2.heap[w.heap.size]? = some (.cells C e (0,0))→(markStringish ⟨w.heap.size,0,none⟩).run P w2=.ok () (w2.freeze { block:=w.heap.size,off:=C.size } 1):=fun w2 h2=>by
      simp[markStringish,shape,freeze,Sem.run,World.shape?,h2]
     have hfr:({ w.drew with heap:=w.heap.push (.cells C e (0,0)) }:World).freeze { block:=w.heap.size,off:=C.size } 1={ w.drew with heap:=w.heap.push (.cells C e (C.size,C.size+1)) }:=by
      unfold World.freeze;rw[A3 C7];congr 1
      apply Array.ext_getElem?;intro i;rw[I8];by_cases hi:w.heap.size=i
      ·subst hi;simp
      ·rw[A3 hi];simp only[bA];rw[A3 (fun h=>hi h.symm),A3 (fun h=>hi h.symm)]
     have hconv:(convert s t (.string b)).run P w=(Conv.stringToBytes e b).run P w:=by
      cases ds<;>simp[convert,A8,D8 hs,D8 ht,D8 he,Result.andThen]
     rw[hconv];unfold Conv.stringToBytes;simp only[A8,show(choose (.appendCap b.size 0 e)).run P w=.ok cap w.drew from hch,Result.andThen];have hnr:(newRow e C).run P w.drew=.ok ⟨w.heap.size,0,none⟩ { w.drew with heap:=w.heap.push (.cells C e (0,0)) }:=rfl;rw[show(newRow e ((b.data.map fun b=>Value.int .u8 b.toNat)++Array.replicate (cap-b.size) (.int .u8 0))).run P w.drew=_ from hnr];simp only[Result.andThen];rw[hmk _ (by simp),hfr];rfl
    ·rw[e1];exact VR.op (o:=0) (m':=cap) e2 (B0 _) hcap (fun _ _=>rfl)
   ·cases ho
  ·cases ho
 ·rename_i e n c hs ht;cases V1 hx;split at ho
  ·rename_i he;cases ho;refine VOk.same h (v':=.string ByteArray.empty) ?_ (.pure rfl);simp[convert,A8,D8 hs,D8 ht,D8 he,Result.andThen,Conv.bytesToString]
  ·cases ho
 ·rename_i e a n c hs ht;split at ho
  ·rename_i he;split at ho
   ·rename_i cs hr;split at ho
    ·rename_i l hl;cases ho;obtain⟨ns,h1,h2⟩:=tE hl;have hfin:∀ a' c',(loadCells a' n).run P w=.ok (ns.map (Value.int .u8)).toArray w→(convert s t (.slice (some a') n c')).run P w=.ok (.string ⟨⟨l⟩⟩) w:=fun a' c' hlc=>by
      have:=run_bytesToString w a' n c' ns hlc;have e2:=sX ns [];simp only[W4]at e2;simp only[convert,A8,D8 hs,D8 ht,D8 he,Result.andThen];rw[this,show ByteArray.empty=ByteArray.mk ⟨[]⟩from rfl,e2,h2]
     rcases U1 hx with⟨lc,hlc,_,_,rfl⟩|⟨lc,c',hlc,_,_,_,_,rfl⟩|⟨a',c',_,rfl,_,rfl⟩
     ·obtain⟨r',g1,g2,g3⟩:=aM h hr hlc;rw[h1]at g1
      have:=vP g1;subst this;exact VOk.same h (hfin _ _ (N3 g2 g3)) (.pure rfl)
     ·obtain⟨r',g1,g2,g3⟩:=aM h hr hlc;rw[h1]at g1
      have:=vP g1;subst this;exact VOk.same h (hfin _ _ (N3 g2 g3)) (.pure rfl)
     ·have:cs=[]:=by
       unfold cA at hr;split at hr
       ·have:=(mY hr).2;simpa using this
       ·cases hr
      subst this;have:ns=[]:=by cases ns with|nil=>rfl|cons _ _=>cases h1
      subst this;exact VOk.same h (hfin _ _ (by simp[loadCells,loadCellsFrom])) (.pure rfl)
    ·cases ho
   ·cases ho
  ·cases ho
 ·cases ho
end
end
section
open Go
variable [Ora]
section
variable {P:Program} {base:Nat} {ρ:Ren} {m m':Mem} {w:World}
def DQ(hc:P.cellsOf e=1)(count off n:Nat)(hn:off+n≤count):liesAt P P.depth e count off e n=true:=by
 have hd:P.depth=(2*(P.types.size+Made.depth)+1)+1:=rfl;rw[hd];simp only[liesAt,K3];left
 rw[hd];simp[rowAt,hc,hn,sameLayout,Nat.mod_one]
def hJ:∀ (ns:List Int) (b o:Nat) (acc:ByteArray),(∀ (j:Nat) (v:Value),(ns.map (Value.int .u8))[j]? = some v→w.cell? ⟨b,o+j,none⟩=some v) →
  (loadBytes ⟨b,o,none⟩ acc ns.length).run P w=.ok ⟨acc.data++(ns.map fun n=>UInt8.ofNat n.toNat).toArray⟩ w
 | [],b,o,acc,_=>by simp[loadBytes]
 | n::ns,b,o,acc,h=>by
   have h0:w.cell? ⟨b,o,none⟩=some (.int .u8 n):=by simpa using h 0 _ rfl
   have ih:=hJ ns b (o+1) (acc.push n.toNat.toUInt8) (fun j v hj=>by
    have:=h (j+1) v (by simpa using hj);rw[show o+1+j=o+(j+1) by omega];exact this)
   simp only[C4,loadBytes,A8,run_load,h0,Result.andThen,u7];rw[ih];have:(acc.push n.toNat.toUInt8).data=acc.data.push n.toNat.toUInt8:=rfl;rw[this];congr 2
   apply L1;simp
def FX{l l':Value}(h:HR P base ρ m.H w)(ho:gS P m pt p l=some (v,m'))(hp:VR ρ p p')(hl:VR ρ l l') :
  VOk P base ρ m w (Builtin.unsafeString_ ⟨pt::tys⟩ ty #[p',l']) v m':=by
 have hmax:IntKind.i64.max=9223372036854775807:=rfl;unfold gS at ho;split at ho
 ·cases hp with|pure _=>?_
  cases L7 hl;cases ho;refine VOk.same h (v':=.string ByteArray.empty) ?_ (.pure rfl);rename_i k _;have hdef:Builtin.unsafeString_ ⟨pt::tys⟩ ty #[.pointer none,.int k (.ofNat 0)] =
    (do
      let n ← asInt (.int k (.ofNat 0))
      if n<0 then runtimePanic (.error "unsafe.String: len out of range")
      if n>IntKind.i64.max then unsupported (.unsafePointer "String: a length above the largest int")
      if n=0 then pure (.string .empty)
      else runtimePanic (.error "unsafe.String: ptr is nil and len is not zero")):=rfl
  rw[hdef];simp[asInt,asIntOf,hmax]
 ·rename_i a k n;cases L7 hl;obtain⟨lc,hlc,hsp,rfl⟩:=U7 hp;split at ho
  ·rename_i cs T hspot hg;split at ho
   ·rename_i e hpt hT;obtain⟨q,ho⟩:=A6 ho;obtain⟨q,q3⟩:=B8 q;obtain⟨q1,q2⟩:=B8 q;have q1:0<n:=A2 q1;have q2:=A2 q2;have q3:=A1 q3;subst q3;split at ho
    ·rename_i r hr;split at ho
     ·rename_i bs m2 hbs dT;cases ho;obtain⟨ns,h1,h2⟩:=tE hbs;have hread:cA m a n=some r:=by
       unfold cA;rw[hspot,hg];exact hr
      obtain⟨r',g1,g2,g3⟩:=aM h hread hlc;rw[h1]at g1;have hr':=vP g1;subst hr';obtain⟨⟨hon,C,fz,T',z2,z3,z4⟩,z5⟩:=h.atl hlc hg;have z2:w.heap[lc.blk]? = some (.cells C e fz):=by rw[z2,(z4 rfl).1]
      have hnl:ns.length=n:=by simpa using g2
      have hcell:P.cellsOf e=1:=by
       unfold I4 at hT;unfold Program.cellsOf;cases hi:P.info? e with
       | none=>rw[hi]at hT;cases hT
       | some i=>rw[hi]at hT;have:=A9 hT;simp[this]
      have hin:a.off+lc.sh+n≤C.size:=by
       have hlast:=g3 (n-1) (.int .u8 ns[n-1]) (by simp[hnl]);simp only[World.cell?,z2]at hlast
       have:=(E0.1 (by simpa using hlast)).1;omega
      have hlb:=hJ (P:=P) (w:=w) ns lc.blk (a.off+lc.sh) .empty g3;rw[hnl]at hlb;have hsh:w.shape? lc.blk=some (e,C.size):=by simp[World.shape?,z2]
      have hlies:=DQ (P:=P) hcell (C.size / P.cellsOf e) (a.off+lc.sh) n (by rw[hcell];simpa using hin);have hdef:Builtin.unsafeString_ ⟨pt::tys⟩ ty #[.pointer (some ⟨lc.blk,a.off+lc.sh,none⟩),.int k (.ofNat n)] =
       (do
         let n ← asInt (.int k (.ofNat n))
         if n<0 then runtimePanic (.error "unsafe.String: len out of range")
         if n>IntKind.i64.max then unsupported (.unsafePointer "String: a length above the largest int")
         if n=0 then pure (.string .empty)
         else if ← variablesAt ⟨lc.blk,a.off+lc.sh,none⟩ (← elemOf pt) n.toNat then do
          let s ← loadBytes ⟨lc.blk,a.off+lc.sh,none⟩ .empty n.toNat
          freeze ⟨lc.blk,a.off+lc.sh,none⟩ n.toNat
          pure (.string s)
         else unsupported (.unsafePointer "String: not so many bytes at ptr")):=rfl
      have e1:Int.ofNat n=(n:Int):=rfl;have hneg:¬ (n:Int)<0:=A0;have hbig:¬ (9223372036854775807:Int)<(n:Int):=A0;have hz:¬ (n:Int)=0:=A0;have hz2:n≠0:=A0;refine⟨.string ⟨⟨bs⟩⟩,ρ,w.freeze ⟨lc.blk,a.off+lc.sh,none⟩ n,?_,.pure rfl,St.write h dT hg rfl hlc hon ?_ ?_ ?_ ?_⟩
      ·rw[hdef];simp[asInt,asIntOf,hmax,e1,hneg,hbig,hz,hz2,variablesAt,hsh,elemOf,D8 hpt,hlies,hlb,freeze,Sem.run,A8,Result.andThen,h2]
      ·simp[World.freeze,hz2]
      ·simp[World.freeze,hz2]
      ·intro j hj;simp only[World.freeze,hz2,if_false,I8];rw[A3 (fun e=>hj e.symm)]
      ·refine⟨hon,C,(if fz.1 == fz.2 then(a.off+lc.sh,a.off+lc.sh+n)else(min fz.1 (a.off+lc.sh),max fz.2 (a.off+lc.sh+n))),e,?_,z3,fun hc=>by cases hc⟩;simp only[World.freeze,hz2,if_false,I8,if_true,z2,P2]
     ·cases ho
    ·cases ho
   ·cases ho
  ·cases ho
 ·cases ho
def TN{ks:Array Bool}(h:HR P base ρ m.H w)(hb:base≤w.heap.size)(ho:lT P m b vs tys=some (v,m'))(hf:M4 ρ m.n m'.hi)(hx:LR ρ vs vs') :
  ∃ s:Sem Value,builtin b ⟨tys⟩ ty ks ⟨vs'⟩=(do pure (.value (← s)))∧VOk P base ρ m w s v m':=by
 unfold lT at ho;split at ho
 ·obtain⟨x',r1,rfl,h1,h2⟩:=hx.tail;cases h2.nil_inv;unfold noM at ho;split at ho
  ·rename_i u hu;cases ho;obtain⟨g1,g2⟩:=ZY h hu h1;exact⟨_,rfl,VOk.same h g1 (.pure g2)⟩
  ·cases ho
 ·obtain⟨x',r1,rfl,h1,h2⟩:=hx.tail;cases h2.nil_inv;unfold noM at ho;split at ho
  ·rename_i u hu;cases ho;obtain⟨g1,g2⟩:=A8p hu h1 w;exact⟨_,rfl,VOk.same h g1 (.pure g2)⟩
  ·cases ho
 ·obtain⟨x',r1,rfl,h1,h2⟩:=hx.tail;obtain⟨y',r2,rfl,h3,h4⟩:=h2.tail;cases h4.nil_inv;rename_i t t2 rest;refine⟨Builtin.append_ ⟨t::t2::rest⟩ ty #[x',y'],rfl,?_⟩
  have:=XA (ty:=ty) h hb ho hf h1 h3;have e:Builtin.append_ ⟨t::t2::rest⟩ ty #[x',y']=Builtin.append_ #[t,t2] ty #[x',y']:=rfl;rw[e];exact this
 ·obtain⟨x',r1,rfl,h1,h2⟩:=hx.tail;obtain⟨y',r2,rfl,h3,h4⟩:=h2.tail;cases h4.nil_inv;exact⟨_,rfl,A5v h ho h1 h3⟩
 ·unfold noM at ho;split at ho
  ·rename_i u hu;cases ho;obtain⟨g1,g2⟩:=ZQ (P:=P) (ty:=ty) (tys:=⟨tys⟩) hu hx w;exact⟨_,rfl,VOk.same h g1 (.pure g2)⟩
  ·cases ho
 ·unfold noM at ho;split at ho
  ·rename_i u hu;cases ho;obtain⟨g1,g2⟩:=ZO (P:=P) (ty:=ty) (tys:=⟨tys⟩) hu hx w;exact⟨_,rfl,VOk.same h g1 (.pure g2)⟩
  ·cases ho
 ·obtain⟨x',r1,rfl,h1,h2⟩:=hx.tail;cases h2.nil_inv;exact⟨_,rfl,GJ h ho h1⟩
 ·obtain⟨x',r1,rfl,h1,h2⟩:=hx.tail;obtain⟨y',r2,rfl,h3,h4⟩:=h2.tail;cases h4.nil_inv;exact⟨_,rfl,FX h ho h1 h3⟩
 ·cases ho
def NOk(P:Program)(base:Nat)(ρ:Ren)(m:Mem)(w:World)(s:Sem Next)(v:Value)(m':Mem):Prop :=
 ∃ v' ρ' w',(s.run P w=.ok (.value v') w'∨(s.run P w=.ok .skip w'∧v'=undef))∧VR ρ' v v'∧St P base ρ ρ' m m' w w'
def NOk.of{s:Sem Value}(h:VOk P base ρ m w s v m'):NOk P base ρ m w (do pure (.value (← s))) v m':=by
 obtain⟨v',ρ',w',h1,h2,h3⟩:=h;exact⟨v',ρ',w',.inl (by simp[A8,h1,Result.andThen]),h2,h3⟩
def tT(ρ:Ren):VR ρ undef undef:=.tuple (a:=[]) (a':=[]) rfl (fun i v v' h=>by simp at h)
def NOk.ofU{s:Sem Unit}(h:UOk P base ρ m w s m'):NOk P base ρ m w (do s;pure .skip) undef m':=by
 obtain⟨ρ',w',h1,h3⟩:=h;exact⟨undef,ρ',w',.inr ⟨by simp[A8,h1,Result.andThen],rfl⟩,tT _,h3⟩
def NOk.same{s:Sem Value}(h:HR P base ρ m.H w)(hr:s.run P w=.ok v' w)(hv:VR ρ v v'):NOk P base ρ m w (do pure (.value (← s))) v m:=NOk.of (VOk.same h hr hv)
def FR(ρ:Ren)(fr:Fr)(g:Operand→Value)(o:Op):Prop:=∀ x ∈ o.operands.toList,VR ρ (ev fr x) (g x)
def bD(h:noM o m=some (v,m')):o=some v∧m'=m:=by
 unfold noM at h;split at h
 ·cases h;exact⟨rfl,rfl⟩
 ·cases h
def rE{o:Option Mem}(h:VW o=some (v,m')):o=some m'∧v=undef:=by
 unfold VW at h;split at h
 ·cases h;exact⟨rfl,rfl⟩
 ·cases h
def fJ{fr:Fr}{g:Operand→Value}:∀ {xs:List Operand},(∀ x ∈ xs,VR ρ (ev fr x) (g x))→LR ρ (evL fr xs) (xs.map g)
 | [],_=>.nil
 | x::r,h=>.cons (h x C5) (fJ fun y hy=>h y (C8 _ hy))
def WM{fr:Fr}{g:Operand→Value}:∀ {xs:List (Nat×Operand)},(∀ x ∈ xs.map (·.2),VR ρ (ev fr x) (g x))→PR ρ (evP fr xs) (xs.map fun x=>(x.1,g x.2))
 | [],_=>trivial
 | (i,x)::r,h=>⟨rfl,h x (by simp),WM fun y hy=>h y (by simp at hy ⊢;exact .inr hy)⟩
def mX{fr:Fr}{x:Option Operand}(h:∀ y ∈ x.toList,VR ρ (ev fr y) (g y)):OR ρ (evO fr x) (x.map g):=by
 cases x with
 | none=>trivial
 | some y=>exact h y (by simp)
set_option maxHeartbeats 1000000 in
def B3w{fr:Fr}{o:Oper}(h:HR P base ρ m.H w)(hb:base≤w.heap.size)(ho:opM P fr m o.op=some (v,m'))(hf:M4 ρ m.n m'.hi)(hg:FR ρ fr g o.op) :
  NOk P base ρ m w (execOp g o) v m':=by
 obtain⟨dst,op,ty,pos,af,gd⟩:=o;simp only at ho hg;have hx1:∀ {x},x ∈ op.operands.toList→VR ρ (ev fr x) (g x):=fun hx=>hg _ hx
 unfold opM at ho;split at ho
 ·cases ho;exact⟨_,ρ,w,.inl rfl,hx1 (by simp[Op.operands]),.refl h⟩
 ·cases ho;exact⟨_,ρ,w,.inl rfl,hx1 (by simp[Op.operands]),.refl h⟩
 ·rename_i c a b;have hc:=hx1 (x:=c) (by simp[Op.operands]);unfold ZI at ho;split at ho
  ·rename_i hcv;rw[hcv]at hc;cases ho;exact⟨g a,ρ,w,.inl (by simp[execOp,eT hc,asBool]),hx1 (by simp[Op.operands]),.refl h⟩
  ·rename_i hcv;rw[hcv]at hc;cases ho;exact⟨g b,ρ,w,.inl (by simp[execOp,eT hc,asBool]),hx1 (by simp[Op.operands]),.refl h⟩
  ·cases ho
 ·exact NOk.of (A1V h hb ho hf)
 ·exact NOk.of (A7j h hb ho hf (hx1 (by simp[Op.operands])))
 ·rename_i t ps;obtain⟨h1,rfl⟩:=bD ho;obtain⟨v',h2,h3⟩:=A1r h1 (WM (g:=g) (fun x hx=>hx1 (by simpa [Op.operands]using hx))) w;have e:(ps.map fun(i,x)=>(i,g x))=⟨ps.toList.map fun x=>(x.1,g x.2)⟩:=by apply L1;simp
  exact NOk.same (s:=Instr.build t (ps.map fun(i,x)=>(i,g x))) h (by rw[e];exact h2) h3
 ·rename_i t n ps
  have:=FH h hb ho hf (WM (g:=g) (fun x hx=>hx1 (by simpa [Op.operands]using hx)));have e:(ps.map fun(i,x)=>(i,g x))=⟨ps.toList.map fun x=>(x.1,g x.2)⟩:=by apply L1;simp
  refine NOk.of (s:=Instr.buildSlice t n (ps.map fun(i,x)=>(i,g x))) ?_;rw[e];exact this
 ·rename_i t x;have hx:=hx1 (x:=x) (by simp[Op.operands]);unfold ZJ at ho;split at ho
  ·rename_i a hev;rw[hev]at hx;obtain⟨l,hl,hsp,hgx⟩:=U7 hx;obtain⟨h1,rfl⟩:=bD ho;obtain⟨v',h2,h3⟩:=RK h h1 hl;refine NOk.same (s:=Instr.loadAt t (g x)) h ?_ h3;rw[hgx]
   simpa [Instr.loadAt,Instr.sureAddr]using h2
  ·cases ho
 ·rename_i t x y;have hx:=hx1 (x:=x) (by simp[Op.operands]);have hy:=hx1 (x:=y) (by simp[Op.operands]);unfold MA at ho;split at ho
  ·rename_i a hev;rw[hev]at hx;obtain⟨l,hl,hsp,hgx⟩:=U7 hx;obtain⟨h1,rfl⟩:=rE ho
   have:=A06 h h1 hl hy;refine NOk.ofU (s:=Instr.storeAt t (g x) (g y)) ?_;rw[hgx];obtain⟨ρ',w',r1,r2⟩:=this;exact⟨ρ',w',by simpa [Instr.storeAt,Instr.sureAddr]using r1,r2⟩
  ·cases ho
 ·rename_i x;have hx:=hx1 (x:=x) (by simp[Op.operands]);obtain⟨hm,h1,h2⟩:=A7i ho hx;subst hm;refine⟨g x,ρ,w,.inl ?_,h1,.refl h⟩;rcases h2 with⟨a,ha⟩|⟨f,a,b,ha⟩<;>simp[execOp,ha]
 ·rename_i op t x y yt;have hx:=hx1 (x:=x) (by simp[Op.operands]);have hy:=hx1 (x:=y) (by simp[Op.operands]);unfold A7k at ho;have hfin:(DZ op=true→pK P t x y (ev fr x) (ev fr y)=true)→noM (wJ P op t (ev fr x) (ev fr y)) m=some (v,m')→NOk P base ρ m w (execOp g ⟨dst,.binOp op t x y yt,ty,pos,af,gd⟩) v m':=fun hgu hn=>by
   obtain⟨h1,rfl⟩:=bD hn;obtain⟨h2,h3⟩:=BS h1 hx hy w;have hq:=vV hgu hx hy w;refine NOk.same (s:=do eqGuard op t x y (g x) (g y);binOp op t (g x) (g y)) h ?_ (.pure h3);simp[A8,hq,h2,Result.andThen]
  cases hop:DZ op with
  | true =>
    rw[hop]at ho;simp only[F3]at ho;obtain⟨h1,h2⟩:=A6 ho;exact hfin (fun _=>h1) h2
  | false =>
    rw[hop]at ho;simp only[E7]at ho;exact hfin (fun h=>by rw[hop]at h;cases h) ho
 ·rename_i op t x;obtain⟨h1,rfl⟩:=bD ho;obtain⟨h2,h3⟩:=UF (P:=P) h1 (hx1 (x:=x) (by simp[Op.operands])) w;exact NOk.same (s:=Op.unary op (g x)) h h2 (.pure h3)
 ·exact NOk.of (A5y h hb ho hf (hx1 (by simp[Op.operands])))
 ·exact NOk.of (A1U h ho (hx1 (by simp[Op.operands])))
 ·rename_i f first cap
  cases ho;have l1:=fJ (ρ:=ρ) (fr:=fr) (g:=g) (xs:=first.toList) fun x hx=>hx1 (by simp[Op.operands];exact .inl (by simpa using hx))
  have l2:=fJ (ρ:=ρ) (fr:=fr) (g:=g) (xs:=cap.toList) fun x hx=>hx1 (by simp[Op.operands];exact .inr (by simpa using hx))
  refine⟨.func (.func f) ⟨first.toList.map g⟩ ⟨cap.toList.map g⟩,ρ,w,.inl ?_,.func l1.1 l2.1 l1.2 l2.2,.refl h⟩;have e1:first.map g=⟨first.toList.map g⟩:=by apply L1;simp
  have e2:cap.map g=⟨cap.toList.map g⟩:=by apply L1;simp
  simp[execOp,Instr.makeFunc,e1,e2]
 ·exact NOk.of (GL h hb ho hf (hx1 (by simp[Op.operands])) (hx1 (by simp[Op.operands])))
 ·rename_i t x lo hi mx;obtain⟨h1,rfl⟩:=bD ho;obtain⟨v',h2,h3⟩:=kW h1 (hx1 (x:=x) (by simp[Op.operands])) (mX (g:=g) fun y hy=>hx1 (by simp[Op.operands]at hy ⊢;exact .inr (.inl hy))) (mX (g:=g) fun y hy=>hx1 (by simp[Op.operands]at hy ⊢;exact .inr (.inr (.inl hy)))) (mX (g:=g) fun y hy=>hx1 (by simp[Op.operands]at hy ⊢;exact .inr (.inr (.inr hy)))) w;exact NOk.same (s:=Instr.sliceAt t (g x) (lo.map g) (hi.map g) (mx.map g)) h h2 h3
 ·obtain⟨h1,rfl⟩:=bD ho;obtain⟨v',h2,h3⟩:=pN h1 (hx1 (by simp[Op.operands])) w;exact NOk.same h h2 h3
 ·obtain⟨h1,rfl⟩:=bD ho;obtain⟨v',h2,h3⟩:=A1h h1 (hx1 (by simp[Op.operands])) w;exact NOk.same h h2 h3
 ·obtain⟨h1,rfl⟩:=bD ho;obtain⟨v',h2,h3⟩:=eU h1 (hx1 (by simp[Op.operands])) (hx1 (by simp[Op.operands])) w;exact NOk.same h h2 h3
 ·obtain⟨h1,rfl⟩:=bD ho;obtain⟨v',h2,h3⟩:=xM h1 (hx1 (by simp[Op.operands])) (hx1 (by simp[Op.operands])) w;exact NOk.same h h2 h3
 ·obtain⟨hm,v',h2,h3⟩:=RA (P:=P) ho (hx1 (by simp[Op.operands])) w;subst hm;exact NOk.same h h2 h3
 ·rename_i b xs tys;have l1:=fJ (ρ:=ρ) (fr:=fr) (g:=g) (xs:=xs.toList) fun x hx=>hx1 (by show x ∈ (#[]++xs:Array Operand).toList;simpa using hx)
  obtain⟨ks,e2⟩:∃ ks,execOp g ⟨dst,.call ⟨.builtin b,xs,tys⟩,ty,pos,af,gd⟩=builtin b tys ty ks (xs.map g):=⟨_,rfl⟩;obtain⟨s,e,hs⟩:=TN (ty:=ty) (ks:=ks) h hb ho hf l1;have e1:xs.map g=⟨xs.toList.map g⟩:=by apply L1;simp
  rw[e2,e1];have e3:tys=⟨tys.toList⟩:=rfl;rw[e3,e];exact NOk.of hs
 ·cases ho
end
end
section
open Go
def ofV:V7→U
 | some (.int k n)=>.int k n
 | some (.bool b)=>.bool b
 | some (.string s)=>.str s.data.toList
 | _=>.none
def E6(E:Nat→U):Value→U
 | .complex .f64 i _=>E i
 | .int k n=>.int k n
 | .bool b=>.bool b
 | .string s=>.str s.data.toList
 | _=>.none
def evB(op:BinOp):U→U→U
 | .int k a,.int j b=>ofV (cV op k j a b)
 | .str a,.str b=>ofV (A2Y op ⟨⟨a⟩⟩ ⟨⟨b⟩⟩)
 | .bool a,.bool b=>match op with
   | .eql=>.bool (a == b)
   | .neq=>.bool (!(a == b))
   | _=>.none
 | _,_=>.none
def ev1(op:UnOp):U→U
 | .int k n=>ofV (unM op (.int k n))
 | .bool b=>ofV (unM op (.bool b))
 | _=>.none
def eqU:U→U→Option Bool
 | .int k a,.int j b=>if k=j then some (a == b)else none
 | .bool a,.bool b=>some (a == b)
 | .str a,.str b=>some (a == b)
 | _,_=>none
def pT:List U→Option Bool
 | []=>some true
 | a::b::r=>match eqU a b,pT r with
   | some x,some y=>some (x && y)
   | _,_=>none
 | _=>none
def PH(s:List UInt8)(l h:Int):U :=
 match l,h with
 | .ofNat l,.ofNat h=>if l≤h∧h≤s.length then .str ((s.drop l).take (h-l))else .none
 | _,_=>.none
def xX:List U→Option (List UInt8)
 | []=>some []
 | .int .u8 (.ofNat n)::r=>if n<256 then match xX r with
   | some l=>some (UInt8.ofNat n::l)
   | none=>none else none
 | _::_=>none
def AG:List (List U)→Option (List UInt8)
 | []=>some []
 | [.int .u8 (.ofNat n)]::r=>if n<256 then match AG r with
   | some l=>some (UInt8.ofNat n::l)
   | none=>none else none
 | _::_=>none
def nM(s:List UInt8):List (List U):=s.map fun b=>[.int .u8 b.toNat]
def aW(w:Nat):Nat→List U→Option (List (List U))
 | 0,[]=>some []
 | 0,_::_=>none
 | n+1,l=>if w≤l.length then match aW w n (l.drop w)with
   | some r=>some (l.take w::r)
   | none=>none else none
def DE(row:List U)(o:Nat)(cells:List U):List U:=row.take o++cells++row.drop (o+cells.length)
def AH:Nat:=1000000000
def pY(nul:Bool)(w:Nat)(rows r:List (List U)):U:=if rows.length+r.length≤AH then(match r with|[]=>.seq nul w rows|r=>.seq false w (rows++r))else .none
def isU(a b:U):Bool :=
 match eqU a b with
 | some c=>c
 | none=>false
def Z2:List U→List U→Bool
 | [],_=>true
 | a::k,b::r=>isU a b && Z2 k r
 | _::_,[]=>false
def QP(kw:Nat)(c:List U):List (List U)→List (List U)
 | []=>[c]
 | r::rs=>if Z2 (c.take kw) r then c::rs else r::QP kw c rs
def evU:LOp→List U→U
 | .mhas w kw,.seq _ v rows::k=>if v=w∧k.length=kw then .bool (rows.any (Z2 k))else .none
 | .mget w kw o,.seq _ v rows::z::k=>if v=w∧k.length=kw then(match rows.find? (Z2 k)with
   | some r=>r.getD o .none
   | none=>z)else .none
 | .mput w kw,.seq nul v rows::c=>if v=w∧c.length=w then .seq nul w (QP kw c rows)else .none
 | .len,[.seq _ _ rows]=>.int .i64 rows.length
 | .mks,l=>match xX l with
   | some s=>.str s
   | none=>.none
 | .inbs w,[.int _ i,.seq _ v rows]=>if v=w then .bool (decide (0≤i) && decide (i<rows.length))else .none
 | .get w o,[.seq false v rows,.int _ (.ofNat k)]=>if v=w then(rows.getD k []).getD o .none else .none
 | .mk w,l=>if w=0 then .none else match aW w (l.length / w) l with
   | some r=>.seq false w r
   | none=>.none
 | .nilw w,[]=>.seq true w []
 | .nilp,[.seq nul _ _]=>.bool nul
 | .snoc w,.seq nul v rows::l=>if v=w∧w≠0 then match aW w (l.length / w) l with
   | some r=>pY nul w rows r
   | none=>.none else .none
 | .cat w,[.seq nul v rows,.seq _ v2 r]=>if v=w∧v2=w then pY nul w rows r else .none
 | .cats,[.seq nul v rows,.str s]=>if v=1 then pY nul 1 rows (nM s)else .none
 | .set w o,.seq false v rows::.int _ (.ofNat k)::l=>if v=w∧k<rows.length∧o+l.length≤w then .seq false w (rows.set k (DE (rows.getD k []) o l))else .none
 | .subs w,[.seq nul v rows,.int _ (.ofNat l),.int _ (.ofNat h)]=>if v=w∧l≤h∧h≤rows.length then .seq nul w ((rows.drop l).take (h-l))else .none
 | .str,[.seq _ v rows]=>if v=1 then match AG rows with
   | some s=>.str s
   | none=>.none else .none
 | .byt,[.str s]=>.seq false 1 (nM s)
 | .ustr,[.seq _ v rows,.int _ (.ofNat n)]=>if v=1∧n≤rows.length∧n≤AH then match AG (rows.take n)with
   | some s=>.str s
   | none=>.none else .none
 | .rep w,.int _ (.ofNat n)::l=>if l.length=w∧n≤AH then .seq false w (List.replicate n l)else .none
 | .bin op,[a,b]=>evB op a b
 | .un op,[a]=>ev1 op a
 | .conv k,[.int _ n]=>.int k (k.wrap n)
 | .len,[.str s]=>.int .i64 s.length
 | .idx,[.str s,.int _ (.ofNat k)]=>match s[k]? with
   | some b=>.int .u8 b.toNat
   | none=>.none
 | .sub,[.str s,.int _ l,.int _ h]=>PH s l h
 | .sub1,[.str s,.int _ l]=>PH s l s.length
 | .sel,.int _ (.ofNat k)::cs=>cs.getD k .none
 | .inb,[.int _ i,.int _ n]=>.bool (decide (0≤i) && decide (i<n))
 | .eqs,l=>match pT l with
   | some b=>.bool b
   | none=>.none
 | .max,[.int k a,.int _ b]=>.int k (if b>a then b else a)
 | .min,[.int k a,.int _ b]=>.int k (if b<a then b else a)
 | _,_=>.none
def p7.ok(E:Nat→U):p7→Prop
 | .lt i t op xs=>E i=evU op (xs.map (E6 E))∧H1 (E i)=t∧t<10
 | .dt i t op xs=>E i=evU op (xs.map (E6 E))∧H1 (E i)=t∧∃ nul w rows,E i=.seq nul w rows
 | .br i b=>E i=.bool b
 | .as op xs=>evU op (xs.map (E6 E))=.bool true
 | .con spec xs i d n=>∃ outs,spec (xs.map (E6 E))=some (d,outs)∧outs.length=n∧∀ j u,outs[j]? = some u→E (i+j)=u
def U9(E:Nat→U)(l:List p7):Prop:=∀ e ∈ l,e.ok E
def Lg.le(a b:Lg):Prop:=a.log <:+ b.log
def Lg.le.refl(a:Lg):a.le a:=List.suffix_refl _
def Lg.le.trans{a b c:Lg}(h:a.le b)(k:b.le c):a.le c:=List.IsSuffix.trans h k
def U9.le{E:Nat→U}{a b:Lg}(h:U9 E b.log)(k:a.le b):U9 E a.log:=fun e he=>h e (k.subset he)
variable [Ora]
abbrev Sat(lg:Lg):Prop:=U9 Ora.env lg.log
omit [Ora] in
def XU{u:U}(h:H1 u<10):∃ v,toV u=some v∧ofV (some v)=u∧I1 v=H1 u:=by
 cases u with
 | none=>simp[H1]at h
 | seq _ _ _=>simp only[H1]at h;omega
 | int k n=>exact⟨_,rfl,rfl,rfl⟩
 | bool b=>exact⟨_,rfl,rfl,rfl⟩
 | str s=>exact⟨_,rfl,rfl,rfl⟩
def LZ(h:H1 (ofV o)<10):∃ v,o=some v∧toV (ofV o)=some v:=by
 unfold ofV at h;split at h
 ·exact⟨_,rfl,rfl⟩
 ·exact⟨_,rfl,rfl⟩
 ·rename_i s;refine⟨_,rfl,?_⟩;simp[ofV,toV]
 ·simp[H1]at h
def Q0(k:IntKind):lF k<8:=by cases k<;>decide
theorem cN{ρ:Ren}{v v':Value}(h:VR ρ v v')(ht:I1 v<10):toV (E6 Ora.env v)=some v'∧H1 (E6 Ora.env v)=I1 v:=by
 cases h with
 | pure hp =>
   cases v<;>simp only[I1]at ht<;>first
    | exact⟨rfl,rfl⟩
    | (exfalso;omega)
    | (simp[K2]at hp)
 | hole h ht2=>exact⟨h,ht2⟩
 | junk=>simp[I1]at ht
 | ixp _ _ _ _ _=>simp[I1,ixp]at ht
 | dat _ _ _ _ _=>simp[I1,Go.Sx.dat]at ht
 | clp _ _ _ _ _ _=>simp[I1,Go.Sx.clp]at ht
 | own _ _ _=>simp[I1,Go.Sx.own]at ht
 | dpt _ _ _=>simp[I1,Go.Sx.dpt]at ht
 | opt _ _ _=>simp[I1,Go.Sx.opt]at ht
 | yv _=>simp[I1,Go.Sx.yv]at ht
 | sdt _=>simp[I1,Go.Sx.sdt]at ht
 | _=>simp[I1]at ht
def S5{ρ:Ren}(h:VR ρ v v')(ht:I1 v<8):∃ k n,v'=.int k n∧E6 Ora.env v=.int k n∧I1 v=lF k:=by
 obtain⟨h1,h2⟩:=cN h A0;cases hu:E6 Ora.env v with
 | int k n=>rw[hu]at h1 h2;cases h1;exact⟨k,n,rfl,rfl,h2.symm⟩
 | bool b=>rw[hu]at h2;simp only[H1]at h2;omega
 | str s=>rw[hu]at h2;simp only[H1]at h2;omega
 | none=>rw[hu]at h1;cases h1
 | seq _ _ _=>rw[hu]at h1;cases h1
def kU{ρ:Ren}(h:VR ρ v v')(ht:I1 v=8):∃ b,v'=.bool b∧E6 Ora.env v=.bool b:=by
 obtain⟨h1,h2⟩:=cN h A0;cases hu:E6 Ora.env v with
 | int k n=>rw[hu]at h2;simp only[H1]at h2;have:=Q0 k;omega
 | bool b=>rw[hu]at h1;cases h1;exact⟨b,rfl,rfl⟩
 | str s=>rw[hu]at h2;simp only[H1]at h2;omega
 | none=>rw[hu]at h1;cases h1
 | seq _ _ _=>rw[hu]at h1;cases h1
def eB{ρ:Ren}(h:VR ρ v v')(ht:I1 v=9):∃ s,v'=.string ⟨⟨s⟩⟩∧E6 Ora.env v=.str s:=by
 obtain⟨h1,h2⟩:=cN h A0;cases hu:E6 Ora.env v with
 | int k n=>rw[hu]at h2;simp only[H1]at h2;have:=Q0 k;omega
 | bool b=>rw[hu]at h2;simp only[H1]at h2;omega
 | str s=>rw[hu]at h1;cases h1;exact⟨s,rfl,rfl⟩
 | none=>rw[hu]at h1;cases h1
 | seq _ _ _=>rw[hu]at h1;cases h1
def rH{m m':Mem}{t:Nat}{op:LOp}(h:m7 m t op xs=some (v,m')):v=hole m.lg.nx t∧m'=m.wLg ⟨m.lg.nx+1,m.lg.pi,.lt m.lg.nx t op xs::m.lg.log⟩:=by
 obtain⟨H,n,W,hi,⟨nx,pi,log⟩⟩:=m;simp only[m7,F8,I9]at h;cases h;exact⟨rfl,rfl⟩
def Q5{m m':Mem}{t:Nat}{op:LOp}(h:m7 m t op xs=some (v,m'))(hS:Sat m'.lg):∃ u,evU op (xs.map (E6 Ora.env))=u∧H1 u=t∧∃ r,toV u=some r∧(∀ ρ,VR ρ v r)∧t<10:=by
 obtain⟨rfl,rfl⟩:=rH h;obtain⟨h1,h2,h3⟩:=hS (.lt m.lg.nx t op xs) (by cases m;exact C5);refine⟨_,rfl,h1▸h2,?_⟩;obtain⟨r,h4,_⟩:=XU (u:=Ora.env m.lg.nx) A0;exact⟨r,h1▸h4,fun ρ=>.hole h4 h2,h3⟩
section
variable {P:Program} {base:Nat} {ρ:Ren} {m m':Mem} {w:World}
def St.wLg(h:HR P base ρ m.H w)(lg:Lg):St P base ρ ρ m (m.wLg lg) w w:=by
 obtain⟨H,n,W,hi,l⟩:=m;have r:=St.refl (m:=⟨H,n,W,hi,l⟩) h;exact⟨r.ext,r.new,r.nle,r.hle,r.nhi,r.hr,r.wsub,r.wrw,r.keep,r.size,r.os,r.blk,r.same,r.tch⟩
def dV:∀ {l:List p7} {i:Nat} {b:Bool},EJ l i=some b→p7.br i b ∈ l
 | [],_,_,h=>by cases h
 | .br j c::r,i,b,h=>by
   rw[EJ]at h;cases hq:Nat.beq j i with
   | true=>rw[hq]at h;cases h;rw[A1 hq];exact C5
   | false=>rw[hq]at h;exact C8 _ (dV h)
 | .lt _ _ _ _::r,i,b,h=>C8 _ (dV (l:=r) h)
 | .dt _ _ _ _::r,i,b,h=>C8 _ (dV (l:=r) h)
 | .as _ _::r,i,b,h=>C8 _ (dV (l:=r) h)
 | .con _ _ _ _ _::r,i,b,h=>C8 _ (dV (l:=r) h)
def pZ{lg lg':Lg}{b:Bool}(h:brL lg c=some (b,lg')):lg.le lg':=by
 unfold brL at h;split at h
 ·cases h;exact .refl _
 ·obtain⟨nx,pi,log⟩:=lg;simp only at h;split at h
  ·cases h;exact .refl _
  ·split at h
   ·cases h;exact⟨[_],rfl⟩
   ·cases h;exact⟨[_],rfl⟩
   ·cases h
 ·cases h
def tF{lg lg':Lg}{b:Bool}(h:brL lg c=some (b,lg'))(hc:VR ρ c c')(hS:Sat lg'):c'=.bool b:=by
 unfold brL at h;split at h
 ·cases h;exact eT hc
 ·rename_i i;have hb:Ora.env i=.bool b:=by
   obtain⟨nx,pi,log⟩:=lg;simp only at h;split at h
   ·rename_i b' hf;cases h;exact hS _ (dV hf)
   ·split at h
    ·cases h;exact hS (.br i true) C5
    ·cases h;exact hS (.br i false) C5
    ·cases h
  obtain⟨b',h1,h2⟩:=kU hc rfl;have h2:Ora.env i=.bool b':=h2;rw[hb]at h2;cases h2;exact h1
 ·cases h
def zK:∀ {a b:List U} {z:Bool},a.length%2=0→pT (a++b)=some z→∃ x y,pT a=some x∧pT b=some y∧z=(x && y)
 | [],b,z,_,h=>⟨true,z,rfl,h,rfl⟩
 | [_],_,_,hl,_=>by simp at hl
 | p::q::r,b,z,hl,h=>by
   simp only[X8]at h;unfold pT at h;split at h
   ·rename_i u v e1 e2;cases h;obtain⟨x,y,h1,h2,rfl⟩:=zK (by simp only[C4]at hl;omega) e2;exact⟨u && x,y,by simp only[pT,e1,h1],h2,by simp[Bool.and_assoc]⟩
   ·cases h
def A1H(h:iL P t x y=true)(hx:VR ρ x x')(hy:VR ρ y y'){b:Bool}(hb:eqU (E6 Ora.env x) (E6 Ora.env y)=some b)(n:Nat)(w:World):(Op.equalIn (n+1) t x' y').run P w=.ok b w:=by
 unfold iL at h;split at h
 ·rename_i hu;obtain⟨h1,h2⟩:=B8 h;obtain⟨p,rfl,e1⟩:=kU hx (A1 h1);obtain⟨q,rfl,e2⟩:=kU hy (A1 h2);rw[e1,e2]at hb;cases hb;simp[Op.equalIn,A8,D8 hu,Result.andThen]
 ·rename_i k hu;obtain⟨h1,h2⟩:=B8 h;have h1:=A1 h1;have h2:=A1 h2;obtain⟨k1,p,rfl,e1,f1⟩:=S5 hx (by have:=Q0 k;omega);obtain⟨k2,q,rfl,e2,f2⟩:=S5 hy (by have:=Q0 k;omega);have g1:k1=k:=by cases k1<;>cases k<;>first|rfl|(simp only[lF]at f1 h1;omega)
  have g2:k2=k:=by cases k2<;>cases k<;>first|rfl|(simp only[lF]at f2 h2;omega)
  subst g1;subst g2;rw[e1,e2]at hb;simp[eqU]at hb;subst hb;simp[Op.equalIn,A8,D8 hu,Result.andThen]
 ·rename_i hu;obtain⟨h1,h2⟩:=B8 h;obtain⟨p,rfl,e1⟩:=eB hx (A1 h1);obtain⟨q,rfl,e2⟩:=eB hy (A1 h2);rw[e1,e2]at hb;cases hb
  have:=run_equalIn_string (P:=P) w n t ⟨⟨p⟩⟩ ⟨⟨q⟩⟩ hu;rw[this];simp[ByteArray.toList_eq]
 ·cases h
mutual
def A0V:∀ (d:Nat) (t:TypeId) (x y:Value) (l:List Value),eqS P d t x y=some l→l.length%2=0
 | 0,_,_,_,_,h=>by simp[eqS]at h
 | d+1,t,x,y,l,h=>by
   unfold eqS at h;cases hs:iL P t x y with
   | true=>rw[hs]at h;cases h;simp
   | false =>
     rw[hs]at h;simp only[E7]at h;split at h
     ·rename_i fs xs ys hu;cases hst:P.stoodInHeld t with
      | true=>rw[hst]at h;cases h
      | false=>rw[hst]at h;exact EP d _ _ _ l h
     ·split at h
      ·exact EP d _ _ _ l h
      ·cases h
     ·cases h
def EP:∀ (d:Nat) (fs:List Field) (xs ys:List Value) (l:List Value),EQ P d fs xs ys=some l→l.length%2=0
 | 0,_,_,_,_,h=>by simp[EQ]at h
 | d+1,[],_,_,_,h=>by simp only[EQ,D9]at h;subst h;rfl
 | d+1,f::fs,xs,ys,l,h=>by
   unfold EQ at h;cases hnm:f.name == "_" with
   | true=>rw[hnm]at h;cases h
   | false =>
     rw[hnm]at h;simp only[E7]at h;split at h
     ·split at h
      ·rename_i a b ha hb;cases h
       have:=A0V d _ _ _ a ha
       have:=EP d _ _ _ b hb;simp only[B2];omega
      ·cases h
     ·cases h
end
mutual
def WN:∀ (d:Nat) (t:TypeId) (x y x' y':Value) (l:List Value) (b:Bool),eqS P d t x y=some l→pT (l.map (E6 Ora.env))=some b→VR ρ x x'→VR ρ y y'→∀ (n:Nat),d≤n→∀ w:World,(Op.equalIn n t x' y').run P w=.ok b w
 | 0,_,_,_,_,_,_,_,h,_,_,_,_,_,_=>by simp[eqS]at h
 | d+1,t,x,y,x',y',l,b,h,hl,hx,hy,n,hn,w=>by
   obtain⟨n,rfl⟩:∃ k,n=k+1:=⟨n-1,A0⟩;have hn':d≤n:=A0;unfold eqS at h;cases hs:iL P t x y with
   | true =>
     rw[hs]at h;cases h;simp only[F0,K7,pT]at hl;split at hl
     ·rename_i u v e1 e2;cases e2;cases hl;rw[kN];exact A1H hs hx hy e1 n w
     ·cases hl
   | false =>
     rw[hs]at h;simp only[E7]at h;split at h
     ·rename_i fs xs ys hu;cases hst:P.stoodInHeld t with
      | true=>rw[hst]at h;cases h
      | false =>
        rw[hst]at h;obtain⟨xs',rfl,hx1⟩:=m5 hx;obtain⟨ys',rfl,hy1⟩:=m5 hy;have hf:P.fieldsOf t=fs:=by simp[Program.fieldsOf,hu]
        rw[run_equalIn_struct (P:=P) w n t _ _ (by rw[hf];exact hu) hst,hf];exact NJ d fs.toList xs.toList ys.toList xs' ys' l b h hl hx1 hy1 n hn' w
     ·rename_i k e xs ys hu;split at h
      ·rename_i s hz;obtain⟨xs',rfl,hx1⟩:=m5 hx;obtain⟨ys',rfl,hy1⟩:=m5 hy;obtain⟨i,hi,rfl⟩:=HK hz;rw[run_equalIn_array (P:=P) (w:=w) n _ _ hu hi,show P.cellsOf e=i.size by simp[Program.cellsOf,hi],iP];exact NJ d _ xs.toList ys.toList xs' ys' l b h hl hx1 hy1 n hn' w
      ·cases h
     ·cases h
def NJ:∀ (d:Nat) (fs:List Field) (xs ys xs' ys':List Value) (l:List Value) (b:Bool),EQ P d fs xs ys=some l→pT (l.map (E6 Ora.env))=some b→LR ρ xs xs'→LR ρ ys ys'→∀ (n:Nat),d≤n→∀ w:World,(Op.eqFields n ⟨xs'⟩ ⟨ys'⟩ fs).run P w=.ok b w
 | 0,_,_,_,_,_,_,_,h,_,_,_,_,_,_=>by simp[EQ]at h
 | d+1,[],_,_,_,_,_,b,h,hl,_,_,_,_,_=>by
   simp only[EQ,D9]at h;subst h;simp only[K7,pT,D9]at hl;subst hl;simp[Op.eqFields]
 | d+1,f::fs,xs,ys,xs',ys',l,b,h,hl,hx,hy,n,hn,w=>by
   unfold EQ at h;cases hnm:f.name == "_" with
   | true=>rw[hnm]at h;cases h
   | false =>
     rw[hnm]at h;simp only[E7]at h;have hn':f.name ≠ "_":=by simpa using hnm
     split at h
     ·rename_i x y h1 h2;obtain⟨x',g1,g2⟩:=lC h1 hx w;obtain⟨y',g3,g4⟩:=lC h2 hy w;split at h
      ·rename_i a c ha hc;cases h;rw[N7]at hl;obtain⟨p,q,e1,e2,rfl⟩:=zK (by have:=A0V d _ _ _ a ha;simpa using this) hl;have ih:=WN d f.type x y x' y' a p ha e1 g2 g4 n A0 w;have ih2:=NJ d fs xs ys xs' ys' c q hc e2 hx hy n A0 w;unfold Op.eqFields;rw[A4 hn'];cases p<;>simp[A8,g1,g3,Result.andThen,ih,ih2]
      ·cases h
     ·cases h
end
end
end
section
open Go
variable [Ora]
section
variable {P:Program} {base:Nat} {ρ:Ren} {m m':Mem} {w w':World}
def St.new0{ab:AB}(h:HR P base ρ m.H w)(hn:x8 m ab k=some (v,m'))(hf:M4 ρ m.n m'.hi)(hb:BR P (upd ρ m.n l') ab l' w)(hon:l'.on=false)
  (hT:∀ q,Tc ab l' q→Fp ρ m.H q∧∀ id,id≤I7→∀ a l,Hp.get m.H id=some a→ρ id=some l→a.rw=true→l.on=true→l.blk≠q):v=k m.n∧upd ρ m.n l' m.n=some l'∧St P base ρ (upd ρ m.n l') m m' w w:=by
 obtain⟨hle,hv,rfl⟩:=M7 hn;have hfree:ρ m.n=none:=hf m.n (B0 _) (L6 _ _).2;have hext:=q9 (l:=l') hfree;refine⟨hv,M3 _ _ _,hext,fun b q h1 h2=>?_,by simp,(L6 _ _).1,fun _=>c8 (L6 _ _).2,⟨fun b q hq=>?_,fun id hid a ha=>?_⟩,fun b hb=>hb,fun b h1 h2=>absurd h1 h2,fun q hq _=>rfl,B0 _,⟨rfl,rfl,rfl⟩,fun b q h1 h2 ho=>?_,fun id hid h1 h2=>?_,fun q ⟨id,a,l,hid,ha,hl,ht⟩=>.inr ?_⟩
 ·obtain⟨rfl,rfl⟩:=V8 h1 h2;exact⟨B0 _,K1 _⟩
 ·cases h0:ρ b with
  | some k0=>exact h.dom b k0 h0
  | none=>obtain⟨rfl,rfl⟩:=V8 hq h0;exact hle
 ·rw[F2 _ _ _ _ hle hid]at ha;by_cases e:id=m.n
  ·rw[A4 e]at ha;have ha:=A9 ha;subst ha;subst e;exact⟨l',M3 _ _ _,hb,fun _ ho=>(by rw[hon]at ho;cases ho)⟩
  ·rw[A3 e]at ha;obtain⟨l0,h1,h2,h3⟩:=h.at_ id hid a ha;refine⟨l0,hext _ _ h1,h2.mono hext (fun _ _=>rfl),fun hr ho=>⟨(h3 hr ho).1,fun id2 hid2 ab2 l2 g1 g2 g3=>?_⟩⟩;rw[F2 _ _ _ _ hle hid2]at g1;by_cases e2:id2=m.n
   ·subst e2;rw[M3]at g2
    have:=A9 g2;subst this;rw[A4 rfl]at g1;have g1:=A9 g1;subst g1;exact absurd rfl ((hT _ g3).2 id hid a l0 ha h1 hr ho)
   ·rw[A3 e2]at g1;unfold upd at g2;rw[A3 e2]at g2;exact(h3 hr ho).2 id2 hid2 ab2 l2 g1 g2 g3
 ·obtain⟨rfl,rfl⟩:=V8 h1 h2;rw[hon]at ho;cases ho
 ·rw[F2 _ _ _ _ hle hid,A3];intro e;subst e;rcases h2 with h2|h2
  ·omega
  ·have h2:upN m.hi m.n≤m.n:=h2
   have:=(L6 m.hi m.n).2;omega
 ·have ha:Hp.get (m.H.set m.n (some ab)) id=some a:=ha;rw[F2 _ _ _ _ hle hid]at ha;by_cases e:id=m.n
  ·subst e;rw[A4 rfl]at ha;have ha:=A9 ha;subst ha;rw[M3]at hl;have hl:=A9 hl;subst hl;exact(hT q ht.2).1
  ·rw[A3 e]at ha;unfold upd at hl;rw[A3 e]at hl;exact⟨id,a,l,hid,ha,hl,ht⟩
def St.same0{ab:AB}{id:Nat}(h:HR P base ρ m.H w)(hs:hH m id ab'=some m')(hg:Hp.get m.H id=some ab)(hrw:ab.rw=true)(hl:ρ id=some l)(hb:BR P ρ ab' l w)(hT:∀ q,Tc ab' l q→Tc ab l q):St P base ρ ρ m m' w w:=by
 obtain⟨hle,rfl⟩:=Z8 hs;obtain⟨h2,h3⟩:=h.atl hl hg;refine⟨fun _ _ h=>h,fun b k h1 h2=>(by rw[h1]at h2;cases h2),B0 _,B0 _,fun h=>h,⟨h.dom,fun id2 hid2 a ha=>?_⟩,fun b hb=>C8 _ hb,fun b h1 h2 k hk'=>?_,fun k hk' hb'=>rfl,B0 _,⟨rfl,rfl,rfl⟩,fun b k h1 h2=>(by rw[h1]at h2;cases h2),fun id2 hid2 h4 h5=>?_,fun k ⟨id2,a,q,hid2,ha,hq,ht⟩=>.inr ?_⟩
 ·rw[F2 _ _ _ _ hle hid2]at ha;by_cases e:id2=id
  ·rw[A4 e]at ha;have ha:=A9 ha;subst ha;subst e;refine⟨l,hl,hb,fun _ ho'=>⟨(h3 hrw ho').1,fun id3 hid3 ab3 l3 g1 g2 g3=>?_⟩⟩;rw[F2 _ _ _ _ hle hid3]at g1;by_cases e3:id3=id2
   ·exact e3
   ·rw[A3 e3]at g1;exact(h3 hrw ho').2 id3 hid3 ab3 l3 g1 g2 g3
  ·rw[A3 e]at ha;obtain⟨l2,g1,g2,g3⟩:=h.at_ id2 hid2 a ha;refine⟨l2,g1,g2.mono (fun _ _ h=>h) (fun k hk'=>rfl),fun hr ho'=>⟨(g3 hr ho').1,fun id3 hid3 ab3 l3 f1 f2 f3=>?_⟩⟩;rw[F2 _ _ _ _ hle hid3]at f1;by_cases e3:id3=id
   ·subst e3;rw[hl]at f2
    have:=A9 f2;subst this;have f1:=A9 (by simpa using f1);subst f1;exact(g3 hr ho').2 id3 hid3 ab l hg hl (hT _ f3)
   ·rw[A3 e3]at f1;exact(g3 hr ho').2 id3 hid3 ab3 l3 f1 f2 f3
 ·rcases B6.1 h1 with rfl|h1
  ·exact⟨ab,hg,hrw⟩
  ·exact absurd h1 h2
 ·rw[F2 _ _ _ _ hle hid2,A3];intro e;subst e;exact h4 C5
 ·have ha:Hp.get (m.H.set id (some ab')) id2=some a:=ha;rw[F2 _ _ _ _ hle hid2]at ha;by_cases e:id2=id
  ·subst e;rw[A4 rfl]at ha;have ha:=A9 ha;subst ha;rw[hl]at hq;have hq:=A9 hq;subst hq;exact⟨id2,ab,l,hid2,hg,hl,AB.rw_fr hrw,hT _ ht.2⟩
  ·rw[A3 e]at ha;exact⟨id2,a,q,hid2,ha,hq,ht⟩
def St.move{ab:AB}{id:Nat}(h:HR P base ρ m.H w)(hle:id≤I7)(hg:Hp.get m.H id=some ab)(hrw:ab.rw=true)(hl:ρ id=some l)
  (hn:x8 (nO m id) ab' k=some (v,m')) (hf:M4 ρ m.n m'.hi) (hbl:l'.on=true→l.on=true∧l'.blk=l.blk)
  (ho:w'.os=w.os∧w'.tape=w.tape∧w'.output=w.output) (hsz:w'.heap.size=w.heap.size) (hk:∀ k,(l.on=true→k≠l.blk)→w'.heap[k]? = w.heap[k]?) (hb:BR P (upd ρ m.n l') ab' l' w') (hfz:ab'≠.frz) :
  v=k m.n∧upd ρ m.n l' m.n=some l'∧St P base ρ (upd ρ m.n l') m m' w w':=by
 rw[bF]at hn;obtain⟨hnm,hv,rfl⟩:=M7 hn;have hfree:ρ m.n=none:=hf m.n (B0 _) (L6 _ _).2;have hext:=q9 (l:=l') hfree;obtain⟨h2,h3⟩:=h.atl hl hg;have hTc:∀ k,Tc ab' l' k→l.on=true∧k=l.blk:=fun k hk=>by
  rcases hk with⟨_,h1,rfl⟩|⟨rfl,_⟩
  ·exact hbl h1
  ·exact absurd rfl hfz
 have hne:id≠m.n:=fun e=>by subst e;rw[hl]at hfree;cases hfree
 have hget:∀ i,i≤I7→Hp.get ((m.H.set id none).set m.n (some ab')) i=if i=m.n then some ab' else if i=id then none else Hp.get m.H i:=fun i hi=>by
  rw[F2 _ _ _ _ hnm hi,F2 _ _ _ _ hle hi]
 refine⟨hv,M3 _ _ _,hext,fun b q h1 h2=>?_,q8 _,(L6 _ _).1,fun _=>c8 (L6 _ _).2,⟨fun b q hq=>?_,fun i hi a ha=>?_⟩,fun b hb=>C8 _ hb,fun b h1 h2 q hq=>?_,fun q hq hb'=>hk q ?_,by rw[hsz];exact B0 _,ho,fun b q h1 h2 ho'=>?_,fun i hi h4 h5=>?_,fun k ⟨i,a,q,hi,ha,hq,ht⟩=>.inr ?_⟩
 ·obtain⟨rfl,rfl⟩:=V8 h1 h2;exact⟨B0 _,K1 _⟩
 ·cases h0:ρ b with
  | some q0=>exact h.dom b q0 h0
  | none=>obtain⟨rfl,rfl⟩:=V8 hq h0;exact hnm
 ·have ha:Hp.get ((m.H.set id none).set m.n (some ab')) i=some a:=ha;rw[hget i hi]at ha;by_cases e:i=m.n
  ·rw[A4 e]at ha;have ha:=A9 ha;subst ha;subst e;refine⟨l',M3 _ _ _,hb,fun hr' ho'=>?_⟩;obtain⟨hon,hblk⟩:=hbl ho';refine⟨by rw[hblk];exact(h3 hrw hon).1,fun id2 hid2 ab2 l2 g1 g2 g3=>?_⟩;rw[hget id2 hid2]at g1;by_cases e2:id2=m.n
   ·exact e2
   ·rw[A3 e2]at g1;unfold upd at g2;rw[A3 e2]at g2;by_cases e3:id2=id
    ·rw[A4 e3]at g1;cases g1
    ·rw[A3 e3]at g1;exact absurd ((h3 hrw hon).2 id2 hid2 ab2 l2 g1 g2 (hblk▸g3)) e3
  ·rw[A3 e]at ha;by_cases e3:i=id
   ·rw[A4 e3]at ha;cases ha
   ·rw[A3 e3]at ha;obtain⟨l2,g1,g2,g3⟩:=h.at_ i hi a ha;have hnb:∀ k,Tc a l2 k→l.on=true→k≠l.blk:=fun k hk' hon hh=>e3 ((h3 hrw hon).2 i hi a l2 ha g1 (hh▸hk'))
    refine⟨l2,hext _ _ g1,g2.mono hext (fun k hk'=>hk _ (hnb k hk')),fun hr ho'=>⟨(g3 hr ho').1,fun id3 hid3 ab3 l3 f1 f2 f3=>?_⟩⟩;have f1:Hp.get ((m.H.set id none).set m.n (some ab')) id3=some ab3:=f1;rw[hget id3 hid3]at f1;by_cases e4:id3=m.n
    ·subst e4;rw[M3]at f2
     have:=A9 f2;subst this;rw[A4 rfl]at f1;have f1:=A9 f1;subst f1;obtain⟨hon,hq⟩:=hTc _ f3;exact absurd hq (hnb _ (.inl ⟨AB.rw_on hr,ho',rfl⟩) hon)
    ·rw[A3 e4]at f1;unfold upd at f2;rw[A3 e4]at f2;by_cases e5:id3=id
     ·rw[A4 e5]at f1;cases f1
     ·rw[A3 e5]at f1;exact(g3 hr ho').2 id3 hid3 ab3 l3 f1 f2 f3
 ·rcases B6.1 h1 with rfl|h1
  ·exact⟨ab,hg,hrw⟩
  ·exact absurd h1 h2
 ·exact fun hon e=>hb' id C5 l hl hon e.symm
 ·obtain⟨rfl,rfl⟩:=V8 h1 h2;obtain⟨hon,hblk⟩:=hbl ho';exact .inr ⟨id,C5,l,hl,hon,hblk.symm⟩
 ·have hgi:=hget i hi;show Hp.get ((m.H.set id none).set m.n (some ab')) i=_;rw[hgi,A3,A3]
  ·intro e;subst e;exact h4 C5
  ·intro e;subst e;rcases h5 with h5|h5
   ·omega
   ·have h5:upN m.hi m.n≤m.n:=h5
    have:=(L6 m.hi m.n).2;omega
 ·have ha:Hp.get ((m.H.set id none).set m.n (some ab')) i=some a:=ha;rw[hget i hi]at ha;by_cases e:i=m.n
  ·rw[A4 e]at ha;have ha:=A9 ha;subst ha;subst e;rw[M3]at hq;have hq:=A9 hq;subst hq;obtain⟨hon,hb⟩:=hTc k ht.2;exact⟨id,ab,l,hle,hg,hl,AB.rw_fr hrw,.inl ⟨AB.rw_on hrw,hon,hb.symm⟩⟩
  ·rw[A3 e]at ha;unfold upd at hq;rw[A3 e]at hq;by_cases e3:i=id
   ·rw[A4 e3]at ha;cases ha
   ·rw[A3 e3]at ha;exact⟨i,a,q,hi,ha,hq,ht⟩
end
end
section
open Go
variable [Ora]
def eF{m m':Mem}{ab:AB}(h:x8 m ab k=some (v,m')):m'.lg=m.lg:=by
 obtain⟨_,_,rfl⟩:=M7 h;rfl
def qO{m m':Mem}{id:Nat}{ab:AB}(h:hH m id ab=some m'):m'.lg=m.lg:=by
 obtain⟨_,rfl⟩:=Z8 h;rfl
def wS{m m':Mem}(h:sQ m a vs=some m'):m'.lg=m.lg:=by
 unfold sQ at h;split at h
 ·obtain⟨_,h⟩:=A6 h;rw[I9]at h;exact qO h
 ·cases h
def A07{P:Program}{m m':Mem}(h:CF P m t a v=some m'):m'.lg=m.lg:=by
 unfold CF at h;split at h
 ·obtain⟨_,h⟩:=A6 h;exact wS h
 ·cases h
def bP{m m':Mem}(h:noM o m=some (v,m')):m'.lg=m.lg:=by
 obtain⟨_,rfl⟩:=bD h;rfl
def FI{P:Program}{m m':Mem}{n:Nat}{ps:List (Nat×Value)}(h:eX P m t n ps=some (v,m')):m'.lg=m.lg:=by
 unfold eX at h;split at h
 ·split at h
  ·obtain⟨_,h⟩:=A6 h;split at h
   ·exact eF h
   ·cases h
  ·cases h
 ·cases h
def GM{P:Program}{m m':Mem}{l:Value}(h:iG P m t l c=some (v,m')):m'.lg=m.lg:=by
 unfold iG at h;split at h
 ·split at h
  ·obtain⟨_,h⟩:=A6 h;split at h
   ·rw[I9]at h;exact eF h
   ·cases h
  ·cases h
 ·cases h
def A5z{P:Program}{m m':Mem}(h:JN P m s t x=some (v,m')):m'.lg=m.lg:=by
 unfold JN at h;split at h
 ·cases h;rfl
 ·cases h;rfl
 ·cases h;rfl
 ·split at h
  ·split at h
   ·rw[I9]at h;exact eF h
   ·cases h
  ·cases h
 ·split at h<;>cases h;rfl
 ·split at h
  ·split at h
   ·split at h<;>cases h;rfl
   ·cases h
  ·cases h
 ·cases h
def XB{P:Program}{m m':Mem}(h:wM P m t t2 x y=some (v,m')):m'.lg=m.lg:=by
 unfold wM at h;split at h
 ·rename_i e0 d2 _ _;cases hq:fI d2 with
  | false=>rw[hq]at h;cases h
  | true =>
  rw[hq]at h;simp only[V4,E7]at h;split at h
  ·rename_i i a n c _;split at h
   ·rename_i k new z _ _;obtain⟨_,h⟩:=A6 h;cases hk:Nat.beq k 0 with
    | true =>
      rw[hk]at h;simp only[F3]at h;split at h
      ·obtain⟨_,h⟩:=A6 h;cases h;rfl
      ·obtain⟨_,h⟩:=A6 h;cases h;rfl
    | false =>
      rw[hk]at h;simp only[E7]at h;split at h
      ·obtain⟨_,h⟩:=A6 h;rw[I9]at h;exact eF h
      ·cases hc:Nat.blt c R5 with
       | true =>
         rw[hc]at h;simp only[F3]at h;cases hn:Nat.ble (n+k) c with
         | true =>
           rw[hn]at h;simp only[F3]at h;split at h
           ·rename_i m1 _ hw;cases h;exact wS hw
           ·cases h
         | false =>
           rw[hn]at h;simp only[E7]at h;split at h
           ·rw[I9]at h;exact eF h
           ·cases h
       | false =>
         rw[hc]at h;simp only[E7]at h;obtain⟨_,h⟩:=A6 h;split at h
         ·obtain⟨_,h⟩:=A6 h;rw[I9]at h;rw[eF h,bF]
         ·cases h
   ·cases h
  ·cases h
 ·cases h
def A5w{P:Program}{m m':Mem}(h:TB P m t x y=some (v,m')):m'.lg=m.lg:=by
 unfold TB at h;split at h
 ·split at h
  ·split at h
   ·split at h
    ·obtain⟨_,h⟩:=A6 h;cases h;rfl
    ·rename_i k cs hq0 _ ad;cases hz:Nat.beq cs.length 0 with
     | true=>rw[hz]at h;cases h;rfl
     | false =>
       rw[hz]at h;simp only[E7]at h;obtain⟨_,h⟩:=A6 h;split at h
       ·rename_i hw;cases h;exact wS hw
       ·cases h
   ·cases h
  ·cases h
 ·cases h
def FY{P:Program}{m m':Mem}{l:Value}(h:gS P m pt p l=some (v,m')):m'.lg=m.lg:=by
 unfold gS at h;split at h
 ·cases h;rfl
 ·split at h
  ·split at h
   ·obtain⟨_,h⟩:=A6 h;split at h
    ·split at h
     ·rename_i dT;cases h;exact qO dT
     ·cases h
    ·cases h
   ·cases h
  ·cases h
 ·cases h
def TO{P:Program}{m m':Mem}(h:lT P m b vs tys=some (v,m')):m'.lg=m.lg:=by
 unfold lT at h;split at h
 ·exact bP h
 ·exact bP h
 ·exact XB h
 ·exact A5w h
 ·exact bP h
 ·exact bP h
 ·unfold mH at h;split at h
  ·cases h;rfl
  ·rename_i a n c;cases hq:Nat.beq n 0 || Nat.beq c 0 || Nat.beq c (R5+2)with
   | true=>rw[hq]at h;cases h
   | false=>rw[hq]at h;cases h;rfl
  ·cases h
 ·exact FY h
 ·cases h
def B3x{P:Program}{fr:Fr}{m m':Mem}{o:Op}(h:opM P fr m o=some (v,m')):m'.lg=m.lg:=by
 unfold opM at h;split at h
 ·cases h;rfl
 ·cases h;rfl
 ·unfold ZI at h;split at h<;>cases h<;>rfl
 ·unfold MC at h;split at h
  ·exact eF h
  ·cases h
 ·unfold A4U at h;obtain⟨_,h⟩:=A6 h;exact eF h
 ·exact bP h
 ·exact FI h
 ·unfold ZJ at h;split at h
  ·exact bP h
  ·cases h
 ·unfold MA at h;split at h
  ·obtain⟨h,_⟩:=rE h;exact A07 h
  ·cases h
 ·unfold A4T at h;split at h<;>cases h<;>rfl
 ·unfold A7k at h;rename_i op t x y yt;cases hq:DZ op with
  | true=>rw[hq]at h;simp only[F3]at h;obtain⟨_,h⟩:=A6 h;exact bP h
  | false=>rw[hq]at h;exact bP h
 ·exact bP h
 ·exact A5z h
 ·unfold MB at h;split at h
  ·split at h
   ·cases h
   ·obtain⟨_,h⟩:=A6 h;cases h;rfl
  ·cases h
 ·cases h;rfl
 ·exact GM h
 ·exact bP h
 ·exact bP h
 ·exact bP h
 ·exact bP h
 ·exact bP h
 ·unfold oX at h;split at h
  ·exact bP h
  ·cases h
 ·exact TO h
 ·cases h
def L2{m m':Mem}{t:Nat}{op:LOp}(h:m7 m t op xs=some (v,m')):m.lg.le m'.lg:=by
 obtain⟨_,rfl⟩:=rH h;obtain⟨H,n,W,hi,l⟩:=m;exact⟨[_],rfl⟩
def M8(m m':Mem):Prop:=∃ lg,m'=m.wLg lg
def M8.refl(m:Mem):M8 m m:=⟨m.lg,by cases m;rfl⟩
def M8.trans{a b c:Mem}(h:M8 a b)(k:M8 b c):M8 a c:=by
 obtain⟨l,rfl⟩:=h;obtain⟨l2,rfl⟩:=k;exact⟨l2,by cases a;rfl⟩
def K4{m m':Mem}{t:Nat}{op:LOp}(h:m7 m t op xs=some (v,m')):M8 m m':=⟨_,(rH h).2⟩
section
variable {P:Program} {base:Nat} {ρ:Ren} {m m':Mem} {w:World}
def UL{a b:Value}(h:AT m c a b=some (v,m')):m.lg.le m'.lg∧M8 m m':=by
 obtain⟨H,n,W,hi,lg⟩:=m;unfold AT at h;simp only at h;split at h
 ·rename_i lg' hb;cases h;exact⟨pZ hb,⟨_,rfl⟩⟩
 ·rename_i lg' hb;cases h;exact⟨pZ hb,⟨_,rfl⟩⟩
 ·cases h
def A05{a b:Value}(h:sR P m op t a b=some (v,m')):m.lg.le m'.lg∧M8 m m':=by
 unfold sR at h;simp only at h;cases h1:(Nat.blt (I1 a) 8 && Nat.blt (I1 b) 8) || (Nat.beq (I1 a) 9 && Nat.beq (I1 b) 9)with
 | true=>rw[h1]at h;exact⟨L2 h,K4 h⟩
 | false =>
   rw[h1]at h;simp only[E7]at h;obtain⟨_,h⟩:=A6 h;exact⟨L2 h,K4 h⟩
def A2X{x y:Operand}{a b:Value}(h:PE P m op t x y a b=some (v,m')):m.lg.le m'.lg∧M8 m m':=by
 unfold PE at h;obtain⟨_,h⟩:=A6 h;split at h
 ·exact⟨L2 h,K4 h⟩
 ·split at h
  ·rename_i m1 h1;exact⟨(L2 h1).trans (L2 h),(K4 h1).trans (K4 h)⟩
  ·cases h
 ·cases h
def PD{i:Value}(h:bB P m t x i=some (v,m')):m.lg.le m'.lg∧M8 m m':=by
 unfold bB at h;cases hq:!(Nat.blt (I1 i) 8)with
 | true=>rw[hq]at h;cases h
 | false =>
   rw[hq]at h;simp only[E7]at h;split at h
   ·obtain⟨_,h⟩:=A6 h;exact⟨L2 h,K4 h⟩
   ·split at h
    ·obtain⟨_,h⟩:=A6 h;exact⟨L2 h,K4 h⟩
    ·obtain⟨_,h⟩:=A6 h;exact⟨L2 h,K4 h⟩
    ·cases h
   ·cases h
def PA(h:oH P m t x lo hi mx=some (v,m')):m.lg.le m'.lg∧M8 m m':=by
 unfold oH at h;split at h
 ·obtain⟨_,h⟩:=A6 h;split at h
  ·cases h;exact⟨.refl _,.refl _⟩
  ·obtain⟨_,h⟩:=A6 h;exact⟨L2 h,K4 h⟩
  ·obtain⟨_,h⟩:=A6 h;exact⟨L2 h,K4 h⟩
  ·obtain⟨_,h⟩:=A6 h;exact⟨L2 h,K4 h⟩
 ·cases h
def A2U{op:UnOp}(h:OY m op x=some (v,m')):m.lg.le m'.lg∧M8 m m':=by
 unfold OY at h;simp only at h;split at h
 ·obtain⟨_,h⟩:=A6 h;exact⟨L2 h,K4 h⟩
 ·obtain⟨_,h⟩:=A6 h;exact⟨L2 h,K4 h⟩
def UP(h:uI P m s t x=some (v,m')):m.lg.le m'.lg∧M8 m m':=by
 unfold uI at h;split at h
 ·obtain⟨_,h⟩:=A6 h;exact⟨L2 h,K4 h⟩
 ·obtain⟨_,h⟩:=A6 h;cases h;exact⟨.refl _,.refl _⟩
 ·cases h
def GH(h:gZ P m b vs tys=some (v,m')):m.lg.le m'.lg∧M8 m m':=by
 unfold gZ at h;split at h
 ·split at h
  ·obtain⟨_,h⟩:=A6 h;exact⟨L2 h,K4 h⟩
  ·cases h
 ·obtain⟨_,h⟩:=A6 h;exact⟨L2 h,K4 h⟩
 ·obtain⟨_,h⟩:=A6 h;exact⟨L2 h,K4 h⟩
 ·cases h
def A0H{s n:Nat}{i:Value}(h:A1f m a s n i=some (v,m')):m.lg.le m'.lg∧M8 m m':=by
 unfold A1f at h;cases hq:!(Nat.blt (I1 i) 8)with
 | true=>rw[hq]at h;cases h
 | false =>
   rw[hq]at h;simp only[E7]at h;split at h
   ·rename_i b H k W hi lg hl;split at h
    ·rename_i lg' hb;cases h;have h1:=L2 hl;obtain⟨l1,h2⟩:=K4 hl;refine⟨h1.trans (pZ hb),lg',?_⟩;obtain⟨H0,n0,W0,hi0,l0⟩:=m;cases h2;rfl
    ·cases h
   ·cases h
def GC{i:Value}(h:gX P m t x i=some (v,m')):m.lg.le m'.lg∧M8 m m':=by
 unfold gX at h;split at h
 ·split at h
  ·exact A0H h
  ·cases h
 ·split at h
  ·generalize hq:Nat.beq _ (R5+2)=q at h;cases q with
   | true=>cases h
   | false=>exact A0H h
  ·cases h
 ·cases h
def GF(h:gY P m s x i=some (v,m')):m.lg.le m'.lg∧M8 m m':=by
 unfold gY at h;split at h
 ·split at h
  ·split at h
   ·split at h
    ·cases h;exact⟨.refl _,.refl _⟩
    ·cases h
   ·cases h
  ·cases h
 ·cases h
def jM{cs:D5}{s n:Nat}{i:Value}:∀ {k o:Nat} {m m':Mem} {r:D5},eP m cs s n i o k=some (r,m')→m.lg.le m'.lg∧M8 m m'
 | 0,o,m,m',r,h=>by cases h;exact⟨.refl _,.refl _⟩
 | k+1,o,m,m',r,h=>by
   unfold eP at h;split at h
   ·obtain⟨_,h⟩:=A6 h;split at h
    ·rename_i m1 h1;split at h
     ·rename_i h2;cases h
      have:=jM h2;exact⟨(L2 h1).trans this.1,(K4 h1).trans this.2⟩
     ·cases h
    ·cases h
   ·cases h
def UN(h:uH P m t x=some (v,m')):m.lg.le m'.lg∧M8 m m':=by
 unfold uH at h;split at h
 ·split at h
  ·split at h
   ·split at h
    ·rename_i h1;cases h;exact jM h1
    ·cases h
   ·cases h
  ·split at h
   ·split at h
    ·rename_i h1;cases h;exact jM h1
    ·cases h
   ·cases h
  ·cases h
 ·cases h
def XV{fr:Fr}{o:Op}(h:A2V P fr m o=some (v,m')):m.lg.le m'.lg∧M8 m m':=by
 unfold A2V at h;split at h
 ·exact UL h
 ·split at h
  ·rename_i r hr;cases h;exact A05 hr
  ·exact A2X h
 ·exact A2U h
 ·exact UP h
 ·exact PA h
 ·exact PD h
 ·exact GC h
 ·exact GF h
 ·exact UN h
 ·exact GH h
 ·cases h
def vO{j k:IntKind}(h:lF j=lF k):j=k:=by cases j<;>cases k<;>first|rfl|(simp only[lF]at h;omega)
def A04{x y:Operand}{a b:Value}(h:sR P m op t a b=some (v,m'))(ha:VR ρ a a')(hb:VR ρ b b')(hS:Sat m'.lg)(w:World) :
  ∃ r,(do eqGuard op t x y a' b';binOp op t a' b':Sem Value).run P w=.ok r w∧VR ρ v r:=by
 have fin:∀ {r:Value} {p q:Value},CO p=true→CO q=true→wJ P op t p q=some r→a'=p→b'=q→(do eqGuard op t x y a' b';binOp op t a' b':Sem Value).run P w=.ok r w:=fun{r p q} hp hq hr e1 e2=>by
  subst e1;subst e2;have v1:VR ρ a' a':=.pure (by cases a'<;>simp[CO]at hp<;>rfl);have v2:VR ρ b' b':=.pure (by cases b'<;>simp[CO]at hq<;>rfl);have g:pK P t x y a' b'=true:=by
   cases a'<;>simp[CO]at hp<;>cases b'<;>simp[CO]at hq<;>rfl
  have hg:=vV (op:=op) (fun _=>g) v1 v2 w;obtain⟨h2,_⟩:=BS hr v1 v2 w;simp[A8,hg,h2,Result.andThen]
 unfold sR at h;simp only at h;cases h1:(Nat.blt (I1 a) 8 && Nat.blt (I1 b) 8) || (Nat.beq (I1 a) 9 && Nat.beq (I1 b) 9)with
 | true =>
   rw[h1]at h;obtain⟨u,e1,e2,r,e3,e4,e5⟩:=Q5 h hS;have ht:H1 u<10:=by rw[e2];exact e5
   refine⟨r,?_,e4 ρ⟩;rcases K3 _ _▸h1 with h1|h1
   ·obtain⟨p1,p2⟩:=B8 h1;obtain⟨k,n,rfl,f1,_⟩:=S5 ha (A2 p1);obtain⟨j,n2,rfl,f2,_⟩:=S5 hb (A2 p2);simp only[F0,K7,f1,f2,evU,evB]at e1;subst e1;obtain⟨r',g1,g2⟩:=LZ ht;rw[e3]at g2;cases g2;exact fin rfl rfl (by unfold wJ;exact g1) rfl rfl
   ·obtain⟨p1,p2⟩:=B8 h1;obtain⟨s1,rfl,f1⟩:=eB ha (A1 p1);obtain⟨s2,rfl,f2⟩:=eB hb (A1 p2);simp only[F0,K7,f1,f2,evU,evB]at e1;subst e1;obtain⟨r',g1,g2⟩:=LZ ht;rw[e3]at g2;cases g2;exact fin rfl rfl (by unfold wJ;exact g1) rfl rfl
 | false =>
   rw[h1]at h;simp only[E7]at h;obtain⟨h2,h⟩:=A6 h;obtain⟨h2,h5⟩:=B8 h2;obtain⟨h2,h4⟩:=B8 h2;obtain⟨h2,h3⟩:=B8 h2;have hu:P.underlying t=some .bool:=by
    split at h5
    ·assumption
    ·cases h5
   obtain⟨u,e1,e2,r,e3,e4,_⟩:=Q5 h hS;refine⟨r,?_,e4 ρ⟩;obtain⟨p,rfl,f1⟩:=kU ha (A1 h2);obtain⟨q,rfl,f2⟩:=kU hb (A1 h3);simp only[F0,K7,f1,f2,evU,evB]at e1;cases op<;>simp only[DZ]at h4<;>first
    | cases h4
    | skip
   ·subst e1;cases e3;exact fin rfl rfl (by simp[wJ,HX,eqM,hu]) rfl rfl
   ·subst e1;cases e3;exact fin rfl rfl (by simp[wJ,HX,eqM,hu]) rfl rfl
def zR(e:Bool)(hne:∃ cs,a'=.agg cs):binOp (bif e then .eql else .neq) t a' b'=(do let r ← Op.equal t a' b';pure (.bool (bif e then r else !r))):=by
 obtain⟨cs,rfl⟩:=hne;cases e<;>cases b'<;>rfl
def A2W{x y:Operand}{a b:Value}(h:PE P m op t x y a b=some (v,m'))(ha:VR ρ a a')(hb:VR ρ b b')(hn:sR P m op t a b=none)(hS:Sat m'.lg)(w:World) :
  ∃ r,(do eqGuard op t x y a' b';binOp op t a' b':Sem Value).run P w=.ok r w∧VR ρ v r:=by
 unfold PE at h;obtain⟨hg,h⟩:=A6 h;have hgu:=vV (op:=op) (fun _=>hg) ha hb w;have hagg:∀ {l},eqS P 20 t a b=some l→(op=.eql∨op=.neq)→∃ cs,a'=.agg cs:=fun{l} hl hop=>by
  unfold eqS at hl;cases hs:iL P t a b with
  | true =>
    unfold iL at hs;unfold sR at hn;simp only at hn;split at hs
    ·rename_i hu;obtain⟨q1,q2⟩:=B8 hs;rw[A1 q1,A1 q2,hu]at hn;obtain⟨H,n,W,hi,⟨nx,pi,log⟩⟩:=m;rcases hop with rfl|rfl<;>simp[DZ,m7,F8,I9]at hn
    ·rename_i k hu;obtain⟨q1,q2⟩:=B8 hs;have q3:=Q0 k;have q4:Nat.blt (lF k) 8=true:=C9 q3;rw[A1 q1,A1 q2,q4]at hn;obtain⟨H,n,W,hi,⟨nx,pi,log⟩⟩:=m;simp[m7,F8,I9]at hn
    ·obtain⟨q1,q2⟩:=B8 hs;rw[A1 q1,A1 q2]at hn;obtain⟨H,n,W,hi,⟨nx,pi,log⟩⟩:=m;simp[m7,F8,I9]at hn
    ·cases hs
  | false =>
    rw[hs]at hl;simp only[E7]at hl;split at hl
    ·obtain⟨cs',rfl,_⟩:=m5 ha;exact⟨_,rfl⟩
    ·obtain⟨cs',rfl,_⟩:=m5 ha;exact⟨_,rfl⟩
    ·cases hl
 split at h
 ·rename_i l hl _;obtain⟨u,e1,e2,r,e3,e4,_⟩:=Q5 h hS;refine⟨r,?_,e4 ρ⟩;simp only[evU]at e1;split at e1
  ·rename_i z hz;subst e1;cases e3;have he:(Op.equal t a' b').run P w=.ok z w:=WN 20 t a b a' b' l z hl hz ha hb _ C7 w;have hq:=zR (t:=t) (b':=b') true (hagg hl (.inl rfl));simp only[F3]at hq;rw[hq];simp[A8,hgu,he,Result.andThen]
  ·subst e1;cases e3
 ·rename_i l hl _;split at h
  ·rename_i hh m1 h1;have hS1:Sat m1.lg:=U9.le hS (L2 h);obtain⟨u1,f1,f2,r1,f3,f4,_⟩:=Q5 h1 hS1;obtain⟨u,e1,e2,r,e3,e4,_⟩:=Q5 h hS;refine⟨r,?_,e4 ρ⟩;simp only[evU]at f1;split at f1
   ·rename_i z hz;subst f1;cases f3;have hv:=cN (ρ:=ρ) (f4 ρ) (by obtain⟨e,_⟩:=rH h1;rw[e];show 8<10;omega);have:E6 Ora.env hh=.bool z:=by
     cases hu:E6 Ora.env hh<;>rw[hu]at hv<;>first|(cases hv.1;done)|skip
     all_goals (obtain⟨hv1,_⟩:=hv;cases hv1;rfl)
    simp only[F0,K7,this,evU,ev1,unM,ofV]at e1;subst e1;cases e3;have he:(Op.equal t a' b').run P w=.ok z w:=WN 20 t a b a' b' l z hl hz ha hb _ C7 w;have hq:=zR (t:=t) (b':=b') false (hagg hl (.inr rfl));simp only[E7]at hq;rw[hq];simp[A8,hgu,he,Result.andThen]
   ·subst f1;cases f3
  ·cases h
 ·cases h
end
end
end Go.Sx
