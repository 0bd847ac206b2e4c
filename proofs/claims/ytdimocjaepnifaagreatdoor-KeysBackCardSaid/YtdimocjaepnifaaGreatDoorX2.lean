import Derived.Test.YtdimocjaepnifaaGreatDoorX1
import Derived.Laws.BytesString
set_option linter.all false
set_option maxRecDepth 100000
set_option maxHeartbeats 4000000
namespace Go.Sx
variable {e pt s t t2 ty:TypeId}{k:Nat→Value}{a' b' c c' p p' u v v' x x' y y' z:Value}{new new' old' vs vs' xs:D4}{d d2:TypeDesc}{a:Addr}{inf:TypeInfo}{ab':AB}{l l':Loc}{r:Z5}{i:Nat}{op:BinOp}{tys:List TypeId}{b:Builtin}{hi lo mx o:T5}{g:Operand→Value}
section
open Go
variable [Ora]
def RR(a b:Nat)(h:b<a):Builtin.nextslicecap a b≤3*a+4000:=by
 have grow:∀ r c,Builtin.growBy a r c≤max (c) (2*a+800):=by
  intro r;induction r with
  | zero=>intro c;simp only[Builtin.growBy];exact Nat.le_max_left _ _
  | succ r ih =>
    intro c;simp only[Builtin.growBy];split
    ·exact Nat.le_max_left _ _
    ·have:=ih (c+(c+768) / 4);refine C4 this ?_;rw[Nat.max_le];constructor
     ·refine C4 ?_ (Nat.le_max_right _ _);omega
     ·exact Nat.le_max_right _ _
 unfold Builtin.nextslicecap;split
 ·omega
 ·split
  ·omega
  ·have:=grow 4 b;refine C4 this ?_;rw[Nat.max_le];omega
section
variable {P:Program} {base:Nat} {ρ:Ren} {m m':Mem} {w:World}
def cQ{w wd:World}(h:wd.heap=w.heap)(a:Addr):wd.cell? a=w.cell? a:=by simp[World.cell?,h]
def yY(ρ:Ren):∀ l:List UInt8,LR ρ (R8 l) (R8 l)
 | []=>.nil
 | b::r=>.cons (.pure rfl) (yY ρ r)
def wX{s k:Nat}(h:HR P base ρ m.H w)(hn:gK m s y=some (k,new))(hy:VR ρ y y') :
  (∀ wd,(Builtin.lenOf y').run P wd=.ok k wd)∧∃ new',LR ρ new new'∧∀ wd:World,wd.heap=w.heap→(Builtin.firstCells s k y').run P wd=.ok ⟨new'⟩ wd:=by
 unfold gK at hn;split at hn
 ·rename_i n c;obtain⟨h1,h2⟩:=A5 hn;have h1:=A0 h1;subst h1;cases h2;cases S4 hy;exact⟨fun _=>rfl,[],.nil,fun _ _=>rfl⟩
 ·rename_i a n c;split at hn
  ·rename_i cs hr;cases hn;rcases R2 hy with⟨l,hl,_,_,rfl⟩|⟨l,c',hl,_,_,_,_,rfl⟩|⟨a',c',_,rfl,_,rfl⟩
   ·obtain⟨r',h1,h2,h3⟩:=p8 h hr hl;exact⟨fun _=>rfl,r',h1,fun wd hw=>L5 h2 fun j v hj=>by rw[cQ hw];exact h3 j v hj⟩
   ·obtain⟨r',h1,h2,h3⟩:=p8 h hr hl;exact⟨fun _=>rfl,r',h1,fun wd hw=>L5 h2 fun j v hj=>by rw[cQ hw];exact h3 j v hj⟩
   ·have:new=[]:=by
     unfold aO at hr;split at hr
     ·have:=(lG hr).2;simp at this;exact this
     ·cases hr
    subst this;refine⟨fun _=>rfl,[],.nil,fun wd _=>?_⟩;simp[Builtin.firstCells,loadCells,loadCellsFrom]
  ·cases hn
 ·rename_i b;obtain⟨_,hn⟩:=A5 hn;cases hn;cases Y8 hy;refine⟨fun _=>rfl,R8 b.data.toList,?_,fun wd _=>?_⟩
  ·exact yY _ _
  ·have e:((b.extract 0 b.size).data.map fun b=>Value.int .u8 b.toNat)=⟨R8 b.data.toList⟩:=by
    apply K1;simp[R8]
   show(pure ((b.extract 0 b.size).data.map fun b=>Value.int .u8 b.toNat):Sem Z5).run P wd=_;rw[e];rfl
 ·cases hn
def A93(h:dX d=true):(∃ e,d=.slice e)∨d=.string:=by cases d<;>first|cases h;done|exact .inl ⟨_,rfl⟩|exact .inr rfl
def jP{n k c:Nat}{a:Option Addr}(hu:P.underlying t=some (.slice e))(hu2:P.underlying t2=some d2)(hd2:dX d2=true)
  (hi:P.info? e=some inf) (hz:∀ w,(zeroValue e).run P w=.ok z w) (hlen:∀ wd,(Builtin.lenOf x').run P wd=.ok k wd)
  (hold:∀ wd:World,wd.heap=w.heap→(Builtin.firstCells inf.size n (.slice a n c)).run P wd=.ok ⟨old'⟩ wd) (hnew:∀ wd:World,wd.heap=w.heap→(Builtin.firstCells inf.size k x').run P wd=.ok ⟨new'⟩ wd)
  (hgt:¬ n+k≤c) (hb:(3*(n+k)+4000)*inf.bytes≤281474976710656) (hm:n+k≤1000000000) :
  ∃ nc,n+k≤nc∧(Builtin.append_ #[t,t2] ty #[.slice a n c,x']).run P w=.ok (.slice (some ⟨w.heap.size,0,none⟩) (n+k) nc) { w.drew with heap:=w.heap.push (.cells (⟨old'⟩++⟨new'⟩++Builtin.zeroCells z.cells (nc-(n+k))) e (0,0)) }:=by
 have hs:H7 P e=some inf.size:=by simp[H7,hi]
 have hcap:Builtin.nextslicecap (n+k) c*inf.bytes≤281474976710656:=by
  have:=G2 inf.bytes (RR (n+k) c A1);omega
 let q:Question:=.appendCap (n+k) c e
 let nc:=q.cut (w.tape w.drawn q)
 have hnc:n+k≤nc:=by show n+k≤(n+k)+_;omega
 refine⟨nc,hnc,?_⟩;have hch:(choose q).run P w=.ok nc w.drew:=by
  simp only[choose,Sem.run];rw[A3 (by simp[q,Question.forced])];rfl
 have hask:∀ k w,(askRoom k).run P w=.ok () w:=fun k w=>by unfold askRoom;split<;>rfl
 unfold Builtin.append_;rcases A93 hd2 with⟨e2,rfl⟩|rfl
 all_goals simp only[K6,T9,U0,A6,D6 hu,D6 hu2,Result.andThen,M1 hs,Sem.run_pure,K0,if_false,hlen]
 all_goals
  have hmax:¬ (((n+k:Nat):Int)>IntKind.i64.max):=by simp[IntKind.max,IntKind.bits,IntKind.signed];omega
  simp only[A3 hgt,hmax,false_and,if_false,A6,Result.andThen,Y0 hi];rw[A3 (show ¬ (Builtin.nextslicecap (n+k) c*inf.bytes>2 ^ 48) by simpa using hcap)];have hd:w.drew.heap=w.heap:=rfl;simp only[A6,Sem.run_pure,Result.andThen,show(choose (.appendCap (n+k) c e)).run P w=.ok nc w.drew from hch,hask,hold _ hd,hnew _ hd,hz,Y0 hi,Bool.not_false,if_true];rfl
def oX{n k c:Nat}{w':World}(hu:P.underlying t=some (.slice e))(hu2:P.underlying t2=some d2)(hd2:dX d2=true)
  (hi:P.info? e=some inf) (hlen:∀ wd,(Builtin.lenOf x').run P wd=.ok k wd) (hnew:(Builtin.firstCells inf.size k x').run P w=.ok ⟨new'⟩ w)
  (hle:n+k≤c) (hst:(storeCells (a.add (n*inf.size)) new').run P w=.ok () w') :
  (Builtin.append_ #[t,t2] ty #[.slice (some a) n c,x']).run P w=.ok (.slice (some a) (n+k) c) w':=by
 have hs:H7 P e=some inf.size:=by simp[H7,hi]
 unfold Builtin.append_;rcases A93 hd2 with⟨e2,rfl⟩|rfl
 all_goals simp only[K6,T9,U0,A6,D6 hu,D6 hu2,Result.andThen,M1 hs,Sem.run_pure,K0,if_false,hlen]
 all_goals simp[A4 hle,A6,hnew,Result.andThen,hst]
def wM(hu:P.underlying t=some (.slice e))(hu2:P.underlying t2=some d2)(hd2:dX d2=true)
  (hi:P.info? e=some inf) (hlen:∀ wd,(Builtin.lenOf x').run P wd=.ok 0 wd) (hnew:(Builtin.firstCells inf.size 0 x').run P w=.ok #[] w) :
  (Builtin.append_ #[t,t2] ty #[.slice none 0 0,x']).run P w=.ok (.slice none 0 0) w:=by
 have hs:H7 P e=some inf.size:=by simp[H7,hi]
 unfold Builtin.append_;rcases A93 hd2 with⟨e2,rfl⟩|rfl
 all_goals simp only[K6,T9,U0,A6,D6 hu,D6 hu2,Result.andThen,M1 hs,Sem.run_pure,K0,if_false,hlen]
 all_goals simp[A6,hnew,Result.andThen]
def St.kill{ab:AB}{id:Nat}(h:HR P base ρ m.H w)(hle:id≤I4)(hg:Hp.get m.H id=some ab)(hrw:ab.rw=true):St P base ρ ρ m (lS m id) w w:=by
 rw[v7];refine⟨fun _ _ h=>h,fun b k h1 h2=>(by rw[h1]at h2;cases h2),B0 _,B0 _,fun h=>h,h.sub fun id2 hid2 a ha=>?_,fun b hb=>C7 _ hb,fun b h1 h2 k hk'=>?_,fun k hk' hb'=>rfl,B0 _,⟨rfl,rfl,rfl⟩,fun b k h1 h2=>(by rw[h1]at h2;cases h2),fun id2 hid2 h4 h5=>?_,fun k ⟨id2,a,q,hid2,ha,hq,ht⟩=>.inr ⟨id2,a,q,hid2,?_,hq,ht⟩⟩
 ·rw[F7 _ _ _ _ hle hid2]at ha;by_cases e:id2=id
  ·rw[A4 e]at ha;cases ha
  ·rw[A3 e]at ha;exact ha
 ·rcases C6.1 h1 with rfl|h1
  ·exact⟨ab,hg,hrw⟩
  ·exact absurd h1 h2
 ·rw[F7 _ _ _ _ hle hid2,A3];intro e;subst e;exact h4 C5
 ·have ha:Hp.get (m.H.set id none) id2=some a:=ha;rw[F7 _ _ _ _ hle hid2]at ha;by_cases e:id2=id
  ·rw[A4 e]at ha;cases ha
  ·rw[A3 e]at ha;exact ha
def St.grow{ab:AB}{id:Nat}{w':World}(h:HR P base ρ m.H w)(hle:id≤I4)(hg:Hp.get m.H id=some ab)(hrw:ab.rw=true)(hl:ρ id=some l)(hon:l.on=true)
  (hn:p9 (lS m id) ab' k=some (v,m')) (hf:L6 ρ m.n m'.hi)
  (ho:w'.os=w.os∧w'.tape=w.tape∧w'.output=w.output) (hsz:w'.heap.size=w.heap.size) (hk:∀ k,k≠l.blk→w'.heap[k]? = w.heap[k]?) (hb:BR P (upd ρ m.n l) ab' l w') (hfz:ab'≠.frz:=by intro h;cases h) :
  v=k m.n∧St P base ρ (upd ρ m.n l) m m' w w':=by
 rw[v7]at hn;obtain⟨hnm,hv,rfl⟩:=N5 hn;have hfree:ρ m.n=none:=hf m.n (B0 _) (M5 _ _).2;have hext:=j9 (l:=l) hfree;obtain⟨h2,h3⟩:=h.atl hl hg;have hTc:∀ k,Tc ab' l k→k=l.blk:=fun k hk=>by
  rcases hk with⟨_,_,rfl⟩|⟨rfl,_⟩
  ·rfl
  ·exact absurd rfl hfz
 have hne:id≠m.n:=fun e=>by subst e;rw[hl]at hfree;cases hfree
 have hget:∀ i,i≤I4→Hp.get ((m.H.set id none).set m.n (some ab')) i=if i=m.n then some ab' else if i=id then none else Hp.get m.H i:=fun i hi=>by
  rw[F7 _ _ _ _ hnm hi,F7 _ _ _ _ hle hi]
 refine⟨hv,hext,fun b q h1 h2=>?_,c8 _,(M5 _ _).1,fun _=>m5 (M5 _ _).2,⟨fun b q hq=>?_,fun i hi a ha=>?_⟩,fun b hb=>C7 _ hb,fun b h1 h2 q hq=>?_,fun q hq hb'=>hk q ?_,by rw[hsz];exact B0 _,ho,fun b q h1 h2 _=>?_,fun i hi h4 h5=>?_,fun k ⟨i,a,q,hi,ha,hq,ht⟩=>.inr ?_⟩
 ·obtain⟨rfl,rfl⟩:=X4 h1 h2;exact⟨B0 _,K3 _⟩
 ·cases h0:ρ b with
  | some q0 =>
    rw[hext b q0 h0]at hq
    have:=B1 hq;subst this;exact h.dom b q0 h0
  | none=>obtain⟨rfl,rfl⟩:=X4 hq h0;exact hnm
 ·have ha:Hp.get ((m.H.set id none).set m.n (some ab')) i=some a:=ha;rw[hget i hi]at ha;have hdis:∀ id2,id2≤I4→∀ ab2 l2,Hp.get ((m.H.set id none).set m.n (some ab')) id2=some ab2→upd ρ m.n l id2=some l2→Tc ab2 l2 l.blk→id2=m.n:=fun id2 hid2 ab2 l2 g1 g2 g3=>by
   rw[hget id2 hid2]at g1;by_cases e2:id2=m.n
   ·exact e2
   ·rw[A3 e2]at g1;unfold upd at g2;rw[A3 e2]at g2;by_cases e3:id2=id
    ·rw[A4 e3]at g1;cases g1
    ·rw[A3 e3]at g1;exact absurd ((h3 hrw hon).2 id2 hid2 ab2 l2 g1 g2 g3) e3
  by_cases e:i=m.n
  ·rw[A4 e]at ha;have ha:=B1 ha;subst ha;subst e;exact⟨l,N1 _ _ _,hb,fun _ _=>⟨(h3 hrw hon).1,hdis⟩⟩
  ·rw[A3 e]at ha;by_cases e3:i=id
   ·rw[A4 e3]at ha;cases ha
   ·rw[A3 e3]at ha;obtain⟨l2,g1,g2,g3⟩:=h.at_ i hi a ha;have hnb:∀ k,Tc a l2 k→k≠l.blk:=fun k hk' hh=>e3 ((h3 hrw hon).2 i hi a l2 ha g1 (hh▸hk'))
    refine⟨l2,hext _ _ g1,g2.mono hext (fun k hk'=>hk _ (hnb k hk')),fun hr ho'=>⟨(g3 hr ho').1,fun id3 hid3 ab3 l3 f1 f2 f3=>?_⟩⟩;have f1:Hp.get ((m.H.set id none).set m.n (some ab')) id3=some ab3:=f1;rw[hget id3 hid3]at f1;by_cases e4:id3=m.n
    ·subst e4;rw[N1]at f2
     have:=B1 f2;subst this;rw[A4 rfl]at f1;have f1:=B1 f1;subst f1;exact absurd (hTc _ f3) (hnb _ (.inl ⟨AB.rw_on hr,ho',rfl⟩))
    ·rw[A3 e4]at f1;unfold upd at f2;rw[A3 e4]at f2;by_cases e5:id3=id
     ·rw[A4 e5]at f1;cases f1
     ·rw[A3 e5]at f1;exact(g3 hr ho').2 id3 hid3 ab3 l3 f1 f2 f3
 ·rcases C6.1 h1 with rfl|h1
  ·exact⟨ab,hg,hrw⟩
  ·exact absurd h1 h2
 ·exact fun e=>hb' id C5 l hl hon e.symm
 ·obtain⟨rfl,rfl⟩:=X4 h1 h2;exact .inr ⟨id,C5,q,hl,hon,rfl⟩
 ·have hgi:=hget i hi;show Hp.get ((m.H.set id none).set m.n (some ab')) i=_;rw[hgi,A3,A3]
  ·intro e;subst e;exact h4 C5
  ·intro e;subst e;rcases h5 with h5|h5
   ·omega
   ·have h5:upN m.hi m.n≤m.n:=h5
    have:=(M5 m.hi m.n).2;omega
 ·have ha:Hp.get ((m.H.set id none).set m.n (some ab')) i=some a:=ha;rw[hget i hi]at ha;by_cases e:i=m.n
  ·rw[A4 e]at ha;have ha:=B1 ha;subst ha;subst e;rw[N1]at hq;have hq:=B1 hq;subst hq;exact⟨id,ab,l,hle,hg,hl,AB.rw_fr hrw,.inl ⟨AB.rw_on hrw,hon,(hTc k ht.2).symm⟩⟩
  ·rw[A3 e]at ha;unfold upd at hq;rw[A3 e]at hq;by_cases e3:i=id
   ·rw[A4 e3]at ha;cases ha
   ·rw[A3 e3]at ha;exact⟨i,a,q,hi,ha,hq,ht⟩
def IL{s k:Nat}(h:HR P base ρ m.H w)(hn:gK m s y=some (k,new))(hz:z.cells.size=s):new.length=k*s:=by
 unfold gK at hn;split at hn
 ·obtain⟨_,q⟩:=A5 hn;cases q;simp
 ·split at hn
  ·rename_i cs hr;cases hn;unfold aO at hr;split at hr
   ·exact(lG hr).2
   ·cases hr
  ·cases hn
 ·rename_i b;obtain⟨q1,hn⟩:=A5 hn;have q1:=A0 q1;subst q1;cases hn;simp[R8]
 ·cases hn
def OJ(h:new'[i]? = some u):(({ toList:=[] }:Array Value)++⟨new'⟩++r)[i]? = some u:=by
 have hl:=(B2.1 h).1;rw[W1 (by simp;exact hl)]
 simpa using h
def fO(h:(old'++new')[i]? = some u):(({ toList:=old' }:Array Value)++⟨new'⟩++r)[i]? = some u:=by
 have hl:=(B2.1 h).1;rw[W1 (by simpa using hl)]
 simpa using h
def fN{s k n nc:Nat}(h1:new'.length=k*s)(hnc:n+k≤nc)(hz:z.cells.size=s)(ho:old'.length=n*s) :
  nc*s≤(({ toList:=old' }:Array Value)++⟨new'⟩++Builtin.zeroCells z.cells (nc-(n+k))).size:=by
 simp[Builtin.zeroCells,ho,h1,hz];rw[← I5,← I5];exact G2 _ A1
def TE(h:HR P base ρ m.H w)(hb:base≤w.heap.size)(ho:uJ P m t t2 x y=some (v,m'))(hf:L6 ρ m.n m'.hi)(hx:VR ρ x x')(hy:VR ρ y y') :
  VOk P base ρ m w (Builtin.append_ #[t,t2] ty #[x',y']) v m':=by
 unfold uJ at ho;split at ho
 ·rename_i e d2 hu hu2;cases hd2:dX d2 with
  | false=>rw[hd2]at ho;cases ho
  | true =>
  rw[hd2]at ho;simp only[Q3,E7]at ho;split at ho
  ·rename_i inf a n c hi;split at ho
   ·rename_i k new z hnew hz;obtain⟨g1,ho⟩:=A5 ho;obtain⟨g1,g4⟩:=B8 g1;obtain⟨g1,g3⟩:=B8 g1;obtain⟨g1,g2⟩:=B8 g1;have g1:=A2 g1;have g2:=A2 g2;have g3:=A0 g3;obtain⟨hlen,new',hnl,hnr⟩:=wX h hnew hy;have hzr:∀ w,(zeroValue e).run P w=.ok z w:=fun w=>aZ hz w
    have hnn:new'.length=k*inf.size:=by rw[← hnl.1];exact IL h hnew g3
    have OPENv:O6=9223372036854775808:=rfl;cases hk:Nat.beq k 0 with
    | true =>
      have hk:=A0 hk;subst hk;have hb0:Nat.beq 0 0=true:=rfl;simp only[hb0,F0]at ho;have hn0:new'=[]:=D3.1 (by rw[hnn];simp);subst hn0;cases a with
      | none =>
        simp only at ho;obtain⟨q1,ho⟩:=A5 ho;obtain⟨q1,q2⟩:=B8 q1;have q1:=A0 q1;have q2:=A0 q2;subst q1;subst q2;cases ho;cases S4 hx;exact VOk.same h (wM hu hu2 hd2 hi hlen (hnr w rfl)) (.pure rfl)
      | some ad =>
        simp only at ho;obtain⟨q1,ho⟩:=A5 ho;obtain⟨q1,q2⟩:=B8 q1;have q1:=A2 q1;have q2:=A2 q2;cases ho;rcases R2 hx with⟨l,hl,hsp,hc,rfl⟩|⟨l,c',hl,hsp,hc,hn,hcap,rfl⟩|⟨a',c',_,_,he,_⟩
        ·exact VOk.same h (oX hu hu2 hd2 hi hlen (hnr w rfl) A1 rfl) (by simpa using hx)
        ·exact VOk.same h (oX hu hu2 hd2 hi hlen (hnr w rfl) A1 rfl) (by simpa using hx)
        ·omega
    | false =>
      have hk0:k≠0:=fun e=>by subst e;cases hk
      simp only[hk,E7]at ho;cases a with
      | none =>
        simp only at ho;obtain⟨q1,ho⟩:=A5 ho;obtain⟨q1,q2⟩:=B8 q1;have q1:=A0 q1;have q2:=A0 q2;subst q1;subst q2;rw[I6]at ho;cases S4 hx;obtain⟨nc,hnc,hr⟩:=jP (ty:=ty) (c:=0) (a:=none) (old':=[]) hu hu2 hd2 hi hzr hlen (fun _ _=>rfl) hnr A1 g1 g2;have hsz:∀ inf2,P.info? e=some inf2→nc*inf2.size≤(({ toList:=[] }:Array Value)++⟨new'⟩++Builtin.zeroCells z.cells (nc-(0+k))).size:=fun inf2 h2=>by
         rw[hi]at h2;cases h2;exact fN hnn hnc g3 (by simp)
        obtain⟨e1,e2,e3⟩:=fM (wd:=w.drew) (fz:=(0,0)) (cap:=nc) h hb ho hf hnl (fun i u hi=>by
         show(({ toList:=[] }:Array Value)++⟨new'⟩++Builtin.zeroCells z.cells (nc-(0+k)))[i]? = some u;exact OJ hi) NF.zero hsz ⟨rfl,rfl,rfl⟩ rfl
        refine⟨_,_,_,hr,?_,e3⟩;rw[e1,G0]
        have:=VR.op (ρ:=upd ρ m.n (lc w.heap.size 0 nc)) (b:=m.n) (o:=0) (n:=k) (m:=O6) (m':=nc) e2 (B0 _) A1 (fun _ _=>rfl)
        simpa using this
      | some ad =>
        simp only at ho;cases hco:Nat.blt c O6 with
        | true =>
          have hco':c<O6:=A2 hco;simp only[hco,F0]at ho;rcases R2 hx with⟨l,hl,hsp,hc,rfl⟩|⟨l,c',hl,hsp,hc,hn,hcap,rfl⟩|⟨a',c',_,_,he,_⟩
          ·cases hfit:Nat.ble (n+k) c with
           | true =>
             have hfit':=A2 hfit;simp only[hfit,F0]at ho;split at ho
             ·rename_i m2 hw;cases ho;rw[eW]at hw;obtain⟨w',h1,h2⟩:=rJ h hw hl hnl;refine⟨_,ρ,w',oX hu hu2 hd2 hi hlen (hnr w rfl) hfit' ?_,?_,h2⟩
              ·rw[i6,show ad.off+l.sh+n*inf.size=ad.off+n*inf.size+l.sh by omega];exact h1
              ·obtain⟨ab,ao,asp⟩:=ad;simp only at hsp;subst hsp;exact .sl hl hc
             ·cases ho
           | false =>
             have hfit':¬ n+k≤c:=fun hle=>by rw[show Nat.ble (n+k) c=true from C8 hle]at hfit;cases hfit
             simp only[hfit,E7]at ho;split at ho
             ·rename_i old hold;rw[I6]at ho;obtain⟨old',o1,o2,o3⟩:=p8 h hold hl;have holdr:∀ wd:World,wd.heap=w.heap→(Builtin.firstCells inf.size n (.slice (some ⟨l.blk,ad.off+l.sh,none⟩) n c)).run P wd=.ok ⟨old'⟩ wd:=fun wd hw=>L5 o2 fun j u hj=>by rw[cQ hw];exact o3 j u hj
              obtain⟨nc,hnc,hr⟩:=jP (ty:=ty) hu hu2 hd2 hi hzr hlen holdr hnr hfit' g1 g2;obtain⟨e1,e2,e3⟩:=fM (wd:=w.drew) (fz:=(0,0)) (cap:=nc) (C:=⟨old'⟩++⟨new'⟩++Builtin.zeroCells z.cells (nc-(n+k))) h hb ho hf (o1.append hnl) (fun i u hi=>fO hi) NF.zero
               (fun inf2 h2=>by rw[hi]at h2;cases h2;exact fN hnn hnc g3 o2) ⟨rfl,rfl,rfl⟩ rfl
              refine⟨_,_,_,hr,?_,e3⟩;rw[e1]
              have:=VR.op (ρ:=upd ρ m.n (lc w.heap.size 0 nc)) (b:=m.n) (o:=0) (n:=n+k) (m:=O6) (m':=nc) e2 (B0 _) hnc (fun _ _=>rfl)
              simpa using this
             ·cases ho
          ·omega
          ·omega
        | false =>
          simp only[hco,E7]at ho;obtain⟨q0,ho2⟩:=A5 ho;clear ho;have ho:=ho2;clear ho2;obtain⟨q1,q2⟩:=B8 q0;replace q1:=A0 q1;replace q2:=A0 q2;clear q0;split at ho
          ·rename_i cs T hsp hg;obtain⟨p1,ho⟩:=A5 ho;rw[I7,I7,I7]at p1;obtain⟨⟨⟨p1,p2⟩,p3⟩,p4⟩:=p1;have p1:=A0 p1;have p2:=A0 p2;have p3:=A2 p3;have p4:ad.block<m.n:=A2 p4;subst p2;rw[I6]at ho;rcases R2 hx with⟨_,_,_,hc,_⟩|⟨l,c',hl,_,_,hn,hcap,rfl⟩|⟨a',c',_,_,he,_⟩
           ·omega
           ·have hcap:=hcap q1 q2;obtain⟨⟨hon,C,fz,T',z2,z3,z4⟩,z5⟩:=h.atl hl hg;obtain⟨rfl,z6,z7⟩:=z4 rfl;have z8:=(z7 inf hi).2;have z7:=(z7 inf hi).1;by_cases hfit:n+k≤c'
            ·
             have hsum:(n+k)*inf.size≤c'*inf.size:=G2 _ hfit;rw[I5]at hsum;obtain⟨w',r1,r2,r3,r4,r5⟩:=n7 (P:=P) (b:=l.blk) (o:=n*inf.size+l.sh) (fz:=fz) new' 0 C w z2 (JI hnl g4) (by rw[hnn];subst hcap;omega) z6;obtain⟨e1,e3⟩:=St.grow (w':=w') (l:=l) h p3 hg rfl hl hon ho hf r2 r3 r5 (by
              have hfree:ρ m.n=none:=by
               rw[v7]at ho;obtain⟨_,_,rfl⟩:=N5 ho;exact hf m.n (B0 _) (M5 _ _).2
              refine⟨hon,_,fz,_,r4,fun i u hi=>?_,fun _=>⟨rfl,z6.sz (by simp[n8]),fun inf2 h2=>⟨by simpa [n8]using(by rw[hi]at h2;cases h2;exact z7:l.sh+l.cap*inf2.size≤C.size),by rw[hi]at h2;cases h2;exact z8⟩⟩⟩;show ∃ u',(Array.mk (dG C.toList (n*inf.size+l.sh+0) new'))[l.sh+i]? = some u'∧_;have hlC:C.toList.length=C.size:=by simp
              rw[K6,mZ _ _ _ _ (by rw[hnn];subst hcap;omega)];by_cases hlt:i<cs.length
              ·rw[F2 hlt]at hi;rw[A3 A1];obtain⟨u',y1,y2⟩:=z3 i u hi;exact⟨u',by simpa using y1,y2.mono (j9 hfree)⟩
              ·rw[E3 A1]at hi;have hil:=(B2.1 hi).1;have hnl1:=hnl.1;rw[A4 A1];obtain⟨u',y1,y2⟩:=hnl.get hi;exact⟨u',by rw[show l.sh+i-(n*inf.size+l.sh+0)=i-cs.length by omega];exact y1,y2.mono (j9 hfree)⟩)
             refine⟨_,_,w',oX (ty:=ty) hu hu2 hd2 hi hlen (hnr w rfl) hfit ?_,?_,e3⟩
             ·rw[i6,q2,show 0+l.sh+n*inf.size=n*inf.size+l.sh by omega];exact r1
             ·rw[e1,q2];exact .op (N1 _ _ _) (B0 _) hfit (fun _ _=>hcap)
            ·
             have st1:=St.kill h p3 hg rfl;have hf1:L6 ρ (lS m ad.block).n m'.hi:=by rw[v7];exact hf
             obtain⟨old',o1,o2⟩:=fL (ρ:=ρ) (C:=C) (cs:=cs) (s:=l.sh) z3;have oL:old'.length=n*inf.size:=by rw[← o1.1];exact p1
             have holdr:∀ wd:World,wd.heap=w.heap→(Builtin.firstCells inf.size n (.slice (some ⟨l.blk,ad.off+l.sh,none⟩) n c')).run P wd=.ok ⟨old'⟩ wd:=fun wd hw=>L5 oL fun j u hj=>by
              rw[cQ hw,q2]
              have:=o2 j u hj;simp[World.cell?,z2,this]
             obtain⟨nc,hnc,hr⟩:=jP (ty:=ty) hu hu2 hd2 hi hzr hlen holdr hnr hfit g1 g2;obtain⟨e1,e2,e3⟩:=fM (wd:=w.drew) (fz:=(0,0)) (cap:=nc) (C:=⟨old'⟩++⟨new'⟩++Builtin.zeroCells z.cells (nc-(n+k))) st1.hr hb ho hf1 (o1.append hnl) (fun i u hi=>fO hi) NF.zero
              (fun inf2 h2=>by rw[hi]at h2;cases h2;exact fN hnn hnc g3 oL) ⟨rfl,rfl,rfl⟩ rfl
             refine⟨_,_,_,hr,?_,St.trans hf st1 e3⟩;rw[e1]
             have:=VR.op (ρ:=upd ρ (lS m ad.block).n (lc w.heap.size 0 nc)) (b:=(lS m ad.block).n) (o:=0) (n:=n+k) (m:=O6) (m':=nc) e2 (B0 _) hnc (fun _ _=>rfl)
             simpa using this
           ·omega
          ·cases ho
   ·cases ho
  ·cases ho
 ·cases ho
end
end
section
open Go
variable [Ora]
section
variable {P:Program} {base:Nat} {ρ:Ren} {m m':Mem} {w:World}
def QM{op:UnOp}(h:unM op x=some v)(hx:VR ρ x x')(w:World):(Op.unary op x').run P w=.ok v w∧J1 v=true:=by
 unfold unM at h;split at h
 ·cases K4 hx;cases h;exact⟨by simp[Op.unary,Op.intArith,aF],by simp[aF,J1]⟩
 ·cases K4 hx;obtain⟨h1,h2⟩:=bM (P:=P) h w;exact⟨by simpa [Op.unary]using h1,h2⟩
 ·cases dI hx;cases h;exact⟨rfl,rfl⟩
 ·cases h
def A6J(ho:B1M P t x=some v)(hx:VR ρ x x')(w:World):(Builtin.cap_ ⟨t::tys⟩ ty #[x']).run P w=.ok v w∧J1 v=true:=by
 unfold B1M at ho;split at ho
 ·rename_i hu;cases S4 hx;cases ho;exact⟨by simp[Builtin.cap_,A6,D6 hu,Result.andThen,goInt],rfl⟩
 ·rename_i hu;obtain⟨hc,ho⟩:=A5 ho;have hc:_<O6:=A2 hc;cases ho;rcases R2 hx with⟨l,_,_,_,rfl⟩|⟨l,c',_,_,_,_,_,rfl⟩|⟨a',c',_,_,he,_⟩
  ·exact⟨by simp[Builtin.cap_,A6,D6 hu,Result.andThen,goInt],rfl⟩
  ·omega
  ·omega
 ·cases ho
def VF(h:HR P base ρ m.H w)(ho:A19 P m t x=some v)(hx:VR ρ x x'):(Builtin.len_ ⟨t::tys⟩ ty #[x']).run P w=.ok v w∧J1 v=true:=by
 unfold A19 at ho;split at ho
 ·rename_i hu;cases Y8 hx;cases ho;refine⟨?_,rfl⟩;simp[Builtin.len_,A6,D6 hu,Result.andThen,goInt]
 ·rename_i hu;cases ho;refine⟨?_,rfl⟩;simp[Builtin.len_,A6,D6 hu,Result.andThen,goInt]
 ·rename_i n c hu;cases ho;refine⟨?_,rfl⟩;have hx':∃ a' c',x'=.slice a' n c':=by
   cases hx with
   | pure _=>exact⟨_,_,rfl⟩
   | sl _ _=>exact⟨_,_,rfl⟩
   | op _ _ _ _=>exact⟨_,_,rfl⟩
   | opE _=>exact⟨_,_,rfl⟩
  obtain⟨a',c',rfl⟩:=hx';simp[Builtin.len_,A6,D6 hu,Result.andThen,goInt]
 ·rename_i hu;cases hx with|pure _=>?_
  cases ho;refine⟨?_,rfl⟩;simp[Builtin.len_,A6,D6 hu,Result.andThen,goInt]
 ·cases ho
def VA{tys:Array TypeId}(ho:B0T vs=some v)(hx:LR ρ vs vs')(w:World):(Builtin.max_ tys ty ⟨vs'⟩).run P w=.ok v w∧J1 v=true:=by
 unfold B0T at ho;split at ho
 ·obtain⟨a',r1,rfl,h1,h2⟩:=hx.tail;obtain⟨b',r2,rfl,h3,h4⟩:=h2.tail;cases h4.nil_inv;cases K4 h1;cases K4 h3;cases ho;exact⟨by simp[Builtin.max_,Builtin.max2],rfl⟩
 ·obtain⟨a',r1,rfl,h1,h2⟩:=hx.tail;obtain⟨b',r2,rfl,h3,h4⟩:=h2.tail;obtain⟨c',r3,rfl,h5,h6⟩:=h4.tail;cases h6.nil_inv;rw[vK]at ho;cases K4 h1;cases K4 h3;cases K4 h5;cases ho;exact⟨by simp[Builtin.max_,Builtin.max2],rfl⟩
 ·cases ho
def UZ{tys:Array TypeId}(ho:B0S vs=some v)(hx:LR ρ vs vs')(w:World):(Builtin.min_ tys ty ⟨vs'⟩).run P w=.ok v w∧J1 v=true:=by
 unfold B0S at ho;split at ho
 ·obtain⟨a',r1,rfl,h1,h2⟩:=hx.tail;obtain⟨b',r2,rfl,h3,h4⟩:=h2.tail;cases h4.nil_inv;cases K4 h1;cases K4 h3;cases ho;exact⟨by simp[Builtin.min_,Builtin.min2],rfl⟩
 ·obtain⟨a',r1,rfl,h1,h2⟩:=hx.tail;obtain⟨b',r2,rfl,h3,h4⟩:=h2.tail;obtain⟨c',r3,rfl,h5,h6⟩:=h4.tail;cases h6.nil_inv;rw[vK]at ho;cases K4 h1;cases K4 h3;cases K4 h5;cases ho;exact⟨by simp[Builtin.min_,Builtin.min2],rfl⟩
 ·cases ho
def DN{tys:Array TypeId}(h:HR P base ρ m.H w)(ho:kQ m x=some (v,m'))(hx:VR ρ x x'):VOk P base ρ m w (Builtin.unsafeSliceData_ tys ty #[x']) v m':=by
 unfold kQ at ho;split at ho
 ·cases ho;cases S4 hx;exact VOk.same h rfl (.pure rfl)
 ·rename_i a n c;cases hq:Nat.beq n 0 || Nat.beq c 0 || Nat.beq c (O6+2)with
  | true=>rw[hq]at ho;cases ho
  | false =>
    rw[hq]at ho;simp only[E7,D7,O7]at ho;obtain⟨rfl,rfl⟩:=ho;simp only[M4]at hq;obtain⟨⟨q1,q2⟩,q3⟩:=hq;have q1:n≠0:=fun e=>by subst e;cases q1
    have q2:c≠0:=fun e=>by subst e;cases q2
    rcases R2 hx with⟨l,hl,hsp,hc,rfl⟩|⟨l,c',hl,hsp,hc,hn,hcap,rfl⟩|⟨a',c',_,he,_,_⟩
    ·refine VOk.same (v':=.pointer (some ⟨l.blk,a.off+l.sh,none⟩)) h ?_ ?_
     ·have hdef:Builtin.unsafeSliceData_ tys ty #[.slice (some ⟨l.blk,a.off+l.sh,none⟩) n c]=(do
        if c≠0 then pure (.pointer (some ⟨l.blk,a.off+l.sh,none⟩))
        else if(← viewAt l.blk).isSome then pure (.pointer (some ⟨l.blk,a.off+l.sh,none⟩))
        else pure (.pointer (some ⟨← newObj (.view ⟨l.blk,a.off+l.sh,none⟩ (← elemOf ty)),0,none⟩))):=rfl
      rw[hdef,A4 q2];rfl
     ·obtain⟨ab,ao,asp⟩:=a;simp only at hsp;subst hsp;exact .ptr hl
    ·refine VOk.same (v':=.pointer (some ⟨l.blk,a.off+l.sh,none⟩)) h ?_ ?_
     ·have:c'≠0:=A1;have hdef:Builtin.unsafeSliceData_ tys ty #[.slice (some ⟨l.blk,a.off+l.sh,none⟩) n c']=(do
        if c'≠0 then pure (.pointer (some ⟨l.blk,a.off+l.sh,none⟩))
        else if(← viewAt l.blk).isSome then pure (.pointer (some ⟨l.blk,a.off+l.sh,none⟩))
        else pure (.pointer (some ⟨← newObj (.view ⟨l.blk,a.off+l.sh,none⟩ (← elemOf ty)),0,none⟩))):=rfl
      rw[hdef,A4 this];rfl
     ·obtain⟨ab,ao,asp⟩:=a;simp only at hsp;subst hsp;exact .ptr hl
    ·omega
 ·cases ho
def YL(h:HR P base ρ m.H w)(ho:IJ P m t x=some (v,m'))(hx:VR ρ x x'):VOk P base ρ m w (Instr.makeInterface t x') v m':=by
 unfold IJ at ho;split at ho
 ·rename_i d hd;have hmi:(∀ ms,d≠.interface ms)→(Instr.makeInterface t x').run P w=.ok (.iface t x') w:=fun hne=>by
   simp only[Instr.makeInterface,A6,D6 hd,Result.andThen];cases d<;>first|rfl|exact absurd rfl (hne _)
  split at ho
  ·cases ho
  ·rename_i hne;obtain⟨_,ho⟩:=A5 ho;cases ho;exact VOk.same h (hmi fun ms e=>hne ms e) (.iface hx)
 ·cases ho
def A5E(ho:A1s m x=some (v,m'))(hx:VR ρ x x'):m'=m∧VR ρ v x'∧((∃ a,x'=.pointer (some a))∨∃ f a b,x'=.func (.func f) a b):=by
 unfold A1s at ho;split at ho
 ·cases ho;obtain⟨l,_,_,rfl⟩:=R9 hx;exact⟨rfl,hx,.inl ⟨_,rfl⟩⟩
 ·cases ho;cases hx with
  | pure hp=>simp[J1]at hp
  | func _ _ _ _=>exact⟨rfl,by constructor<;>assumption,.inr ⟨_,_,_,rfl⟩⟩
 ·cases ho
def A3e(h:HR P base ρ m.H w)(ho:PH P m t x y=some (v,m'))(hx:VR ρ x x')(hy:VR ρ y y'):VOk P base ρ m w (Builtin.copy_ ⟨t::tys⟩ ty #[x',y']) v m':=by
 unfold PH at ho;split at ho
 ·rename_i e a n c hu;split at ho
  ·rename_i s hs;split at ho
   ·rename_i k cs hsrc;have hx':∃ a' c',x'=.slice a' n c':=by
     cases hx with
     | pure _=>exact⟨_,_,rfl⟩
     | sl _ _=>exact⟨_,_,rfl⟩
     | op _ _ _ _=>exact⟨_,_,rfl⟩
     | opE _=>exact⟨_,_,rfl⟩
    obtain⟨a',c',rfl⟩:=hx';have hread:∃ L cs',(Builtin.lenOf y').run P w=.ok L w∧Nat.min L n=k∧LR ρ cs cs'∧(Builtin.firstCells s k y').run P w=.ok ⟨cs'⟩ w:=by
     split at hsrc
     ·rename_i k0 _;obtain⟨q,hsrc⟩:=A5 hsrc;have q:=A0 q;subst q;cases hsrc;cases S4 hy;exact⟨0,[],rfl,by simp,.nil,rfl⟩
     ·rename_i b k0 c0;split at hsrc
      ·rename_i r hr;cases hsrc;rcases R2 hy with⟨l,hl,_,_,rfl⟩|⟨l,c',hl,_,_,_,_,rfl⟩|⟨a',c',_,rfl,_,rfl⟩
       ·obtain⟨r',h1,h2,h3⟩:=p8 h hr hl;exact⟨k0,r',rfl,rfl,h1,L5 h2 h3⟩
       ·obtain⟨r',h1,h2,h3⟩:=p8 h hr hl;exact⟨k0,r',rfl,rfl,h1,L5 h2 h3⟩
       ·have:cs=[]:=by
         unfold aO at hr;split at hr
         ·have:=(lG hr).2;simp at this;exact this
         ·cases hr
        subst this;exact⟨0,[],rfl,rfl,.nil,by simp[Builtin.firstCells,loadCells,loadCellsFrom]⟩
      ·cases hsrc
     ·rename_i b;cases hsrc;cases Y8 hy;refine⟨b.size,R8 (b.data.toList.take (Nat.min b.size n)),rfl,rfl,yY _ _,?_⟩;have e:((b.extract 0 (Nat.min b.size n)).data.map fun b=>Value.int .u8 b.toNat)=⟨R8 (b.data.toList.take (Nat.min b.size n))⟩:=by
       apply K1;simp[R8,jB]
      show(pure ((b.extract 0 (Nat.min b.size n)).data.map fun b=>Value.int .u8 b.toNat):Sem Z5).run P w=_;rw[e];rfl
     ·cases hsrc
    obtain⟨L,cs',r1,r2,r3,r4⟩:=hread;have hbase:(Builtin.copy_ ⟨t::tys⟩ ty #[.slice a' n c',y']).run P w=(match a' with|some a=>(do storeCells a cs';pure (goInt k):Sem Value)|none=>pure (goInt k)).run P w:=by
     unfold Builtin.copy_;simp only[K6,T9,U0,A6,D6 hu,M1 hs,r1,r2,r4,Result.andThen];cases a' with
     | none=>rfl
     | some a=>rfl
    cases a with
    | none =>
      cases S4 hx;simp only at ho;obtain⟨q,ho⟩:=A5 ho;have q:=A0 q;cases ho;exact VOk.same h (by rw[hbase,q];rfl) (.pure rfl)
    | some ad =>
      simp only at ho;cases hz:Nat.beq cs.length 0 with
      | true =>
        rw[hz]at ho;cases ho;have hz:=A0 hz;have:cs'=[]:=D3.1 (by rw[← r3.1];exact hz);subst this;refine VOk.same h (v':=.int .i64 k) ?_ (.pure rfl);rw[hbase];cases a'<;>rfl
      | false =>
        rw[hz]at ho;simp only[E7]at ho;obtain⟨hcl,ho⟩:=A5 ho;have hcl:=A2 hcl;split at ho
        ·rename_i m2 hw;cases ho;rcases R2 hx with⟨l,hl,hsp,hc,he⟩|⟨l,c',hl,hsp,hc,hn,hcap,he⟩|⟨a2,c2,_,hn,hc2,he⟩
         ·cases he;obtain⟨w',h1,h2⟩:=rJ h hw hl r3;exact⟨.int .i64 k,ρ,w',by rw[hbase];simp[A6,h1,Result.andThen,goInt],.pure rfl,h2⟩
         ·cases he;obtain⟨w',h1,h2⟩:=rJ h hw hl r3;exact⟨.int .i64 k,ρ,w',by rw[hbase];simp[A6,h1,Result.andThen,goInt],.pure rfl,h2⟩
         ·have OPENv:O6=9223372036854775808:=rfl;omega
        ·cases ho
   ·cases ho
  ·cases ho
 ·cases ho
def qY:∀ {cs:D4} {l:List UInt8},bytesOf cs=some l→∃ ns:List Int,cs=ns.map (Value.int .u8)∧l=ns.map fun n=>UInt8.ofNat n.toNat
 | [],l,h=>by simp only[bytesOf,D7]at h;subst h;exact⟨[],rfl,rfl⟩
 | v::r,l,h=>by
   unfold bytesOf at h;split at h
   ·rename_i he;cases he
   ·rename_i n r0 he;cases he;split at h
    ·rename_i l0 h0;cases h;obtain⟨ns,h1,h2⟩:=qY h0;exact⟨n::ns,by rw[h1];rfl,by rw[h2];rfl⟩
    ·cases h
   ·cases h
def tJ:∀ {ns:List Int} {cs':D4},LR ρ (ns.map (Value.int .u8)) cs'→cs'=ns.map (Value.int .u8)
 | [],cs',h=>h.nil_inv
 | n::r,cs',h=>by
   obtain⟨v',r',rfl,h1,h2⟩:=h.tail;cases K4 h1;rw[tJ h2];rfl
def qP:∀ (ns:List Int) (acc:List UInt8),(ns.foldl (fun r n=>r.push (UInt8.ofNat n.toNat)) (ByteArray.mk ⟨acc⟩))=⟨⟨acc++ns.map fun n=>UInt8.ofNat n.toNat⟩⟩
 | [],acc=>by simp
 | n::r,acc=>by
   rw[List.foldl_cons];have:(ByteArray.mk ⟨acc⟩).push (UInt8.ofNat n.toNat)=⟨⟨acc++[UInt8.ofNat n.toNat]⟩⟩:=by
    show ByteArray.mk (Array.push ⟨acc⟩ _)=_;simp
   rw[this,qP r];simp
def A3h(h:HR P base ρ m.H w)(hb:base≤w.heap.size)(ho:GN P m s t x=some (v,m'))(hf:L6 ρ m.n m'.hi)(hx:VR ρ x x'):VOk P base ρ m w (convert s t x') v m':=by
 unfold GN at ho;split at ho
 ·rename_i ds k j n hs ht;cases K4 hx;simp only[D7,O7]at ho;obtain⟨rfl,rfl⟩:=ho;refine VOk.same (v':=.int k (k.wrap n)) h ?_ (by rw[aF,mI];exact .pure rfl);cases ds<;>simp[convert,A6,D6 hs,D6 ht,Result.andThen,Conv.intToInt]
 ·rename_i ds b hs ht;cases Y8 hx;cases ho;refine VOk.same h ?_ (.pure rfl);cases ds<;>simp[convert,A6,D6 hs,D6 ht,Result.andThen]
 ·rename_i ds j n hs ht;cases K4 hx;cases ho;refine VOk.same (v':=.string (Utf8.encode n)) h ?_ (.pure rfl);cases ds<;>simp[convert,A6,D6 hs,D6 ht,Result.andThen,Conv.intToString]
 ·rename_i ds e b hs ht;cases Y8 hx;split at ho
  ·rename_i he;split at ho
   ·rename_i hsz;rw[I6]at ho;let q:Question:=.appendCap b.size 0 e
    let cap:=q.cut (w.tape w.drawn q)
    have hcap:b.size≤cap:=by show b.size≤b.size+_;omega
    have hch:(choose q).run P w=.ok cap w.drew:=by
     simp only[choose,Sem.run];rw[A3 (by simp[q,Question.forced])];rfl
    let C:Z5:=(b.data.map fun b=>Value.int .u8 b.toNat)++Array.replicate (cap-b.size) (.int .u8 0)
    have hC:C.size=cap:=by
     have:b.data.size=b.size:=rfl;simp[C,this];omega
    obtain⟨e1,e2,e3⟩:=fM (wd:=w.drew) (fz:=(C.size,C.size+1)) (cap:=cap) (C:=C) h hb ho hf (yY ρ b.data.toList) (fun i u hi=>by
      have hl:=(B2.1 hi).1;simp[R8]at hl;have hl':i<(b.data.map fun b=>Value.int .u8 b.toNat).size:=by simpa using hl
      show((b.data.map fun b=>Value.int .u8 b.toNat)++Array.replicate (cap-b.size) (.int .u8 0))[i]? = some u;rw[W1 hl']
      simpa [R8]using hi) NF.end
     (fun inf h2=>by
       have:inf.size=1:=by unfold H7 at hsz;rw[h2]at hsz;exact B1 hsz
       rw[this,hC];omega) ⟨rfl,rfl,rfl⟩ rfl
    refine⟨.slice (some ⟨w.heap.size,0,none⟩) b.size cap,_,_,?_,?_,e3⟩
    ·have hmk:∀ w2:World,w2.heap[w.heap.size]? = some (.cells C e (0,0))→(markStringish ⟨w.heap.size,0,none⟩).run P w2=.ok () (w2.freeze { block:=w.heap.size,off:=C.size } 1):=fun w2 h2=>by
      simp[markStringish,shape,freeze,Sem.run,World.shape?,h2]
     have hfr:({ w.drew with heap:=w.heap.push (.cells C e (0,0)) }:World).freeze { block:=w.heap.size,off:=C.size } 1={ w.drew with heap:=w.heap.push (.cells C e (C.size,C.size+1)) }:=by
      unfold World.freeze;rw[A3 C3];congr 1
      apply Array.ext_getElem?;intro i;rw[I2];by_cases hi:w.heap.size=i
      ·subst hi;simp
      ·rw[A3 hi];simp only[u5];rw[A3 (fun h=>hi h.symm),A3 (fun h=>hi h.symm)]
     have hconv:(convert s t (.string b)).run P w=(Conv.stringToBytes e b).run P w:=by
      cases ds<;>simp[convert,A6,D6 hs,D6 ht,D6 he,Result.andThen]
     rw[hconv];unfold Conv.stringToBytes;simp only[A6,show(choose (.appendCap b.size 0 e)).run P w=.ok cap w.drew from hch,Result.andThen];have hnr:(newRow e C).run P w.drew=.ok ⟨w.heap.size,0,none⟩ { w.drew with heap:=w.heap.push (.cells C e (0,0)) }:=rfl;rw[show(newRow e ((b.data.map fun b=>Value.int .u8 b.toNat)++Array.replicate (cap-b.size) (.int .u8 0))).run P w.drew=_ from hnr];simp only[Result.andThen];rw[hmk _ (by simp),hfr];rfl
    ·rw[e1];exact VR.op (o:=0) (m':=cap) e2 (B0 _) hcap (fun _ _=>rfl)
   ·cases ho
  ·cases ho
 ·rename_i e n c hs ht;cases S4 hx;split at ho
  ·rename_i he;cases ho;refine VOk.same h (v':=.string ByteArray.empty) ?_ (.pure rfl);simp[convert,A6,D6 hs,D6 ht,D6 he,Result.andThen,Conv.bytesToString]
  ·cases ho
 ·rename_i e a n c hs ht;split at ho
  ·rename_i he;split at ho
   ·rename_i cs hr;split at ho
    ·rename_i l hl;cases ho;obtain⟨ns,h1,h2⟩:=qY hl;have hfin:∀ a' c',(loadCells a' n).run P w=.ok (ns.map (Value.int .u8)).toArray w→(convert s t (.slice (some a') n c')).run P w=.ok (.string ⟨⟨l⟩⟩) w:=fun a' c' hlc=>by
      have:=run_bytesToString w a' n c' ns hlc;have e2:=qP ns [];simp only[O9]at e2;simp only[convert,A6,D6 hs,D6 ht,D6 he,Result.andThen];rw[this,show ByteArray.empty=ByteArray.mk ⟨[]⟩from rfl,e2,h2]
     rcases R2 hx with⟨lc,hlc,_,_,rfl⟩|⟨lc,c',hlc,_,_,_,_,rfl⟩|⟨a',c',_,rfl,_,rfl⟩
     ·obtain⟨r',g1,g2,g3⟩:=p8 h hr hlc;rw[h1]at g1
      have:=tJ g1;subst this;exact VOk.same h (hfin _ _ (L5 g2 g3)) (.pure rfl)
     ·obtain⟨r',g1,g2,g3⟩:=p8 h hr hlc;rw[h1]at g1
      have:=tJ g1;subst this;exact VOk.same h (hfin _ _ (L5 g2 g3)) (.pure rfl)
     ·have:cs=[]:=by
       unfold aO at hr;split at hr
       ·have:=(lG hr).2;simpa using this
       ·cases hr
      subst this;have:ns=[]:=by cases ns with|nil=>rfl|cons _ _=>cases h1
      subst this;exact VOk.same h (hfin _ _ (by simp[loadCells,loadCellsFrom])) (.pure rfl)
    ·cases ho
   ·cases ho
  ·cases ho
 ·cases ho
end
end
section
open Go
variable [Ora]
section
variable {P:Program} {base:Nat} {ρ:Ren} {m m':Mem} {w:World}
def AZ(hc:P.cellsOf e=1)(count off n:Nat)(hn:off+n≤count):liesAt P P.depth e count off e n=true:=by
 have hd:P.depth=(2*(P.types.size+Made.depth)+1)+1:=rfl;rw[hd];simp only[liesAt,J9];left
 rw[hd];simp[rowAt,hc,hn,sameLayout,Nat.mod_one]
def gB:∀ (ns:List Int) (b o:Nat) (acc:ByteArray),(∀ (j:Nat) (v:Value),(ns.map (Value.int .u8))[j]? = some v→w.cell? ⟨b,o+j,none⟩=some v) →
  (loadBytes ⟨b,o,none⟩ acc ns.length).run P w=.ok ⟨acc.data++(ns.map fun n=>UInt8.ofNat n.toNat).toArray⟩ w
 | [],b,o,acc,_=>by simp[loadBytes]
 | n::ns,b,o,acc,h=>by
   have h0:w.cell? ⟨b,o,none⟩=some (.int .u8 n):=by simpa using h 0 _ rfl
   have ih:=gB ns b (o+1) (acc.push n.toNat.toUInt8) (fun j v hj=>by
    have:=h (j+1) v (by simpa using hj);rw[show o+1+j=o+(j+1) by omega];exact this)
   simp only[B3,loadBytes,A6,run_load,h0,Result.andThen,i6];rw[ih];have:(acc.push n.toNat.toUInt8).data=acc.data.push n.toNat.toUInt8:=rfl;rw[this];congr 2
   apply K1;simp
def DC{l l':Value}(h:HR P base ρ m.H w)(ho:fU P m pt p l=some (v,m'))(hp:VR ρ p p')(hl:VR ρ l l') :
  VOk P base ρ m w (Builtin.unsafeString_ ⟨pt::tys⟩ ty #[p',l']) v m':=by
 have hmax:IntKind.i64.max=9223372036854775807:=rfl;unfold fU at ho;split at ho
 ·cases hp with|pure _=>?_
  cases K4 hl;cases ho;refine VOk.same h (v':=.string ByteArray.empty) ?_ (.pure rfl);rename_i k _;have hdef:Builtin.unsafeString_ ⟨pt::tys⟩ ty #[.pointer none,.int k (.ofNat 0)] =
    (do
      let n ← asInt (.int k (.ofNat 0))
      if n<0 then runtimePanic (.error "unsafe.String: len out of range")
      if n>IntKind.i64.max then unsupported (.unsafePointer "String: a length above the largest int")
      if n=0 then pure (.string .empty)
      else runtimePanic (.error "unsafe.String: ptr is nil and len is not zero")):=rfl
  rw[hdef];simp[asInt,asIntOf,hmax]
 ·rename_i a k n;cases K4 hl;obtain⟨lc,hlc,hsp,rfl⟩:=R9 hp;split at ho
  ·rename_i cs T hspot hg;split at ho
   ·rename_i e hpt hT;obtain⟨q,ho⟩:=A5 ho;obtain⟨q,q3⟩:=B8 q;obtain⟨q1,q2⟩:=B8 q;have q1:0<n:=A2 q1;have q2:=A2 q2;have q3:=A0 q3;subst q3;split at ho
    ·rename_i r hr;split at ho
     ·rename_i bs m2 hbs cL;cases ho;obtain⟨ns,h1,h2⟩:=qY hbs;have hread:aO m a n=some r:=by
       unfold aO;rw[hspot,hg];exact hr
      obtain⟨r',g1,g2,g3⟩:=p8 h hread hlc;rw[h1]at g1;have hr':=tJ g1;subst hr';obtain⟨⟨hon,C,fz,T',z2,z3,z4⟩,z5⟩:=h.atl hlc hg;have z2:w.heap[lc.blk]? = some (.cells C e fz):=by rw[z2,(z4 rfl).1]
      have hnl:ns.length=n:=by simpa using g2
      have hcell:P.cellsOf e=1:=by
       unfold H7 at hT;unfold Program.cellsOf;cases hi:P.info? e with
       | none=>rw[hi]at hT;cases hT
       | some i=>rw[hi]at hT;have:=B1 hT;simp[this]
      have hin:a.off+lc.sh+n≤C.size:=by
       have hlast:=g3 (n-1) (.int .u8 ns[n-1]) (by simp[hnl]);simp only[World.cell?,z2]at hlast
       have:=(D9.1 (by simpa using hlast)).1;omega
      have hlb:=gB (P:=P) (w:=w) ns lc.blk (a.off+lc.sh) .empty g3;rw[hnl]at hlb;have hsh:w.shape? lc.blk=some (e,C.size):=by simp[World.shape?,z2]
      have hlies:=AZ (P:=P) hcell (C.size / P.cellsOf e) (a.off+lc.sh) n (by rw[hcell];simpa using hin);have hdef:Builtin.unsafeString_ ⟨pt::tys⟩ ty #[.pointer (some ⟨lc.blk,a.off+lc.sh,none⟩),.int k (.ofNat n)] =
       (do
         let n ← asInt (.int k (.ofNat n))
         if n<0 then runtimePanic (.error "unsafe.String: len out of range")
         if n>IntKind.i64.max then unsupported (.unsafePointer "String: a length above the largest int")
         if n=0 then pure (.string .empty)
         else if ← variablesAt ⟨lc.blk,a.off+lc.sh,none⟩ (← elemOf pt) n.toNat then do
          let s ← loadBytes ⟨lc.blk,a.off+lc.sh,none⟩ .empty n.toNat
          freeze ⟨lc.blk,a.off+lc.sh,none⟩ n.toNat
          pure (.string s)
         else unsupported (.unsafePointer "String: not so many bytes at ptr")):=rfl
      have e1:Int.ofNat n=(n:Int):=rfl;have hneg:¬ (n:Int)<0:=A1;have hbig:¬ (9223372036854775807:Int)<(n:Int):=A1;have hz:¬ (n:Int)=0:=A1;have hz2:n≠0:=A1;refine⟨.string ⟨⟨bs⟩⟩,ρ,w.freeze ⟨lc.blk,a.off+lc.sh,none⟩ n,?_,.pure rfl,St.write h cL hg rfl hlc hon ?_ ?_ ?_ ?_⟩
      ·rw[hdef];simp[asInt,asIntOf,hmax,e1,hneg,hbig,hz,hz2,variablesAt,hsh,elemOf,D6 hpt,hlies,hlb,freeze,Sem.run,A6,Result.andThen,h2]
      ·simp[World.freeze,hz2]
      ·simp[World.freeze,hz2]
      ·intro j hj;simp only[World.freeze,hz2,if_false,I2];rw[A3 (fun e=>hj e.symm)]
      ·refine⟨hon,C,(if fz.1 == fz.2 then(a.off+lc.sh,a.off+lc.sh+n)else(min fz.1 (a.off+lc.sh),max fz.2 (a.off+lc.sh+n))),e,?_,z3,fun hc=>by cases hc⟩;simp only[World.freeze,hz2,if_false,I2,if_true,z2,M6]
     ·cases ho
    ·cases ho
   ·cases ho
  ·cases ho
 ·cases ho
def PU{ks:Array Bool}(h:HR P base ρ m.H w)(hb:base≤w.heap.size)(ho:kE P m b vs tys=some (v,m'))(hf:L6 ρ m.n m'.hi)(hx:LR ρ vs vs') :
  ∃ s:Sem Value,builtin b ⟨tys⟩ ty ks ⟨vs'⟩=(do pure (.value (← s)))∧VOk P base ρ m w s v m':=by
 unfold kE at ho;split at ho
 ·obtain⟨x',r1,rfl,h1,h2⟩:=hx.tail;cases h2.nil_inv;unfold noM at ho;split at ho
  ·rename_i u hu;cases ho;obtain⟨g1,g2⟩:=VF h hu h1;exact⟨_,rfl,VOk.same h g1 (.pure g2)⟩
  ·cases ho
 ·obtain⟨x',r1,rfl,h1,h2⟩:=hx.tail;cases h2.nil_inv;unfold noM at ho;split at ho
  ·rename_i u hu;cases ho;obtain⟨g1,g2⟩:=A6J hu h1 w;exact⟨_,rfl,VOk.same h g1 (.pure g2)⟩
  ·cases ho
 ·obtain⟨x',r1,rfl,h1,h2⟩:=hx.tail;obtain⟨y',r2,rfl,h3,h4⟩:=h2.tail;cases h4.nil_inv;rename_i t t2 rest;refine⟨Builtin.append_ ⟨t::t2::rest⟩ ty #[x',y'],rfl,?_⟩
  have:=TE (ty:=ty) h hb ho hf h1 h3;have e:Builtin.append_ ⟨t::t2::rest⟩ ty #[x',y']=Builtin.append_ #[t,t2] ty #[x',y']:=rfl;rw[e];exact this
 ·obtain⟨x',r1,rfl,h1,h2⟩:=hx.tail;obtain⟨y',r2,rfl,h3,h4⟩:=h2.tail;cases h4.nil_inv;exact⟨_,rfl,A3e h ho h1 h3⟩
 ·unfold noM at ho;split at ho
  ·rename_i u hu;cases ho;obtain⟨g1,g2⟩:=VA (P:=P) (ty:=ty) (tys:=⟨tys⟩) hu hx w;exact⟨_,rfl,VOk.same h g1 (.pure g2)⟩
  ·cases ho
 ·unfold noM at ho;split at ho
  ·rename_i u hu;cases ho;obtain⟨g1,g2⟩:=UZ (P:=P) (ty:=ty) (tys:=⟨tys⟩) hu hx w;exact⟨_,rfl,VOk.same h g1 (.pure g2)⟩
  ·cases ho
 ·obtain⟨x',r1,rfl,h1,h2⟩:=hx.tail;cases h2.nil_inv;exact⟨_,rfl,DN h ho h1⟩
 ·obtain⟨x',r1,rfl,h1,h2⟩:=hx.tail;obtain⟨y',r2,rfl,h3,h4⟩:=h2.tail;cases h4.nil_inv;exact⟨_,rfl,DC h ho h1 h3⟩
 ·cases ho
def NOk(P:Program)(base:Nat)(ρ:Ren)(m:Mem)(w:World)(s:Sem Next)(v:Value)(m':Mem):Prop :=
 ∃ v' ρ' w',(s.run P w=.ok (.value v') w'∨(s.run P w=.ok .skip w'∧v'=undef))∧VR ρ' v v'∧St P base ρ ρ' m m' w w'
def NOk.of{s:Sem Value}(h:VOk P base ρ m w s v m'):NOk P base ρ m w (do pure (.value (← s))) v m':=by
 obtain⟨v',ρ',w',h1,h2,h3⟩:=h;exact⟨v',ρ',w',.inl (by simp[A6,h1,Result.andThen]),h2,h3⟩
def rU(ρ:Ren):VR ρ undef undef:=.tuple (a:=[]) (a':=[]) rfl (fun i v v' h=>by simp at h)
def NOk.ofU{s:Sem Unit}(h:UOk P base ρ m w s m'):NOk P base ρ m w (do s;pure .skip) undef m':=by
 obtain⟨ρ',w',h1,h3⟩:=h;exact⟨undef,ρ',w',.inr ⟨by simp[A6,h1,Result.andThen],rfl⟩,rU _,h3⟩
def NOk.same{s:Sem Value}(h:HR P base ρ m.H w)(hr:s.run P w=.ok v' w)(hv:VR ρ v v'):NOk P base ρ m w (do pure (.value (← s))) v m:=NOk.of (VOk.same h hr hv)
def FR(ρ:Ren)(fr:Fr)(g:Operand→Value)(o:Op):Prop:=∀ x ∈ o.operands.toList,VR ρ (ev fr x) (g x)
def v6(h:noM o m=some (v,m')):o=some v∧m'=m:=by
 unfold noM at h;split at h
 ·cases h;exact⟨rfl,rfl⟩
 ·cases h
def pE{o:Option Mem}(h:RV o=some (v,m')):o=some m'∧v=undef:=by
 unfold RV at h;split at h
 ·cases h;exact⟨rfl,rfl⟩
 ·cases h
def dY{fr:Fr}{g:Operand→Value}:∀ {xs:List Operand},(∀ x ∈ xs,VR ρ (ev fr x) (g x))→LR ρ (evL fr xs) (xs.map g)
 | [],_=>.nil
 | x::r,h=>.cons (h x C5) (dY fun y hy=>h y (C7 _ hy))
def SP{fr:Fr}{g:Operand→Value}:∀ {xs:List (Nat×Operand)},(∀ x ∈ xs.map (·.2),VR ρ (ev fr x) (g x))→PR ρ (evP fr xs) (xs.map fun x=>(x.1,g x.2))
 | [],_=>trivial
 | (i,x)::r,h=>⟨rfl,h x (by simp),SP fun y hy=>h y (by simp at hy ⊢;exact .inr hy)⟩
def lF{fr:Fr}{x:Option Operand}(h:∀ y ∈ x.toList,VR ρ (ev fr y) (g y)):OR ρ (evO fr x) (x.map g):=by
 cases x with
 | none=>trivial
 | some y=>exact h y (by simp)
set_option maxHeartbeats 1000000 in
def B0H{fr:Fr}{o:Oper}(h:HR P base ρ m.H w)(hb:base≤w.heap.size)(ho:opM P fr m o.op=some (v,m'))(hf:L6 ρ m.n m'.hi)(hg:FR ρ fr g o.op) :
  NOk P base ρ m w (execOp g o) v m':=by
 obtain⟨dst,op,ty,pos,af,gd⟩:=o;simp only at ho hg;have hx1:∀ {x},x ∈ op.operands.toList→VR ρ (ev fr x) (g x):=fun hx=>hg _ hx
 unfold opM at ho;split at ho
 ·cases ho;exact⟨_,ρ,w,.inl rfl,hx1 (by simp[Op.operands]),.refl h⟩
 ·cases ho;exact⟨_,ρ,w,.inl rfl,hx1 (by simp[Op.operands]),.refl h⟩
 ·rename_i c a b;have hc:=hx1 (x:=c) (by simp[Op.operands]);unfold UU at ho;split at ho
  ·rename_i hcv;rw[hcv]at hc;cases ho;exact⟨g a,ρ,w,.inl (by simp[execOp,dI hc,asBool]),hx1 (by simp[Op.operands]),.refl h⟩
  ·rename_i hcv;rw[hcv]at hc;cases ho;exact⟨g b,ρ,w,.inl (by simp[execOp,dI hc,asBool]),hx1 (by simp[Op.operands]),.refl h⟩
  ·cases ho
 ·exact NOk.of (YM h hb ho hf)
 ·exact NOk.of (A5F h hb ho hf (hx1 (by simp[Op.operands])))
 ·rename_i t ps;obtain⟨h1,rfl⟩:=v6 ho;obtain⟨v',h2,h3⟩:=ZG h1 (SP (g:=g) (fun x hx=>hx1 (by simpa [Op.operands]using hx))) w;have e:(ps.map fun(i,x)=>(i,g x))=⟨ps.toList.map fun x=>(x.1,g x.2)⟩:=by apply K1;simp
  exact NOk.same (s:=Instr.build t (ps.map fun(i,x)=>(i,g x))) h (by rw[e];exact h2) h3
 ·rename_i t n ps
  have:=CP h hb ho hf (SP (g:=g) (fun x hx=>hx1 (by simpa [Op.operands]using hx)));have e:(ps.map fun(i,x)=>(i,g x))=⟨ps.toList.map fun x=>(x.1,g x.2)⟩:=by apply K1;simp
  refine NOk.of (s:=Instr.buildSlice t n (ps.map fun(i,x)=>(i,g x))) ?_;rw[e];exact this
 ·rename_i t x;have hx:=hx1 (x:=x) (by simp[Op.operands]);unfold UV at ho;split at ho
  ·rename_i a hev;rw[hev]at hx;obtain⟨l,hl,hsp,hgx⟩:=R9 hx;obtain⟨h1,rfl⟩:=v6 ho;obtain⟨v',h2,h3⟩:=NO h h1 hl;refine NOk.same (s:=Instr.loadAt t (g x)) h ?_ h3;rw[hgx]
   simpa [Instr.loadAt,Instr.sureAddr]using h2
  ·cases ho
 ·rename_i t x y;have hx:=hx1 (x:=x) (by simp[Op.operands]);have hy:=hx1 (x:=y) (by simp[Op.operands]);unfold II at ho;split at ho
  ·rename_i a hev;rw[hev]at hx;obtain⟨l,hl,hsp,hgx⟩:=R9 hx;obtain⟨h1,rfl⟩:=pE ho
   have:=XO h h1 hl hy;refine NOk.ofU (s:=Instr.storeAt t (g x) (g y)) ?_;rw[hgx];obtain⟨ρ',w',r1,r2⟩:=this;exact⟨ρ',w',by simpa [Instr.storeAt,Instr.sureAddr]using r1,r2⟩
  ·cases ho
 ·rename_i x;have hx:=hx1 (x:=x) (by simp[Op.operands]);obtain⟨hm,h1,h2⟩:=A5E ho hx;subst hm;refine⟨g x,ρ,w,.inl ?_,h1,.refl h⟩;rcases h2 with⟨a,ha⟩|⟨f,a,b,ha⟩<;>simp[execOp,ha]
 ·rename_i op t x y yt;have hx:=hx1 (x:=x) (by simp[Op.operands]);have hy:=hx1 (x:=y) (by simp[Op.operands]);unfold A5G at ho;have hfin:(BL op=true→nS P t x y (ev fr x) (ev fr y)=true)→noM (uH P op t (ev fr x) (ev fr y)) m=some (v,m')→NOk P base ρ m w (execOp g ⟨dst,.binOp op t x y yt,ty,pos,af,gd⟩) v m':=fun hgu hn=>by
   obtain⟨h1,rfl⟩:=v6 hn;obtain⟨h2,h3⟩:=zI h1 hx hy w;have hq:=tP hgu hx hy w;refine NOk.same (s:=do eqGuard op t x y (g x) (g y);binOp op t (g x) (g y)) h ?_ (.pure h3);simp[A6,hq,h2,Result.andThen]
  cases hop:BL op with
  | true =>
    rw[hop]at ho;simp only[F0]at ho;obtain⟨h1,h2⟩:=A5 ho;exact hfin (fun _=>h1) h2
  | false =>
    rw[hop]at ho;simp only[E7]at ho;exact hfin (fun h=>by rw[hop]at h;cases h) ho
 ·rename_i op t x;obtain⟨h1,rfl⟩:=v6 ho;obtain⟨h2,h3⟩:=QM (P:=P) h1 (hx1 (x:=x) (by simp[Op.operands])) w;exact NOk.same (s:=Op.unary op (g x)) h h2 (.pure h3)
 ·exact NOk.of (A3h h hb ho hf (hx1 (by simp[Op.operands])))
 ·exact NOk.of (YL h ho (hx1 (by simp[Op.operands])))
 ·rename_i f first cap
  cases ho;have l1:=dY (ρ:=ρ) (fr:=fr) (g:=g) (xs:=first.toList) fun x hx=>hx1 (by simp[Op.operands];exact .inl (by simpa using hx))
  have l2:=dY (ρ:=ρ) (fr:=fr) (g:=g) (xs:=cap.toList) fun x hx=>hx1 (by simp[Op.operands];exact .inr (by simpa using hx))
  refine⟨.func (.func f) ⟨first.toList.map g⟩ ⟨cap.toList.map g⟩,ρ,w,.inl ?_,.func l1.1 l2.1 l1.2 l2.2,.refl h⟩;have e1:first.map g=⟨first.toList.map g⟩:=by apply K1;simp
  have e2:cap.map g=⟨cap.toList.map g⟩:=by apply K1;simp
  simp[execOp,Instr.makeFunc,e1,e2]
 ·exact NOk.of (DP h hb ho hf (hx1 (by simp[Op.operands])) (hx1 (by simp[Op.operands])))
 ·rename_i t x lo hi mx;obtain⟨h1,rfl⟩:=v6 ho;obtain⟨v',h2,h3⟩:=jN h1 (hx1 (x:=x) (by simp[Op.operands])) (lF (g:=g) fun y hy=>hx1 (by simp[Op.operands]at hy ⊢;exact .inr (.inl hy))) (lF (g:=g) fun y hy=>hx1 (by simp[Op.operands]at hy ⊢;exact .inr (.inr (.inl hy)))) (lF (g:=g) fun y hy=>hx1 (by simp[Op.operands]at hy ⊢;exact .inr (.inr (.inr hy)))) w;exact NOk.same (s:=Instr.sliceAt t (g x) (lo.map g) (hi.map g) (mx.map g)) h h2 h3
 ·obtain⟨h1,rfl⟩:=v6 ho;obtain⟨v',h2,h3⟩:=nV h1 (hx1 (by simp[Op.operands])) w;exact NOk.same h h2 h3
 ·obtain⟨h1,rfl⟩:=v6 ho;obtain⟨v',h2,h3⟩:=YZ h1 (hx1 (by simp[Op.operands])) w;exact NOk.same h h2 h3
 ·obtain⟨h1,rfl⟩:=v6 ho;obtain⟨v',h2,h3⟩:=dJ h1 (hx1 (by simp[Op.operands])) (hx1 (by simp[Op.operands])) w;exact NOk.same h h2 h3
 ·obtain⟨h1,rfl⟩:=v6 ho;obtain⟨v',h2,h3⟩:=vF h1 (hx1 (by simp[Op.operands])) (hx1 (by simp[Op.operands])) w;exact NOk.same h h2 h3
 ·obtain⟨hm,v',h2,h3⟩:=NB (P:=P) ho (hx1 (by simp[Op.operands])) w;subst hm;exact NOk.same h h2 h3
 ·rename_i b xs tys;have l1:=dY (ρ:=ρ) (fr:=fr) (g:=g) (xs:=xs.toList) fun x hx=>hx1 (by show x ∈ (#[]++xs:Array Operand).toList;simpa using hx)
  obtain⟨ks,e2⟩:∃ ks,execOp g ⟨dst,.call ⟨.builtin b,xs,tys⟩,ty,pos,af,gd⟩=builtin b tys ty ks (xs.map g):=⟨_,rfl⟩;obtain⟨s,e,hs⟩:=PU (ty:=ty) (ks:=ks) h hb ho hf l1;have e1:xs.map g=⟨xs.toList.map g⟩:=by apply K1;simp
  rw[e2,e1];have e3:tys=⟨tys.toList⟩:=rfl;rw[e3,e];exact NOk.of hs
 ·cases ho
end
end
section
open Go
def ofV:T5→U
 | some (.int k n)=>.int k n
 | some (.bool b)=>.bool b
 | some (.string s)=>.str s.data.toList
 | _=>.none
def E5(E:Nat→U):Value→U
 | .complex .f64 i _=>E i
 | .int k n=>.int k n
 | .bool b=>.bool b
 | .string s=>.str s.data.toList
 | _=>.none
def evB(op:BinOp):U→U→U
 | .int k a,.int j b=>ofV (bG op k j a b)
 | .str a,.str b=>ofV (A0V op ⟨⟨a⟩⟩ ⟨⟨b⟩⟩)
 | .bool a,.bool b=>match op with
   | .eql=>.bool (a == b)
   | .neq=>.bool (!(a == b))
   | _=>.none
 | _,_=>.none
def ev1(op:UnOp):U→U
 | .int k n=>ofV (unM op (.int k n))
 | .bool b=>ofV (unM op (.bool b))
 | _=>.none
def eqU:U→U→Option Bool
 | .int k a,.int j b=>if k=j then some (a == b)else none
 | .bool a,.bool b=>some (a == b)
 | .str a,.str b=>some (a == b)
 | _,_=>none
def oA:List U→Option Bool
 | []=>some true
 | a::b::r=>match eqU a b,oA r with
   | some x,some y=>some (x && y)
   | _,_=>none
 | _=>none
def XN(s:List UInt8)(l h:Int):U :=
 match l,h with
 | .ofNat l,.ofNat h=>if l≤h∧h≤s.length then .str ((s.drop l).take (h-l))else .none
 | _,_=>.none
def vU:List U→Option (List UInt8)
 | []=>some []
 | .int .u8 (.ofNat n)::r=>if n<256 then match vU r with
   | some l=>some (UInt8.ofNat n::l)
   | none=>none else none
 | _::_=>none
def yC:List (List U)→Option (List UInt8)
 | []=>some []
 | [.int .u8 (.ofNat n)]::r=>if n<256 then match yC r with
   | some l=>some (UInt8.ofNat n::l)
   | none=>none else none
 | _::_=>none
def lP(s:List UInt8):List (List U):=s.map fun b=>[.int .u8 b.toNat]
def s9(w:Nat):Nat→List U→Option (List (List U))
 | 0,[]=>some []
 | 0,_::_=>none
 | n+1,l=>if w≤l.length then match s9 w n (l.drop w)with
   | some r=>some (l.take w::r)
   | none=>none else none
def RM(row:List U)(o:Nat)(cells:List U):List U:=row.take o++cells++row.drop (o+cells.length)
def yE:Nat:=1000000000
def oG(nul:Bool)(w:Nat)(rows r:List (List U)):U:=if rows.length+r.length≤yE then(match r with|[]=>.seq nul w rows|r=>.seq false w (rows++r))else .none
def isU(a b:U):Bool :=
 match eqU a b with
 | some c=>c
 | none=>false
def W7:List U→List U→Bool
 | [],_=>true
 | a::k,b::r=>isU a b && W7 k r
 | _::_,[]=>false
def MS(kw:Nat)(c:List U):List (List U)→List (List U)
 | []=>[c]
 | r::rs=>if W7 (c.take kw) r then c::rs else r::MS kw c rs
def evU:LOp→List U→U
 | .mhas w kw,.seq _ v rows::k=>if v=w∧k.length=kw then .bool (rows.any (W7 k))else .none
 | .mget w kw o,.seq _ v rows::z::k=>if v=w∧k.length=kw then(match rows.find? (W7 k)with
   | some r=>r.getD o .none
   | none=>z)else .none
 | .mput w kw,.seq nul v rows::c=>if v=w∧c.length=w then .seq nul w (MS kw c rows)else .none
 | .len,[.seq _ _ rows]=>.int .i64 rows.length
 | .mks,l=>match vU l with
   | some s=>.str s
   | none=>.none
 | .inbs w,[.int _ i,.seq _ v rows]=>if v=w then .bool (decide (0≤i) && decide (i<rows.length))else .none
 | .get w o,[.seq false v rows,.int _ (.ofNat k)]=>if v=w then(rows.getD k []).getD o .none else .none
 | .mk w,l=>if w=0 then .none else match s9 w (l.length / w) l with
   | some r=>.seq false w r
   | none=>.none
 | .nilw w,[]=>.seq true w []
 | .nilp,[.seq nul _ _]=>.bool nul
 | .snoc w,.seq nul v rows::l=>if v=w∧w≠0 then match s9 w (l.length / w) l with
   | some r=>oG nul w rows r
   | none=>.none else .none
 | .cat w,[.seq nul v rows,.seq _ v2 r]=>if v=w∧v2=w then oG nul w rows r else .none
 | .cats,[.seq nul v rows,.str s]=>if v=1 then oG nul 1 rows (lP s)else .none
 | .set w o,.seq false v rows::.int _ (.ofNat k)::l=>if v=w∧k<rows.length∧o+l.length≤w then .seq false w (rows.set k (RM (rows.getD k []) o l))else .none
 | .subs w,[.seq nul v rows,.int _ (.ofNat l),.int _ (.ofNat h)]=>if v=w∧l≤h∧h≤rows.length then .seq nul w ((rows.drop l).take (h-l))else .none
 | .str,[.seq _ v rows]=>if v=1 then match yC rows with
   | some s=>.str s
   | none=>.none else .none
 | .byt,[.str s]=>.seq false 1 (lP s)
 | .ustr,[.seq _ v rows,.int _ (.ofNat n)]=>if v=1∧n≤rows.length∧n≤yE then match yC (rows.take n)with
   | some s=>.str s
   | none=>.none else .none
 | .rep w,.int _ (.ofNat n)::l=>if l.length=w∧n≤yE then .seq false w (List.replicate n l)else .none
 | .bin op,[a,b]=>evB op a b
 | .un op,[a]=>ev1 op a
 | .conv k,[.int _ n]=>.int k (k.wrap n)
 | .len,[.str s]=>.int .i64 s.length
 | .idx,[.str s,.int _ (.ofNat k)]=>match s[k]? with
   | some b=>.int .u8 b.toNat
   | none=>.none
 | .sub,[.str s,.int _ l,.int _ h]=>XN s l h
 | .sub1,[.str s,.int _ l]=>XN s l s.length
 | .sel,.int _ (.ofNat k)::cs=>cs.getD k .none
 | .inb,[.int _ i,.int _ n]=>.bool (decide (0≤i) && decide (i<n))
 | .eqs,l=>match oA l with
   | some b=>.bool b
   | none=>.none
 | .max,[.int k a,.int _ b]=>.int k (if b>a then b else a)
 | .min,[.int k a,.int _ b]=>.int k (if b<a then b else a)
 | _,_=>.none
def o7.ok(E:Nat→U):o7→Prop
 | .lt i t op xs=>E i=evU op (xs.map (E5 E))∧G7 (E i)=t∧t<10
 | .dt i t op xs=>E i=evU op (xs.map (E5 E))∧G7 (E i)=t∧∃ nul w rows,E i=.seq nul w rows
 | .br i b=>E i=.bool b
 | .as op xs=>evU op (xs.map (E5 E))=.bool true
 | .con spec xs i d n=>∃ outs,spec (xs.map (E5 E))=some (d,outs)∧outs.length=n∧∀ j u,outs[j]? = some u→E (i+j)=u
def U3(E:Nat→U)(l:List o7):Prop:=∀ e ∈ l,e.ok E
def Lg.le(a b:Lg):Prop:=a.log <:+ b.log
def Lg.le.refl(a:Lg):a.le a:=List.suffix_refl _
def Lg.le.trans{a b c:Lg}(h:a.le b)(k:b.le c):a.le c:=List.IsSuffix.trans h k
def U3.le{E:Nat→U}{a b:Lg}(h:U3 E b.log)(k:a.le b):U3 E a.log:=fun e he=>h e (k.subset he)
variable [Ora]
abbrev Sat(lg:Lg):Prop:=U3 Ora.env lg.log
omit [Ora] in
def TT{u:U}(h:G7 u<10):∃ v,toV u=some v∧ofV (some v)=u∧H5 v=G7 u:=by
 cases u with
 | none=>simp[G7]at h
 | seq _ _ _=>simp only[G7]at h;omega
 | int k n=>exact⟨_,rfl,rfl,rfl⟩
 | bool b=>exact⟨_,rfl,rfl,rfl⟩
 | str s=>exact⟨_,rfl,rfl,rfl⟩
def IH(h:G7 (ofV o)<10):∃ v,o=some v∧toV (ofV o)=some v:=by
 unfold ofV at h;split at h
 ·exact⟨_,rfl,rfl⟩
 ·exact⟨_,rfl,rfl⟩
 ·rename_i s;refine⟨_,rfl,?_⟩;simp[ofV,toV]
 ·simp[G7]at h
def N0(k:IntKind):jV k<8:=by cases k<;>decide
theorem aW{ρ:Ren}{v v':Value}(h:VR ρ v v')(ht:H5 v<10):toV (E5 Ora.env v)=some v'∧G7 (E5 Ora.env v)=H5 v:=by
 cases h with
 | pure hp =>
   cases v<;>simp only[H5]at ht<;>first
    | exact⟨rfl,rfl⟩
    | (exfalso;omega)
    | (simp[J1]at hp)
 | hole h ht2=>exact⟨h,ht2⟩
 | junk=>simp[H5]at ht
 | ixp _ _ _ _ _=>simp[H5,ixp]at ht
 | dat _ _ _ _ _=>simp[H5,Go.Sx.dat]at ht
 | clp _ _ _ _ _ _=>simp[H5,Go.Sx.clp]at ht
 | own _ _ _=>simp[H5,Go.Sx.own]at ht
 | dpt _ _ _=>simp[H5,Go.Sx.dpt]at ht
 | opt _ _ _=>simp[H5,Go.Sx.opt]at ht
 | yv _=>simp[H5,Go.Sx.yv]at ht
 | sdt _=>simp[H5,Go.Sx.sdt]at ht
 | _=>simp[H5]at ht
def P8{ρ:Ren}(h:VR ρ v v')(ht:H5 v<8):∃ k n,v'=.int k n∧E5 Ora.env v=.int k n∧H5 v=jV k:=by
 obtain⟨h1,h2⟩:=aW h A1;cases hu:E5 Ora.env v with
 | int k n=>rw[hu]at h1 h2;cases h1;exact⟨k,n,rfl,rfl,h2.symm⟩
 | bool b=>rw[hu]at h2;simp only[G7]at h2;omega
 | str s=>rw[hu]at h2;simp only[G7]at h2;omega
 | none=>rw[hu]at h1;cases h1
 | seq _ _ _=>rw[hu]at h1;cases h1
def jL{ρ:Ren}(h:VR ρ v v')(ht:H5 v=8):∃ b,v'=.bool b∧E5 Ora.env v=.bool b:=by
 obtain⟨h1,h2⟩:=aW h A1;cases hu:E5 Ora.env v with
 | int k n=>rw[hu]at h2;simp only[G7]at h2;have:=N0 k;omega
 | bool b=>rw[hu]at h1;cases h1;exact⟨b,rfl,rfl⟩
 | str s=>rw[hu]at h2;simp only[G7]at h2;omega
 | none=>rw[hu]at h1;cases h1
 | seq _ _ _=>rw[hu]at h1;cases h1
def cV{ρ:Ren}(h:VR ρ v v')(ht:H5 v=9):∃ s,v'=.string ⟨⟨s⟩⟩∧E5 Ora.env v=.str s:=by
 obtain⟨h1,h2⟩:=aW h A1;cases hu:E5 Ora.env v with
 | int k n=>rw[hu]at h2;simp only[G7]at h2;have:=N0 k;omega
 | bool b=>rw[hu]at h2;simp only[G7]at h2;omega
 | str s=>rw[hu]at h1;cases h1;exact⟨s,rfl,rfl⟩
 | none=>rw[hu]at h1;cases h1
 | seq _ _ _=>rw[hu]at h1;cases h1
def pH{m m':Mem}{t:Nat}{op:LOp}(h:Z1 m t op xs=some (v,m')):v=hole m.lg.nx t∧m'=m.wLg ⟨m.lg.nx+1,m.lg.pi,.lt m.lg.nx t op xs::m.lg.log⟩:=by
 obtain⟨H,n,W,hi,⟨nx,pi,log⟩⟩:=m;simp only[Z1,F5,I6]at h;cases h;exact⟨rfl,rfl⟩
def N6{m m':Mem}{t:Nat}{op:LOp}(h:Z1 m t op xs=some (v,m'))(hS:Sat m'.lg):∃ u,evU op (xs.map (E5 Ora.env))=u∧G7 u=t∧∃ r,toV u=some r∧(∀ ρ,VR ρ v r)∧t<10:=by
 obtain⟨rfl,rfl⟩:=pH h;obtain⟨h1,h2,h3⟩:=hS (.lt m.lg.nx t op xs) (by cases m;exact C5);refine⟨_,rfl,h1▸h2,?_⟩;obtain⟨r,h4,_⟩:=TT (u:=Ora.env m.lg.nx) A1;exact⟨r,h1▸h4,fun ρ=>.hole h4 h2,h3⟩
section
variable {P:Program} {base:Nat} {ρ:Ren} {m m':Mem} {w:World}
def St.wLg(h:HR P base ρ m.H w)(lg:Lg):St P base ρ ρ m (m.wLg lg) w w:=by
 obtain⟨H,n,W,hi,l⟩:=m;have r:=St.refl (m:=⟨H,n,W,hi,l⟩) h;exact⟨r.ext,r.new,r.nle,r.hle,r.nhi,r.hr,r.wsub,r.wrw,r.keep,r.size,r.os,r.blk,r.same,r.tch⟩
def cM:∀ {l:List o7} {i:Nat} {b:Bool},BV l i=some b→o7.br i b ∈ l
 | [],_,_,h=>by cases h
 | .br j c::r,i,b,h=>by
   rw[BV]at h;cases hq:Nat.beq j i with
   | true=>rw[hq]at h;cases h;rw[A0 hq];exact C5
   | false=>rw[hq]at h;exact C7 _ (cM h)
 | .lt _ _ _ _::r,i,b,h=>C7 _ (cM (l:=r) h)
 | .dt _ _ _ _::r,i,b,h=>C7 _ (cM (l:=r) h)
 | .as _ _::r,i,b,h=>C7 _ (cM (l:=r) h)
 | .con _ _ _ _ _::r,i,b,h=>C7 _ (cM (l:=r) h)
def oI{lg lg':Lg}{b:Bool}(h:brL lg c=some (b,lg')):lg.le lg':=by
 unfold brL at h;split at h
 ·cases h;exact .refl _
 ·obtain⟨nx,pi,log⟩:=lg;simp only at h;split at h
  ·cases h;exact .refl _
  ·split at h
   ·cases h;exact⟨[_],rfl⟩
   ·cases h;exact⟨[_],rfl⟩
   ·cases h
 ·cases h
def qZ{lg lg':Lg}{b:Bool}(h:brL lg c=some (b,lg'))(hc:VR ρ c c')(hS:Sat lg'):c'=.bool b:=by
 unfold brL at h;split at h
 ·cases h;exact dI hc
 ·rename_i i;have hb:Ora.env i=.bool b:=by
   obtain⟨nx,pi,log⟩:=lg;simp only at h;split at h
   ·rename_i b' hf;cases h;exact hS _ (cM hf)
   ·split at h
    ·cases h;exact hS (.br i true) C5
    ·cases h;exact hS (.br i false) C5
    ·cases h
  obtain⟨b',h1,h2⟩:=jL hc rfl;have h2:Ora.env i=.bool b':=h2;rw[hb]at h2;cases h2;exact h1
 ·cases h
def xD:∀ {a b:List U} {z:Bool},a.length%2=0→oA (a++b)=some z→∃ x y,oA a=some x∧oA b=some y∧z=(x && y)
 | [],b,z,_,h=>⟨true,z,rfl,h,rfl⟩
 | [_],_,_,hl,_=>by simp at hl
 | p::q::r,b,z,hl,h=>by
   simp only[V1]at h;unfold oA at h;split at h
   ·rename_i u v e1 e2;cases h;obtain⟨x,y,h1,h2,rfl⟩:=xD (by simp only[B3]at hl;omega) e2;exact⟨u && x,y,by simp only[oA,e1,h1],h2,by simp[Bool.and_assoc]⟩
   ·cases h
def XY(h:gP P t x y=true)(hx:VR ρ x x')(hy:VR ρ y y'){b:Bool}(hb:eqU (E5 Ora.env x) (E5 Ora.env y)=some b)(n:Nat)(w:World):(Op.equalIn (n+1) t x' y').run P w=.ok b w:=by
 unfold gP at h;split at h
 ·rename_i hu;obtain⟨h1,h2⟩:=B8 h;obtain⟨p,rfl,e1⟩:=jL hx (A0 h1);obtain⟨q,rfl,e2⟩:=jL hy (A0 h2);rw[e1,e2]at hb;cases hb;simp[Op.equalIn,A6,D6 hu,Result.andThen]
 ·rename_i k hu;obtain⟨h1,h2⟩:=B8 h;have h1:=A0 h1;have h2:=A0 h2;obtain⟨k1,p,rfl,e1,f1⟩:=P8 hx (by have:=N0 k;omega);obtain⟨k2,q,rfl,e2,f2⟩:=P8 hy (by have:=N0 k;omega);have g1:k1=k:=by cases k1<;>cases k<;>first|rfl|(simp only[jV]at f1 h1;omega)
  have g2:k2=k:=by cases k2<;>cases k<;>first|rfl|(simp only[jV]at f2 h2;omega)
  subst g1;subst g2;rw[e1,e2]at hb;simp[eqU]at hb;subst hb;simp[Op.equalIn,A6,D6 hu,Result.andThen]
 ·rename_i hu;obtain⟨h1,h2⟩:=B8 h;obtain⟨p,rfl,e1⟩:=cV hx (A0 h1);obtain⟨q,rfl,e2⟩:=cV hy (A0 h2);rw[e1,e2]at hb;cases hb
  have:=run_equalIn_string (P:=P) w n t ⟨⟨p⟩⟩ ⟨⟨q⟩⟩ hu;rw[this];simp[ByteArray.toList_eq]
 ·cases h
mutual
def WF:∀ (d:Nat) (t:TypeId) (x y:Value) (l:List Value),eqS P d t x y=some l→l.length%2=0
 | 0,_,_,_,_,h=>by simp[eqS]at h
 | d+1,t,x,y,l,h=>by
   unfold eqS at h;cases hs:gP P t x y with
   | true=>rw[hs]at h;cases h;simp
   | false =>
     rw[hs]at h;simp only[E7]at h;split at h
     ·rename_i fs xs ys hu;cases hst:P.stoodInHeld t with
      | true=>rw[hst]at h;cases h
      | false=>rw[hst]at h;exact BZ d _ _ _ l h
     ·split at h
      ·exact BZ d _ _ _ l h
      ·cases h
     ·cases h
def BZ:∀ (d:Nat) (fs:List Field) (xs ys:List Value) (l:List Value),CA P d fs xs ys=some l→l.length%2=0
 | 0,_,_,_,_,h=>by simp[CA]at h
 | d+1,[],_,_,_,h=>by simp only[CA,D7]at h;subst h;rfl
 | d+1,f::fs,xs,ys,l,h=>by
   unfold CA at h;cases hnm:f.name == "_" with
   | true=>rw[hnm]at h;cases h
   | false =>
     rw[hnm]at h;simp only[E7]at h;split at h
     ·split at h
      ·rename_i a b ha hb;cases h
       have:=WF d _ _ _ a ha
       have:=BZ d _ _ _ b hb;simp only[A7];omega
      ·cases h
     ·cases h
end
mutual
def SR:∀ (d:Nat) (t:TypeId) (x y x' y':Value) (l:List Value) (b:Bool),eqS P d t x y=some l→oA (l.map (E5 Ora.env))=some b→VR ρ x x'→VR ρ y y'→∀ (n:Nat),d≤n→∀ w:World,(Op.equalIn n t x' y').run P w=.ok b w
 | 0,_,_,_,_,_,_,_,h,_,_,_,_,_,_=>by simp[eqS]at h
 | d+1,t,x,y,x',y',l,b,h,hl,hx,hy,n,hn,w=>by
   obtain⟨n,rfl⟩:∃ k,n=k+1:=⟨n-1,A1⟩;have hn':d≤n:=A1;unfold eqS at h;cases hs:gP P t x y with
   | true =>
     rw[hs]at h;cases h;simp only[E9,J7,oA]at hl;split at hl
     ·rename_i u v e1 e2;cases e2;cases hl;rw[jD];exact XY hs hx hy e1 n w
     ·cases hl
   | false =>
     rw[hs]at h;simp only[E7]at h;split at h
     ·rename_i fs xs ys hu;cases hst:P.stoodInHeld t with
      | true=>rw[hst]at h;cases h
      | false =>
        rw[hst]at h;obtain⟨xs',rfl,hx1⟩:=Y9 hx;obtain⟨ys',rfl,hy1⟩:=Y9 hy;have hf:P.fieldsOf t=fs:=by simp[Program.fieldsOf,hu]
        rw[run_equalIn_struct (P:=P) w n t _ _ (by rw[hf];exact hu) hst,hf];exact JO d fs.toList xs.toList ys.toList xs' ys' l b h hl hx1 hy1 n hn' w
     ·rename_i k e xs ys hu;split at h
      ·rename_i s hz;obtain⟨xs',rfl,hx1⟩:=Y9 hx;obtain⟨ys',rfl,hy1⟩:=Y9 hy;obtain⟨i,hi,rfl⟩:=EM hz;rw[run_equalIn_array (P:=P) (w:=w) n _ _ hu hi,show P.cellsOf e=i.size by simp[Program.cellsOf,hi],gS];exact JO d _ xs.toList ys.toList xs' ys' l b h hl hx1 hy1 n hn' w
      ·cases h
     ·cases h
def JO:∀ (d:Nat) (fs:List Field) (xs ys xs' ys':List Value) (l:List Value) (b:Bool),CA P d fs xs ys=some l→oA (l.map (E5 Ora.env))=some b→LR ρ xs xs'→LR ρ ys ys'→∀ (n:Nat),d≤n→∀ w:World,(Op.eqFields n ⟨xs'⟩ ⟨ys'⟩ fs).run P w=.ok b w
 | 0,_,_,_,_,_,_,_,h,_,_,_,_,_,_=>by simp[CA]at h
 | d+1,[],_,_,_,_,_,b,h,hl,_,_,_,_,_=>by
   simp only[CA,D7]at h;subst h;simp only[J7,oA,D7]at hl;subst hl;simp[Op.eqFields]
 | d+1,f::fs,xs,ys,xs',ys',l,b,h,hl,hx,hy,n,hn,w=>by
   unfold CA at h;cases hnm:f.name == "_" with
   | true=>rw[hnm]at h;cases h
   | false =>
     rw[hnm]at h;simp only[E7]at h;have hn':f.name ≠ "_":=by simpa using hnm
     split at h
     ·rename_i x y h1 h2;obtain⟨x',g1,g2⟩:=jR h1 hx w;obtain⟨y',g3,g4⟩:=jR h2 hy w;split at h
      ·rename_i a c ha hc;cases h;rw[N4]at hl;obtain⟨p,q,e1,e2,rfl⟩:=xD (by have:=WF d _ _ _ a ha;simpa using this) hl;have ih:=SR d f.type x y x' y' a p ha e1 g2 g4 n A1 w;have ih2:=JO d fs xs ys xs' ys' c q hc e2 hx hy n A1 w;unfold Op.eqFields;rw[A4 hn'];cases p<;>simp[A6,g1,g3,Result.andThen,ih,ih2]
      ·cases h
     ·cases h
end
end
end
section
open Go
variable [Ora]
section
variable {P:Program} {base:Nat} {ρ:Ren} {m m':Mem} {w w':World}
def St.new0{ab:AB}(h:HR P base ρ m.H w)(hn:p9 m ab k=some (v,m'))(hf:L6 ρ m.n m'.hi)(hb:BR P (upd ρ m.n l') ab l' w)(hon:l'.on=false)
  (hT:∀ q,Tc ab l' q→Fp ρ m.H q∧∀ id,id≤I4→∀ a l,Hp.get m.H id=some a→ρ id=some l→a.rw=true→l.on=true→l.blk≠q):v=k m.n∧upd ρ m.n l' m.n=some l'∧St P base ρ (upd ρ m.n l') m m' w w:=by
 obtain⟨hle,hv,rfl⟩:=N5 hn;have hfree:ρ m.n=none:=hf m.n (B0 _) (M5 _ _).2;have hext:=j9 (l:=l') hfree;refine⟨hv,N1 _ _ _,hext,fun b q h1 h2=>?_,by simp,(M5 _ _).1,fun _=>m5 (M5 _ _).2,⟨fun b q hq=>?_,fun id hid a ha=>?_⟩,fun b hb=>hb,fun b h1 h2=>absurd h1 h2,fun q hq _=>rfl,B0 _,⟨rfl,rfl,rfl⟩,fun b q h1 h2 ho=>?_,fun id hid h1 h2=>?_,fun q ⟨id,a,l,hid,ha,hl,ht⟩=>.inr ?_⟩
 ·obtain⟨rfl,rfl⟩:=X4 h1 h2;exact⟨B0 _,K3 _⟩
 ·cases h0:ρ b with
  | some k0=>exact h.dom b k0 h0
  | none=>obtain⟨rfl,rfl⟩:=X4 hq h0;exact hle
 ·rw[F7 _ _ _ _ hle hid]at ha;by_cases e:id=m.n
  ·rw[A4 e]at ha;have ha:=B1 ha;subst ha;subst e;exact⟨l',N1 _ _ _,hb,fun _ ho=>(by rw[hon]at ho;cases ho)⟩
  ·rw[A3 e]at ha;obtain⟨l0,h1,h2,h3⟩:=h.at_ id hid a ha;refine⟨l0,hext _ _ h1,h2.mono hext (fun _ _=>rfl),fun hr ho=>⟨(h3 hr ho).1,fun id2 hid2 ab2 l2 g1 g2 g3=>?_⟩⟩;rw[F7 _ _ _ _ hle hid2]at g1;by_cases e2:id2=m.n
   ·subst e2;rw[N1]at g2
    have:=B1 g2;subst this;rw[A4 rfl]at g1;have g1:=B1 g1;subst g1;exact absurd rfl ((hT _ g3).2 id hid a l0 ha h1 hr ho)
   ·rw[A3 e2]at g1;unfold upd at g2;rw[A3 e2]at g2;exact(h3 hr ho).2 id2 hid2 ab2 l2 g1 g2 g3
 ·obtain⟨rfl,rfl⟩:=X4 h1 h2;rw[hon]at ho;cases ho
 ·rw[F7 _ _ _ _ hle hid,A3];intro e;subst e;rcases h2 with h2|h2
  ·omega
  ·have h2:upN m.hi m.n≤m.n:=h2
   have:=(M5 m.hi m.n).2;omega
 ·have ha:Hp.get (m.H.set m.n (some ab)) id=some a:=ha;rw[F7 _ _ _ _ hle hid]at ha;by_cases e:id=m.n
  ·subst e;rw[A4 rfl]at ha;have ha:=B1 ha;subst ha;rw[N1]at hl;have hl:=B1 hl;subst hl;exact(hT q ht.2).1
  ·rw[A3 e]at ha;unfold upd at hl;rw[A3 e]at hl;exact⟨id,a,l,hid,ha,hl,ht⟩
def St.same0{ab:AB}{id:Nat}(h:HR P base ρ m.H w)(hs:gA m id ab'=some m')(hg:Hp.get m.H id=some ab)(hrw:ab.rw=true)(hl:ρ id=some l)(hb:BR P ρ ab' l w)(hT:∀ q,Tc ab' l q→Tc ab l q):St P base ρ ρ m m' w w:=by
 obtain⟨hle,rfl⟩:=X5 hs;obtain⟨h2,h3⟩:=h.atl hl hg;refine⟨fun _ _ h=>h,fun b k h1 h2=>(by rw[h1]at h2;cases h2),B0 _,B0 _,fun h=>h,⟨h.dom,fun id2 hid2 a ha=>?_⟩,fun b hb=>C7 _ hb,fun b h1 h2 k hk'=>?_,fun k hk' hb'=>rfl,B0 _,⟨rfl,rfl,rfl⟩,fun b k h1 h2=>(by rw[h1]at h2;cases h2),fun id2 hid2 h4 h5=>?_,fun k ⟨id2,a,q,hid2,ha,hq,ht⟩=>.inr ?_⟩
 ·rw[F7 _ _ _ _ hle hid2]at ha;by_cases e:id2=id
  ·rw[A4 e]at ha;have ha:=B1 ha;subst ha;subst e;refine⟨l,hl,hb,fun _ ho'=>⟨(h3 hrw ho').1,fun id3 hid3 ab3 l3 g1 g2 g3=>?_⟩⟩;rw[F7 _ _ _ _ hle hid3]at g1;by_cases e3:id3=id2
   ·exact e3
   ·rw[A3 e3]at g1;exact(h3 hrw ho').2 id3 hid3 ab3 l3 g1 g2 g3
  ·rw[A3 e]at ha;obtain⟨l2,g1,g2,g3⟩:=h.at_ id2 hid2 a ha;refine⟨l2,g1,g2.mono (fun _ _ h=>h) (fun k hk'=>rfl),fun hr ho'=>⟨(g3 hr ho').1,fun id3 hid3 ab3 l3 f1 f2 f3=>?_⟩⟩;rw[F7 _ _ _ _ hle hid3]at f1;by_cases e3:id3=id
   ·subst e3;rw[hl]at f2
    have:=B1 f2;subst this;have f1:=B1 (by simpa using f1);subst f1;exact(g3 hr ho').2 id3 hid3 ab l hg hl (hT _ f3)
   ·rw[A3 e3]at f1;exact(g3 hr ho').2 id3 hid3 ab3 l3 f1 f2 f3
 ·rcases C6.1 h1 with rfl|h1
  ·exact⟨ab,hg,hrw⟩
  ·exact absurd h1 h2
 ·rw[F7 _ _ _ _ hle hid2,A3];intro e;subst e;exact h4 C5
 ·have ha:Hp.get (m.H.set id (some ab')) id2=some a:=ha;rw[F7 _ _ _ _ hle hid2]at ha;by_cases e:id2=id
  ·subst e;rw[A4 rfl]at ha;have ha:=B1 ha;subst ha;rw[hl]at hq;have hq:=B1 hq;subst hq;exact⟨id2,ab,l,hid2,hg,hl,AB.rw_fr hrw,hT _ ht.2⟩
  ·rw[A3 e]at ha;exact⟨id2,a,q,hid2,ha,hq,ht⟩
def St.move{ab:AB}{id:Nat}(h:HR P base ρ m.H w)(hle:id≤I4)(hg:Hp.get m.H id=some ab)(hrw:ab.rw=true)(hl:ρ id=some l)
  (hn:p9 (lS m id) ab' k=some (v,m')) (hf:L6 ρ m.n m'.hi) (hbl:l'.on=true→l.on=true∧l'.blk=l.blk)
  (ho:w'.os=w.os∧w'.tape=w.tape∧w'.output=w.output) (hsz:w'.heap.size=w.heap.size) (hk:∀ k,(l.on=true→k≠l.blk)→w'.heap[k]? = w.heap[k]?) (hb:BR P (upd ρ m.n l') ab' l' w') (hfz:ab'≠.frz) :
  v=k m.n∧upd ρ m.n l' m.n=some l'∧St P base ρ (upd ρ m.n l') m m' w w':=by
 rw[v7]at hn;obtain⟨hnm,hv,rfl⟩:=N5 hn;have hfree:ρ m.n=none:=hf m.n (B0 _) (M5 _ _).2;have hext:=j9 (l:=l') hfree;obtain⟨h2,h3⟩:=h.atl hl hg;have hTc:∀ k,Tc ab' l' k→l.on=true∧k=l.blk:=fun k hk=>by
  rcases hk with⟨_,h1,rfl⟩|⟨rfl,_⟩
  ·exact hbl h1
  ·exact absurd rfl hfz
 have hne:id≠m.n:=fun e=>by subst e;rw[hl]at hfree;cases hfree
 have hget:∀ i,i≤I4→Hp.get ((m.H.set id none).set m.n (some ab')) i=if i=m.n then some ab' else if i=id then none else Hp.get m.H i:=fun i hi=>by
  rw[F7 _ _ _ _ hnm hi,F7 _ _ _ _ hle hi]
 refine⟨hv,N1 _ _ _,hext,fun b q h1 h2=>?_,c8 _,(M5 _ _).1,fun _=>m5 (M5 _ _).2,⟨fun b q hq=>?_,fun i hi a ha=>?_⟩,fun b hb=>C7 _ hb,fun b h1 h2 q hq=>?_,fun q hq hb'=>hk q ?_,by rw[hsz];exact B0 _,ho,fun b q h1 h2 ho'=>?_,fun i hi h4 h5=>?_,fun k ⟨i,a,q,hi,ha,hq,ht⟩=>.inr ?_⟩
 ·obtain⟨rfl,rfl⟩:=X4 h1 h2;exact⟨B0 _,K3 _⟩
 ·cases h0:ρ b with
  | some q0=>exact h.dom b q0 h0
  | none=>obtain⟨rfl,rfl⟩:=X4 hq h0;exact hnm
 ·have ha:Hp.get ((m.H.set id none).set m.n (some ab')) i=some a:=ha;rw[hget i hi]at ha;by_cases e:i=m.n
  ·rw[A4 e]at ha;have ha:=B1 ha;subst ha;subst e;refine⟨l',N1 _ _ _,hb,fun hr' ho'=>?_⟩;obtain⟨hon,hblk⟩:=hbl ho';refine⟨by rw[hblk];exact(h3 hrw hon).1,fun id2 hid2 ab2 l2 g1 g2 g3=>?_⟩;rw[hget id2 hid2]at g1;by_cases e2:id2=m.n
   ·exact e2
   ·rw[A3 e2]at g1;unfold upd at g2;rw[A3 e2]at g2;by_cases e3:id2=id
    ·rw[A4 e3]at g1;cases g1
    ·rw[A3 e3]at g1;exact absurd ((h3 hrw hon).2 id2 hid2 ab2 l2 g1 g2 (hblk▸g3)) e3
  ·rw[A3 e]at ha;by_cases e3:i=id
   ·rw[A4 e3]at ha;cases ha
   ·rw[A3 e3]at ha;obtain⟨l2,g1,g2,g3⟩:=h.at_ i hi a ha;have hnb:∀ k,Tc a l2 k→l.on=true→k≠l.blk:=fun k hk' hon hh=>e3 ((h3 hrw hon).2 i hi a l2 ha g1 (hh▸hk'))
    refine⟨l2,hext _ _ g1,g2.mono hext (fun k hk'=>hk _ (hnb k hk')),fun hr ho'=>⟨(g3 hr ho').1,fun id3 hid3 ab3 l3 f1 f2 f3=>?_⟩⟩;have f1:Hp.get ((m.H.set id none).set m.n (some ab')) id3=some ab3:=f1;rw[hget id3 hid3]at f1;by_cases e4:id3=m.n
    ·subst e4;rw[N1]at f2
     have:=B1 f2;subst this;rw[A4 rfl]at f1;have f1:=B1 f1;subst f1;obtain⟨hon,hq⟩:=hTc _ f3;exact absurd hq (hnb _ (.inl ⟨AB.rw_on hr,ho',rfl⟩) hon)
    ·rw[A3 e4]at f1;unfold upd at f2;rw[A3 e4]at f2;by_cases e5:id3=id
     ·rw[A4 e5]at f1;cases f1
     ·rw[A3 e5]at f1;exact(g3 hr ho').2 id3 hid3 ab3 l3 f1 f2 f3
 ·rcases C6.1 h1 with rfl|h1
  ·exact⟨ab,hg,hrw⟩
  ·exact absurd h1 h2
 ·exact fun hon e=>hb' id C5 l hl hon e.symm
 ·obtain⟨rfl,rfl⟩:=X4 h1 h2;obtain⟨hon,hblk⟩:=hbl ho';exact .inr ⟨id,C5,l,hl,hon,hblk.symm⟩
 ·have hgi:=hget i hi;show Hp.get ((m.H.set id none).set m.n (some ab')) i=_;rw[hgi,A3,A3]
  ·intro e;subst e;exact h4 C5
  ·intro e;subst e;rcases h5 with h5|h5
   ·omega
   ·have h5:upN m.hi m.n≤m.n:=h5
    have:=(M5 m.hi m.n).2;omega
 ·have ha:Hp.get ((m.H.set id none).set m.n (some ab')) i=some a:=ha;rw[hget i hi]at ha;by_cases e:i=m.n
  ·rw[A4 e]at ha;have ha:=B1 ha;subst ha;subst e;rw[N1]at hq;have hq:=B1 hq;subst hq;obtain⟨hon,hb⟩:=hTc k ht.2;exact⟨id,ab,l,hle,hg,hl,AB.rw_fr hrw,.inl ⟨AB.rw_on hrw,hon,hb.symm⟩⟩
  ·rw[A3 e]at ha;unfold upd at hq;rw[A3 e]at hq;by_cases e3:i=id
   ·rw[A4 e3]at ha;cases ha
   ·rw[A3 e3]at ha;exact⟨i,a,q,hi,ha,hq,ht⟩
end
end
section
open Go
variable [Ora]
def cY{m m':Mem}{ab:AB}(h:p9 m ab k=some (v,m')):m'.lg=m.lg:=by
 obtain⟨_,_,rfl⟩:=N5 h;rfl
def oU{m m':Mem}{id:Nat}{ab:AB}(h:gA m id ab=some m'):m'.lg=m.lg:=by
 obtain⟨_,rfl⟩:=X5 h;rfl
def uO{m m':Mem}(h:qF m a vs=some m'):m'.lg=m.lg:=by
 unfold qF at h;split at h
 ·obtain⟨_,h⟩:=A5 h;rw[I6]at h;exact oU h
 ·cases h
def XP{P:Program}{m m':Mem}(h:zV P m t a v=some m'):m'.lg=m.lg:=by
 unfold zV at h;split at h
 ·obtain⟨_,h⟩:=A5 h;exact uO h
 ·cases h
def y9{m m':Mem}(h:noM o m=some (v,m')):m'.lg=m.lg:=by
 obtain⟨_,rfl⟩:=v6 h;rfl
def CQ{P:Program}{m m':Mem}{n:Nat}{ps:List (Nat×Value)}(h:dO P m t n ps=some (v,m')):m'.lg=m.lg:=by
 unfold dO at h;split at h
 ·split at h
  ·obtain⟨_,h⟩:=A5 h;split at h
   ·exact cY h
   ·cases h
  ·cases h
 ·cases h
def DQ{P:Program}{m m':Mem}{l:Value}(h:gL P m t l c=some (v,m')):m'.lg=m.lg:=by
 unfold gL at h;split at h
 ·split at h
  ·obtain⟨_,h⟩:=A5 h;split at h
   ·rw[I6]at h;exact cY h
   ·cases h
  ·cases h
 ·cases h
def A3i{P:Program}{m m':Mem}(h:GN P m s t x=some (v,m')):m'.lg=m.lg:=by
 unfold GN at h;split at h
 ·cases h;rfl
 ·cases h;rfl
 ·cases h;rfl
 ·split at h
  ·split at h
   ·rw[I6]at h;exact cY h
   ·cases h
  ·cases h
 ·split at h<;>cases h;rfl
 ·split at h
  ·split at h
   ·split at h<;>cases h;rfl
   ·cases h
  ·cases h
 ·cases h
def TF{P:Program}{m m':Mem}(h:uJ P m t t2 x y=some (v,m')):m'.lg=m.lg:=by
 unfold uJ at h;split at h
 ·rename_i e0 d2 _ _;cases hq:dX d2 with
  | false=>rw[hq]at h;cases h
  | true =>
  rw[hq]at h;simp only[Q3,E7]at h;split at h
  ·rename_i i a n c _;split at h
   ·rename_i k new z _ _;obtain⟨_,h⟩:=A5 h;cases hk:Nat.beq k 0 with
    | true =>
      rw[hk]at h;simp only[F0]at h;split at h
      ·obtain⟨_,h⟩:=A5 h;cases h;rfl
      ·obtain⟨_,h⟩:=A5 h;cases h;rfl
    | false =>
      rw[hk]at h;simp only[E7]at h;split at h
      ·obtain⟨_,h⟩:=A5 h;rw[I6]at h;exact cY h
      ·cases hc:Nat.blt c O6 with
       | true =>
         rw[hc]at h;simp only[F0]at h;cases hn:Nat.ble (n+k) c with
         | true =>
           rw[hn]at h;simp only[F0]at h;split at h
           ·rename_i m1 _ hw;cases h;exact uO hw
           ·cases h
         | false =>
           rw[hn]at h;simp only[E7]at h;split at h
           ·rw[I6]at h;exact cY h
           ·cases h
       | false =>
         rw[hc]at h;simp only[E7]at h;obtain⟨_,h⟩:=A5 h;split at h
         ·obtain⟨_,h⟩:=A5 h;rw[I6]at h;rw[cY h,v7]
         ·cases h
   ·cases h
  ·cases h
 ·cases h
def A3f{P:Program}{m m':Mem}(h:PH P m t x y=some (v,m')):m'.lg=m.lg:=by
 unfold PH at h;split at h
 ·split at h
  ·split at h
   ·split at h
    ·obtain⟨_,h⟩:=A5 h;cases h;rfl
    ·rename_i k cs hq0 _ ad;cases hz:Nat.beq cs.length 0 with
     | true=>rw[hz]at h;cases h;rfl
     | false =>
       rw[hz]at h;simp only[E7]at h;obtain⟨_,h⟩:=A5 h;split at h
       ·rename_i hw;cases h;exact uO hw
       ·cases h
   ·cases h
  ·cases h
 ·cases h
def DD{P:Program}{m m':Mem}{l:Value}(h:fU P m pt p l=some (v,m')):m'.lg=m.lg:=by
 unfold fU at h;split at h
 ·cases h;rfl
 ·split at h
  ·split at h
   ·obtain⟨_,h⟩:=A5 h;split at h
    ·split at h
     ·rename_i cL;cases h;exact oU cL
     ·cases h
    ·cases h
   ·cases h
  ·cases h
 ·cases h
def PV{P:Program}{m m':Mem}(h:kE P m b vs tys=some (v,m')):m'.lg=m.lg:=by
 unfold kE at h;split at h
 ·exact y9 h
 ·exact y9 h
 ·exact TF h
 ·exact A3f h
 ·exact y9 h
 ·exact y9 h
 ·unfold kQ at h;split at h
  ·cases h;rfl
  ·rename_i a n c;cases hq:Nat.beq n 0 || Nat.beq c 0 || Nat.beq c (O6+2)with
   | true=>rw[hq]at h;cases h
   | false=>rw[hq]at h;cases h;rfl
  ·cases h
 ·exact DD h
 ·cases h
def B0I{P:Program}{fr:Fr}{m m':Mem}{o:Op}(h:opM P fr m o=some (v,m')):m'.lg=m.lg:=by
 unfold opM at h;split at h
 ·cases h;rfl
 ·cases h;rfl
 ·unfold UU at h;split at h<;>cases h<;>rfl
 ·unfold IK at h;split at h
  ·exact cY h
  ·cases h
 ·unfold A1t at h;obtain⟨_,h⟩:=A5 h;exact cY h
 ·exact y9 h
 ·exact CQ h
 ·unfold UV at h;split at h
  ·exact y9 h
  ·cases h
 ·unfold II at h;split at h
  ·obtain⟨h,_⟩:=pE h;exact XP h
  ·cases h
 ·unfold A1s at h;split at h<;>cases h<;>rfl
 ·unfold A5G at h;rename_i op t x y yt;cases hq:BL op with
  | true=>rw[hq]at h;simp only[F0]at h;obtain⟨_,h⟩:=A5 h;exact y9 h
  | false=>rw[hq]at h;exact y9 h
 ·exact y9 h
 ·exact A3i h
 ·unfold IJ at h;split at h
  ·split at h
   ·cases h
   ·obtain⟨_,h⟩:=A5 h;cases h;rfl
  ·cases h
 ·cases h;rfl
 ·exact DQ h
 ·exact y9 h
 ·exact y9 h
 ·exact y9 h
 ·exact y9 h
 ·exact y9 h
 ·unfold nC at h;split at h
  ·exact y9 h
  ·cases h
 ·exact PV h
 ·cases h
def K2{m m':Mem}{t:Nat}{op:LOp}(h:Z1 m t op xs=some (v,m')):m.lg.le m'.lg:=by
 obtain⟨_,rfl⟩:=pH h;obtain⟨H,n,W,hi,l⟩:=m;exact⟨[_],rfl⟩
def L3(m m':Mem):Prop:=∃ lg,m'=m.wLg lg
def L3.refl(m:Mem):L3 m m:=⟨m.lg,by cases m;rfl⟩
def L3.trans{a b c:Mem}(h:L3 a b)(k:L3 b c):L3 a c:=by
 obtain⟨l,rfl⟩:=h;obtain⟨l2,rfl⟩:=k;exact⟨l2,by cases a;rfl⟩
def J3{m m':Mem}{t:Nat}{op:LOp}(h:Z1 m t op xs=some (v,m')):L3 m m':=⟨_,(pH h).2⟩
section
variable {P:Program} {base:Nat} {ρ:Ren} {m m':Mem} {w:World}
def QP{a b:Value}(h:yM m c a b=some (v,m')):m.lg.le m'.lg∧L3 m m':=by
 obtain⟨H,n,W,hi,lg⟩:=m;unfold yM at h;simp only at h;split at h
 ·rename_i lg' hb;cases h;exact⟨oI hb,⟨_,rfl⟩⟩
 ·rename_i lg' hb;cases h;exact⟨oI hb,⟨_,rfl⟩⟩
 ·cases h
def XM{a b:Value}(h:qG P m op t a b=some (v,m')):m.lg.le m'.lg∧L3 m m':=by
 unfold qG at h;simp only at h;cases h1:(Nat.blt (H5 a) 8 && Nat.blt (H5 b) 8) || (Nat.beq (H5 a) 9 && Nat.beq (H5 b) 9)with
 | true=>rw[h1]at h;exact⟨K2 h,J3 h⟩
 | false =>
   rw[h1]at h;simp only[E7]at h;obtain⟨_,h⟩:=A5 h;exact⟨K2 h,J3 h⟩
def A0U{x y:Operand}{a b:Value}(h:LK P m op t x y a b=some (v,m')):m.lg.le m'.lg∧L3 m m':=by
 unfold LK at h;obtain⟨_,h⟩:=A5 h;split at h
 ·exact⟨K2 h,J3 h⟩
 ·split at h
  ·rename_i m1 h1;exact⟨(K2 h1).trans (K2 h),(J3 h1).trans (J3 h)⟩
  ·cases h
 ·cases h
def LJ{i:Value}(h:u6 P m t x i=some (v,m')):m.lg.le m'.lg∧L3 m m':=by
 unfold u6 at h;cases hq:!(Nat.blt (H5 i) 8)with
 | true=>rw[hq]at h;cases h
 | false =>
   rw[hq]at h;simp only[E7]at h;split at h
   ·obtain⟨_,h⟩:=A5 h;exact⟨K2 h,J3 h⟩
   ·split at h
    ·obtain⟨_,h⟩:=A5 h;exact⟨K2 h,J3 h⟩
    ·obtain⟨_,h⟩:=A5 h;exact⟨K2 h,J3 h⟩
    ·cases h
   ·cases h
def LH(h:mQ P m t x lo hi mx=some (v,m')):m.lg.le m'.lg∧L3 m m':=by
 unfold mQ at h;split at h
 ·obtain⟨_,h⟩:=A5 h;split at h
  ·cases h;exact⟨.refl _,.refl _⟩
  ·obtain⟨_,h⟩:=A5 h;exact⟨K2 h,J3 h⟩
  ·obtain⟨_,h⟩:=A5 h;exact⟨K2 h,J3 h⟩
  ·obtain⟨_,h⟩:=A5 h;exact⟨K2 h,J3 h⟩
 ·cases h
def A0R{op:UnOp}(h:LF m op x=some (v,m')):m.lg.le m'.lg∧L3 m m':=by
 unfold LF at h;simp only at h;split at h
 ·obtain⟨_,h⟩:=A5 h;exact⟨K2 h,J3 h⟩
 ·obtain⟨_,h⟩:=A5 h;exact⟨K2 h,J3 h⟩
def QT(h:sH P m s t x=some (v,m')):m.lg.le m'.lg∧L3 m m':=by
 unfold sH at h;split at h
 ·obtain⟨_,h⟩:=A5 h;exact⟨K2 h,J3 h⟩
 ·obtain⟨_,h⟩:=A5 h;cases h;exact⟨.refl _,.refl _⟩
 ·cases h
def DL(h:fY P m b vs tys=some (v,m')):m.lg.le m'.lg∧L3 m m':=by
 unfold fY at h;split at h
 ·split at h
  ·obtain⟨_,h⟩:=A5 h;exact⟨K2 h,J3 h⟩
  ·cases h
 ·obtain⟨_,h⟩:=A5 h;exact⟨K2 h,J3 h⟩
 ·obtain⟨_,h⟩:=A5 h;exact⟨K2 h,J3 h⟩
 ·cases h
def VQ{s n:Nat}{i:Value}(h:YV m a s n i=some (v,m')):m.lg.le m'.lg∧L3 m m':=by
 unfold YV at h;cases hq:!(Nat.blt (H5 i) 8)with
 | true=>rw[hq]at h;cases h
 | false =>
   rw[hq]at h;simp only[E7]at h;split at h
   ·rename_i b H k W hi lg hl;split at h
    ·rename_i lg' hb;cases h;have h1:=K2 hl;obtain⟨l1,h2⟩:=J3 hl;refine⟨h1.trans (oI hb),lg',?_⟩;obtain⟨H0,n0,W0,hi0,l0⟩:=m;cases h2;rfl
    ·cases h
   ·cases h
def DH{i:Value}(h:fW P m t x i=some (v,m')):m.lg.le m'.lg∧L3 m m':=by
 unfold fW at h;split at h
 ·split at h
  ·exact VQ h
  ·cases h
 ·split at h
  ·generalize hq:Nat.beq _ (O6+2)=q at h;cases q with
   | true=>cases h
   | false=>exact VQ h
  ·cases h
 ·cases h
def DJ(h:fX P m s x i=some (v,m')):m.lg.le m'.lg∧L3 m m':=by
 unfold fX at h;split at h
 ·split at h
  ·split at h
   ·split at h
    ·cases h;exact⟨.refl _,.refl _⟩
    ·cases h
   ·cases h
  ·cases h
 ·cases h
def iI{cs:D4}{s n:Nat}{i:Value}:∀ {k o:Nat} {m m':Mem} {r:D4},dF m cs s n i o k=some (r,m')→m.lg.le m'.lg∧L3 m m'
 | 0,o,m,m',r,h=>by cases h;exact⟨.refl _,.refl _⟩
 | k+1,o,m,m',r,h=>by
   unfold dF at h;split at h
   ·obtain⟨_,h⟩:=A5 h;split at h
    ·rename_i m1 h1;split at h
     ·rename_i h2;cases h
      have:=iI h2;exact⟨(K2 h1).trans this.1,(J3 h1).trans this.2⟩
     ·cases h
    ·cases h
   ·cases h
def QR(h:sG P m t x=some (v,m')):m.lg.le m'.lg∧L3 m m':=by
 unfold sG at h;split at h
 ·split at h
  ·split at h
   ·split at h
    ·rename_i h1;cases h;exact iI h1
    ·cases h
   ·cases h
  ·split at h
   ·split at h
    ·rename_i h1;cases h;exact iI h1
    ·cases h
   ·cases h
  ·cases h
 ·cases h
def TU{fr:Fr}{o:Op}(h:A0S P fr m o=some (v,m')):m.lg.le m'.lg∧L3 m m':=by
 unfold A0S at h;split at h
 ·exact QP h
 ·split at h
  ·rename_i r hr;cases h;exact XM hr
  ·exact A0U h
 ·exact A0R h
 ·exact QT h
 ·exact LH h
 ·exact LJ h
 ·exact DH h
 ·exact DJ h
 ·exact QR h
 ·exact DL h
 ·cases h
def tI{j k:IntKind}(h:jV j=jV k):j=k:=by cases j<;>cases k<;>first|rfl|(simp only[jV]at h;omega)
def XL{x y:Operand}{a b:Value}(h:qG P m op t a b=some (v,m'))(ha:VR ρ a a')(hb:VR ρ b b')(hS:Sat m'.lg)(w:World) :
  ∃ r,(do eqGuard op t x y a' b';binOp op t a' b':Sem Value).run P w=.ok r w∧VR ρ v r:=by
 have fin:∀ {r:Value} {p q:Value},AF p=true→AF q=true→uH P op t p q=some r→a'=p→b'=q→(do eqGuard op t x y a' b';binOp op t a' b':Sem Value).run P w=.ok r w:=fun{r p q} hp hq hr e1 e2=>by
  subst e1;subst e2;have v1:VR ρ a' a':=.pure (by cases a'<;>simp[AF]at hp<;>rfl);have v2:VR ρ b' b':=.pure (by cases b'<;>simp[AF]at hq<;>rfl);have g:nS P t x y a' b'=true:=by
   cases a'<;>simp[AF]at hp<;>cases b'<;>simp[AF]at hq<;>rfl
  have hg:=tP (op:=op) (fun _=>g) v1 v2 w;obtain⟨h2,_⟩:=zI hr v1 v2 w;simp[A6,hg,h2,Result.andThen]
 unfold qG at h;simp only at h;cases h1:(Nat.blt (H5 a) 8 && Nat.blt (H5 b) 8) || (Nat.beq (H5 a) 9 && Nat.beq (H5 b) 9)with
 | true =>
   rw[h1]at h;obtain⟨u,e1,e2,r,e3,e4,e5⟩:=N6 h hS;have ht:G7 u<10:=by rw[e2];exact e5
   refine⟨r,?_,e4 ρ⟩;rcases J9 _ _▸h1 with h1|h1
   ·obtain⟨p1,p2⟩:=B8 h1;obtain⟨k,n,rfl,f1,_⟩:=P8 ha (A2 p1);obtain⟨j,n2,rfl,f2,_⟩:=P8 hb (A2 p2);simp only[E9,J7,f1,f2,evU,evB]at e1;subst e1;obtain⟨r',g1,g2⟩:=IH ht;rw[e3]at g2;cases g2;exact fin rfl rfl (by unfold uH;exact g1) rfl rfl
   ·obtain⟨p1,p2⟩:=B8 h1;obtain⟨s1,rfl,f1⟩:=cV ha (A0 p1);obtain⟨s2,rfl,f2⟩:=cV hb (A0 p2);simp only[E9,J7,f1,f2,evU,evB]at e1;subst e1;obtain⟨r',g1,g2⟩:=IH ht;rw[e3]at g2;cases g2;exact fin rfl rfl (by unfold uH;exact g1) rfl rfl
 | false =>
   rw[h1]at h;simp only[E7]at h;obtain⟨h2,h⟩:=A5 h;obtain⟨h2,h5⟩:=B8 h2;obtain⟨h2,h4⟩:=B8 h2;obtain⟨h2,h3⟩:=B8 h2;have hu:P.underlying t=some .bool:=by
    split at h5
    ·assumption
    ·cases h5
   obtain⟨u,e1,e2,r,e3,e4,_⟩:=N6 h hS;refine⟨r,?_,e4 ρ⟩;obtain⟨p,rfl,f1⟩:=jL ha (A0 h2);obtain⟨q,rfl,f2⟩:=jL hb (A0 h3);simp only[E9,J7,f1,f2,evU,evB]at e1;cases op<;>simp only[BL]at h4<;>first
    | cases h4
    | skip
   ·subst e1;cases e3;exact fin rfl rfl (by simp[uH,EU,eqM,hu]) rfl rfl
   ·subst e1;cases e3;exact fin rfl rfl (by simp[uH,EU,eqM,hu]) rfl rfl
def xK(e:Bool)(hne:∃ cs,a'=.agg cs):binOp (bif e then .eql else .neq) t a' b'=(do let r ← Op.equal t a' b';pure (.bool (bif e then r else !r))):=by
 obtain⟨cs,rfl⟩:=hne;cases e<;>cases b'<;>rfl
def A0T{x y:Operand}{a b:Value}(h:LK P m op t x y a b=some (v,m'))(ha:VR ρ a a')(hb:VR ρ b b')(hn:qG P m op t a b=none)(hS:Sat m'.lg)(w:World) :
  ∃ r,(do eqGuard op t x y a' b';binOp op t a' b':Sem Value).run P w=.ok r w∧VR ρ v r:=by
 unfold LK at h;obtain⟨hg,h⟩:=A5 h;have hgu:=tP (op:=op) (fun _=>hg) ha hb w;have hagg:∀ {l},eqS P 20 t a b=some l→(op=.eql∨op=.neq)→∃ cs,a'=.agg cs:=fun{l} hl hop=>by
  unfold eqS at hl;cases hs:gP P t a b with
  | true =>
    unfold gP at hs;unfold qG at hn;simp only at hn;split at hs
    ·rename_i hu;obtain⟨q1,q2⟩:=B8 hs;rw[A0 q1,A0 q2,hu]at hn;obtain⟨H,n,W,hi,⟨nx,pi,log⟩⟩:=m;rcases hop with rfl|rfl<;>simp[BL,Z1,F5,I6]at hn
    ·rename_i k hu;obtain⟨q1,q2⟩:=B8 hs;have q3:=N0 k;have q4:Nat.blt (jV k) 8=true:=C8 q3;rw[A0 q1,A0 q2,q4]at hn;obtain⟨H,n,W,hi,⟨nx,pi,log⟩⟩:=m;simp[Z1,F5,I6]at hn
    ·obtain⟨q1,q2⟩:=B8 hs;rw[A0 q1,A0 q2]at hn;obtain⟨H,n,W,hi,⟨nx,pi,log⟩⟩:=m;simp[Z1,F5,I6]at hn
    ·cases hs
  | false =>
    rw[hs]at hl;simp only[E7]at hl;split at hl
    ·obtain⟨cs',rfl,_⟩:=Y9 ha;exact⟨_,rfl⟩
    ·obtain⟨cs',rfl,_⟩:=Y9 ha;exact⟨_,rfl⟩
    ·cases hl
 split at h
 ·rename_i l hl _;obtain⟨u,e1,e2,r,e3,e4,_⟩:=N6 h hS;refine⟨r,?_,e4 ρ⟩;simp only[evU]at e1;split at e1
  ·rename_i z hz;subst e1;cases e3;have he:(Op.equal t a' b').run P w=.ok z w:=SR 20 t a b a' b' l z hl hz ha hb _ C3 w;have hq:=xK (t:=t) (b':=b') true (hagg hl (.inl rfl));simp only[F0]at hq;rw[hq];simp[A6,hgu,he,Result.andThen]
  ·subst e1;cases e3
 ·rename_i l hl _;split at h
  ·rename_i hh m1 h1;have hS1:Sat m1.lg:=U3.le hS (K2 h);obtain⟨u1,f1,f2,r1,f3,f4,_⟩:=N6 h1 hS1;obtain⟨u,e1,e2,r,e3,e4,_⟩:=N6 h hS;refine⟨r,?_,e4 ρ⟩;simp only[evU]at f1;split at f1
   ·rename_i z hz;subst f1;cases f3;have hv:=aW (ρ:=ρ) (f4 ρ) (by obtain⟨e,_⟩:=pH h1;rw[e];show 8<10;omega);have:E5 Ora.env hh=.bool z:=by
     cases hu:E5 Ora.env hh<;>rw[hu]at hv<;>first|(cases hv.1;done)|skip
     all_goals (obtain⟨hv1,_⟩:=hv;cases hv1;rfl)
    simp only[E9,J7,this,evU,ev1,unM,ofV]at e1;subst e1;cases e3;have he:(Op.equal t a' b').run P w=.ok z w:=SR 20 t a b a' b' l z hl hz ha hb _ C3 w;have hq:=xK (t:=t) (b':=b') false (hagg hl (.inr rfl));simp only[E7]at hq;rw[hq];simp[A6,hgu,he,Result.andThen]
   ·subst f1;cases f3
  ·cases h
 ·cases h
end
end
end Go.Sx
