/- The law KeysPastes: for every input the call returns true, and the arguments read behind it as they read before. No condition. -/
import Derived.Test.YtdimocjaepnifaaGreatDoorX1
import Derived.Laws.BytesString
namespace Go.Sx
set_option linter.all false
open Go
set_option linter.unusedVariables false
set_option linter.unusedSimpArgs false
variable [Ora]
theorem B5M(a b:Nat)(h:b<a):Builtin.nextslicecap a b≤3*a+4000:=by
 have grow:∀ r c,Builtin.growBy a r c≤max (c) (2*a+800):=by
  intro r;induction r with
  | zero=>intro c;simp only[Builtin.growBy];exact Nat.le_max_left _ _
  | succ r ih =>
    intro c;simp only[Builtin.growBy];split
    ·exact Nat.le_max_left _ _
    ·have:=ih (c+(c+768) / 4);refine B0 this ?_;rw[Nat.max_le];constructor
     ·refine B0 ?_ (Nat.le_max_right _ _);omega
     ·exact Nat.le_max_right _ _
 unfold Builtin.nextslicecap;split
 ·omega
 ·split
  ·omega
  ·have:=grow 4 b;refine B0 this ?_;rw[Nat.max_le];omega
section
variable {P:Program} {base:Nat} {ρ:Ren} {m m':Mem} {w:World}
theorem A0Y{w wd:World}(h:wd.heap=w.heap)(a:Addr):wd.cell? a=w.cell? a:=by simp[World.cell?,h]
theorem A8M(ρ:Ren):∀ l:List UInt8,LR ρ (P9 l) (P9 l)
 | []=>.nil
 | b::r=>.cons (.pure rfl) (A8M ρ r)
theorem A7f{s k:Nat}{y y':Value}{new:List Value}(h:HR P base ρ m.H w)(hn:A1i m s y=some (k,new))(hy:VR ρ y y') :
  (∀ wd,(Builtin.lenOf y').run P wd=.ok k wd)∧∃ new',LR ρ new new'∧∀ wd:World,wd.heap=w.heap→(Builtin.firstCells s k y').run P wd=.ok ⟨new'⟩ wd:=by
 unfold A1i at hn;split at hn
 ·rename_i n c;obtain⟨h1,h2⟩:=A2 hn;have h1:=A0 h1;subst h1;cases h2;cases Q3 hy;exact⟨fun _=>rfl,[],.nil,fun _ _=>rfl⟩
 ·rename_i a n c;split at hn
  ·rename_i cs hr;cases hn;rcases P6 hy with⟨l,hl,_,_,rfl⟩|⟨l,c',hl,_,_,_,_,rfl⟩|⟨a',c',_,rfl,_,rfl⟩
   ·obtain⟨r',h1,h2,h3⟩:=d9 h hr hl;exact⟨fun _=>rfl,r',h1,fun wd hw=>J5 h2 fun j v hj=>by rw[A0Y hw];exact h3 j v hj⟩
   ·obtain⟨r',h1,h2,h3⟩:=d9 h hr hl;exact⟨fun _=>rfl,r',h1,fun wd hw=>J5 h2 fun j v hj=>by rw[A0Y hw];exact h3 j v hj⟩
   ·have:new=[]:=by
     unfold u7 at hr;split at hr
     ·have:=(A3J hr).2;simp at this;exact this
     ·cases hr
    subst this;refine⟨fun _=>rfl,[],.nil,fun wd _=>?_⟩;simp[Builtin.firstCells,loadCells,loadCellsFrom]
  ·cases hn
 ·rename_i b;obtain⟨_,hn⟩:=A2 hn;cases hn;cases V9 hy;refine⟨fun _=>rfl,P9 b.data.toList,?_,fun wd _=>?_⟩
  ·exact A8M _ _
  ·have e:((b.extract 0 b.size).data.map fun b=>Value.int .u8 b.toNat)=⟨P9 b.data.toList⟩:=by
    apply I3;simp[P9]
   show(pure ((b.extract 0 b.size).data.map fun b=>Value.int .u8 b.toNat):Sem (Array Value)).run P wd=_;rw[e];rfl
 ·cases hn
theorem C63{d:TypeDesc}(h:A01 d=true):(∃ e,d=.slice e)∨d=.string:=by cases d<;>first|cases h;done|exact .inl ⟨_,rfl⟩|exact .inr rfl
theorem A2h{t t2 e:TypeId}{ty:TypeId}{d2:TypeDesc}{n k c:Nat}{a:Option Addr}{x' z:Value}{inf:TypeInfo}{old' new':List Value}(hu:P.underlying t=some (.slice e))(hu2:P.underlying t2=some d2)(hd2:A01 d2=true)
  (hi:P.info? e=some inf) (hz:∀ w,(zeroValue e).run P w=.ok z w) (hlen:∀ wd,(Builtin.lenOf x').run P wd=.ok k wd)
  (hold:∀ wd:World,wd.heap=w.heap→(Builtin.firstCells inf.size n (.slice a n c)).run P wd=.ok ⟨old'⟩ wd) (hnew:∀ wd:World,wd.heap=w.heap→(Builtin.firstCells inf.size k x').run P wd=.ok ⟨new'⟩ wd)
  (hgt:¬ n+k≤c) (hb:(3*(n+k)+4000)*inf.bytes≤281474976710656) (hm:n+k≤1000000000) :
  ∃ nc,n+k≤nc∧(Builtin.append_ #[t,t2] ty #[.slice a n c,x']).run P w=.ok (.slice (some ⟨w.heap.size,0,none⟩) (n+k) nc) { w.drew with heap:=w.heap.push (.cells (⟨old'⟩++⟨new'⟩++Builtin.zeroCells z.cells (nc-(n+k))) e (0,0)) }:=by
 have hs:F7 P e=some inf.size:=by simp[F7,hi]
 have hcap:Builtin.nextslicecap (n+k) c*inf.bytes≤281474976710656:=by
  have:=E6 inf.bytes (B5M (n+k) c (by omega));omega
 let q:Question:=.appendCap (n+k) c e
 let nc:=q.cut (w.tape w.drawn q)
 have hnc:n+k≤nc:=by show n+k≤(n+k)+_;omega
 refine⟨nc,hnc,?_⟩;have hch:(choose q).run P w=.ok nc w.drew:=by
  simp only[choose,Sem.run];rw[if_neg (by simp[q,Question.forced])];rfl
 have hask:∀ k w,(askRoom k).run P w=.ok () w:=fun k w=>by unfold askRoom;split<;>rfl
 unfold Builtin.append_;rcases C63 hd2 with⟨e2,rfl⟩|rfl
 all_goals simp only[I7,R6,R7,Sem.run_bind,C4 hu,C4 hu2,Result.andThen,K1 hs,Sem.run_pure,I2,if_false,hlen]
 all_goals
  have hmax:¬ (((n+k:Nat):Int)>IntKind.i64.max):=by simp[IntKind.max,IntKind.bits,IntKind.signed];omega
  simp only[if_neg hgt,hmax,false_and,if_false,Sem.run_bind,Result.andThen,V5 hi];rw[if_neg (show ¬ (Builtin.nextslicecap (n+k) c*inf.bytes>2 ^ 48) by simpa using hcap)];have hd:w.drew.heap=w.heap:=rfl;simp only[Sem.run_bind,Sem.run_pure,Result.andThen,show(choose (.appendCap (n+k) c e)).run P w=.ok nc w.drew from hch,hask,hold _ hd,hnew _ hd,hz,V5 hi,Bool.not_false,if_true];rfl
theorem A4k{t t2 e:TypeId}{ty:TypeId}{d2:TypeDesc}{n k c:Nat}{a:Addr}{x':Value}{inf:TypeInfo}{new':List Value}{w':World}(hu:P.underlying t=some (.slice e))(hu2:P.underlying t2=some d2)(hd2:A01 d2=true)
  (hi:P.info? e=some inf) (hlen:∀ wd,(Builtin.lenOf x').run P wd=.ok k wd) (hnew:(Builtin.firstCells inf.size k x').run P w=.ok ⟨new'⟩ w)
  (hle:n+k≤c) (hst:(storeCells (a.add (n*inf.size)) new').run P w=.ok () w') :
  (Builtin.append_ #[t,t2] ty #[.slice (some a) n c,x']).run P w=.ok (.slice (some a) (n+k) c) w':=by
 have hs:F7 P e=some inf.size:=by simp[F7,hi]
 unfold Builtin.append_;rcases C63 hd2 with⟨e2,rfl⟩|rfl
 all_goals simp only[I7,R6,R7,Sem.run_bind,C4 hu,C4 hu2,Result.andThen,K1 hs,Sem.run_pure,I2,if_false,hlen]
 all_goals simp[if_pos hle,Sem.run_bind,hnew,Result.andThen,hst]
theorem A7T{t t2 e:TypeId}{ty:TypeId}{d2:TypeDesc}{x':Value}{inf:TypeInfo}(hu:P.underlying t=some (.slice e))(hu2:P.underlying t2=some d2)(hd2:A01 d2=true)
  (hi:P.info? e=some inf) (hlen:∀ wd,(Builtin.lenOf x').run P wd=.ok 0 wd) (hnew:(Builtin.firstCells inf.size 0 x').run P w=.ok #[] w) :
  (Builtin.append_ #[t,t2] ty #[.slice none 0 0,x']).run P w=.ok (.slice none 0 0) w:=by
 have hs:F7 P e=some inf.size:=by simp[F7,hi]
 unfold Builtin.append_;rcases C63 hd2 with⟨e2,rfl⟩|rfl
 all_goals simp only[I7,R6,R7,Sem.run_bind,C4 hu,C4 hu2,Result.andThen,K1 hs,Sem.run_pure,I2,if_false,hlen]
 all_goals simp[Sem.run_bind,hnew,Result.andThen]
theorem St.kill{ab:AB}{id:Nat}(h:HR P base ρ m.H w)(hle:id≤G2)(hg:Hp.get m.H id=some ab)(hrw:ab.rw=true):St P base ρ ρ m (A3X m id) w w:=by
 rw[o9];refine⟨fun _ _ h=>h,fun b k h1 h2=>(by rw[h1]at h2;cases h2),A5 _,A5 _,fun h=>h,h.sub fun id2 hid2 a ha=>?_,fun b hb=>B8 _ hb,fun b h1 h2 k hk'=>?_,fun k hk' hb'=>rfl,A5 _,⟨rfl,rfl,rfl⟩,fun b k h1 h2=>(by rw[h1]at h2;cases h2),fun id2 hid2 h4 h5=>?_,fun k ⟨id2,a,q,hid2,ha,hq,ht⟩=>.inr ⟨id2,a,q,hid2,?_,hq,ht⟩⟩
 ·rw[E3 _ _ _ _ hle hid2]at ha;by_cases e:id2=id
  ·rw[if_pos e]at ha;cases ha
  ·rw[if_neg e]at ha;exact ha
 ·rcases B7.1 h1 with rfl|h1
  ·exact⟨ab,hg,hrw⟩
  ·exact absurd h1 h2
 ·rw[E3 _ _ _ _ hle hid2,if_neg];intro e;subst e;exact h4 B4
 ·have ha:Hp.get (m.H.set id none) id2=some a:=ha;rw[E3 _ _ _ _ hle hid2]at ha;by_cases e:id2=id
  ·rw[if_pos e]at ha;cases ha
  ·rw[if_neg e]at ha;exact ha
theorem St.grow{ab ab':AB}{id:Nat}{l:Loc}{k:Nat→Value}{v:Value}{w':World}(h:HR P base ρ m.H w)(hle:id≤G2)(hg:Hp.get m.H id=some ab)(hrw:ab.rw=true)(hl:ρ id=some l)(hon:l.on=true)
  (hn:e9 (A3X m id) ab' k=some (v,m')) (hf:J6 ρ m.n m'.hi)
  (ho:w'.os=w.os∧w'.tape=w.tape∧w'.output=w.output) (hsz:w'.heap.size=w.heap.size) (hk:∀ k,k≠l.blk→w'.heap[k]? = w.heap[k]?) (hb:BR P (upd ρ m.n l) ab' l w') (hfz:ab'≠.frz:=by intro h;cases h) :
  v=k m.n∧St P base ρ (upd ρ m.n l) m m' w w':=by
 rw[o9]at hn;obtain⟨hnm,hv,rfl⟩:=L4 hn;have hfree:ρ m.n=none:=hf m.n (A5 _) (K3 _ _).2;have hext:=Z0 (l:=l) hfree;obtain⟨h2,h3⟩:=h.atl hl hg;have hTc:∀ k,Tc ab' l k→k=l.blk:=fun k hk=>by
  rcases hk with⟨_,_,rfl⟩|⟨rfl,_⟩
  ·rfl
  ·exact absurd rfl hfz
 have hne:id≠m.n:=fun e=>by subst e;rw[hl]at hfree;cases hfree
 have hget:∀ i,i≤G2→Hp.get ((m.H.set id none).set m.n (some ab')) i=if i=m.n then some ab' else if i=id then none else Hp.get m.H i:=fun i hi=>by
  rw[E3 _ _ _ _ hnm hi,E3 _ _ _ _ hle hi]
 refine⟨hv,hext,fun b q h1 h2=>?_,d7 _,(K3 _ _).1,fun _=>Z2 (K3 _ _).2,⟨fun b q hq=>?_,fun i hi a ha=>?_⟩,fun b hb=>B8 _ hb,fun b h1 h2 q hq=>?_,fun q hq hb'=>hk q ?_,by rw[hsz];exact A5 _,ho,fun b q h1 h2 _=>?_,fun i hi h4 h5=>?_,fun k ⟨i,a,q,hi,ha,hq,ht⟩=>.inr ?_⟩
 ·obtain⟨rfl,rfl⟩:=U8 h1 h2;exact⟨A5 _,I5 _⟩
 ·cases h0:ρ b with
  | some q0 =>
    rw[hext b q0 h0]at hq
    have:=A4 hq;subst this;exact h.dom b q0 h0
  | none=>obtain⟨rfl,rfl⟩:=U8 hq h0;exact hnm
 ·have ha:Hp.get ((m.H.set id none).set m.n (some ab')) i=some a:=ha;rw[hget i hi]at ha;have hdis:∀ id2,id2≤G2→∀ ab2 l2,Hp.get ((m.H.set id none).set m.n (some ab')) id2=some ab2→upd ρ m.n l id2=some l2→Tc ab2 l2 l.blk→id2=m.n:=fun id2 hid2 ab2 l2 g1 g2 g3=>by
   rw[hget id2 hid2]at g1;by_cases e2:id2=m.n
   ·exact e2
   ·rw[if_neg e2]at g1;unfold upd at g2;rw[if_neg e2]at g2;by_cases e3:id2=id
    ·rw[if_pos e3]at g1;cases g1
    ·rw[if_neg e3]at g1;exact absurd ((h3 hrw hon).2 id2 hid2 ab2 l2 g1 g2 g3) e3
  by_cases e:i=m.n
  ·rw[if_pos e]at ha;have ha:=A4 ha;subst ha;subst e;exact⟨l,K9 _ _ _,hb,fun _ _=>⟨(h3 hrw hon).1,hdis⟩⟩
  ·rw[if_neg e]at ha;by_cases e3:i=id
   ·rw[if_pos e3]at ha;cases ha
   ·rw[if_neg e3]at ha;obtain⟨l2,g1,g2,g3⟩:=h.at_ i hi a ha;have hnb:∀ k,Tc a l2 k→k≠l.blk:=fun k hk' hh=>e3 ((h3 hrw hon).2 i hi a l2 ha g1 (hh▸hk'))
    refine⟨l2,hext _ _ g1,g2.mono hext (fun k hk'=>hk _ (hnb k hk')),fun hr ho'=>⟨(g3 hr ho').1,fun id3 hid3 ab3 l3 f1 f2 f3=>?_⟩⟩;have f1:Hp.get ((m.H.set id none).set m.n (some ab')) id3=some ab3:=f1;rw[hget id3 hid3]at f1;by_cases e4:id3=m.n
    ·subst e4;rw[K9]at f2
     have:=A4 f2;subst this;rw[if_pos rfl]at f1;have f1:=A4 f1;subst f1;exact absurd (hTc _ f3) (hnb _ (.inl ⟨AB.rw_on hr,ho',rfl⟩))
    ·rw[if_neg e4]at f1;unfold upd at f2;rw[if_neg e4]at f2;by_cases e5:id3=id
     ·rw[if_pos e5]at f1;cases f1
     ·rw[if_neg e5]at f1;exact(g3 hr ho').2 id3 hid3 ab3 l3 f1 f2 f3
 ·rcases B7.1 h1 with rfl|h1
  ·exact⟨ab,hg,hrw⟩
  ·exact absurd h1 h2
 ·exact fun e=>hb' id B4 l hl hon e.symm
 ·obtain⟨rfl,rfl⟩:=U8 h1 h2;exact .inr ⟨id,B4,q,hl,hon,rfl⟩
 ·have hgi:=hget i hi;show Hp.get ((m.H.set id none).set m.n (some ab')) i=_;rw[hgi,if_neg,if_neg]
  ·intro e;subst e;exact h4 B4
  ·intro e;subst e;rcases h5 with h5|h5
   ·omega
   ·have h5:upN m.hi m.n≤m.n:=h5
    have:=(K3 m.hi m.n).2;omega
 ·have ha:Hp.get ((m.H.set id none).set m.n (some ab')) i=some a:=ha;rw[hget i hi]at ha;by_cases e:i=m.n
  ·rw[if_pos e]at ha;have ha:=A4 ha;subst ha;subst e;rw[K9]at hq;have hq:=A4 hq;subst hq;exact⟨id,ab,l,hle,hg,hl,AB.rw_fr hrw,.inl ⟨AB.rw_on hrw,hon,(hTc k ht.2).symm⟩⟩
  ·rw[if_neg e]at ha;unfold upd at hq;rw[if_neg e]at hq;by_cases e3:i=id
   ·rw[if_pos e3]at ha;cases ha
   ·rw[if_neg e3]at ha;exact⟨i,a,q,hi,ha,hq,ht⟩
theorem B2E{s k:Nat}{y:Value}{new:List Value}{z:Value}(h:HR P base ρ m.H w)(hn:A1i m s y=some (k,new))(hz:z.cells.size=s):new.length=k*s:=by
 unfold A1i at hn;split at hn
 ·obtain⟨_,q⟩:=A2 hn;cases q;simp
 ·split at hn
  ·rename_i cs hr;cases hn;unfold u7 at hr;split at hr
   ·exact(A3J hr).2
   ·cases hr
  ·cases hn
 ·rename_i b;obtain⟨q1,hn⟩:=A2 hn;have q1:=A0 q1;subst q1;cases hn;simp[P9]
 ·cases hn
theorem B4C{new':List Value}{r:Array Value}{i:Nat}{u:Value}(h:new'[i]? = some u):(({ toList:=[] }:Array Value)++⟨new'⟩++r)[i]? = some u:=by
 have hl:=(A9.1 h).1;rw[U0 (by simp;exact hl)]
 simpa using h
theorem A1O{old' new':List Value}{r:Array Value}{i:Nat}{u:Value}(h:(old'++new')[i]? = some u):(({ toList:=old' }:Array Value)++⟨new'⟩++r)[i]? = some u:=by
 have hl:=(A9.1 h).1;rw[U0 (by simpa using hl)]
 simpa using h
theorem A1N{s k n nc:Nat}{z:Value}{old' new':List Value}(h1:new'.length=k*s)(hnc:n+k≤nc)(hz:z.cells.size=s)(ho:old'.length=n*s) :
  nc*s≤(({ toList:=old' }:Array Value)++⟨new'⟩++Builtin.zeroCells z.cells (nc-(n+k))).size:=by
 simp[Builtin.zeroCells,ho,h1,hz];rw[← G3,← G3];exact E6 _ (by omega)
theorem B5t{t t2 ty:TypeId}{x y x' y' v:Value}(h:HR P base ρ m.H w)(hb:base≤w.heap.size)(ho:A6d P m t t2 x y=some (v,m'))(hf:J6 ρ m.n m'.hi)(hx:VR ρ x x')(hy:VR ρ y y') :
  VOk P base ρ m w (Builtin.append_ #[t,t2] ty #[x',y']) v m':=by
 unfold A6d at ho;split at ho
 ·rename_i e d2 hu hu2;cases hd2:A01 d2 with
  | false=>rw[hd2]at ho;cases ho
  | true =>
  rw[hd2]at ho;simp only[P0,cond_false]at ho;split at ho
  ·rename_i inf a n c hi;split at ho
   ·rename_i k new z hnew hz;obtain⟨g1,ho⟩:=A2 ho;obtain⟨g1,g4⟩:=B2 g1;obtain⟨g1,g3⟩:=B2 g1;obtain⟨g1,g2⟩:=B2 g1;have g1:=A1 g1;have g2:=A1 g2;have g3:=A0 g3;obtain⟨hlen,new',hnl,hnr⟩:=A7f h hnew hy;have hzr:∀ w,(zeroValue e).run P w=.ok z w:=fun w=>x5 hz w
    have hnn:new'.length=k*inf.size:=by rw[← hnl.1];exact B2E h hnew g3
    have OPENv:M0=9223372036854775808:=rfl;cases hk:Nat.beq k 0 with
    | true =>
      have hk:=A0 hk;subst hk;have hb0:Nat.beq 0 0=true:=rfl;simp only[hb0,cond_true]at ho;have hn0:new'=[]:=D8.1 (by rw[hnn];simp);subst hn0;cases a with
      | none =>
        simp only at ho;obtain⟨q1,ho⟩:=A2 ho;obtain⟨q1,q2⟩:=B2 q1;have q1:=A0 q1;have q2:=A0 q2;subst q1;subst q2;cases ho;cases Q3 hx;exact VOk.same h (A7T hu hu2 hd2 hi hlen (hnr w rfl)) (.pure rfl)
      | some ad =>
        simp only at ho;obtain⟨q1,ho⟩:=A2 ho;obtain⟨q1,q2⟩:=B2 q1;have q1:=A1 q1;have q2:=A1 q2;cases ho;rcases P6 hx with⟨l,hl,hsp,hc,rfl⟩|⟨l,c',hl,hsp,hc,hn,hcap,rfl⟩|⟨a',c',_,_,he,_⟩
        ·exact VOk.same h (A4k hu hu2 hd2 hi hlen (hnr w rfl) (by omega) rfl) (by simpa using hx)
        ·exact VOk.same h (A4k hu hu2 hd2 hi hlen (hnr w rfl) (by omega) rfl) (by simpa using hx)
        ·omega
    | false =>
      have hk0:k≠0:=fun e=>by subst e;cases hk
      simp only[hk,cond_false]at ho;cases a with
      | none =>
        simp only at ho;obtain⟨q1,ho⟩:=A2 ho;obtain⟨q1,q2⟩:=B2 q1;have q1:=A0 q1;have q2:=A0 q2;subst q1;subst q2;rw[G6]at ho;cases Q3 hx;obtain⟨nc,hnc,hr⟩:=A2h (ty:=ty) (c:=0) (a:=none) (old':=[]) hu hu2 hd2 hi hzr hlen (fun _ _=>rfl) hnr (by omega) g1 g2;have hsz:∀ inf2,P.info? e=some inf2→nc*inf2.size≤(({ toList:=[] }:Array Value)++⟨new'⟩++Builtin.zeroCells z.cells (nc-(0+k))).size:=fun inf2 h2=>by
         rw[hi]at h2;cases h2;exact A1N hnn hnc g3 (by simp)
        obtain⟨e1,e2,e3⟩:=A1L (wd:=w.drew) (fz:=(0,0)) (cap:=nc) h hb ho hf hnl (fun i u hi=>by
         show(({ toList:=[] }:Array Value)++⟨new'⟩++Builtin.zeroCells z.cells (nc-(0+k)))[i]? = some u;exact B4C hi) NF.zero hsz ⟨rfl,rfl,rfl⟩ rfl
        refine⟨_,_,_,hr,?_,e3⟩;rw[e1,E4]
        have:=VR.op (ρ:=upd ρ m.n (lc w.heap.size 0 nc)) (b:=m.n) (o:=0) (n:=k) (m:=M0) (m':=nc) e2 (A5 _) (by omega) (fun _ _=>rfl)
        simpa using this
      | some ad =>
        simp only at ho;cases hco:Nat.blt c M0 with
        | true =>
          have hco':c<M0:=A1 hco;simp only[hco,cond_true]at ho;rcases P6 hx with⟨l,hl,hsp,hc,rfl⟩|⟨l,c',hl,hsp,hc,hn,hcap,rfl⟩|⟨a',c',_,_,he,_⟩
          ·cases hfit:Nat.ble (n+k) c with
           | true =>
             have hfit':=A1 hfit;simp only[hfit,cond_true]at ho;split at ho
             ·rename_i m2 hw;cases ho;rw[A1C]at hw;obtain⟨w',h1,h2⟩:=A5h h hw hl hnl;refine⟨_,ρ,w',A4k hu hu2 hd2 hi hlen (hnr w rfl) hfit' ?_,?_,h2⟩
              ·rw[Y4,show ad.off+l.sh+n*inf.size=ad.off+n*inf.size+l.sh by omega];exact h1
              ·obtain⟨ab,ao,asp⟩:=ad;simp only at hsp;subst hsp;exact .sl hl hc
             ·cases ho
           | false =>
             have hfit':¬ n+k≤c:=fun hle=>by rw[show Nat.ble (n+k) c=true from C3 hle]at hfit;cases hfit
             simp only[hfit,cond_false]at ho;split at ho
             ·rename_i old hold;rw[G6]at ho;obtain⟨old',o1,o2,o3⟩:=d9 h hold hl;have holdr:∀ wd:World,wd.heap=w.heap→(Builtin.firstCells inf.size n (.slice (some ⟨l.blk,ad.off+l.sh,none⟩) n c)).run P wd=.ok ⟨old'⟩ wd:=fun wd hw=>J5 o2 fun j u hj=>by rw[A0Y hw];exact o3 j u hj
              obtain⟨nc,hnc,hr⟩:=A2h (ty:=ty) hu hu2 hd2 hi hzr hlen holdr hnr hfit' g1 g2;obtain⟨e1,e2,e3⟩:=A1L (wd:=w.drew) (fz:=(0,0)) (cap:=nc) (C:=⟨old'⟩++⟨new'⟩++Builtin.zeroCells z.cells (nc-(n+k))) h hb ho hf (o1.append hnl) (fun i u hi=>A1O hi) NF.zero
               (fun inf2 h2=>by rw[hi]at h2;cases h2;exact A1N hnn hnc g3 o2) ⟨rfl,rfl,rfl⟩ rfl
              refine⟨_,_,_,hr,?_,e3⟩;rw[e1]
              have:=VR.op (ρ:=upd ρ m.n (lc w.heap.size 0 nc)) (b:=m.n) (o:=0) (n:=n+k) (m:=M0) (m':=nc) e2 (A5 _) hnc (fun _ _=>rfl)
              simpa using this
             ·cases ho
          ·omega
          ·omega
        | false =>
          simp only[hco,cond_false]at ho;obtain⟨q0,ho2⟩:=A2 ho;clear ho;have ho:=ho2;clear ho2;obtain⟨q1,q2⟩:=B2 q0;replace q1:=A0 q1;replace q2:=A0 q2;clear q0;split at ho
          ·rename_i cs T hsp hg;obtain⟨p1,ho⟩:=A2 ho;rw[G7,G7,G7]at p1;obtain⟨⟨⟨p1,p2⟩,p3⟩,p4⟩:=p1;have p1:=A0 p1;have p2:=A0 p2;have p3:=A1 p3;have p4:ad.block<m.n:=A1 p4;subst p2;rw[G6]at ho;rcases P6 hx with⟨_,_,_,hc,_⟩|⟨l,c',hl,_,_,hn,hcap,rfl⟩|⟨a',c',_,_,he,_⟩
           ·omega
           ·have hcap:=hcap q1 q2;obtain⟨⟨hon,C,fz,T',z2,z3,z4⟩,z5⟩:=h.atl hl hg;obtain⟨rfl,z6,z7⟩:=z4 rfl;have z8:=(z7 inf hi).2;have z7:=(z7 inf hi).1;by_cases hfit:n+k≤c'
            ·
             have hsum:(n+k)*inf.size≤c'*inf.size:=E6 _ hfit;rw[G3]at hsum;obtain⟨w',r1,r2,r3,r4,r5⟩:=Z5 (P:=P) (b:=l.blk) (o:=n*inf.size+l.sh) (fz:=fz) new' 0 C w z2 (B2X hnl g4) (by rw[hnn];subst hcap;omega) z6;obtain⟨e1,e3⟩:=St.grow (w':=w') (l:=l) h p3 hg rfl hl hon ho hf r2 r3 r5 (by
              have hfree:ρ m.n=none:=by
               rw[o9]at ho;obtain⟨_,_,rfl⟩:=L4 ho;exact hf m.n (A5 _) (K3 _ _).2
              refine⟨hon,_,fz,_,r4,fun i u hi=>?_,fun _=>⟨rfl,z6.sz (by simp[Z6]),fun inf2 h2=>⟨by simpa [Z6]using(by rw[hi]at h2;cases h2;exact z7:l.sh+l.cap*inf2.size≤C.size),by rw[hi]at h2;cases h2;exact z8⟩⟩⟩;show ∃ u',(Array.mk (A0m C.toList (n*inf.size+l.sh+0) new'))[l.sh+i]? = some u'∧_;have hlC:C.toList.length=C.size:=by simp
              rw[I7,A30 _ _ _ _ (by rw[hnn];subst hcap;omega)];by_cases hlt:i<cs.length
              ·rw[E0 hlt]at hi;rw[if_neg (by omega)];obtain⟨u',y1,y2⟩:=z3 i u hi;exact⟨u',by simpa using y1,y2.mono (Z0 hfree)⟩
              ·rw[D1 (by omega)]at hi;have hil:=(A9.1 hi).1;have hnl1:=hnl.1;rw[if_pos (by omega)];obtain⟨u',y1,y2⟩:=hnl.get hi;exact⟨u',by rw[show l.sh+i-(n*inf.size+l.sh+0)=i-cs.length by omega];exact y1,y2.mono (Z0 hfree)⟩)
             refine⟨_,_,w',A4k (ty:=ty) hu hu2 hd2 hi hlen (hnr w rfl) hfit ?_,?_,e3⟩
             ·rw[Y4,q2,show 0+l.sh+n*inf.size=n*inf.size+l.sh by omega];exact r1
             ·rw[e1,q2];exact .op (K9 _ _ _) (A5 _) hfit (fun _ _=>hcap)
            ·
             have st1:=St.kill h p3 hg rfl;have hf1:J6 ρ (A3X m ad.block).n m'.hi:=by rw[o9];exact hf
             obtain⟨old',o1,o2⟩:=A1K (ρ:=ρ) (C:=C) (cs:=cs) (s:=l.sh) z3;have oL:old'.length=n*inf.size:=by rw[← o1.1];exact p1
             have holdr:∀ wd:World,wd.heap=w.heap→(Builtin.firstCells inf.size n (.slice (some ⟨l.blk,ad.off+l.sh,none⟩) n c')).run P wd=.ok ⟨old'⟩ wd:=fun wd hw=>J5 oL fun j u hj=>by
              rw[A0Y hw,q2]
              have:=o2 j u hj;simp[World.cell?,z2,this]
             obtain⟨nc,hnc,hr⟩:=A2h (ty:=ty) hu hu2 hd2 hi hzr hlen holdr hnr hfit g1 g2;obtain⟨e1,e2,e3⟩:=A1L (wd:=w.drew) (fz:=(0,0)) (cap:=nc) (C:=⟨old'⟩++⟨new'⟩++Builtin.zeroCells z.cells (nc-(n+k))) st1.hr hb ho hf1 (o1.append hnl) (fun i u hi=>A1O hi) NF.zero
              (fun inf2 h2=>by rw[hi]at h2;cases h2;exact A1N hnn hnc g3 oL) ⟨rfl,rfl,rfl⟩ rfl
             refine⟨_,_,_,hr,?_,St.trans hf st1 e3⟩;rw[e1]
             have:=VR.op (ρ:=upd ρ (A3X m ad.block).n (lc w.heap.size 0 nc)) (b:=(A3X m ad.block).n) (o:=0) (n:=n+k) (m:=M0) (m':=nc) e2 (A5 _) hnc (fun _ _=>rfl)
             simpa using this
           ·omega
          ·cases ho
   ·cases ho
  ·cases ho
 ·cases ho
end
end Go.Sx
namespace Go.Sx
set_option linter.all false
open Go
set_option linter.unusedVariables false
set_option linter.unusedSimpArgs false
variable [Ora]
section
variable {P:Program} {base:Nat} {ρ:Ren} {m m':Mem} {w:World}
theorem B4v{op:UnOp}{x x' v:Value}(h:unM op x=some v)(hx:VR ρ x x')(w:World):(Op.unary op x').run P w=.ok v w∧H5 v=true:=by
 unfold unM at h;split at h
 ·cases I6 hx;cases h;exact⟨by simp[Op.unary,Op.intArith,x8],by simp[x8,H5]⟩
 ·cases I6 hx;obtain⟨h1,h2⟩:=A0B (P:=P) h w;exact⟨by simpa [Op.unary]using h1,h2⟩
 ·cases A0o hx;cases h;exact⟨rfl,rfl⟩
 ·cases h
theorem C3Y{t ty:TypeId}{tys:List TypeId}{x x' v:Value}(ho:C76 P t x=some v)(hx:VR ρ x x')(w:World):(Builtin.cap_ ⟨t::tys⟩ ty #[x']).run P w=.ok v w∧H5 v=true:=by
 unfold C76 at ho;split at ho
 ·rename_i hu;cases Q3 hx;cases ho;exact⟨by simp[Builtin.cap_,Sem.run_bind,C4 hu,Result.andThen,goInt],rfl⟩
 ·rename_i hu;obtain⟨hc,ho⟩:=A2 ho;have hc:_<M0:=A1 hc;cases ho;rcases P6 hx with⟨l,_,_,_,rfl⟩|⟨l,c',_,_,_,_,_,rfl⟩|⟨a',c',_,_,he,_⟩
  ·exact⟨by simp[Builtin.cap_,Sem.run_bind,C4 hu,Result.andThen,goInt],rfl⟩
  ·omega
  ·omega
 ·cases ho
theorem B6e{t ty:TypeId}{tys:List TypeId}{x x' v:Value}(h:HR P base ρ m.H w)(ho:B9n P m t x=some v)(hx:VR ρ x x'):(Builtin.len_ ⟨t::tys⟩ ty #[x']).run P w=.ok v w∧H5 v=true:=by
 unfold B9n at ho;split at ho
 ·rename_i hu;cases V9 hx;cases ho;refine⟨?_,rfl⟩;simp[Builtin.len_,Sem.run_bind,C4 hu,Result.andThen,goInt]
 ·rename_i hu;cases ho;refine⟨?_,rfl⟩;simp[Builtin.len_,Sem.run_bind,C4 hu,Result.andThen,goInt]
 ·rename_i n c hu;cases ho;refine⟨?_,rfl⟩;have hx':∃ a' c',x'=.slice a' n c':=by
   cases hx with
   | pure _=>exact⟨_,_,rfl⟩
   | sl _ _=>exact⟨_,_,rfl⟩
   | op _ _ _ _=>exact⟨_,_,rfl⟩
   | opE _=>exact⟨_,_,rfl⟩
  obtain⟨a',c',rfl⟩:=hx';simp[Builtin.len_,Sem.run_bind,C4 hu,Result.andThen,goInt]
 ·rename_i hu;cases hx with|pure _=>?_
  cases ho;refine⟨?_,rfl⟩;simp[Builtin.len_,Sem.run_bind,C4 hu,Result.andThen,goInt]
 ·cases ho
theorem B6Z{ty:TypeId}{tys:Array TypeId}{vs vs':List Value}{v:Value}(ho:C7N vs=some v)(hx:LR ρ vs vs')(w:World):(Builtin.max_ tys ty ⟨vs'⟩).run P w=.ok v w∧H5 v=true:=by
 unfold C7N at ho;split at ho
 ·obtain⟨a',r1,rfl,h1,h2⟩:=hx.tail;obtain⟨b',r2,rfl,h3,h4⟩:=h2.tail;cases h4.nil_inv;cases I6 h1;cases I6 h3;cases ho;exact⟨by simp[Builtin.max_,Builtin.max2],rfl⟩
 ·obtain⟨a',r1,rfl,h1,h2⟩:=hx.tail;obtain⟨b',r2,rfl,h3,h4⟩:=h2.tail;obtain⟨c',r3,rfl,h5,h6⟩:=h4.tail;cases h6.nil_inv;rw[A67]at ho;cases I6 h1;cases I6 h3;cases I6 h5;cases ho;exact⟨by simp[Builtin.max_,Builtin.max2],rfl⟩
 ·cases ho
theorem B6Y{ty:TypeId}{tys:Array TypeId}{vs vs':List Value}{v:Value}(ho:C7M vs=some v)(hx:LR ρ vs vs')(w:World):(Builtin.min_ tys ty ⟨vs'⟩).run P w=.ok v w∧H5 v=true:=by
 unfold C7M at ho;split at ho
 ·obtain⟨a',r1,rfl,h1,h2⟩:=hx.tail;obtain⟨b',r2,rfl,h3,h4⟩:=h2.tail;cases h4.nil_inv;cases I6 h1;cases I6 h3;cases ho;exact⟨by simp[Builtin.min_,Builtin.min2],rfl⟩
 ·obtain⟨a',r1,rfl,h1,h2⟩:=hx.tail;obtain⟨b',r2,rfl,h3,h4⟩:=h2.tail;obtain⟨c',r3,rfl,h5,h6⟩:=h4.tail;cases h6.nil_inv;rw[A67]at ho;cases I6 h1;cases I6 h3;cases I6 h5;cases ho;exact⟨by simp[Builtin.min_,Builtin.min2],rfl⟩
 ·cases ho
theorem B0K{ty:TypeId}{tys:Array TypeId}{x x' v:Value}(h:HR P base ρ m.H w)(ho:A23 m x=some (v,m'))(hx:VR ρ x x'):VOk P base ρ m w (Builtin.unsafeSliceData_ tys ty #[x']) v m':=by
 unfold A23 at ho;split at ho
 ·cases ho;cases Q3 hx;exact VOk.same h rfl (.pure rfl)
 ·rename_i a n c;cases hq:Nat.beq n 0 || Nat.beq c 0 || Nat.beq c (M0+2)with
  | true=>rw[hq]at ho;cases ho
  | false =>
    rw[hq]at ho;simp only[cond_false,C5,M1]at ho;obtain⟨rfl,rfl⟩:=ho;simp only[O5]at hq;obtain⟨⟨q1,q2⟩,q3⟩:=hq;have q1:n≠0:=fun e=>by subst e;cases q1
    have q2:c≠0:=fun e=>by subst e;cases q2
    rcases P6 hx with⟨l,hl,hsp,hc,rfl⟩|⟨l,c',hl,hsp,hc,hn,hcap,rfl⟩|⟨a',c',_,he,_,_⟩
    ·refine VOk.same (v':=.pointer (some ⟨l.blk,a.off+l.sh,none⟩)) h ?_ ?_
     ·have hdef:Builtin.unsafeSliceData_ tys ty #[.slice (some ⟨l.blk,a.off+l.sh,none⟩) n c]=(do
        if c≠0 then pure (.pointer (some ⟨l.blk,a.off+l.sh,none⟩))
        else if(← viewAt l.blk).isSome then pure (.pointer (some ⟨l.blk,a.off+l.sh,none⟩))
        else pure (.pointer (some ⟨← newObj (.view ⟨l.blk,a.off+l.sh,none⟩ (← elemOf ty)),0,none⟩))):=rfl
      rw[hdef,if_pos q2];rfl
     ·obtain⟨ab,ao,asp⟩:=a;simp only at hsp;subst hsp;exact .ptr hl
    ·refine VOk.same (v':=.pointer (some ⟨l.blk,a.off+l.sh,none⟩)) h ?_ ?_
     ·have:c'≠0:=by omega
      have hdef:Builtin.unsafeSliceData_ tys ty #[.slice (some ⟨l.blk,a.off+l.sh,none⟩) n c']=(do
        if c'≠0 then pure (.pointer (some ⟨l.blk,a.off+l.sh,none⟩))
        else if(← viewAt l.blk).isSome then pure (.pointer (some ⟨l.blk,a.off+l.sh,none⟩))
        else pure (.pointer (some ⟨← newObj (.view ⟨l.blk,a.off+l.sh,none⟩ (← elemOf ty)),0,none⟩))):=rfl
      rw[hdef,if_pos this];rfl
     ·obtain⟨ab,ao,asp⟩:=a;simp only at hsp;subst hsp;exact .ptr hl
    ·omega
 ·cases ho
theorem B7t{t:TypeId}{x x' v:Value}(h:HR P base ρ m.H w)(ho:B2C P m t x=some (v,m'))(hx:VR ρ x x'):VOk P base ρ m w (Instr.makeInterface t x') v m':=by
 unfold B2C at ho;split at ho
 ·rename_i d hd;have hmi:(∀ ms,d≠.interface ms)→(Instr.makeInterface t x').run P w=.ok (.iface t x') w:=fun hne=>by
   simp only[Instr.makeInterface,Sem.run_bind,C4 hd,Result.andThen];cases d<;>first|rfl|exact absurd rfl (hne _)
  split at ho
  ·cases ho
  ·rename_i hne;obtain⟨_,ho⟩:=A2 ho;cases ho;exact VOk.same h (hmi fun ms e=>hne ms e) (.iface hx)
 ·cases ho
theorem C2f{x x' v:Value}(ho:B9Y m x=some (v,m'))(hx:VR ρ x x'):m'=m∧VR ρ v x'∧((∃ a,x'=.pointer (some a))∨∃ f a b,x'=.func (.func f) a b):=by
 unfold B9Y at ho;split at ho
 ·cases ho;obtain⟨l,_,_,rfl⟩:=Q0 hx;exact⟨rfl,hx,.inl ⟨_,rfl⟩⟩
 ·cases ho;cases hx with
  | pure hp=>simp[H5]at hp
  | func _ _ _ _=>exact⟨rfl,by constructor<;>assumption,.inr ⟨_,_,_,rfl⟩⟩
 ·cases ho
theorem C0f{t ty:TypeId}{tys:List TypeId}{x y x' y' v:Value}(h:HR P base ρ m.H w)(ho:B4U P m t x y=some (v,m'))(hx:VR ρ x x')(hy:VR ρ y y'):VOk P base ρ m w (Builtin.copy_ ⟨t::tys⟩ ty #[x',y']) v m':=by
 unfold B4U at ho;split at ho
 ·rename_i e a n c hu;split at ho
  ·rename_i s hs;split at ho
   ·rename_i k cs hsrc;have hx':∃ a' c',x'=.slice a' n c':=by
     cases hx with
     | pure _=>exact⟨_,_,rfl⟩
     | sl _ _=>exact⟨_,_,rfl⟩
     | op _ _ _ _=>exact⟨_,_,rfl⟩
     | opE _=>exact⟨_,_,rfl⟩
    obtain⟨a',c',rfl⟩:=hx';have hread:∃ L cs',(Builtin.lenOf y').run P w=.ok L w∧Nat.min L n=k∧LR ρ cs cs'∧(Builtin.firstCells s k y').run P w=.ok ⟨cs'⟩ w:=by
     split at hsrc
     ·rename_i k0 _;obtain⟨q,hsrc⟩:=A2 hsrc;have q:=A0 q;subst q;cases hsrc;cases Q3 hy;exact⟨0,[],rfl,by simp,.nil,rfl⟩
     ·rename_i b k0 c0;split at hsrc
      ·rename_i r hr;cases hsrc;rcases P6 hy with⟨l,hl,_,_,rfl⟩|⟨l,c',hl,_,_,_,_,rfl⟩|⟨a',c',_,rfl,_,rfl⟩
       ·obtain⟨r',h1,h2,h3⟩:=d9 h hr hl;exact⟨k0,r',rfl,rfl,h1,J5 h2 h3⟩
       ·obtain⟨r',h1,h2,h3⟩:=d9 h hr hl;exact⟨k0,r',rfl,rfl,h1,J5 h2 h3⟩
       ·have:cs=[]:=by
         unfold u7 at hr;split at hr
         ·have:=(A3J hr).2;simp at this;exact this
         ·cases hr
        subst this;exact⟨0,[],rfl,rfl,.nil,by simp[Builtin.firstCells,loadCells,loadCellsFrom]⟩
      ·cases hsrc
     ·rename_i b;cases hsrc;cases V9 hy;refine⟨b.size,P9 (b.data.toList.take (Nat.min b.size n)),rfl,rfl,A8M _ _,?_⟩;have e:((b.extract 0 (Nat.min b.size n)).data.map fun b=>Value.int .u8 b.toNat)=⟨P9 (b.data.toList.take (Nat.min b.size n))⟩:=by
       apply I3;simp[P9,A2S]
      show(pure ((b.extract 0 (Nat.min b.size n)).data.map fun b=>Value.int .u8 b.toNat):Sem (Array Value)).run P w=_;rw[e];rfl
     ·cases hsrc
    obtain⟨L,cs',r1,r2,r3,r4⟩:=hread;have hbase:(Builtin.copy_ ⟨t::tys⟩ ty #[.slice a' n c',y']).run P w=(match a' with|some a=>(do storeCells a cs';pure (goInt k):Sem Value)|none=>pure (goInt k)).run P w:=by
     unfold Builtin.copy_;simp only[I7,R6,R7,Sem.run_bind,C4 hu,K1 hs,r1,r2,r4,Result.andThen];cases a' with
     | none=>rfl
     | some a=>rfl
    cases a with
    | none =>
      cases Q3 hx;simp only at ho;obtain⟨q,ho⟩:=A2 ho;have q:=A0 q;cases ho;exact VOk.same h (by rw[hbase,q];rfl) (.pure rfl)
    | some ad =>
      simp only at ho;cases hz:Nat.beq cs.length 0 with
      | true =>
        rw[hz]at ho;cases ho;have hz:=A0 hz;have:cs'=[]:=D8.1 (by rw[← r3.1];exact hz);subst this;refine VOk.same h (v':=.int .i64 k) ?_ (.pure rfl);rw[hbase];cases a'<;>rfl
      | false =>
        rw[hz]at ho;simp only[cond_false]at ho;obtain⟨hcl,ho⟩:=A2 ho;have hcl:=A1 hcl;split at ho
        ·rename_i m2 hw;cases ho;rcases P6 hx with⟨l,hl,hsp,hc,he⟩|⟨l,c',hl,hsp,hc,hn,hcap,he⟩|⟨a2,c2,_,hn,hc2,he⟩
         ·cases he;obtain⟨w',h1,h2⟩:=A5h h hw hl r3;exact⟨.int .i64 k,ρ,w',by rw[hbase];simp[Sem.run_bind,h1,Result.andThen,goInt],.pure rfl,h2⟩
         ·cases he;obtain⟨w',h1,h2⟩:=A5h h hw hl r3;exact⟨.int .i64 k,ρ,w',by rw[hbase];simp[Sem.run_bind,h1,Result.andThen,goInt],.pure rfl,h2⟩
         ·have OPENv:M0=9223372036854775808:=rfl;omega
        ·cases ho
   ·cases ho
  ·cases ho
 ·cases ho
theorem A5a:∀ {cs:List Value} {l:List UInt8},bytesOf cs=some l→∃ ns:List Int,cs=ns.map (Value.int .u8)∧l=ns.map fun n=>UInt8.ofNat n.toNat
 | [],l,h=>by simp only[bytesOf,C5]at h;subst h;exact⟨[],rfl,rfl⟩
 | v::r,l,h=>by
   unfold bytesOf at h;split at h
   ·rename_i he;cases he
   ·rename_i n r0 he;cases he;split at h
    ·rename_i l0 h0;cases h;obtain⟨ns,h1,h2⟩:=A5a h0;exact⟨n::ns,by rw[h1];rfl,by rw[h2];rfl⟩
    ·cases h
   ·cases h
theorem A6G:∀ {ns:List Int} {cs':List Value},LR ρ (ns.map (Value.int .u8)) cs'→cs'=ns.map (Value.int .u8)
 | [],cs',h=>h.nil_inv
 | n::r,cs',h=>by
   obtain⟨v',r',rfl,h1,h2⟩:=h.tail;cases I6 h1;rw[A6G h2];rfl
theorem A5T:∀ (ns:List Int) (acc:List UInt8),(ns.foldl (fun r n=>r.push (UInt8.ofNat n.toNat)) (ByteArray.mk ⟨acc⟩))=⟨⟨acc++ns.map fun n=>UInt8.ofNat n.toNat⟩⟩
 | [],acc=>by simp
 | n::r,acc=>by
   rw[List.foldl_cons];have:(ByteArray.mk ⟨acc⟩).push (UInt8.ofNat n.toNat)=⟨⟨acc++[UInt8.ofNat n.toNat]⟩⟩:=by
    show ByteArray.mk (Array.push ⟨acc⟩ _)=_;simp
   rw[this,A5T r];simp
theorem C0i{s t:TypeId}{x x' v:Value}(h:HR P base ρ m.H w)(hb:base≤w.heap.size)(ho:B1U P m s t x=some (v,m'))(hf:J6 ρ m.n m'.hi)(hx:VR ρ x x'):VOk P base ρ m w (convert s t x') v m':=by
 unfold B1U at ho;split at ho
 ·rename_i ds k j n hs ht;cases I6 hx;simp only[C5,M1]at ho;obtain⟨rfl,rfl⟩:=ho;refine VOk.same (v':=.int k (k.wrap n)) h ?_ (by rw[x8,A3k];exact .pure rfl);cases ds<;>simp[convert,Sem.run_bind,C4 hs,C4 ht,Result.andThen,Conv.intToInt]
 ·rename_i ds b hs ht;cases V9 hx;cases ho;refine VOk.same h ?_ (.pure rfl);cases ds<;>simp[convert,Sem.run_bind,C4 hs,C4 ht,Result.andThen]
 ·rename_i ds j n hs ht;cases I6 hx;cases ho;refine VOk.same (v':=.string (Utf8.encode n)) h ?_ (.pure rfl);cases ds<;>simp[convert,Sem.run_bind,C4 hs,C4 ht,Result.andThen,Conv.intToString]
 ·rename_i ds e b hs ht;cases V9 hx;split at ho
  ·rename_i he;split at ho
   ·rename_i hsz;rw[G6]at ho;let q:Question:=.appendCap b.size 0 e
    let cap:=q.cut (w.tape w.drawn q)
    have hcap:b.size≤cap:=by show b.size≤b.size+_;omega
    have hch:(choose q).run P w=.ok cap w.drew:=by
     simp only[choose,Sem.run];rw[if_neg (by simp[q,Question.forced])];rfl
    let C:Array Value:=(b.data.map fun b=>Value.int .u8 b.toNat)++Array.replicate (cap-b.size) (.int .u8 0)
    have hC:C.size=cap:=by
     have:b.data.size=b.size:=rfl;simp[C,this];omega
    obtain⟨e1,e2,e3⟩:=A1L (wd:=w.drew) (fz:=(C.size,C.size+1)) (cap:=cap) (C:=C) h hb ho hf (A8M ρ b.data.toList) (fun i u hi=>by
      have hl:=(A9.1 hi).1;simp[P9]at hl;have hl':i<(b.data.map fun b=>Value.int .u8 b.toNat).size:=by simpa using hl
      show((b.data.map fun b=>Value.int .u8 b.toNat)++Array.replicate (cap-b.size) (.int .u8 0))[i]? = some u;rw[U0 hl']
      simpa [P9]using hi) NF.end
     (fun inf h2=>by
       have:inf.size=1:=by unfold F7 at hsz;rw[h2]at hsz;exact A4 hsz
       rw[this,hC];omega) ⟨rfl,rfl,rfl⟩ rfl
    refine⟨.slice (some ⟨w.heap.size,0,none⟩) b.size cap,_,_,?_,?_,e3⟩
    ·have hmk:∀ w2:World,w2.heap[w.heap.size]? = some (.cells C e (0,0))→(markStringish ⟨w.heap.size,0,none⟩).run P w2=.ok () (w2.freeze { block:=w.heap.size,off:=C.size } 1):=fun w2 h2=>by
      simp[markStringish,shape,freeze,Sem.run,World.shape?,h2]
     have hfr:({ w.drew with heap:=w.heap.push (.cells C e (0,0)) }:World).freeze { block:=w.heap.size,off:=C.size } 1={ w.drew with heap:=w.heap.push (.cells C e (C.size,C.size+1)) }:=by
      unfold World.freeze;rw[if_neg (by decide)];congr 1
      apply Array.ext_getElem?;intro i;rw[G0];by_cases hi:w.heap.size=i
      ·subst hi;simp
      ·rw[if_neg hi];simp only[m7];rw[if_neg (fun h=>hi h.symm),if_neg (fun h=>hi h.symm)]
     have hconv:(convert s t (.string b)).run P w=(Conv.stringToBytes e b).run P w:=by
      cases ds<;>simp[convert,Sem.run_bind,C4 hs,C4 ht,C4 he,Result.andThen]
     rw[hconv];unfold Conv.stringToBytes;simp only[Sem.run_bind,show(choose (.appendCap b.size 0 e)).run P w=.ok cap w.drew from hch,Result.andThen];have hnr:(newRow e C).run P w.drew=.ok ⟨w.heap.size,0,none⟩ { w.drew with heap:=w.heap.push (.cells C e (0,0)) }:=rfl;rw[show(newRow e ((b.data.map fun b=>Value.int .u8 b.toNat)++Array.replicate (cap-b.size) (.int .u8 0))).run P w.drew=_ from hnr];simp only[Result.andThen];rw[hmk _ (by simp),hfr];rfl
    ·rw[e1];exact VR.op (o:=0) (m':=cap) e2 (A5 _) hcap (fun _ _=>rfl)
   ·cases ho
  ·cases ho
 ·rename_i e n c hs ht;cases Q3 hx;split at ho
  ·rename_i he;cases ho;refine VOk.same h (v':=.string ByteArray.empty) ?_ (.pure rfl);simp[convert,Sem.run_bind,C4 hs,C4 ht,C4 he,Result.andThen,Conv.bytesToString]
  ·cases ho
 ·rename_i e a n c hs ht;split at ho
  ·rename_i he;split at ho
   ·rename_i cs hr;split at ho
    ·rename_i l hl;cases ho;obtain⟨ns,h1,h2⟩:=A5a hl;have hfin:∀ a' c',(loadCells a' n).run P w=.ok (ns.map (Value.int .u8)).toArray w→(convert s t (.slice (some a') n c')).run P w=.ok (.string ⟨⟨l⟩⟩) w:=fun a' c' hlc=>by
      have:=run_bytesToString w a' n c' ns hlc;have e2:=A5T ns [];simp only[M3]at e2;simp only[convert,Sem.run_bind,C4 hs,C4 ht,C4 he,Result.andThen];rw[this,show ByteArray.empty=ByteArray.mk ⟨[]⟩from rfl,e2,h2]
     rcases P6 hx with⟨lc,hlc,_,_,rfl⟩|⟨lc,c',hlc,_,_,_,_,rfl⟩|⟨a',c',_,rfl,_,rfl⟩
     ·obtain⟨r',g1,g2,g3⟩:=d9 h hr hlc;rw[h1]at g1
      have:=A6G g1;subst this;exact VOk.same h (hfin _ _ (J5 g2 g3)) (.pure rfl)
     ·obtain⟨r',g1,g2,g3⟩:=d9 h hr hlc;rw[h1]at g1
      have:=A6G g1;subst this;exact VOk.same h (hfin _ _ (J5 g2 g3)) (.pure rfl)
     ·have:cs=[]:=by
       unfold u7 at hr;split at hr
       ·have:=(A3J hr).2;simpa using this
       ·cases hr
      subst this;have:ns=[]:=by cases ns with|nil=>rfl|cons _ _=>cases h1
      subst this;exact VOk.same h (hfin _ _ (by simp[loadCells,loadCellsFrom])) (.pure rfl)
    ·cases ho
   ·cases ho
  ·cases ho
 ·cases ho
end
end Go.Sx
namespace Go.Sx
set_option linter.all false
open Go
set_option linter.unusedVariables false
set_option linter.unusedSimpArgs false
variable [Ora]
section
variable {P:Program} {base:Nat} {ρ:Ren} {m m':Mem} {w:World}
theorem A9E{e:TypeId}(hc:P.cellsOf e=1)(count off n:Nat)(hn:off+n≤count):liesAt P P.depth e count off e n=true:=by
 have hd:P.depth=(2*(P.types.size+Made.depth)+1)+1:=rfl;rw[hd];simp only[liesAt,I1];left
 rw[hd];simp[rowAt,hc,hn,sameLayout,Nat.mod_one]
theorem A1a:∀ (ns:List Int) (b o:Nat) (acc:ByteArray),(∀ (j:Nat) (v:Value),(ns.map (Value.int .u8))[j]? = some v→w.cell? ⟨b,o+j,none⟩=some v) →
  (loadBytes ⟨b,o,none⟩ acc ns.length).run P w=.ok ⟨acc.data++(ns.map fun n=>UInt8.ofNat n.toNat).toArray⟩ w
 | [],b,o,acc,_=>by simp[loadBytes]
 | n::ns,b,o,acc,h=>by
   have h0:w.cell? ⟨b,o,none⟩=some (.int .u8 n):=by simpa using h 0 _ rfl
   have ih:=A1a ns b (o+1) (acc.push n.toNat.toUInt8) (fun j v hj=>by
    have:=h (j+1) v (by simpa using hj);rw[show o+1+j=o+(j+1) by omega];exact this)
   simp only[B6,loadBytes,Sem.run_bind,run_load,h0,Result.andThen,Y4];rw[ih];have:(acc.push n.toNat.toUInt8).data=acc.data.push n.toNat.toUInt8:=rfl;rw[this];congr 2
   apply I3;simp
theorem A9_{pt ty:TypeId}{tys:List TypeId}{p l p' l' v:Value}(h:HR P base ρ m.H w)(ho:A1T P m pt p l=some (v,m'))(hp:VR ρ p p')(hl:VR ρ l l') :
  VOk P base ρ m w (Builtin.unsafeString_ ⟨pt::tys⟩ ty #[p',l']) v m':=by
 have hmax:IntKind.i64.max=9223372036854775807:=rfl;unfold A1T at ho;split at ho
 ·cases hp with|pure _=>?_
  cases I6 hl;cases ho;refine VOk.same h (v':=.string ByteArray.empty) ?_ (.pure rfl);rename_i k _;have hdef:Builtin.unsafeString_ ⟨pt::tys⟩ ty #[.pointer none,.int k (.ofNat 0)] =
    (do
      let n ← asInt (.int k (.ofNat 0))
      if n<0 then runtimePanic (.error "unsafe.String: len out of range")
      if n>IntKind.i64.max then unsupported (.unsafePointer "String: a length above the largest int")
      if n=0 then pure (.string .empty)
      else runtimePanic (.error "unsafe.String: ptr is nil and len is not zero")):=rfl
  rw[hdef];simp[asInt,asIntOf,hmax]
 ·rename_i a k n;cases I6 hl;obtain⟨lc,hlc,hsp,rfl⟩:=Q0 hp;split at ho
  ·rename_i cs T hspot hg;split at ho
   ·rename_i e hpt hT;obtain⟨q,ho⟩:=A2 ho;obtain⟨q,q3⟩:=B2 q;obtain⟨q1,q2⟩:=B2 q;have q1:0<n:=A1 q1;have q2:=A1 q2;have q3:=A0 q3;subst q3;split at ho
    ·rename_i r hr;split at ho
     ·rename_i bs m2 hbs A0V;cases ho;obtain⟨ns,h1,h2⟩:=A5a hbs;have hread:u7 m a n=some r:=by
       unfold u7;rw[hspot,hg];exact hr
      obtain⟨r',g1,g2,g3⟩:=d9 h hread hlc;rw[h1]at g1;have hr':=A6G g1;subst hr';obtain⟨⟨hon,C,fz,T',z2,z3,z4⟩,z5⟩:=h.atl hlc hg;have z2:w.heap[lc.blk]? = some (.cells C e fz):=by rw[z2,(z4 rfl).1]
      have hnl:ns.length=n:=by simpa using g2
      have hcell:P.cellsOf e=1:=by
       unfold F7 at hT;unfold Program.cellsOf;cases hi:P.info? e with
       | none=>rw[hi]at hT;cases hT
       | some i=>rw[hi]at hT;have:=A4 hT;simp[this]
      have hin:a.off+lc.sh+n≤C.size:=by
       have hlast:=g3 (n-1) (.int .u8 ns[n-1]) (by simp[hnl]);simp only[World.cell?,z2]at hlast
       have:=(C6.1 (by simpa using hlast)).1;omega
      have hlb:=A1a (P:=P) (w:=w) ns lc.blk (a.off+lc.sh) .empty g3;rw[hnl]at hlb;have hsh:w.shape? lc.blk=some (e,C.size):=by simp[World.shape?,z2]
      have hlies:=A9E (P:=P) hcell (C.size / P.cellsOf e) (a.off+lc.sh) n (by rw[hcell];simpa using hin);have hdef:Builtin.unsafeString_ ⟨pt::tys⟩ ty #[.pointer (some ⟨lc.blk,a.off+lc.sh,none⟩),.int k (.ofNat n)] =
       (do
         let n ← asInt (.int k (.ofNat n))
         if n<0 then runtimePanic (.error "unsafe.String: len out of range")
         if n>IntKind.i64.max then unsupported (.unsafePointer "String: a length above the largest int")
         if n=0 then pure (.string .empty)
         else if ← variablesAt ⟨lc.blk,a.off+lc.sh,none⟩ (← elemOf pt) n.toNat then do
          let s ← loadBytes ⟨lc.blk,a.off+lc.sh,none⟩ .empty n.toNat
          freeze ⟨lc.blk,a.off+lc.sh,none⟩ n.toNat
          pure (.string s)
         else unsupported (.unsafePointer "String: not so many bytes at ptr")):=rfl
      have e1:Int.ofNat n=(n:Int):=rfl;have hneg:¬ (n:Int)<0:=by omega
      have hbig:¬ (9223372036854775807:Int)<(n:Int):=by omega
      have hz:¬ (n:Int)=0:=by omega
      have hz2:n≠0:=by omega
      refine⟨.string ⟨⟨bs⟩⟩,ρ,w.freeze ⟨lc.blk,a.off+lc.sh,none⟩ n,?_,.pure rfl,St.write h A0V hg rfl hlc hon ?_ ?_ ?_ ?_⟩
      ·rw[hdef];simp[asInt,asIntOf,hmax,e1,hneg,hbig,hz,hz2,variablesAt,hsh,elemOf,C4 hpt,hlies,hlb,freeze,Sem.run,Sem.run_bind,Result.andThen,h2]
      ·simp[World.freeze,hz2]
      ·simp[World.freeze,hz2]
      ·intro j hj;simp only[World.freeze,hz2,if_false,G0];rw[if_neg (fun e=>hj e.symm)]
      ·refine⟨hon,C,(if fz.1 == fz.2 then(a.off+lc.sh,a.off+lc.sh+n)else(min fz.1 (a.off+lc.sh),max fz.2 (a.off+lc.sh+n))),e,?_,z3,fun hc=>by cases hc⟩;simp only[World.freeze,hz2,if_false,G0,if_true,z2,K5]
     ·cases ho
    ·cases ho
   ·cases ho
  ·cases ho
 ·cases ho
theorem B4f{b:Builtin}{vs vs':List Value}{tys:List TypeId}{ty:TypeId}{ks:Array Bool}{v:Value}(h:HR P base ρ m.H w)(hb:base≤w.heap.size)(ho:A2v P m b vs tys=some (v,m'))(hf:J6 ρ m.n m'.hi)(hx:LR ρ vs vs') :
  ∃ s:Sem Value,builtin b ⟨tys⟩ ty ks ⟨vs'⟩=(do pure (.value (← s)))∧VOk P base ρ m w s v m':=by
 unfold A2v at ho;split at ho
 ·obtain⟨x',r1,rfl,h1,h2⟩:=hx.tail;cases h2.nil_inv;unfold noM at ho;split at ho
  ·rename_i u hu;cases ho;obtain⟨g1,g2⟩:=B6e h hu h1;exact⟨_,rfl,VOk.same h g1 (.pure g2)⟩
  ·cases ho
 ·obtain⟨x',r1,rfl,h1,h2⟩:=hx.tail;cases h2.nil_inv;unfold noM at ho;split at ho
  ·rename_i u hu;cases ho;obtain⟨g1,g2⟩:=C3Y hu h1 w;exact⟨_,rfl,VOk.same h g1 (.pure g2)⟩
  ·cases ho
 ·obtain⟨x',r1,rfl,h1,h2⟩:=hx.tail;obtain⟨y',r2,rfl,h3,h4⟩:=h2.tail;cases h4.nil_inv;rename_i t t2 rest;refine⟨Builtin.append_ ⟨t::t2::rest⟩ ty #[x',y'],rfl,?_⟩
  have:=B5t (ty:=ty) h hb ho hf h1 h3;have e:Builtin.append_ ⟨t::t2::rest⟩ ty #[x',y']=Builtin.append_ #[t,t2] ty #[x',y']:=rfl;rw[e];exact this
 ·obtain⟨x',r1,rfl,h1,h2⟩:=hx.tail;obtain⟨y',r2,rfl,h3,h4⟩:=h2.tail;cases h4.nil_inv;exact⟨_,rfl,C0f h ho h1 h3⟩
 ·unfold noM at ho;split at ho
  ·rename_i u hu;cases ho;obtain⟨g1,g2⟩:=B6Z (P:=P) (ty:=ty) (tys:=⟨tys⟩) hu hx w;exact⟨_,rfl,VOk.same h g1 (.pure g2)⟩
  ·cases ho
 ·unfold noM at ho;split at ho
  ·rename_i u hu;cases ho;obtain⟨g1,g2⟩:=B6Y (P:=P) (ty:=ty) (tys:=⟨tys⟩) hu hx w;exact⟨_,rfl,VOk.same h g1 (.pure g2)⟩
  ·cases ho
 ·obtain⟨x',r1,rfl,h1,h2⟩:=hx.tail;cases h2.nil_inv;exact⟨_,rfl,B0K h ho h1⟩
 ·obtain⟨x',r1,rfl,h1,h2⟩:=hx.tail;obtain⟨y',r2,rfl,h3,h4⟩:=h2.tail;cases h4.nil_inv;exact⟨_,rfl,A9_ h ho h1 h3⟩
 ·cases ho
def NOk(P:Program)(base:Nat)(ρ:Ren)(m:Mem)(w:World)(s:Sem Next)(v:Value)(m':Mem):Prop :=
 ∃ v' ρ' w',(s.run P w=.ok (.value v') w'∨(s.run P w=.ok .skip w'∧v'=undef))∧VR ρ' v v'∧St P base ρ ρ' m m' w w'
theorem NOk.of{s:Sem Value}{v:Value}(h:VOk P base ρ m w s v m'):NOk P base ρ m w (do pure (.value (← s))) v m':=by
 obtain⟨v',ρ',w',h1,h2,h3⟩:=h;exact⟨v',ρ',w',.inl (by simp[Sem.run_bind,h1,Result.andThen]),h2,h3⟩
theorem A5m(ρ:Ren):VR ρ undef undef:=.tuple (a:=[]) (a':=[]) rfl (fun i v v' h=>by simp at h)
theorem NOk.ofU{s:Sem Unit}(h:UOk P base ρ m w s m'):NOk P base ρ m w (do s;pure .skip) undef m':=by
 obtain⟨ρ',w',h1,h3⟩:=h;exact⟨undef,ρ',w',.inr ⟨by simp[Sem.run_bind,h1,Result.andThen],rfl⟩,A5m _,h3⟩
theorem NOk.same{s:Sem Value}{v v':Value}(h:HR P base ρ m.H w)(hr:s.run P w=.ok v' w)(hv:VR ρ v v'):NOk P base ρ m w (do pure (.value (← s))) v m:=NOk.of (VOk.same h hr hv)
def FR(ρ:Ren)(fr:Fr)(g:Operand→Value)(o:Op):Prop:=∀ x ∈ o.operands.toList,VR ρ (ev fr x) (g x)
theorem o8{o:Option Value}{v:Value}(h:noM o m=some (v,m')):o=some v∧m'=m:=by
 unfold noM at h;split at h
 ·cases h;exact⟨rfl,rfl⟩
 ·cases h
theorem A4s{o:Option Mem}{v:Value}(h:B5P o=some (v,m')):o=some m'∧v=undef:=by
 unfold B5P at h;split at h
 ·cases h;exact⟨rfl,rfl⟩
 ·cases h
theorem A02{fr:Fr}{g:Operand→Value}:∀ {xs:List Operand},(∀ x ∈ xs,VR ρ (ev fr x) (g x))→LR ρ (evL fr xs) (xs.map g)
 | [],_=>.nil
 | x::r,h=>.cons (h x B4) (A02 fun y hy=>h y (B8 _ hy))
theorem B5e{fr:Fr}{g:Operand→Value}:∀ {xs:List (Nat×Operand)},(∀ x ∈ xs.map (·.2),VR ρ (ev fr x) (g x))→PR ρ (evP fr xs) (xs.map fun x=>(x.1,g x.2))
 | [],_=>trivial
 | (i,x)::r,h=>⟨rfl,h x (by simp),B5e fun y hy=>h y (by simp at hy ⊢;exact .inr hy)⟩
theorem A3H{fr:Fr}{g:Operand→Value}{x:Option Operand}(h:∀ y ∈ x.toList,VR ρ (ev fr y) (g y)):OR ρ (evO fr x) (x.map g):=by
 cases x with
 | none=>trivial
 | some y=>exact h y (by simp)
set_option maxHeartbeats 1000000 in
theorem C7F{fr:Fr}{g:Operand→Value}{o:Oper}{v:Value}(h:HR P base ρ m.H w)(hb:base≤w.heap.size)(ho:opM P fr m o.op=some (v,m'))(hf:J6 ρ m.n m'.hi)(hg:FR ρ fr g o.op) :
  NOk P base ρ m w (execOp g o) v m':=by
 obtain⟨dst,op,ty,pos,af,gd⟩:=o;simp only at ho hg;have hx1:∀ {x},x ∈ op.operands.toList→VR ρ (ev fr x) (g x):=fun hx=>hg _ hx
 unfold opM at ho;split at ho
 ·cases ho;exact⟨_,ρ,w,.inl rfl,hx1 (by simp[Op.operands]),.refl h⟩
 ·cases ho;exact⟨_,ρ,w,.inl rfl,hx1 (by simp[Op.operands]),.refl h⟩
 ·rename_i c a b;have hc:=hx1 (x:=c) (by simp[Op.operands]);unfold B6T at ho;split at ho
  ·rename_i hcv;rw[hcv]at hc;cases ho;exact⟨g a,ρ,w,.inl (by simp[execOp,A0o hc,asBool]),hx1 (by simp[Op.operands]),.refl h⟩
  ·rename_i hcv;rw[hcv]at hc;cases ho;exact⟨g b,ρ,w,.inl (by simp[execOp,A0o hc,asBool]),hx1 (by simp[Op.operands]),.refl h⟩
  ·cases ho
 ·exact NOk.of (B7u h hb ho hf)
 ·exact NOk.of (C2g h hb ho hf (hx1 (by simp[Op.operands])))
 ·rename_i t ps;obtain⟨h1,rfl⟩:=o8 ho;obtain⟨v',h2,h3⟩:=B8A h1 (B5e (g:=g) (fun x hx=>hx1 (by simpa [Op.operands]using hx))) w;have e:(ps.map fun(i,x)=>(i,g x))=⟨ps.toList.map fun x=>(x.1,g x.2)⟩:=by apply I3;simp
  exact NOk.same (s:=Instr.build t (ps.map fun(i,x)=>(i,g x))) h (by rw[e];exact h2) h3
 ·rename_i t n ps
  have:=A9w h hb ho hf (B5e (g:=g) (fun x hx=>hx1 (by simpa [Op.operands]using hx)));have e:(ps.map fun(i,x)=>(i,g x))=⟨ps.toList.map fun x=>(x.1,g x.2)⟩:=by apply I3;simp
  refine NOk.of (s:=Instr.buildSlice t n (ps.map fun(i,x)=>(i,g x))) ?_;rw[e];exact this
 ·rename_i t x;have hx:=hx1 (x:=x) (by simp[Op.operands]);unfold B6U at ho;split at ho
  ·rename_i a hev;rw[hev]at hx;obtain⟨l,hl,hsp,hgx⟩:=Q0 hx;obtain⟨h1,rfl⟩:=o8 ho;obtain⟨v',h2,h3⟩:=B3w h h1 hl;refine NOk.same (s:=Instr.loadAt t (g x)) h ?_ h3;rw[hgx]
   simpa [Instr.loadAt,Instr.sureAddr]using h2
  ·cases ho
 ·rename_i t x y;have hx:=hx1 (x:=x) (by simp[Op.operands]);have hy:=hx1 (x:=y) (by simp[Op.operands]);unfold B2B at ho;split at ho
  ·rename_i a hev;rw[hev]at hx;obtain⟨l,hl,hsp,hgx⟩:=Q0 hx;obtain⟨h1,rfl⟩:=A4s ho
   have:=B7W h h1 hl hy;refine NOk.ofU (s:=Instr.storeAt t (g x) (g y)) ?_;rw[hgx];obtain⟨ρ',w',r1,r2⟩:=this;exact⟨ρ',w',by simpa [Instr.storeAt,Instr.sureAddr]using r1,r2⟩
  ·cases ho
 ·rename_i x;have hx:=hx1 (x:=x) (by simp[Op.operands]);obtain⟨hm,h1,h2⟩:=C2f ho hx;subst hm;refine⟨g x,ρ,w,.inl ?_,h1,.refl h⟩;rcases h2 with⟨a,ha⟩|⟨f,a,b,ha⟩<;>simp[execOp,ha]
 ·rename_i op t x y yt;have hx:=hx1 (x:=x) (by simp[Op.operands]);have hy:=hx1 (x:=y) (by simp[Op.operands]);unfold C2h at ho;have hfin:(A9N op=true→A4F P t x y (ev fr x) (ev fr y)=true)→noM (A6b P op t (ev fr x) (ev fr y)) m=some (v,m')→NOk P base ρ m w (execOp g ⟨dst,.binOp op t x y yt,ty,pos,af,gd⟩) v m':=fun hgu hn=>by
   obtain⟨h1,rfl⟩:=o8 hn;obtain⟨h2,h3⟩:=A8V h1 hx hy w;have hq:=A6M hgu hx hy w;refine NOk.same (s:=do eqGuard op t x y (g x) (g y);binOp op t (g x) (g y)) h ?_ (.pure h3);simp[Sem.run_bind,hq,h2,Result.andThen]
  cases hop:A9N op with
  | true =>
    rw[hop]at ho;simp only[cond_true]at ho;obtain⟨h1,h2⟩:=A2 ho;exact hfin (fun _=>h1) h2
  | false =>
    rw[hop]at ho;simp only[cond_false]at ho;exact hfin (fun h=>by rw[hop]at h;cases h) ho
 ·rename_i op t x;obtain⟨h1,rfl⟩:=o8 ho;obtain⟨h2,h3⟩:=B4v (P:=P) h1 (hx1 (x:=x) (by simp[Op.operands])) w;exact NOk.same (s:=Op.unary op (g x)) h h2 (.pure h3)
 ·exact NOk.of (C0i h hb ho hf (hx1 (by simp[Op.operands])))
 ·exact NOk.of (B7t h ho (hx1 (by simp[Op.operands])))
 ·rename_i f first cap
  cases ho;have l1:=A02 (ρ:=ρ) (fr:=fr) (g:=g) (xs:=first.toList) fun x hx=>hx1 (by simp[Op.operands];exact .inl (by simpa using hx))
  have l2:=A02 (ρ:=ρ) (fr:=fr) (g:=g) (xs:=cap.toList) fun x hx=>hx1 (by simp[Op.operands];exact .inr (by simpa using hx))
  refine⟨.func (.func f) ⟨first.toList.map g⟩ ⟨cap.toList.map g⟩,ρ,w,.inl ?_,.func l1.1 l2.1 l1.2 l2.2,.refl h⟩;have e1:first.map g=⟨first.toList.map g⟩:=by apply I3;simp
  have e2:cap.map g=⟨cap.toList.map g⟩:=by apply I3;simp
  simp[execOp,Instr.makeFunc,e1,e2]
 ·exact NOk.of (B0M h hb ho hf (hx1 (by simp[Op.operands])) (hx1 (by simp[Op.operands])))
 ·rename_i t x lo hi mx;obtain⟨h1,rfl⟩:=o8 ho;obtain⟨v',h2,h3⟩:=A2f h1 (hx1 (x:=x) (by simp[Op.operands])) (A3H (g:=g) fun y hy=>hx1 (by simp[Op.operands]at hy ⊢;exact .inr (.inl hy))) (A3H (g:=g) fun y hy=>hx1 (by simp[Op.operands]at hy ⊢;exact .inr (.inr (.inl hy)))) (A3H (g:=g) fun y hy=>hx1 (by simp[Op.operands]at hy ⊢;exact .inr (.inr (.inr hy)))) w;exact NOk.same (s:=Instr.sliceAt t (g x) (lo.map g) (hi.map g) (mx.map g)) h h2 h3
 ·obtain⟨h1,rfl⟩:=o8 ho;obtain⟨v',h2,h3⟩:=A4H h1 (hx1 (by simp[Op.operands])) w;exact NOk.same h h2 h3
 ·obtain⟨h1,rfl⟩:=o8 ho;obtain⟨v',h2,h3⟩:=B74 h1 (hx1 (by simp[Op.operands])) w;exact NOk.same h h2 h3
 ·obtain⟨h1,rfl⟩:=o8 ho;obtain⟨v',h2,h3⟩:=A0p h1 (hx1 (by simp[Op.operands])) (hx1 (by simp[Op.operands])) w;exact NOk.same h h2 h3
 ·obtain⟨h1,rfl⟩:=o8 ho;obtain⟨v',h2,h3⟩:=A62 h1 (hx1 (by simp[Op.operands])) (hx1 (by simp[Op.operands])) w;exact NOk.same h h2 h3
 ·obtain⟨hm,v',h2,h3⟩:=B3m (P:=P) ho (hx1 (by simp[Op.operands])) w;subst hm;exact NOk.same h h2 h3
 ·rename_i b xs tys;have l1:=A02 (ρ:=ρ) (fr:=fr) (g:=g) (xs:=xs.toList) fun x hx=>hx1 (by show x ∈ (#[]++xs:Array Operand).toList;simpa using hx)
  obtain⟨ks,e2⟩:∃ ks,execOp g ⟨dst,.call ⟨.builtin b,xs,tys⟩,ty,pos,af,gd⟩=builtin b tys ty ks (xs.map g):=⟨_,rfl⟩;obtain⟨s,e,hs⟩:=B4f (ty:=ty) (ks:=ks) h hb ho hf l1;have e1:xs.map g=⟨xs.toList.map g⟩:=by apply I3;simp
  rw[e2,e1];have e3:tys=⟨tys.toList⟩:=rfl;rw[e3,e];exact NOk.of hs
 ·cases ho
end
end Go.Sx
namespace Go.Sx
set_option linter.all false
open Go
set_option linter.unusedVariables false
set_option linter.unusedSimpArgs false
def ofV:Option Value→U
 | some (.int k n)=>.int k n
 | some (.bool b)=>.bool b
 | some (.string s)=>.str s.data.toList
 | _=>.none
def D2(E:Nat→U):Value→U
 | .complex .f64 i _=>E i
 | .int k n=>.int k n
 | .bool b=>.bool b
 | .string s=>.str s.data.toList
 | _=>.none
def evB(op:BinOp):U→U→U
 | .int k a,.int j b=>ofV (A0O op k j a b)
 | .str a,.str b=>ofV (B8j op ⟨⟨a⟩⟩ ⟨⟨b⟩⟩)
 | .bool a,.bool b=>match op with
   | .eql=>.bool (a == b)
   | .neq=>.bool (!(a == b))
   | _=>.none
 | _,_=>.none
def ev1(op:UnOp):U→U
 | .int k n=>ofV (unM op (.int k n))
 | .bool b=>ofV (unM op (.bool b))
 | _=>.none
def eqU:U→U→Option Bool
 | .int k a,.int j b=>if k=j then some (a == b)else none
 | .bool a,.bool b=>some (a == b)
 | .str a,.str b=>some (a == b)
 | _,_=>none
def A4M:List U→Option Bool
 | []=>some true
 | a::b::r=>match eqU a b,A4M r with
   | some x,some y=>some (x && y)
   | _,_=>none
 | _=>none
def B7V(s:List UInt8)(l h:Int):U :=
 match l,h with
 | .ofNat l,.ofNat h=>if l≤h∧h≤s.length then .str ((s.drop l).take (h-l))else .none
 | _,_=>.none
def A7F:List U→Option (List UInt8)
 | []=>some []
 | .int .u8 (.ofNat n)::r=>if n<256 then match A7F r with
   | some l=>some (UInt8.ofNat n::l)
   | none=>none else none
 | _::_=>none
def A78:List (List U)→Option (List UInt8)
 | []=>some []
 | [.int .u8 (.ofNat n)]::r=>if n<256 then match A78 r with
   | some l=>some (UInt8.ofNat n::l)
   | none=>none else none
 | _::_=>none
def A3V(s:List UInt8):List (List U):=s.map fun b=>[.int .u8 b.toNat]
def l8(w:Nat):Nat→List U→Option (List (List U))
 | 0,[]=>some []
 | 0,_::_=>none
 | n+1,l=>if w≤l.length then match l8 w n (l.drop w)with
   | some r=>some (l.take w::r)
   | none=>none else none
def B5G(row:List U)(o:Nat)(cells:List U):List U:=row.take o++cells++row.drop (o+cells.length)
def A79:Nat:=1000000000
def A4W(nul:Bool)(w:Nat)(rows r:List (List U)):U:=if rows.length+r.length≤A79 then(match r with|[]=>.seq nul w rows|r=>.seq false w (rows++r))else .none
def isU(a b:U):Bool :=
 match eqU a b with
 | some c=>c
 | none=>false
def U4:List U→List U→Bool
 | [],_=>true
 | a::k,b::r=>isU a b && U4 k r
 | _::_,[]=>false
def B3d(kw:Nat)(c:List U):List (List U)→List (List U)
 | []=>[c]
 | r::rs=>if U4 (c.take kw) r then c::rs else r::B3d kw c rs
def evU:LOp→List U→U
 | .mhas w kw,.seq _ v rows::k=>if v=w∧k.length=kw then .bool (rows.any (U4 k))else .none
 | .mget w kw o,.seq _ v rows::z::k=>if v=w∧k.length=kw then(match rows.find? (U4 k)with
   | some r=>r.getD o .none
   | none=>z)else .none
 | .mput w kw,.seq nul v rows::c=>if v=w∧c.length=w then .seq nul w (B3d kw c rows)else .none
 | .len,[.seq _ _ rows]=>.int .i64 rows.length
 | .mks,l=>match A7F l with
   | some s=>.str s
   | none=>.none
 | .inbs w,[.int _ i,.seq _ v rows]=>if v=w then .bool (decide (0≤i) && decide (i<rows.length))else .none
 | .get w o,[.seq false v rows,.int _ (.ofNat k)]=>if v=w then(rows.getD k []).getD o .none else .none
 | .mk w,l=>if w=0 then .none else match l8 w (l.length / w) l with
   | some r=>.seq false w r
   | none=>.none
 | .nilw w,[]=>.seq true w []
 | .nilp,[.seq nul _ _]=>.bool nul
 | .snoc w,.seq nul v rows::l=>if v=w∧w≠0 then match l8 w (l.length / w) l with
   | some r=>A4W nul w rows r
   | none=>.none else .none
 | .cat w,[.seq nul v rows,.seq _ v2 r]=>if v=w∧v2=w then A4W nul w rows r else .none
 | .cats,[.seq nul v rows,.str s]=>if v=1 then A4W nul 1 rows (A3V s)else .none
 | .set w o,.seq false v rows::.int _ (.ofNat k)::l=>if v=w∧k<rows.length∧o+l.length≤w then .seq false w (rows.set k (B5G (rows.getD k []) o l))else .none
 | .subs w,[.seq nul v rows,.int _ (.ofNat l),.int _ (.ofNat h)]=>if v=w∧l≤h∧h≤rows.length then .seq nul w ((rows.drop l).take (h-l))else .none
 | .str,[.seq _ v rows]=>if v=1 then match A78 rows with
   | some s=>.str s
   | none=>.none else .none
 | .byt,[.str s]=>.seq false 1 (A3V s)
 | .ustr,[.seq _ v rows,.int _ (.ofNat n)]=>if v=1∧n≤rows.length∧n≤A79 then match A78 (rows.take n)with
   | some s=>.str s
   | none=>.none else .none
 | .rep w,.int _ (.ofNat n)::l=>if l.length=w∧n≤A79 then .seq false w (List.replicate n l)else .none
 | .bin op,[a,b]=>evB op a b
 | .un op,[a]=>ev1 op a
 | .conv k,[.int _ n]=>.int k (k.wrap n)
 | .len,[.str s]=>.int .i64 s.length
 | .idx,[.str s,.int _ (.ofNat k)]=>match s[k]? with
   | some b=>.int .u8 b.toNat
   | none=>.none
 | .sub,[.str s,.int _ l,.int _ h]=>B7V s l h
 | .sub1,[.str s,.int _ l]=>B7V s l s.length
 | .sel,.int _ (.ofNat k)::cs=>cs.getD k .none
 | .inb,[.int _ i,.int _ n]=>.bool (decide (0≤i) && decide (i<n))
 | .eqs,l=>match A4M l with
   | some b=>.bool b
   | none=>.none
 | .max,[.int k a,.int _ b]=>.int k (if b>a then b else a)
 | .min,[.int k a,.int _ b]=>.int k (if b<a then b else a)
 | _,_=>.none
def c9.ok(E:Nat→U):c9→Prop
 | .lt i t op xs=>E i=evU op (xs.map (D2 E))∧F1 (E i)=t∧t<10
 | .dt i t op xs=>E i=evU op (xs.map (D2 E))∧F1 (E i)=t∧∃ nul w rows,E i=.seq nul w rows
 | .br i b=>E i=.bool b
 | .as op xs=>evU op (xs.map (D2 E))=.bool true
 | .con spec xs i d n=>∃ outs,spec (xs.map (D2 E))=some (d,outs)∧outs.length=n∧∀ j u,outs[j]? = some u→E (i+j)=u
def R9(E:Nat→U)(l:List c9):Prop:=∀ e ∈ l,e.ok E
def Lg.le(a b:Lg):Prop:=a.log <:+ b.log
theorem Lg.le.refl(a:Lg):a.le a:=List.suffix_refl _
theorem Lg.le.trans{a b c:Lg}(h:a.le b)(k:b.le c):a.le c:=List.IsSuffix.trans h k
theorem R9.le{E:Nat→U}{a b:Lg}(h:R9 E b.log)(k:a.le b):R9 E a.log:=fun e he=>h e (k.subset he)
variable [Ora]
abbrev Sat(lg:Lg):Prop:=R9 Ora.env lg.log
omit [Ora] in
theorem B59{u:U}(h:F1 u<10):∃ v,toV u=some v∧ofV (some v)=u∧F4 v=F1 u:=by
 cases u with
 | none=>simp[F1]at h
 | seq _ _ _=>simp only[F1]at h;omega
 | int k n=>exact⟨_,rfl,rfl,rfl⟩
 | bool b=>exact⟨_,rfl,rfl,rfl⟩
 | str s=>exact⟨_,rfl,rfl,rfl⟩
theorem B2A{o:Option Value}(h:F1 (ofV o)<10):∃ v,o=some v∧toV (ofV o)=some v:=by
 unfold ofV at h;split at h
 ·exact⟨_,rfl,rfl⟩
 ·exact⟨_,rfl,rfl⟩
 ·rename_i s;refine⟨_,rfl,?_⟩;simp[ofV,toV]
 ·simp[F1]at h
theorem K8(k:IntKind):A2m k<8:=by cases k<;>decide
theorem x3{ρ:Ren}{v v':Value}(h:VR ρ v v')(ht:F4 v<10):toV (D2 Ora.env v)=some v'∧F1 (D2 Ora.env v)=F4 v:=by
 cases h with
 | pure hp =>
   cases v<;>simp only[F4]at ht<;>first
    | exact⟨rfl,rfl⟩
    | (exfalso;omega)
    | (simp[H5]at hp)
 | hole h ht2=>exact⟨h,ht2⟩
 | junk=>simp[F4]at ht
 | ixp _ _ _ _ _=>simp[F4,ixp]at ht
 | dat _ _ _ _ _=>simp[F4,Go.Sx.dat]at ht
 | clp _ _ _ _ _ _=>simp[F4,Go.Sx.clp]at ht
 | own _ _ _=>simp[F4,Go.Sx.own]at ht
 | dpt _ _ _=>simp[F4,Go.Sx.dpt]at ht
 | opt _ _ _=>simp[F4,Go.Sx.opt]at ht
 | yv _=>simp[F4,Go.Sx.yv]at ht
 | sdt _=>simp[F4,Go.Sx.sdt]at ht
 | _=>simp[F4]at ht
theorem O6{ρ:Ren}{v v':Value}(h:VR ρ v v')(ht:F4 v<8):∃ k n,v'=.int k n∧D2 Ora.env v=.int k n∧F4 v=A2m k:=by
 obtain⟨h1,h2⟩:=x3 h (by omega);cases hu:D2 Ora.env v with
 | int k n=>rw[hu]at h1 h2;cases h1;exact⟨k,n,rfl,rfl,h2.symm⟩
 | bool b=>rw[hu]at h2;simp only[F1]at h2;omega
 | str s=>rw[hu]at h2;simp only[F1]at h2;omega
 | none=>rw[hu]at h1;cases h1
 | seq _ _ _=>rw[hu]at h1;cases h1
theorem A2e{ρ:Ren}{v v':Value}(h:VR ρ v v')(ht:F4 v=8):∃ b,v'=.bool b∧D2 Ora.env v=.bool b:=by
 obtain⟨h1,h2⟩:=x3 h (by omega);cases hu:D2 Ora.env v with
 | int k n=>rw[hu]at h2;simp only[F1]at h2;have:=K8 k;omega
 | bool b=>rw[hu]at h1;cases h1;exact⟨b,rfl,rfl⟩
 | str s=>rw[hu]at h2;simp only[F1]at h2;omega
 | none=>rw[hu]at h1;cases h1
 | seq _ _ _=>rw[hu]at h1;cases h1
theorem A0b{ρ:Ren}{v v':Value}(h:VR ρ v v')(ht:F4 v=9):∃ s,v'=.string ⟨⟨s⟩⟩∧D2 Ora.env v=.str s:=by
 obtain⟨h1,h2⟩:=x3 h (by omega);cases hu:D2 Ora.env v with
 | int k n=>rw[hu]at h2;simp only[F1]at h2;have:=K8 k;omega
 | bool b=>rw[hu]at h2;simp only[F1]at h2;omega
 | str s=>rw[hu]at h1;cases h1;exact⟨s,rfl,rfl⟩
 | none=>rw[hu]at h1;cases h1
 | seq _ _ _=>rw[hu]at h1;cases h1
theorem A4v{m m':Mem}{t:Nat}{op:LOp}{xs:List Value}{v:Value}(h:W6 m t op xs=some (v,m')):v=hole m.lg.nx t∧m'=m.wLg ⟨m.lg.nx+1,m.lg.pi,.lt m.lg.nx t op xs::m.lg.log⟩:=by
 obtain⟨H,n,W,hi,⟨nx,pi,log⟩⟩:=m;simp only[W6,E1,G6]at h;cases h;exact⟨rfl,rfl⟩
theorem L5{m m':Mem}{t:Nat}{op:LOp}{xs:List Value}{v:Value}(h:W6 m t op xs=some (v,m'))(hS:Sat m'.lg):∃ u,evU op (xs.map (D2 Ora.env))=u∧F1 u=t∧∃ r,toV u=some r∧(∀ ρ,VR ρ v r)∧t<10:=by
 obtain⟨rfl,rfl⟩:=A4v h;obtain⟨h1,h2,h3⟩:=hS (.lt m.lg.nx t op xs) (by cases m;exact B4);refine⟨_,rfl,h1▸h2,?_⟩;obtain⟨r,h4,_⟩:=B59 (u:=Ora.env m.lg.nx) (by omega);exact⟨r,h1▸h4,fun ρ=>.hole h4 h2,h3⟩
section
variable {P:Program} {base:Nat} {ρ:Ren} {m m':Mem} {w:World}
theorem St.wLg(h:HR P base ρ m.H w)(lg:Lg):St P base ρ ρ m (m.wLg lg) w w:=by
 obtain⟨H,n,W,hi,l⟩:=m;have r:=St.refl (m:=⟨H,n,W,hi,l⟩) h;exact⟨r.ext,r.new,r.nle,r.hle,r.nhi,r.hr,r.wsub,r.wrw,r.keep,r.size,r.os,r.blk,r.same,r.tch⟩
theorem A0W:∀ {l:List c9} {i:Nat} {b:Bool},A9W l i=some b→c9.br i b ∈ l
 | [],_,_,h=>by cases h
 | .br j c::r,i,b,h=>by
   rw[A9W]at h;cases hq:Nat.beq j i with
   | true=>rw[hq]at h;cases h;rw[A0 hq];exact B4
   | false=>rw[hq]at h;exact B8 _ (A0W h)
 | .lt _ _ _ _::r,i,b,h=>B8 _ (A0W (l:=r) h)
 | .dt _ _ _ _::r,i,b,h=>B8 _ (A0W (l:=r) h)
 | .as _ _::r,i,b,h=>B8 _ (A0W (l:=r) h)
 | .con _ _ _ _ _::r,i,b,h=>B8 _ (A0W (l:=r) h)
theorem A4Y{lg lg':Lg}{c:Value}{b:Bool}(h:brL lg c=some (b,lg')):lg.le lg':=by
 unfold brL at h;split at h
 ·cases h;exact .refl _
 ·obtain⟨nx,pi,log⟩:=lg;simp only at h;split at h
  ·cases h;exact .refl _
  ·split at h
   ·cases h;exact⟨[_],rfl⟩
   ·cases h;exact⟨[_],rfl⟩
   ·cases h
 ·cases h
theorem A5b{lg lg':Lg}{c c':Value}{b:Bool}(h:brL lg c=some (b,lg'))(hc:VR ρ c c')(hS:Sat lg'):c'=.bool b:=by
 unfold brL at h;split at h
 ·cases h;exact A0o hc
 ·rename_i i;have hb:Ora.env i=.bool b:=by
   obtain⟨nx,pi,log⟩:=lg;simp only at h;split at h
   ·rename_i b' hf;cases h;exact hS _ (A0W hf)
   ·split at h
    ·cases h;exact hS (.br i true) B4
    ·cases h;exact hS (.br i false) B4
    ·cases h
  obtain⟨b',h1,h2⟩:=A2e hc rfl;have h2:Ora.env i=.bool b':=h2;rw[hb]at h2;cases h2;exact h1
 ·cases h
theorem A7n:∀ {a b:List U} {z:Bool},a.length%2=0→A4M (a++b)=some z→∃ x y,A4M a=some x∧A4M b=some y∧z=(x && y)
 | [],b,z,_,h=>⟨true,z,rfl,h,rfl⟩
 | [_],_,_,hl,_=>by simp at hl
 | p::q::r,b,z,hl,h=>by
   simp only[j7]at h;unfold A4M at h;split at h
   ·rename_i u v e1 e2;cases h;obtain⟨x,y,h1,h2,rfl⟩:=A7n (by simp only[B6]at hl;omega) e2;exact⟨u && x,y,by simp only[A4M,e1,h1],h2,by simp[Bool.and_assoc]⟩
   ·cases h
theorem B7f{t:TypeId}{x y x' y':Value}(h:A1n P t x y=true)(hx:VR ρ x x')(hy:VR ρ y y'){b:Bool}(hb:eqU (D2 Ora.env x) (D2 Ora.env y)=some b)(n:Nat)(w:World):(Op.equalIn (n+1) t x' y').run P w=.ok b w:=by
 unfold A1n at h;split at h
 ·rename_i hu;obtain⟨h1,h2⟩:=B2 h;obtain⟨p,rfl,e1⟩:=A2e hx (A0 h1);obtain⟨q,rfl,e2⟩:=A2e hy (A0 h2);rw[e1,e2]at hb;cases hb;simp[Op.equalIn,Sem.run_bind,C4 hu,Result.andThen]
 ·rename_i k hu;obtain⟨h1,h2⟩:=B2 h;have h1:=A0 h1;have h2:=A0 h2;obtain⟨k1,p,rfl,e1,f1⟩:=O6 hx (by have:=K8 k;omega);obtain⟨k2,q,rfl,e2,f2⟩:=O6 hy (by have:=K8 k;omega);have g1:k1=k:=by cases k1<;>cases k<;>first|rfl|(simp only[A2m]at f1 h1;omega)
  have g2:k2=k:=by cases k2<;>cases k<;>first|rfl|(simp only[A2m]at f2 h2;omega)
  subst g1;subst g2;rw[e1,e2]at hb;simp[eqU]at hb;subst hb;simp[Op.equalIn,Sem.run_bind,C4 hu,Result.andThen]
 ·rename_i hu;obtain⟨h1,h2⟩:=B2 h;obtain⟨p,rfl,e1⟩:=A0b hx (A0 h1);obtain⟨q,rfl,e2⟩:=A0b hy (A0 h2);rw[e1,e2]at hb;cases hb
  have:=run_equalIn_string (P:=P) w n t ⟨⟨p⟩⟩ ⟨⟨q⟩⟩ hu;rw[this];simp[ByteArray.toList_eq]
 ·cases h
mutual
theorem B6v:∀ (d:Nat) (t:TypeId) (x y:Value) (l:List Value),eqS P d t x y=some l→l.length%2=0
 | 0,_,_,_,_,h=>by simp[eqS]at h
 | d+1,t,x,y,l,h=>by
   unfold eqS at h;cases hs:A1n P t x y with
   | true=>rw[hs]at h;cases h;simp
   | false =>
     rw[hs]at h;simp only[cond_false]at h;split at h
     ·rename_i fs xs ys hu;cases hst:P.stoodInHeld t with
      | true=>rw[hst]at h;cases h
      | false=>rw[hst]at h;exact A9c d _ _ _ l h
     ·split at h
      ·exact A9c d _ _ _ l h
      ·cases h
     ·cases h
theorem A9c:∀ (d:Nat) (fs:List Field) (xs ys:List Value) (l:List Value),A9d P d fs xs ys=some l→l.length%2=0
 | 0,_,_,_,_,h=>by simp[A9d]at h
 | d+1,[],_,_,_,h=>by simp only[A9d,C5]at h;subst h;rfl
 | d+1,f::fs,xs,ys,l,h=>by
   unfold A9d at h;cases hnm:f.name == "_" with
   | true=>rw[hnm]at h;cases h
   | false =>
     rw[hnm]at h;simp only[cond_false]at h;split at h
     ·split at h
      ·rename_i a b ha hb;cases h
       have:=B6v d _ _ _ a ha
       have:=A9c d _ _ _ b hb;simp only[A7];omega
      ·cases h
     ·cases h
end
mutual
theorem B5f:∀ (d:Nat) (t:TypeId) (x y x' y':Value) (l:List Value) (b:Bool),eqS P d t x y=some l→A4M (l.map (D2 Ora.env))=some b→VR ρ x x'→VR ρ y y'→∀ (n:Nat),d≤n→∀ w:World,(Op.equalIn n t x' y').run P w=.ok b w
 | 0,_,_,_,_,_,_,_,h,_,_,_,_,_,_=>by simp[eqS]at h
 | d+1,t,x,y,x',y',l,b,h,hl,hx,hy,n,hn,w=>by
   obtain⟨n,rfl⟩:∃ k,n=k+1:=⟨n-1,by omega⟩;have hn':d≤n:=by omega
   unfold eqS at h;cases hs:A1n P t x y with
   | true =>
     rw[hs]at h;cases h;simp only[D7,I0,A4M]at hl;split at hl
     ·rename_i u v e1 e2;cases e2;cases hl;rw[A2W];exact B7f hs hx hy e1 n w
     ·cases hl
   | false =>
     rw[hs]at h;simp only[cond_false]at h;split at h
     ·rename_i fs xs ys hu;cases hst:P.stoodInHeld t with
      | true=>rw[hst]at h;cases h
      | false =>
        rw[hst]at h;obtain⟨xs',rfl,hx1⟩:=W1 hx;obtain⟨ys',rfl,hy1⟩:=W1 hy;have hf:P.fieldsOf t=fs:=by simp[Program.fieldsOf,hu]
        rw[run_equalIn_struct (P:=P) w n t _ _ (by rw[hf];exact hu) hst,hf];exact B2e d fs.toList xs.toList ys.toList xs' ys' l b h hl hx1 hy1 n hn' w
     ·rename_i k e xs ys hu;split at h
      ·rename_i s hz;obtain⟨xs',rfl,hx1⟩:=W1 hx;obtain⟨ys',rfl,hy1⟩:=W1 hy;obtain⟨i,hi,rfl⟩:=B0i hz;rw[run_equalIn_array (P:=P) (w:=w) n _ _ hu hi,show P.cellsOf e=i.size by simp[Program.cellsOf,hi],A1p];exact B2e d _ xs.toList ys.toList xs' ys' l b h hl hx1 hy1 n hn' w
      ·cases h
     ·cases h
theorem B2e:∀ (d:Nat) (fs:List Field) (xs ys xs' ys':List Value) (l:List Value) (b:Bool),A9d P d fs xs ys=some l→A4M (l.map (D2 Ora.env))=some b→LR ρ xs xs'→LR ρ ys ys'→∀ (n:Nat),d≤n→∀ w:World,(Op.eqFields n ⟨xs'⟩ ⟨ys'⟩ fs).run P w=.ok b w
 | 0,_,_,_,_,_,_,_,h,_,_,_,_,_,_=>by simp[A9d]at h
 | d+1,[],_,_,_,_,_,b,h,hl,_,_,_,_,_=>by
   simp only[A9d,C5]at h;subst h;simp only[I0,A4M,C5]at hl;subst hl;simp[Op.eqFields]
 | d+1,f::fs,xs,ys,xs',ys',l,b,h,hl,hx,hy,n,hn,w=>by
   unfold A9d at h;cases hnm:f.name == "_" with
   | true=>rw[hnm]at h;cases h
   | false =>
     rw[hnm]at h;simp only[cond_false]at h;have hn':f.name ≠ "_":=by simpa using hnm
     split at h
     ·rename_i x y h1 h2;obtain⟨x',g1,g2⟩:=A2k h1 hx w;obtain⟨y',g3,g4⟩:=A2k h2 hy w;split at h
      ·rename_i a c ha hc;cases h;rw[P8]at hl;obtain⟨p,q,e1,e2,rfl⟩:=A7n (by have:=B6v d _ _ _ a ha;simpa using this) hl;have ih:=B5f d f.type x y x' y' a p ha e1 g2 g4 n (by omega) w;have ih2:=B2e d fs xs ys xs' ys' c q hc e2 hx hy n (by omega) w;unfold Op.eqFields;rw[if_pos hn'];cases p<;>simp[Sem.run_bind,g1,g3,Result.andThen,ih,ih2]
      ·cases h
     ·cases h
end
end
end Go.Sx
namespace Go.Sx
set_option linter.all false
open Go
set_option linter.unusedVariables false
set_option linter.unusedSimpArgs false
variable [Ora]
section
variable {P:Program} {base:Nat} {ρ:Ren} {m m':Mem} {w w':World}
theorem St.new0{ab:AB}{k:Nat→Value}{v:Value}{l':Loc}(h:HR P base ρ m.H w)(hn:e9 m ab k=some (v,m'))(hf:J6 ρ m.n m'.hi)(hb:BR P (upd ρ m.n l') ab l' w)(hon:l'.on=false)
  (hT:∀ q,Tc ab l' q→Fp ρ m.H q∧∀ id,id≤G2→∀ a l,Hp.get m.H id=some a→ρ id=some l→a.rw=true→l.on=true→l.blk≠q):v=k m.n∧upd ρ m.n l' m.n=some l'∧St P base ρ (upd ρ m.n l') m m' w w:=by
 obtain⟨hle,hv,rfl⟩:=L4 hn;have hfree:ρ m.n=none:=hf m.n (A5 _) (K3 _ _).2;have hext:=Z0 (l:=l') hfree;refine⟨hv,K9 _ _ _,hext,fun b q h1 h2=>?_,by simp,(K3 _ _).1,fun _=>Z2 (K3 _ _).2,⟨fun b q hq=>?_,fun id hid a ha=>?_⟩,fun b hb=>hb,fun b h1 h2=>absurd h1 h2,fun q hq _=>rfl,A5 _,⟨rfl,rfl,rfl⟩,fun b q h1 h2 ho=>?_,fun id hid h1 h2=>?_,fun q ⟨id,a,l,hid,ha,hl,ht⟩=>.inr ?_⟩
 ·obtain⟨rfl,rfl⟩:=U8 h1 h2;exact⟨A5 _,I5 _⟩
 ·cases h0:ρ b with
  | some k0=>exact h.dom b k0 h0
  | none=>obtain⟨rfl,rfl⟩:=U8 hq h0;exact hle
 ·rw[E3 _ _ _ _ hle hid]at ha;by_cases e:id=m.n
  ·rw[if_pos e]at ha;have ha:=A4 ha;subst ha;subst e;exact⟨l',K9 _ _ _,hb,fun _ ho=>(by rw[hon]at ho;cases ho)⟩
  ·rw[if_neg e]at ha;obtain⟨l0,h1,h2,h3⟩:=h.at_ id hid a ha;refine⟨l0,hext _ _ h1,h2.mono hext (fun _ _=>rfl),fun hr ho=>⟨(h3 hr ho).1,fun id2 hid2 ab2 l2 g1 g2 g3=>?_⟩⟩;rw[E3 _ _ _ _ hle hid2]at g1;by_cases e2:id2=m.n
   ·subst e2;rw[K9]at g2
    have:=A4 g2;subst this;rw[if_pos rfl]at g1;have g1:=A4 g1;subst g1;exact absurd rfl ((hT _ g3).2 id hid a l0 ha h1 hr ho)
   ·rw[if_neg e2]at g1;unfold upd at g2;rw[if_neg e2]at g2;exact(h3 hr ho).2 id2 hid2 ab2 l2 g1 g2 g3
 ·obtain⟨rfl,rfl⟩:=U8 h1 h2;rw[hon]at ho;cases ho
 ·rw[E3 _ _ _ _ hle hid,if_neg];intro e;subst e;rcases h2 with h2|h2
  ·omega
  ·have h2:upN m.hi m.n≤m.n:=h2
   have:=(K3 m.hi m.n).2;omega
 ·have ha:Hp.get (m.H.set m.n (some ab)) id=some a:=ha;rw[E3 _ _ _ _ hle hid]at ha;by_cases e:id=m.n
  ·subst e;rw[if_pos rfl]at ha;have ha:=A4 ha;subst ha;rw[K9]at hl;have hl:=A4 hl;subst hl;exact(hT q ht.2).1
  ·rw[if_neg e]at ha;unfold upd at hl;rw[if_neg e]at hl;exact⟨id,a,l,hid,ha,hl,ht⟩
theorem St.same0{ab ab':AB}{id:Nat}{l:Loc}(h:HR P base ρ m.H w)(hs:A1Z m id ab'=some m')(hg:Hp.get m.H id=some ab)(hrw:ab.rw=true)(hl:ρ id=some l)(hb:BR P ρ ab' l w)(hT:∀ q,Tc ab' l q→Tc ab l q):St P base ρ ρ m m' w w:=by
 obtain⟨hle,rfl⟩:=U9 hs;obtain⟨h2,h3⟩:=h.atl hl hg;refine⟨fun _ _ h=>h,fun b k h1 h2=>(by rw[h1]at h2;cases h2),A5 _,A5 _,fun h=>h,⟨h.dom,fun id2 hid2 a ha=>?_⟩,fun b hb=>B8 _ hb,fun b h1 h2 k hk'=>?_,fun k hk' hb'=>rfl,A5 _,⟨rfl,rfl,rfl⟩,fun b k h1 h2=>(by rw[h1]at h2;cases h2),fun id2 hid2 h4 h5=>?_,fun k ⟨id2,a,q,hid2,ha,hq,ht⟩=>.inr ?_⟩
 ·rw[E3 _ _ _ _ hle hid2]at ha;by_cases e:id2=id
  ·rw[if_pos e]at ha;have ha:=A4 ha;subst ha;subst e;refine⟨l,hl,hb,fun _ ho'=>⟨(h3 hrw ho').1,fun id3 hid3 ab3 l3 g1 g2 g3=>?_⟩⟩;rw[E3 _ _ _ _ hle hid3]at g1;by_cases e3:id3=id2
   ·exact e3
   ·rw[if_neg e3]at g1;exact(h3 hrw ho').2 id3 hid3 ab3 l3 g1 g2 g3
  ·rw[if_neg e]at ha;obtain⟨l2,g1,g2,g3⟩:=h.at_ id2 hid2 a ha;refine⟨l2,g1,g2.mono (fun _ _ h=>h) (fun k hk'=>rfl),fun hr ho'=>⟨(g3 hr ho').1,fun id3 hid3 ab3 l3 f1 f2 f3=>?_⟩⟩;rw[E3 _ _ _ _ hle hid3]at f1;by_cases e3:id3=id
   ·subst e3;rw[hl]at f2
    have:=A4 f2;subst this;have f1:=A4 (by simpa using f1);subst f1;exact(g3 hr ho').2 id3 hid3 ab l hg hl (hT _ f3)
   ·rw[if_neg e3]at f1;exact(g3 hr ho').2 id3 hid3 ab3 l3 f1 f2 f3
 ·rcases B7.1 h1 with rfl|h1
  ·exact⟨ab,hg,hrw⟩
  ·exact absurd h1 h2
 ·rw[E3 _ _ _ _ hle hid2,if_neg];intro e;subst e;exact h4 B4
 ·have ha:Hp.get (m.H.set id (some ab')) id2=some a:=ha;rw[E3 _ _ _ _ hle hid2]at ha;by_cases e:id2=id
  ·subst e;rw[if_pos rfl]at ha;have ha:=A4 ha;subst ha;rw[hl]at hq;have hq:=A4 hq;subst hq;exact⟨id2,ab,l,hid2,hg,hl,AB.rw_fr hrw,hT _ ht.2⟩
  ·rw[if_neg e]at ha;exact⟨id2,a,q,hid2,ha,hq,ht⟩
theorem St.move{ab ab':AB}{id:Nat}{l l':Loc}{k:Nat→Value}{v:Value}(h:HR P base ρ m.H w)(hle:id≤G2)(hg:Hp.get m.H id=some ab)(hrw:ab.rw=true)(hl:ρ id=some l)
  (hn:e9 (A3X m id) ab' k=some (v,m')) (hf:J6 ρ m.n m'.hi) (hbl:l'.on=true→l.on=true∧l'.blk=l.blk)
  (ho:w'.os=w.os∧w'.tape=w.tape∧w'.output=w.output) (hsz:w'.heap.size=w.heap.size) (hk:∀ k,(l.on=true→k≠l.blk)→w'.heap[k]? = w.heap[k]?) (hb:BR P (upd ρ m.n l') ab' l' w') (hfz:ab'≠.frz) :
  v=k m.n∧upd ρ m.n l' m.n=some l'∧St P base ρ (upd ρ m.n l') m m' w w':=by
 rw[o9]at hn;obtain⟨hnm,hv,rfl⟩:=L4 hn;have hfree:ρ m.n=none:=hf m.n (A5 _) (K3 _ _).2;have hext:=Z0 (l:=l') hfree;obtain⟨h2,h3⟩:=h.atl hl hg;have hTc:∀ k,Tc ab' l' k→l.on=true∧k=l.blk:=fun k hk=>by
  rcases hk with⟨_,h1,rfl⟩|⟨rfl,_⟩
  ·exact hbl h1
  ·exact absurd rfl hfz
 have hne:id≠m.n:=fun e=>by subst e;rw[hl]at hfree;cases hfree
 have hget:∀ i,i≤G2→Hp.get ((m.H.set id none).set m.n (some ab')) i=if i=m.n then some ab' else if i=id then none else Hp.get m.H i:=fun i hi=>by
  rw[E3 _ _ _ _ hnm hi,E3 _ _ _ _ hle hi]
 refine⟨hv,K9 _ _ _,hext,fun b q h1 h2=>?_,d7 _,(K3 _ _).1,fun _=>Z2 (K3 _ _).2,⟨fun b q hq=>?_,fun i hi a ha=>?_⟩,fun b hb=>B8 _ hb,fun b h1 h2 q hq=>?_,fun q hq hb'=>hk q ?_,by rw[hsz];exact A5 _,ho,fun b q h1 h2 ho'=>?_,fun i hi h4 h5=>?_,fun k ⟨i,a,q,hi,ha,hq,ht⟩=>.inr ?_⟩
 ·obtain⟨rfl,rfl⟩:=U8 h1 h2;exact⟨A5 _,I5 _⟩
 ·cases h0:ρ b with
  | some q0=>exact h.dom b q0 h0
  | none=>obtain⟨rfl,rfl⟩:=U8 hq h0;exact hnm
 ·have ha:Hp.get ((m.H.set id none).set m.n (some ab')) i=some a:=ha;rw[hget i hi]at ha;by_cases e:i=m.n
  ·rw[if_pos e]at ha;have ha:=A4 ha;subst ha;subst e;refine⟨l',K9 _ _ _,hb,fun hr' ho'=>?_⟩;obtain⟨hon,hblk⟩:=hbl ho';refine⟨by rw[hblk];exact(h3 hrw hon).1,fun id2 hid2 ab2 l2 g1 g2 g3=>?_⟩;rw[hget id2 hid2]at g1;by_cases e2:id2=m.n
   ·exact e2
   ·rw[if_neg e2]at g1;unfold upd at g2;rw[if_neg e2]at g2;by_cases e3:id2=id
    ·rw[if_pos e3]at g1;cases g1
    ·rw[if_neg e3]at g1;exact absurd ((h3 hrw hon).2 id2 hid2 ab2 l2 g1 g2 (hblk▸g3)) e3
  ·rw[if_neg e]at ha;by_cases e3:i=id
   ·rw[if_pos e3]at ha;cases ha
   ·rw[if_neg e3]at ha;obtain⟨l2,g1,g2,g3⟩:=h.at_ i hi a ha;have hnb:∀ k,Tc a l2 k→l.on=true→k≠l.blk:=fun k hk' hon hh=>e3 ((h3 hrw hon).2 i hi a l2 ha g1 (hh▸hk'))
    refine⟨l2,hext _ _ g1,g2.mono hext (fun k hk'=>hk _ (hnb k hk')),fun hr ho'=>⟨(g3 hr ho').1,fun id3 hid3 ab3 l3 f1 f2 f3=>?_⟩⟩;have f1:Hp.get ((m.H.set id none).set m.n (some ab')) id3=some ab3:=f1;rw[hget id3 hid3]at f1;by_cases e4:id3=m.n
    ·subst e4;rw[K9]at f2
     have:=A4 f2;subst this;rw[if_pos rfl]at f1;have f1:=A4 f1;subst f1;obtain⟨hon,hq⟩:=hTc _ f3;exact absurd hq (hnb _ (.inl ⟨AB.rw_on hr,ho',rfl⟩) hon)
    ·rw[if_neg e4]at f1;unfold upd at f2;rw[if_neg e4]at f2;by_cases e5:id3=id
     ·rw[if_pos e5]at f1;cases f1
     ·rw[if_neg e5]at f1;exact(g3 hr ho').2 id3 hid3 ab3 l3 f1 f2 f3
 ·rcases B7.1 h1 with rfl|h1
  ·exact⟨ab,hg,hrw⟩
  ·exact absurd h1 h2
 ·exact fun hon e=>hb' id B4 l hl hon e.symm
 ·obtain⟨rfl,rfl⟩:=U8 h1 h2;obtain⟨hon,hblk⟩:=hbl ho';exact .inr ⟨id,B4,l,hl,hon,hblk.symm⟩
 ·have hgi:=hget i hi;show Hp.get ((m.H.set id none).set m.n (some ab')) i=_;rw[hgi,if_neg,if_neg]
  ·intro e;subst e;exact h4 B4
  ·intro e;subst e;rcases h5 with h5|h5
   ·omega
   ·have h5:upN m.hi m.n≤m.n:=h5
    have:=(K3 m.hi m.n).2;omega
 ·have ha:Hp.get ((m.H.set id none).set m.n (some ab')) i=some a:=ha;rw[hget i hi]at ha;by_cases e:i=m.n
  ·rw[if_pos e]at ha;have ha:=A4 ha;subst ha;subst e;rw[K9]at hq;have hq:=A4 hq;subst hq;obtain⟨hon,hb⟩:=hTc k ht.2;exact⟨id,ab,l,hle,hg,hl,AB.rw_fr hrw,.inl ⟨AB.rw_on hrw,hon,hb.symm⟩⟩
  ·rw[if_neg e]at ha;unfold upd at hq;rw[if_neg e]at hq;by_cases e3:i=id
   ·rw[if_pos e3]at ha;cases ha
   ·rw[if_neg e3]at ha;exact⟨i,a,q,hi,ha,hq,ht⟩
end
end Go.Sx
namespace Go.Sx
set_option linter.all false
open Go
set_option linter.unusedVariables false
set_option linter.unusedSimpArgs false
variable [Ora]
theorem A0e{m m':Mem}{ab:AB}{k:Nat→Value}{v:Value}(h:e9 m ab k=some (v,m')):m'.lg=m.lg:=by
 obtain⟨_,_,rfl⟩:=L4 h;rfl
theorem A4h{m m':Mem}{id:Nat}{ab:AB}(h:A1Z m id ab=some m'):m'.lg=m.lg:=by
 obtain⟨_,rfl⟩:=U9 h;rfl
theorem A6l{m m':Mem}{a:Addr}{vs:List Value}(h:A5J m a vs=some m'):m'.lg=m.lg:=by
 unfold A5J at h;split at h
 ·obtain⟨_,h⟩:=A2 h;rw[G6]at h;exact A4h h
 ·cases h
theorem B7X{P:Program}{m m':Mem}{t:TypeId}{a:Addr}{v:Value}(h:A8l P m t a v=some m'):m'.lg=m.lg:=by
 unfold A8l at h;split at h
 ·obtain⟨_,h⟩:=A2 h;exact A6l h
 ·cases h
theorem s8{m m':Mem}{o:Option Value}{v:Value}(h:noM o m=some (v,m')):m'.lg=m.lg:=by
 obtain⟨_,rfl⟩:=o8 h;rfl
theorem A9x{P:Program}{m m':Mem}{t:TypeId}{n:Nat}{ps:List (Nat×Value)}{v:Value}(h:A0s P m t n ps=some (v,m')):m'.lg=m.lg:=by
 unfold A0s at h;split at h
 ·split at h
  ·obtain⟨_,h⟩:=A2 h;split at h
   ·exact A0e h
   ·cases h
  ·cases h
 ·cases h
theorem B0N{P:Program}{m m':Mem}{t:TypeId}{l c v:Value}(h:A1j P m t l c=some (v,m')):m'.lg=m.lg:=by
 unfold A1j at h;split at h
 ·split at h
  ·obtain⟨_,h⟩:=A2 h;split at h
   ·rw[G6]at h;exact A0e h
   ·cases h
  ·cases h
 ·cases h
theorem C0j{P:Program}{m m':Mem}{s t:TypeId}{x v:Value}(h:B1U P m s t x=some (v,m')):m'.lg=m.lg:=by
 unfold B1U at h;split at h
 ·cases h;rfl
 ·cases h;rfl
 ·cases h;rfl
 ·split at h
  ·split at h
   ·rw[G6]at h;exact A0e h
   ·cases h
  ·cases h
 ·split at h<;>cases h;rfl
 ·split at h
  ·split at h
   ·split at h<;>cases h;rfl
   ·cases h
  ·cases h
 ·cases h
theorem B5u{P:Program}{m m':Mem}{t t2:TypeId}{x y v:Value}(h:A6d P m t t2 x y=some (v,m')):m'.lg=m.lg:=by
 unfold A6d at h;split at h
 ·rename_i e0 d2 _ _;cases hq:A01 d2 with
  | false=>rw[hq]at h;cases h
  | true =>
  rw[hq]at h;simp only[P0,cond_false]at h;split at h
  ·rename_i i a n c _;split at h
   ·rename_i k new z _ _;obtain⟨_,h⟩:=A2 h;cases hk:Nat.beq k 0 with
    | true =>
      rw[hk]at h;simp only[cond_true]at h;split at h
      ·obtain⟨_,h⟩:=A2 h;cases h;rfl
      ·obtain⟨_,h⟩:=A2 h;cases h;rfl
    | false =>
      rw[hk]at h;simp only[cond_false]at h;split at h
      ·obtain⟨_,h⟩:=A2 h;rw[G6]at h;exact A0e h
      ·cases hc:Nat.blt c M0 with
       | true =>
         rw[hc]at h;simp only[cond_true]at h;cases hn:Nat.ble (n+k) c with
         | true =>
           rw[hn]at h;simp only[cond_true]at h;split at h
           ·rename_i m1 _ hw;cases h;exact A6l hw
           ·cases h
         | false =>
           rw[hn]at h;simp only[cond_false]at h;split at h
           ·rw[G6]at h;exact A0e h
           ·cases h
       | false =>
         rw[hc]at h;simp only[cond_false]at h;obtain⟨_,h⟩:=A2 h;split at h
         ·obtain⟨_,h⟩:=A2 h;rw[G6]at h;rw[A0e h,o9]
         ·cases h
   ·cases h
  ·cases h
 ·cases h
theorem C0g{P:Program}{m m':Mem}{t:TypeId}{x y v:Value}(h:B4U P m t x y=some (v,m')):m'.lg=m.lg:=by
 unfold B4U at h;split at h
 ·split at h
  ·split at h
   ·split at h
    ·obtain⟨_,h⟩:=A2 h;cases h;rfl
    ·rename_i k cs hq0 _ ad;cases hz:Nat.beq cs.length 0 with
     | true=>rw[hz]at h;cases h;rfl
     | false =>
       rw[hz]at h;simp only[cond_false]at h;obtain⟨_,h⟩:=A2 h;split at h
       ·rename_i hw;cases h;exact A6l hw
       ·cases h
   ·cases h
  ·cases h
 ·cases h
theorem B0A{P:Program}{m m':Mem}{pt:TypeId}{p l v:Value}(h:A1T P m pt p l=some (v,m')):m'.lg=m.lg:=by
 unfold A1T at h;split at h
 ·cases h;rfl
 ·split at h
  ·split at h
   ·obtain⟨_,h⟩:=A2 h;split at h
    ·split at h
     ·rename_i A0V;cases h;exact A4h A0V
     ·cases h
    ·cases h
   ·cases h
  ·cases h
 ·cases h
theorem B4g{P:Program}{m m':Mem}{b:Builtin}{vs:List Value}{tys:List TypeId}{v:Value}(h:A2v P m b vs tys=some (v,m')):m'.lg=m.lg:=by
 unfold A2v at h;split at h
 ·exact s8 h
 ·exact s8 h
 ·exact B5u h
 ·exact C0g h
 ·exact s8 h
 ·exact s8 h
 ·unfold A23 at h;split at h
  ·cases h;rfl
  ·rename_i a n c;cases hq:Nat.beq n 0 || Nat.beq c 0 || Nat.beq c (M0+2)with
   | true=>rw[hq]at h;cases h
   | false=>rw[hq]at h;cases h;rfl
  ·cases h
 ·exact B0A h
 ·cases h
theorem C7G{P:Program}{fr:Fr}{m m':Mem}{o:Op}{v:Value}(h:opM P fr m o=some (v,m')):m'.lg=m.lg:=by
 unfold opM at h;split at h
 ·cases h;rfl
 ·cases h;rfl
 ·unfold B6T at h;split at h<;>cases h<;>rfl
 ·unfold B2D at h;split at h
  ·exact A0e h
  ·cases h
 ·unfold B9Z at h;obtain⟨_,h⟩:=A2 h;exact A0e h
 ·exact s8 h
 ·exact A9x h
 ·unfold B6U at h;split at h
  ·exact s8 h
  ·cases h
 ·unfold B2B at h;split at h
  ·obtain⟨h,_⟩:=A4s h;exact B7X h
  ·cases h
 ·unfold B9Y at h;split at h<;>cases h<;>rfl
 ·unfold C2h at h;rename_i op t x y yt;cases hq:A9N op with
  | true=>rw[hq]at h;simp only[cond_true]at h;obtain⟨_,h⟩:=A2 h;exact s8 h
  | false=>rw[hq]at h;exact s8 h
 ·exact s8 h
 ·exact C0j h
 ·unfold B2C at h;split at h
  ·split at h
   ·cases h
   ·obtain⟨_,h⟩:=A2 h;cases h;rfl
  ·cases h
 ·cases h;rfl
 ·exact B0N h
 ·exact s8 h
 ·exact s8 h
 ·exact s8 h
 ·exact s8 h
 ·exact s8 h
 ·unfold A32 at h;split at h
  ·exact s8 h
  ·cases h
 ·exact B4g h
 ·cases h
theorem I4{m m':Mem}{t:Nat}{op:LOp}{xs:List Value}{v:Value}(h:W6 m t op xs=some (v,m')):m.lg.le m'.lg:=by
 obtain⟨_,rfl⟩:=A4v h;obtain⟨H,n,W,hi,l⟩:=m;exact⟨[_],rfl⟩
def J4(m m':Mem):Prop:=∃ lg,m'=m.wLg lg
theorem J4.refl(m:Mem):J4 m m:=⟨m.lg,by cases m;rfl⟩
theorem J4.trans{a b c:Mem}(h:J4 a b)(k:J4 b c):J4 a c:=by
 obtain⟨l,rfl⟩:=h;obtain⟨l2,rfl⟩:=k;exact⟨l2,by cases a;rfl⟩
theorem H6{m m':Mem}{t:Nat}{op:LOp}{xs:List Value}{v:Value}(h:W6 m t op xs=some (v,m')):J4 m m':=⟨_,(A4v h).2⟩
section
variable {P:Program} {base:Nat} {ρ:Ren} {m m':Mem} {w:World}
theorem B4y{c a b v:Value}(h:A8D m c a b=some (v,m')):m.lg.le m'.lg∧J4 m m':=by
 obtain⟨H,n,W,hi,lg⟩:=m;unfold A8D at h;simp only at h;split at h
 ·rename_i lg' hb;cases h;exact⟨A4Y hb,⟨_,rfl⟩⟩
 ·rename_i lg' hb;cases h;exact⟨A4Y hb,⟨_,rfl⟩⟩
 ·cases h
theorem B7U{op:BinOp}{t:TypeId}{a b v:Value}(h:A5L P m op t a b=some (v,m')):m.lg.le m'.lg∧J4 m m':=by
 unfold A5L at h;simp only at h;cases h1:(Nat.blt (F4 a) 8 && Nat.blt (F4 b) 8) || (Nat.beq (F4 a) 9 && Nat.beq (F4 b) 9)with
 | true=>rw[h1]at h;exact⟨I4 h,H6 h⟩
 | false =>
   rw[h1]at h;simp only[cond_false]at h;obtain⟨_,h⟩:=A2 h;exact⟨I4 h,H6 h⟩
theorem B8i{op:BinOp}{t:TypeId}{x y:Operand}{a b v:Value}(h:B3J P m op t x y a b=some (v,m')):m.lg.le m'.lg∧J4 m m':=by
 unfold B3J at h;obtain⟨_,h⟩:=A2 h;split at h
 ·exact⟨I4 h,H6 h⟩
 ·split at h
  ·rename_i m1 h1;exact⟨(I4 h1).trans (I4 h),(H6 h1).trans (H6 h)⟩
  ·cases h
 ·cases h
theorem B3I{t:TypeId}{x i v:Value}(h:n8 P m t x i=some (v,m')):m.lg.le m'.lg∧J4 m m':=by
 unfold n8 at h;cases hq:!(Nat.blt (F4 i) 8)with
 | true=>rw[hq]at h;cases h
 | false =>
   rw[hq]at h;simp only[cond_false]at h;split at h
   ·obtain⟨_,h⟩:=A2 h;exact⟨I4 h,H6 h⟩
   ·split at h
    ·obtain⟨_,h⟩:=A2 h;exact⟨I4 h,H6 h⟩
    ·obtain⟨_,h⟩:=A2 h;exact⟨I4 h,H6 h⟩
    ·cases h
   ·cases h
theorem B3G{t:TypeId}{x v:Value}{lo hi mx:Option Value}(h:A3q P m t x lo hi mx=some (v,m')):m.lg.le m'.lg∧J4 m m':=by
 unfold A3q at h;split at h
 ·obtain⟨_,h⟩:=A2 h;split at h
  ·cases h;exact⟨.refl _,.refl _⟩
  ·obtain⟨_,h⟩:=A2 h;exact⟨I4 h,H6 h⟩
  ·obtain⟨_,h⟩:=A2 h;exact⟨I4 h,H6 h⟩
  ·obtain⟨_,h⟩:=A2 h;exact⟨I4 h,H6 h⟩
 ·cases h
theorem B8f{op:UnOp}{x v:Value}(h:B3E m op x=some (v,m')):m.lg.le m'.lg∧J4 m m':=by
 unfold B3E at h;simp only at h;split at h
 ·obtain⟨_,h⟩:=A2 h;exact⟨I4 h,H6 h⟩
 ·obtain⟨_,h⟩:=A2 h;exact⟨I4 h,H6 h⟩
theorem B42{s t:TypeId}{x v:Value}(h:A5v P m s t x=some (v,m')):m.lg.le m'.lg∧J4 m m':=by
 unfold A5v at h;split at h
 ·obtain⟨_,h⟩:=A2 h;exact⟨I4 h,H6 h⟩
 ·obtain⟨_,h⟩:=A2 h;cases h;exact⟨.refl _,.refl _⟩
 ·cases h
theorem B0I{b:Builtin}{vs:List Value}{tys:List TypeId}{v:Value}(h:A1X P m b vs tys=some (v,m')):m.lg.le m'.lg∧J4 m m':=by
 unfold A1X at h;split at h
 ·split at h
  ·obtain⟨_,h⟩:=A2 h;exact⟨I4 h,H6 h⟩
  ·cases h
 ·obtain⟨_,h⟩:=A2 h;exact⟨I4 h,H6 h⟩
 ·obtain⟨_,h⟩:=A2 h;exact⟨I4 h,H6 h⟩
 ·cases h
theorem B6m{a:Addr}{s n:Nat}{i v:Value}(h:B71 m a s n i=some (v,m')):m.lg.le m'.lg∧J4 m m':=by
 unfold B71 at h;cases hq:!(Nat.blt (F4 i) 8)with
 | true=>rw[hq]at h;cases h
 | false =>
   rw[hq]at h;simp only[cond_false]at h;split at h
   ·rename_i b H k W hi lg hl;split at h
    ·rename_i lg' hb;cases h;have h1:=I4 hl;obtain⟨l1,h2⟩:=H6 hl;refine⟨h1.trans (A4Y hb),lg',?_⟩;obtain⟨H0,n0,W0,hi0,l0⟩:=m;cases h2;rfl
    ·cases h
   ·cases h
theorem B0E{t:TypeId}{x i v:Value}(h:A1V P m t x i=some (v,m')):m.lg.le m'.lg∧J4 m m':=by
 unfold A1V at h;split at h
 ·split at h
  ·exact B6m h
  ·cases h
 ·split at h
  ·generalize hq:Nat.beq _ (M0+2)=q at h;cases q with
   | true=>cases h
   | false=>exact B6m h
  ·cases h
 ·cases h
theorem B0G{s:TypeId}{x v:Value}{i:Nat}(h:A1W P m s x i=some (v,m')):m.lg.le m'.lg∧J4 m m':=by
 unfold A1W at h;split at h
 ·split at h
  ·split at h
   ·split at h
    ·cases h;exact⟨.refl _,.refl _⟩
    ·cases h
   ·cases h
  ·cases h
 ·cases h
theorem A16{cs:List Value}{s n:Nat}{i:Value}:∀ {k o:Nat} {m m':Mem} {r:List Value},A0l m cs s n i o k=some (r,m')→m.lg.le m'.lg∧J4 m m'
 | 0,o,m,m',r,h=>by cases h;exact⟨.refl _,.refl _⟩
 | k+1,o,m,m',r,h=>by
   unfold A0l at h;split at h
   ·obtain⟨_,h⟩:=A2 h;split at h
    ·rename_i m1 h1;split at h
     ·rename_i h2;cases h
      have:=A16 h2;exact⟨(I4 h1).trans this.1,(H6 h1).trans this.2⟩
     ·cases h
    ·cases h
   ·cases h
theorem B40{t:TypeId}{x v:Value}(h:A5u P m t x=some (v,m')):m.lg.le m'.lg∧J4 m m':=by
 unfold A5u at h;split at h
 ·split at h
  ·split at h
   ·split at h
    ·rename_i h1;cases h;exact A16 h1
    ·cases h
   ·cases h
  ·split at h
   ·split at h
    ·rename_i h1;cases h;exact A16 h1
    ·cases h
   ·cases h
  ·cases h
 ·cases h
theorem B5_{fr:Fr}{o:Op}{v:Value}(h:B8g P fr m o=some (v,m')):m.lg.le m'.lg∧J4 m m':=by
 unfold B8g at h;split at h
 ·exact B4y h
 ·split at h
  ·rename_i r hr;cases h;exact B7U hr
  ·exact B8i h
 ·exact B8f h
 ·exact B42 h
 ·exact B3G h
 ·exact B3I h
 ·exact B0E h
 ·exact B0G h
 ·exact B40 h
 ·exact B0I h
 ·cases h
theorem A6F{j k:IntKind}(h:A2m j=A2m k):j=k:=by cases j<;>cases k<;>first|rfl|(simp only[A2m]at h;omega)
theorem B7T{op:BinOp}{t:TypeId}{x y:Operand}{a b a' b' v:Value}(h:A5L P m op t a b=some (v,m'))(ha:VR ρ a a')(hb:VR ρ b b')(hS:Sat m'.lg)(w:World) :
  ∃ r,(do eqGuard op t x y a' b';binOp op t a' b':Sem Value).run P w=.ok r w∧VR ρ v r:=by
 have fin:∀ {r:Value} {p q:Value},A8x p=true→A8x q=true→A6b P op t p q=some r→a'=p→b'=q→(do eqGuard op t x y a' b';binOp op t a' b':Sem Value).run P w=.ok r w:=fun{r p q} hp hq hr e1 e2=>by
  subst e1;subst e2;have v1:VR ρ a' a':=.pure (by cases a'<;>simp[A8x]at hp<;>rfl);have v2:VR ρ b' b':=.pure (by cases b'<;>simp[A8x]at hq<;>rfl);have g:A4F P t x y a' b'=true:=by
   cases a'<;>simp[A8x]at hp<;>cases b'<;>simp[A8x]at hq<;>rfl
  have hg:=A6M (op:=op) (fun _=>g) v1 v2 w;obtain⟨h2,_⟩:=A8V hr v1 v2 w;simp[Sem.run_bind,hg,h2,Result.andThen]
 unfold A5L at h;simp only at h;cases h1:(Nat.blt (F4 a) 8 && Nat.blt (F4 b) 8) || (Nat.beq (F4 a) 9 && Nat.beq (F4 b) 9)with
 | true =>
   rw[h1]at h;obtain⟨u,e1,e2,r,e3,e4,e5⟩:=L5 h hS;have ht:F1 u<10:=by rw[e2];exact e5
   refine⟨r,?_,e4 ρ⟩;rcases I1 _ _▸h1 with h1|h1
   ·obtain⟨p1,p2⟩:=B2 h1;obtain⟨k,n,rfl,f1,_⟩:=O6 ha (A1 p1);obtain⟨j,n2,rfl,f2,_⟩:=O6 hb (A1 p2);simp only[D7,I0,f1,f2,evU,evB]at e1;subst e1;obtain⟨r',g1,g2⟩:=B2A ht;rw[e3]at g2;cases g2;exact fin rfl rfl (by unfold A6b;exact g1) rfl rfl
   ·obtain⟨p1,p2⟩:=B2 h1;obtain⟨s1,rfl,f1⟩:=A0b ha (A0 p1);obtain⟨s2,rfl,f2⟩:=A0b hb (A0 p2);simp only[D7,I0,f1,f2,evU,evB]at e1;subst e1;obtain⟨r',g1,g2⟩:=B2A ht;rw[e3]at g2;cases g2;exact fin rfl rfl (by unfold A6b;exact g1) rfl rfl
 | false =>
   rw[h1]at h;simp only[cond_false]at h;obtain⟨h2,h⟩:=A2 h;obtain⟨h2,h5⟩:=B2 h2;obtain⟨h2,h4⟩:=B2 h2;obtain⟨h2,h3⟩:=B2 h2;have hu:P.underlying t=some .bool:=by
    split at h5
    ·assumption
    ·cases h5
   obtain⟨u,e1,e2,r,e3,e4,_⟩:=L5 h hS;refine⟨r,?_,e4 ρ⟩;obtain⟨p,rfl,f1⟩:=A2e ha (A0 h2);obtain⟨q,rfl,f2⟩:=A2e hb (A0 h3);simp only[D7,I0,f1,f2,evU,evB]at e1;cases op<;>simp only[A9N]at h4<;>first
    | cases h4
    | skip
   ·subst e1;cases e3;exact fin rfl rfl (by simp[A6b,B0p,eqM,hu]) rfl rfl
   ·subst e1;cases e3;exact fin rfl rfl (by simp[A6b,B0p,eqM,hu]) rfl rfl
theorem A7s{t:TypeId}{a' b':Value}(e:Bool)(hne:∃ cs,a'=.agg cs):binOp (bif e then .eql else .neq) t a' b'=(do let r ← Op.equal t a' b';pure (.bool (bif e then r else !r))):=by
 obtain⟨cs,rfl⟩:=hne;cases e<;>cases b'<;>rfl
theorem B8h{op:BinOp}{t:TypeId}{x y:Operand}{a b a' b' v:Value}(h:B3J P m op t x y a b=some (v,m'))(ha:VR ρ a a')(hb:VR ρ b b')(hn:A5L P m op t a b=none)(hS:Sat m'.lg)(w:World) :
  ∃ r,(do eqGuard op t x y a' b';binOp op t a' b':Sem Value).run P w=.ok r w∧VR ρ v r:=by
 unfold B3J at h;obtain⟨hg,h⟩:=A2 h;have hgu:=A6M (op:=op) (fun _=>hg) ha hb w;have hagg:∀ {l},eqS P 20 t a b=some l→(op=.eql∨op=.neq)→∃ cs,a'=.agg cs:=fun{l} hl hop=>by
  unfold eqS at hl;cases hs:A1n P t a b with
  | true =>
    unfold A1n at hs;unfold A5L at hn;simp only at hn;split at hs
    ·rename_i hu;obtain⟨q1,q2⟩:=B2 hs;rw[A0 q1,A0 q2,hu]at hn;obtain⟨H,n,W,hi,⟨nx,pi,log⟩⟩:=m;rcases hop with rfl|rfl<;>simp[A9N,W6,E1,G6]at hn
    ·rename_i k hu;obtain⟨q1,q2⟩:=B2 hs;have q3:=K8 k;have q4:Nat.blt (A2m k) 8=true:=C3 q3;rw[A0 q1,A0 q2,q4]at hn;obtain⟨H,n,W,hi,⟨nx,pi,log⟩⟩:=m;simp[W6,E1,G6]at hn
    ·obtain⟨q1,q2⟩:=B2 hs;rw[A0 q1,A0 q2]at hn;obtain⟨H,n,W,hi,⟨nx,pi,log⟩⟩:=m;simp[W6,E1,G6]at hn
    ·cases hs
  | false =>
    rw[hs]at hl;simp only[cond_false]at hl;split at hl
    ·obtain⟨cs',rfl,_⟩:=W1 ha;exact⟨_,rfl⟩
    ·obtain⟨cs',rfl,_⟩:=W1 ha;exact⟨_,rfl⟩
    ·cases hl
 split at h
 ·rename_i l hl _;obtain⟨u,e1,e2,r,e3,e4,_⟩:=L5 h hS;refine⟨r,?_,e4 ρ⟩;simp only[evU]at e1;split at e1
  ·rename_i z hz;subst e1;cases e3;have he:(Op.equal t a' b').run P w=.ok z w:=B5f 20 t a b a' b' l z hl hz ha hb _ (by decide) w;have hq:=A7s (t:=t) (b':=b') true (hagg hl (.inl rfl));simp only[cond_true]at hq;rw[hq];simp[Sem.run_bind,hgu,he,Result.andThen]
  ·subst e1;cases e3
 ·rename_i l hl _;split at h
  ·rename_i hh m1 h1;have hS1:Sat m1.lg:=R9.le hS (I4 h);obtain⟨u1,f1,f2,r1,f3,f4,_⟩:=L5 h1 hS1;obtain⟨u,e1,e2,r,e3,e4,_⟩:=L5 h hS;refine⟨r,?_,e4 ρ⟩;simp only[evU]at f1;split at f1
   ·rename_i z hz;subst f1;cases f3;have hv:=x3 (ρ:=ρ) (f4 ρ) (by obtain⟨e,_⟩:=A4v h1;rw[e];show 8<10;omega);have:D2 Ora.env hh=.bool z:=by
     cases hu:D2 Ora.env hh<;>rw[hu]at hv<;>first|(cases hv.1;done)|skip
     all_goals (obtain⟨hv1,_⟩:=hv;cases hv1;rfl)
    simp only[D7,I0,this,evU,ev1,unM,ofV]at e1;subst e1;cases e3;have he:(Op.equal t a' b').run P w=.ok z w:=B5f 20 t a b a' b' l z hl hz ha hb _ (by decide) w;have hq:=A7s (t:=t) (b':=b') false (hagg hl (.inr rfl));simp only[cond_false]at hq;rw[hq];simp[Sem.run_bind,hgu,he,Result.andThen]
   ·subst f1;cases f3
  ·cases h
 ·cases h
end
end Go.Sx
