import Derived.Test.YtdkdbjgkedahfaaGreatDoorX1
import Derived.Laws.BytesString
set_option linter.all false
set_option maxRecDepth 100000
set_option maxHeartbeats 4000000
namespace Go.Sx
open Go
variable {e pt s t t2 ty:TypeId}{k:Nat->Value}{a' b' c c' p p' u v v' x x' y y' z:Value}{new new' old' vs vs' xs:E0}{d d2:TypeDesc}{a:Addr}{inf:TypeInfo}{ab':AB}{l l':Loc}{r:c9}{i:Nat}{op:BinOp}{tys:List TypeId}{b:Builtin}{hi lo mx o:S8}{g:Operand->Value}
section
open Go
variable [Ora]
def PT(a b:Nat)(h:b<a):Builtin.nextslicecap a b<=3*a+4000:=by
 have grow:∀ r c,Builtin.growBy a r c<=max (c) (2*a+800):=by
  intro r;induction r with
  | zero=>intro c;simp only[Builtin.growBy];exact Nat.le_max_left _ _
  | succ r f =>
    intro c;simp only[Builtin.growBy];split
    .exact Nat.le_max_left _ _
    .have:=f (c+(c+768) / 4);refine C3 this ?_;rw[Nat.max_le];constructor
     .refine C3 ?_ (Nat.le_max_right _ _);omega
     .exact Nat.le_max_right _ _
 unfold Builtin.nextslicecap;split
 .omega
 .split
  .omega
  .have:=grow 4 b;refine C3 this ?_;rw[Nat.max_le];omega
section
variable {P:Program} {base:Nat} {ρ:Ren} {m m':Mem} {w:World}
def dQ{w wd:World}(h:wd.heap=w.heap)(a:Addr):wd.cell? a=w.cell? a:=by simp[World.cell?,h]
def yH(ρ:Ren):∀ l:List UInt8,LR ρ (R3 l) (R3 l)
 | []=>.nil
 | b::r=>.cons (.pure rfl) (yH ρ r)
def wQ{s k:Nat}(h:HR P base ρ m.H w)(f:gD m s y=some (k,new))(D:VR ρ y y') :
  (∀ wd,(Builtin.lenOf y').run P wd=.ok k wd)/\∃ new',LR ρ new new'/\∀ wd:World,wd.heap=w.heap->(Builtin.firstCells s k y').run P wd=.ok ⟨new'⟩ wd:=by
 unfold gD at f;split at f
 .rename_i n c;obtain⟨q,A⟩:=A3 f;have q:=A1 q;subst q;cases A;cases R8 D;exact⟨fun _=>rfl,[],.nil,fun _ _=>rfl⟩
 .rename_i a n c;split at f
  .rename_i cs hr;cases f;rcases Q7 D with⟨l,B,_,_,rfl⟩|⟨l,c',B,_,_,_,_,rfl⟩|⟨a',c',_,rfl,_,rfl⟩
   .obtain⟨E,q,A,h3⟩:=aA h hr B;exact⟨fun _=>rfl,E,q,fun wd hw=>L2 A fun j v C=>by rw[dQ hw];exact h3 j v C⟩
   .obtain⟨E,q,A,h3⟩:=aA h hr B;exact⟨fun _=>rfl,E,q,fun wd hw=>L2 A fun j v C=>by rw[dQ hw];exact h3 j v C⟩
   .have:new=[]:=by
     unfold bR at hr;split at hr
     .have:=(lY hr).2;simp at this;exact this
     .cases hr
    subst this;refine⟨fun _=>rfl,[],.nil,fun wd _=>?_⟩;simp[Builtin.firstCells,loadCells,loadCellsFrom]
  .cases f
 .rename_i b;obtain⟨_,f⟩:=A3 f;cases f;cases Y7 D;refine⟨fun _=>rfl,R3 b.data.toList,?_,fun wd _=>?_⟩
  .exact yH _ _
  .have e:((b.extract 0 b.size).data.map fun b=>Value.int .u8 b.toNat)=⟨R3 b.data.toList⟩:=by
    apply K0;simp[R3]
   show(pure ((b.extract 0 b.size).data.map fun b=>Value.int .u8 b.toNat):Sem c9).run P wd=_;rw[e];rfl
 .cases f
def A5d(h:eS d=true):(∃ e,d=.slice e)∨d=.string:=by cases d<;>first|cases h;done|exact .inl ⟨_,rfl⟩|exact .inr rfl
def kB{n k c:Nat}{a:Option Addr}(hu:P.underlying t=some (.slice e))(F:P.underlying t2=some d2)(D:eS d2=true)
  (hi:P.info? e=some inf) (I:∀ w,(zeroValue e).run P w=.ok z w) (hlen:∀ wd,(Builtin.lenOf x').run P wd=.ok k wd)
  (hold:∀ wd:World,wd.heap=w.heap->(Builtin.firstCells inf.size n (.slice a n c)).run P wd=.ok ⟨old'⟩ wd) (f:∀ wd:World,wd.heap=w.heap->(Builtin.firstCells inf.size k x').run P wd=.ok ⟨new'⟩ wd)
  (B:¬ n+k<=c) (J:(3*(n+k)+4000)*inf.bytes<=281474976710656) (hm:n+k<=1000000000) :
  ∃ nc,n+k<=nc/\(Builtin.append_ #[t,t2] ty #[.slice a n c,x']).run P w=.ok (.slice (some ⟨w.heap.size,0,none⟩) (n+k) nc) { w.drew with heap:=w.heap.push (.cells (⟨old'⟩++⟨new'⟩++Builtin.zeroCells z.cells (nc-(n+k))) e (0,0)) }:=by
 have H:I2 P e=some inf.size:=by simp[I2,hi]
 have j:Builtin.nextslicecap (n+k) c*inf.bytes<=281474976710656:=by
  have:=G0 inf.bytes (PT (n+k) c A0);omega
 let q:Question:=.appendCap (n+k) c e
 let nc:=q.cut (w.tape w.drawn q)
 have C:n+k<=nc:=by show n+k<=(n+k)+_;omega
 refine⟨nc,C,?_⟩;have E:(choose q).run P w=.ok nc w.drew:=by
  simp only[choose,Sem.run];rw[A9 (by simp[q,Question.forced])];rfl
 have h:∀ k w,(askRoom k).run P w=.ok () w:=fun k w=>by unfold askRoom;split<;>rfl
 unfold Builtin.append_;rcases A5d D with⟨K,rfl⟩|rfl
 all_goals simp only[K6,T6,T7,A5,D7 hu,D7 F,Result.andThen,L7 H,Sem.run_pure,K5,if_false,hlen]
 all_goals
  have A:¬ (((n+k:Nat):Int)>IntKind.i64.max):=by simp[IntKind.max,IntKind.bits,IntKind.signed];omega
  simp only[A9 B,A,false_and,if_false,A5,Result.andThen,Z1 hi];rw[A9 (show ¬ (Builtin.nextslicecap (n+k) c*inf.bytes>2 ^ 48) by simpa using j)];have G:w.drew.heap=w.heap:=rfl;simp only[A5,Sem.run_pure,Result.andThen,show(choose (.appendCap (n+k) c e)).run P w=.ok nc w.drew from E,h,hold _ G,f _ G,I,Z1 hi,Bool.not_false,if_true];rfl
def pB{n k c:Nat}{w':World}(hu:P.underlying t=some (.slice e))(j:P.underlying t2=some d2)(h:eS d2=true)
  (hi:P.info? e=some inf) (hlen:∀ wd,(Builtin.lenOf x').run P wd=.ok k wd) (f:(Builtin.firstCells inf.size k x').run P w=.ok ⟨new'⟩ w)
  (hle:n+k<=c) (q:(storeCells (a.add (n*inf.size)) new').run P w=.ok () w') :
  (Builtin.append_ #[t,t2] ty #[.slice (some a) n c,x']).run P w=.ok (.slice (some a) (n+k) c) w':=by
 have A:I2 P e=some inf.size:=by simp[I2,hi]
 unfold Builtin.append_;rcases A5d h with⟨B,rfl⟩|rfl
 all_goals simp only[K6,T6,T7,A5,D7 hu,D7 j,Result.andThen,L7 A,Sem.run_pure,K5,if_false,hlen]
 all_goals simp[B0 hle,A5,f,Result.andThen,q]
def wH(hu:P.underlying t=some (.slice e))(j:P.underlying t2=some d2)(n:eS d2=true)
  (hi:P.info? e=some inf) (hlen:∀ wd,(Builtin.lenOf x').run P wd=.ok 0 wd) (f:(Builtin.firstCells inf.size 0 x').run P w=.ok #[] w) :
  (Builtin.append_ #[t,t2] ty #[.slice none 0 0,x']).run P w=.ok (.slice none 0 0) w:=by
 have q:I2 P e=some inf.size:=by simp[I2,hi]
 unfold Builtin.append_;rcases A5d n with⟨h,rfl⟩|rfl
 all_goals simp only[K6,T6,T7,A5,D7 hu,D7 j,Result.andThen,L7 q,Sem.run_pure,K5,if_false,hlen]
 all_goals simp[A5,f,Result.andThen]
def St.kill{ab:AB}{id:Nat}(h:HR P base ρ m.H w)(hle:id<=J0)(I:Hp.get m.H id=some ab)(D:ab.rw=true):St P base ρ ρ m (mL m id) w w:=by
 rw[aV];refine⟨fun _ _ h=>h,fun b k A B=>(by rw[A]at B;cases B),A7 _,A7 _,fun h=>h,h.sub fun j f a n=>?_,fun b F=>D1 _ F,fun b A B k C=>?_,fun k C J=>rfl,A7 _,⟨rfl,rfl,rfl⟩,fun b k A B=>(by rw[A]at B;cases B),fun j f G L=>?_,fun k ⟨j,a,q,f,n,E,K⟩=>.inr ⟨j,a,q,f,?_,E,K⟩⟩
 .rw[F6 _ _ _ _ hle f]at n;by_cases e:j=id
  .rw[B0 e]at n;cases n
  .rw[A9 e]at n;exact n
 .rcases C4.1 A with rfl|A
  .exact⟨ab,I,D⟩
  .exact absurd A B
 .rw[F6 _ _ _ _ hle f,A9];intro e;subst e;exact G B6
 .have n:Hp.get (m.H.set id none) j=some a:=n;rw[F6 _ _ _ _ hle f]at n;by_cases e:j=id
  .rw[B0 e]at n;cases n
  .rw[A9 e]at n;exact n
def St.grow{ab:AB}{id:Nat}{w':World}(h:HR P base ρ m.H w)(hle:id<=J0)(hg:Hp.get m.H id=some ab)(F:ab.rw=true)(S:ρ id=some l)(E:l.on=true)
  (hn:w8 (mL m id) ab' k=some (v,m')) (hf:L1 ρ m.n m'.hi)
  (ho:w'.os=w.os/\w'.tape=w.tape/\w'.output=w.output) (az:w'.heap.size=w.heap.size) (Y:∀ k,k≠l.blk->w'.heap[k]? = w.heap[k]?) (Z:BR P (upd ρ m.n l) ab' l w') (aw:ab'≠.frz:=by intro h;cases h) :
  v=k m.n/\St P base ρ (upd ρ m.n l) m m' w w':=by
 rw[aV]at hn;obtain⟨V,hv,rfl⟩:=N0 hn;have B:ρ m.n=none:=hf m.n (A7 _) (L8 _ _).2;have C:=i0 (l:=l) B;obtain⟨Q,h3⟩:=h.atl S hg;have T:∀ k,Tc ab' l k->k=l.blk:=fun k Y=>by
  rcases Y with⟨_,_,rfl⟩|⟨rfl,_⟩
  .rfl
  .exact absurd rfl aw
 have av:id≠m.n:=fun e=>by subst e;rw[S]at B;cases B
 have A:∀ i,i<=J0->Hp.get ((m.H.set id none).set m.n (some ab')) i=if i=m.n then some ab' else if i=id then none else Hp.get m.H i:=fun i hi=>by
  rw[F6 _ _ _ _ V hi,F6 _ _ _ _ hle hi]
 refine⟨hv,C,fun b q M Q=>?_,x6 _,(L8 _ _).1,fun _=>t7 (L8 _ _).2,⟨fun b q D=>?_,fun i hi a f=>?_⟩,fun b Z=>D1 _ Z,fun b M Q q D=>?_,fun q D ax=>Y q ?_,by rw[az];exact A7 _,ho,fun b q M Q _=>?_,fun i hi h4 U=>?_,fun k ⟨i,a,q,hi,f,D,ht⟩=>.inr ?_⟩
 .obtain⟨rfl,rfl⟩:=Y5 M Q;exact⟨A7 _,K1 _⟩
 .cases h0:ρ b with
  | some q0 =>
    rw[C b q0 h0]at D
    have:=A8 D;subst this;exact h.dom b q0 h0
  | none=>obtain⟨rfl,rfl⟩:=Y5 D h0;exact V
 .have f:Hp.get ((m.H.set id none).set m.n (some ab')) i=some a:=f;rw[A i hi]at f;have R:∀ j,j<=J0->∀ J l2,Hp.get ((m.H.set id none).set m.n (some ab')) j=some J->upd ρ m.n l j=some l2->Tc J l2 l.blk->j=m.n:=fun j L J l2 g1 g2 g3=>by
   rw[A j L]at g1;by_cases e2:j=m.n
   .exact e2
   .rw[A9 e2]at g1;unfold upd at g2;rw[A9 e2]at g2;by_cases I:j=id
    .rw[B0 I]at g1;cases g1
    .rw[A9 I]at g1;exact absurd ((h3 F E).2 j L J l2 g1 g2 g3) I
  by_cases e:i=m.n
  .rw[B0 e]at f;have f:=A8 f;subst f;subst e;exact⟨l,N2 _ _ _,Z,fun _ _=>⟨(h3 F E).1,R⟩⟩
  .rw[A9 e]at f;by_cases I:i=id
   .rw[B0 I]at f;cases f
   .rw[A9 I]at f;obtain⟨l2,g1,g2,g3⟩:=h.at_ i hi a f;have W:∀ k,Tc a l2 k->k≠l.blk:=fun k O hh=>I ((h3 F E).2 i hi a l2 f g1 (hh▸O))
    refine⟨l2,C _ _ g1,g2.mono C (fun k O=>Y _ (W k O)),fun hr N=>⟨(g3 hr N).1,fun G K X l3 f1 f2 f3=>?_⟩⟩;have f1:Hp.get ((m.H.set id none).set m.n (some ab')) G=some X:=f1;rw[A G K]at f1;by_cases e4:G=m.n
    .subst e4;rw[N2]at f2
     have:=A8 f2;subst this;rw[B0 rfl]at f1;have f1:=A8 f1;subst f1;exact absurd (T _ f3) (W _ (.inl ⟨AB.rw_on hr,N,rfl⟩))
    .rw[A9 e4]at f1;unfold upd at f2;rw[A9 e4]at f2;by_cases e5:G=id
     .rw[B0 e5]at f1;cases f1
     .rw[A9 e5]at f1;exact(g3 hr N).2 G K X l3 f1 f2 f3
 .rcases C4.1 M with rfl|M
  .exact⟨ab,hg,F⟩
  .exact absurd M Q
 .exact fun e=>ax id B6 l S E e.symm
 .obtain⟨rfl,rfl⟩:=Y5 M Q;exact .inr ⟨id,B6,q,S,E,rfl⟩
 .have ay:=A i hi;show Hp.get ((m.H.set id none).set m.n (some ab')) i=_;rw[ay,A9,A9]
  .intro e;subst e;exact h4 B6
  .intro e;subst e;rcases U with U|U
   .omega
   .have U:upN m.hi m.n<=m.n:=U
    have:=(L8 m.hi m.n).2;omega
 .have f:Hp.get ((m.H.set id none).set m.n (some ab')) i=some a:=f;rw[A i hi]at f;by_cases e:i=m.n
  .rw[B0 e]at f;have f:=A8 f;subst f;subst e;rw[N2]at D;have D:=A8 D;subst D;exact⟨id,ab,l,hle,hg,S,AB.rw_fr F,.inl ⟨AB.rw_on F,E,(T k ht.2).symm⟩⟩
  .rw[A9 e]at f;unfold upd at D;rw[A9 e]at D;by_cases I:i=id
   .rw[B0 I]at f;cases f
   .rw[A9 I]at f;exact⟨i,a,q,hi,f,D,ht⟩
def HO{s k:Nat}(h:HR P base ρ m.H w)(f:gD m s y=some (k,new))(n:z.cells.size=s):new.length=k*s:=by
 unfold gD at f;split at f
 .obtain⟨_,q⟩:=A3 f;cases q;simp
 .split at f
  .rename_i cs hr;cases f;unfold bR at hr;split at hr
   .exact(lY hr).2
   .cases hr
  .cases f
 .rename_i b;obtain⟨j,f⟩:=A3 f;have j:=A1 j;subst j;cases f;simp[R3]
 .cases f
def MS(h:new'[i]? = some u):(({ toList:=[] }:Array Value)++⟨new'⟩++r)[i]? = some u:=by
 have f:=(B1.1 h).1;rw[W7 (by simp;exact f)]
 simpa using h
def fP(h:(old'++new')[i]? = some u):(({ toList:=old' }:Array Value)++⟨new'⟩++r)[i]? = some u:=by
 have f:=(B1.1 h).1;rw[W7 (by simpa using f)]
 simpa using h
def fO{s k n nc:Nat}(h:new'.length=k*s)(f:n+k<=nc)(j:z.cells.size=s)(q:old'.length=n*s) :
  nc*s<=(({ toList:=old' }:Array Value)++⟨new'⟩++Builtin.zeroCells z.cells (nc-(n+k))).size:=by
 simp[Builtin.zeroCells,q,h,j];rw[<- I9,<- I9];exact G0 _ A0
def QT(h:HR P base ρ m.H w)(hb:base<=w.heap.size)(f:uH P m t t2 x y=some (v,m'))(hf:L1 ρ m.n m'.hi)(hx:VR ρ x x')(hy:VR ρ y y') :
  VOk P base ρ m w (Builtin.append_ #[t,t2] ty #[x',y']) v m':=by
 unfold uH at f;split at f
 .rename_i e d2 hu J;cases D:eS d2 with
  | false=>rw[D]at f;cases f
  | true =>
  rw[D]at f;simp only[S5,E7]at f;split at f
  .rename_i inf a n c hi;split at f
   .rename_i k new z V hz;obtain⟨g1,f⟩:=A3 f;obtain⟨g1,g4⟩:=B3 g1;obtain⟨g1,g3⟩:=B3 g1;obtain⟨g1,g2⟩:=B3 g1;have g1:=A2 g1;have g2:=A2 g2;have g3:=A1 g3;obtain⟨hlen,new',F,G⟩:=wQ h V hy;have Y:∀ w,(zeroValue e).run P w=.ok z w:=fun w=>cI hz w
    have Q:new'.length=k*inf.size:=by rw[<- F.1];exact HO h V g3
    have an:O7=9223372036854775808:=rfl;cases hk:Nat.beq k 0 with
    | true =>
      have hk:=A1 hk;subst hk;have av:Nat.beq 0 0=true:=rfl;simp only[av,F1]at f;have al:new'=[]:=H3.1 (by rw[Q];simp);subst al;cases a with
      | none =>
        simp only at f;obtain⟨E,f⟩:=A3 f;obtain⟨E,I⟩:=B3 E;have E:=A1 E;have I:=A1 I;subst E;subst I;cases f;cases R8 hx;exact VOk.same h (wH hu J D hi hlen (G w rfl)) (.pure rfl)
      | some S =>
        simp only at f;obtain⟨E,f⟩:=A3 f;obtain⟨E,I⟩:=B3 E;have E:=A2 E;have I:=A2 I;cases f;rcases Q7 hx with⟨l,U,O,hc,rfl⟩|⟨l,c',U,O,hc,hn,B,rfl⟩|⟨a',c',_,_,he,_⟩
        .exact VOk.same h (pB hu J D hi hlen (G w rfl) A0 rfl) (by simpa using hx)
        .exact VOk.same h (pB hu J D hi hlen (G w rfl) A0 rfl) (by simpa using hx)
        .omega
    | false =>
      have ah:k≠0:=fun e=>by subst e;cases hk
      simp only[hk,E7]at f;cases a with
      | none =>
        simp only at f;obtain⟨E,f⟩:=A3 f;obtain⟨E,I⟩:=B3 E;have E:=A1 E;have I:=A1 I;subst E;subst I;rw[J4]at f;cases R8 hx;obtain⟨nc,M,hr⟩:=kB (ty:=ty) (c:=0) (a:=none) (old':=[]) hu J D hi Y hlen (fun _ _=>rfl) G A0 g1 g2;have au:∀ A,P.info? e=some A->nc*A.size<=(({ toList:=[] }:Array Value)++⟨new'⟩++Builtin.zeroCells z.cells (nc-(0+k))).size:=fun A N=>by
         rw[hi]at N;cases N;exact fO Q M g3 (by simp)
        obtain⟨Z,e2,X⟩:=fN (wd:=w.drew) (fz:=(0,0)) (cap:=nc) h hb f hf F (fun i u hi=>by
         show(({ toList:=[] }:Array Value)++⟨new'⟩++Builtin.zeroCells z.cells (nc-(0+k)))[i]? = some u;exact MS hi) NF.zero au ⟨rfl,rfl,rfl⟩ rfl
        refine⟨_,_,_,hr,?_,X⟩;rw[Z,F9]
        have:=VR.op (ρ:=upd ρ m.n (lc w.heap.size 0 nc)) (b:=m.n) (o:=0) (n:=k) (m:=O7) (m':=nc) e2 (A7 _) A0 (fun _ _=>rfl)
        simpa using this
      | some S =>
        simp only at f;cases W:Nat.blt c O7 with
        | true =>
          have ak:c<O7:=A2 W;simp only[W,F1]at f;rcases Q7 hx with⟨l,U,O,hc,rfl⟩|⟨l,c',U,O,hc,hn,B,rfl⟩|⟨a',c',_,_,he,_⟩
          .cases q:Nat.ble (n+k) c with
           | true =>
             have K:=A2 q;simp only[q,F1]at f;split at f
             .rename_i m2 hw;cases f;rw[fH]at hw;obtain⟨w',h1,N⟩:=rX h hw U F;refine⟨_,ρ,w',pB hu J D hi hlen (G w rfl) K ?_,?_,N⟩
              .rw[n9,show S.off+l.sh+n*inf.size=S.off+n*inf.size+l.sh by omega];exact h1
              .obtain⟨ab,ao,ai⟩:=S;simp only at O;subst O;exact .sl U hc
             .cases f
           | false =>
             have K:¬ n+k<=c:=fun hle=>by rw[show Nat.ble (n+k) c=true from C5 hle]at q;cases q
             simp only[q,E7]at f;split at f
             .rename_i old hold;rw[J4]at f;obtain⟨old',o1,o2,o3⟩:=aA h hold U;have L:∀ wd:World,wd.heap=w.heap->(Builtin.firstCells inf.size n (.slice (some ⟨l.blk,S.off+l.sh,none⟩) n c)).run P wd=.ok ⟨old'⟩ wd:=fun wd hw=>L2 o2 fun j u hj=>by rw[dQ hw];exact o3 j u hj
              obtain⟨nc,M,hr⟩:=kB (ty:=ty) hu J D hi Y hlen L G K g1 g2;obtain⟨Z,e2,X⟩:=fN (wd:=w.drew) (fz:=(0,0)) (cap:=nc) (C:=⟨old'⟩++⟨new'⟩++Builtin.zeroCells z.cells (nc-(n+k))) h hb f hf (o1.append F) (fun i u hi=>fP hi) NF.zero
               (fun A N=>by rw[hi]at N;cases N;exact fO Q M g3 o2) ⟨rfl,rfl,rfl⟩ rfl
              refine⟨_,_,_,hr,?_,X⟩;rw[Z]
              have:=VR.op (ρ:=upd ρ m.n (lc w.heap.size 0 nc)) (b:=m.n) (o:=0) (n:=n+k) (m:=O7) (m':=nc) e2 (A7 _) M (fun _ _=>rfl)
              simpa using this
             .cases f
          .omega
          .omega
        | false =>
          simp only[W,E7]at f;obtain⟨q0,ax⟩:=A3 f;clear f;have f:=ax;clear ax;obtain⟨E,I⟩:=B3 q0;replace E:=A1 E;replace I:=A1 I;clear q0;split at f
          .rename_i cs T O hg;obtain⟨p1,f⟩:=A3 f;rw[J5,J5,J5]at p1;obtain⟨⟨⟨p1,p2⟩,p3⟩,p4⟩:=p1;have p1:=A1 p1;have p2:=A1 p2;have p3:=A2 p3;have p4:S.block<m.n:=A2 p4;subst p2;rw[J4]at f;rcases Q7 hx with⟨_,_,_,hc,_⟩|⟨l,c',U,_,_,hn,B,rfl⟩|⟨a',c',_,_,he,_⟩
           .omega
           .have B:=B E I;obtain⟨⟨ay,C,fz,T',z2,z3,z4⟩,z5⟩:=h.atl U hg;obtain⟨rfl,z6,z7⟩:=z4 rfl;have z8:=(z7 inf hi).2;have z7:=(z7 inf hi).1;by_cases q:n+k<=c'
            ·
             have aw:(n+k)*inf.size<=c'*inf.size:=G0 _ q;rw[I9]at aw;obtain⟨w',r1,r2,r3,r4,r5⟩:=w6 (P:=P) (b:=l.blk) (o:=n*inf.size+l.sh) (fz:=fz) new' 0 C w z2 (IJ F g4) (by rw[Q];subst B;omega) z6;obtain⟨Z,X⟩:=St.grow (w':=w') (l:=l) h p3 hg rfl U ay f hf r2 r3 r5 (by
              have R:ρ m.n=none:=by
               rw[aV]at f;obtain⟨_,_,rfl⟩:=N0 f;exact hf m.n (A7 _) (L8 _ _).2
              refine⟨ay,_,fz,_,r4,fun i u hi=>?_,fun _=>⟨rfl,z6.sz (by simp[w7]),fun A N=>⟨by simpa [w7]using(by rw[hi]at N;cases N;exact z7:l.sh+l.cap*A.size<=C.size),by rw[hi]at N;cases N;exact z8⟩⟩⟩;show ∃ u',(Array.mk (eE C.toList (n*inf.size+l.sh+0) new'))[l.sh+i]? = some u'/\_;have ag:C.toList.length=C.size:=by simp
              rw[K6,nN _ _ _ _ (by rw[Q];subst B;omega)];by_cases aq:i<cs.length
              .rw[F7 aq]at hi;rw[A9 A0];obtain⟨u',y1,y2⟩:=z3 i u hi;exact⟨u',by simpa using y1,y2.mono (i0 R)⟩
              .rw[E9 A0]at hi;have af:=(B1.1 hi).1;have aj:=F.1;rw[B0 A0];obtain⟨u',y1,y2⟩:=F.get hi;exact⟨u',by rw[show l.sh+i-(n*inf.size+l.sh+0)=i-cs.length by omega];exact y1,y2.mono (i0 R)⟩)
             refine⟨_,_,w',pB (ty:=ty) hu J D hi hlen (G w rfl) q ?_,?_,X⟩
             .rw[n9,I,show 0+l.sh+n*inf.size=n*inf.size+l.sh by omega];exact r1
             .rw[Z,I];exact .op (N2 _ _ _) (A7 _) q (fun _ _=>B)
            ·
             have az:=St.kill h p3 hg rfl;have ar:L1 ρ (mL m S.block).n m'.hi:=by rw[aV];exact hf
             obtain⟨old',o1,o2⟩:=bS (ρ:=ρ) (C:=C) (cs:=cs) (s:=l.sh) z3;have oL:old'.length=n*inf.size:=by rw[<- o1.1];exact p1
             have L:∀ wd:World,wd.heap=w.heap->(Builtin.firstCells inf.size n (.slice (some ⟨l.blk,S.off+l.sh,none⟩) n c')).run P wd=.ok ⟨old'⟩ wd:=fun wd hw=>L2 oL fun j u hj=>by
              rw[dQ hw,I]
              have:=o2 j u hj;simp[World.cell?,z2,this]
             obtain⟨nc,M,hr⟩:=kB (ty:=ty) hu J D hi Y hlen L G q g1 g2;obtain⟨Z,e2,X⟩:=fN (wd:=w.drew) (fz:=(0,0)) (cap:=nc) (C:=⟨old'⟩++⟨new'⟩++Builtin.zeroCells z.cells (nc-(n+k))) az.hr hb f ar (o1.append F) (fun i u hi=>fP hi) NF.zero
              (fun A N=>by rw[hi]at N;cases N;exact fO Q M g3 oL) ⟨rfl,rfl,rfl⟩ rfl
             refine⟨_,_,_,hr,?_,St.trans hf az X⟩;rw[Z]
             have:=VR.op (ρ:=upd ρ (mL m S.block).n (lc w.heap.size 0 nc)) (b:=(mL m S.block).n) (o:=0) (n:=n+k) (m:=O7) (m':=nc) e2 (A7 _) M (fun _ _=>rfl)
             simpa using this
           .omega
          .cases f
   .cases f
  .cases f
 .cases f
end
end
section
open Go
variable [Ora]
section
variable {P:Program} {base:Nat} {ρ:Ren} {m m':Mem} {w:World}
def OQ{op:UnOp}(h:unM op x=some v)(f:VR ρ x x')(w:World):(Op.unary op x').run P w=.ok v w/\J8 v=true:=by
 unfold unM at h;split at h
 .cases K2 f;cases h;exact⟨by simp[Op.unary,Op.intArith,cN],by simp[cN,J8]⟩
 .cases K2 f;obtain⟨n,j⟩:=cY (P:=P) h w;exact⟨by simpa [Op.unary]using n,j⟩
 .cases eH f;cases h;exact⟨rfl,rfl⟩
 .cases h
def A2y(f:A6G P t x=some v)(n:VR ρ x x')(w:World):(Builtin.cap_ ⟨t::tys⟩ ty #[x']).run P w=.ok v w/\J8 v=true:=by
 unfold A6G at f;split at f
 .rename_i hu;cases R8 n;cases f;exact⟨by simp[Builtin.cap_,A5,D7 hu,Result.andThen,goInt],rfl⟩
 .rename_i hu;obtain⟨j,f⟩:=A3 f;have j:_<O7:=A2 j;cases f;rcases Q7 n with⟨l,_,_,_,rfl⟩|⟨l,c',_,_,_,_,_,rfl⟩|⟨a',c',_,_,he,_⟩
  .exact⟨by simp[Builtin.cap_,A5,D7 hu,Result.andThen,goInt],rfl⟩
  .omega
  .omega
 .cases f
def SR(h:HR P base ρ m.H w)(f:A0b P m t x=some v)(j:VR ρ x x'):(Builtin.len_ ⟨t::tys⟩ ty #[x']).run P w=.ok v w/\J8 v=true:=by
 unfold A0b at f;split at f
 .rename_i hu;cases Y7 j;cases f;refine⟨?_,rfl⟩;simp[Builtin.len_,A5,D7 hu,Result.andThen,goInt]
 .rename_i hu;cases f;refine⟨?_,rfl⟩;simp[Builtin.len_,A5,D7 hu,Result.andThen,goInt]
 .rename_i n c hu;cases f;refine⟨?_,rfl⟩;have q:∃ a' c',x'=.slice a' n c':=by
   cases j with
   | pure _=>exact⟨_,_,rfl⟩
   | sl _ _=>exact⟨_,_,rfl⟩
   | op _ _ _ _=>exact⟨_,_,rfl⟩
   | opE _=>exact⟨_,_,rfl⟩
  obtain⟨a',c',rfl⟩:=q;simp[Builtin.len_,A5,D7 hu,Result.andThen,goInt]
 .rename_i hu;cases j with|pure _=>?_
  cases f;refine⟨?_,rfl⟩;simp[Builtin.len_,A5,D7 hu,Result.andThen,goInt]
 .cases f
def SK{tys:Array TypeId}(f:A5x vs=some v)(h:LR ρ vs vs')(w:World):(Builtin.max_ tys ty ⟨vs'⟩).run P w=.ok v w/\J8 v=true:=by
 unfold A5x at f;split at f
 .obtain⟨a',r1,rfl,q,n⟩:=h.tail;obtain⟨b',B,rfl,h3,j⟩:=n.tail;cases j.nil_inv;cases K2 q;cases K2 h3;cases f;exact⟨by simp[Builtin.max_,Builtin.max2],rfl⟩
 .obtain⟨a',r1,rfl,q,n⟩:=h.tail;obtain⟨b',B,rfl,h3,j⟩:=n.tail;obtain⟨c',D,rfl,C,A⟩:=j.tail;cases A.nil_inv;rw[vH]at f;cases K2 q;cases K2 h3;cases K2 C;cases f;exact⟨by simp[Builtin.max_,Builtin.max2],rfl⟩
 .cases f
def SI{tys:Array TypeId}(f:A5w vs=some v)(h:LR ρ vs vs')(w:World):(Builtin.min_ tys ty ⟨vs'⟩).run P w=.ok v w/\J8 v=true:=by
 unfold A5w at f;split at f
 .obtain⟨a',r1,rfl,q,n⟩:=h.tail;obtain⟨b',B,rfl,h3,j⟩:=n.tail;cases j.nil_inv;cases K2 q;cases K2 h3;cases f;exact⟨by simp[Builtin.min_,Builtin.min2],rfl⟩
 .obtain⟨a',r1,rfl,q,n⟩:=h.tail;obtain⟨b',B,rfl,h3,j⟩:=n.tail;obtain⟨c',D,rfl,C,A⟩:=j.tail;cases A.nil_inv;rw[vH]at f;cases K2 q;cases K2 h3;cases K2 C;cases f;exact⟨by simp[Builtin.min_,Builtin.min2],rfl⟩
 .cases f
def CV{tys:Array TypeId}(h:HR P base ρ m.H w)(q:lJ m x=some (v,m'))(G:VR ρ x x'):VOk P base ρ m w (Builtin.unsafeSliceData_ tys ty #[x']) v m':=by
 unfold lJ at q;split at q
 .cases q;cases R8 G;exact VOk.same h rfl (.pure rfl)
 .rename_i a n c;cases A:Nat.beq n 0 || Nat.beq c 0 || Nat.beq c (O7+2)with
  | true=>rw[A]at q;cases q
  | false =>
    rw[A]at q;simp only[E7,D9,Q0]at q;obtain⟨rfl,rfl⟩:=q;simp only[Y9]at A;obtain⟨⟨F,D⟩,L⟩:=A;have F:n≠0:=fun e=>by subst e;cases F
    have D:c≠0:=fun e=>by subst e;cases D
    rcases Q7 G with⟨l,C,f,I,rfl⟩|⟨l,c',C,f,I,K,E,rfl⟩|⟨a',c',_,he,_,_⟩
    .refine VOk.same (v':=.pointer (some ⟨l.blk,a.off+l.sh,none⟩)) h ?_ ?_
     .have j:Builtin.unsafeSliceData_ tys ty #[.slice (some ⟨l.blk,a.off+l.sh,none⟩) n c]=(do
        if c≠0 then pure (.pointer (some ⟨l.blk,a.off+l.sh,none⟩))
        else if(<- viewAt l.blk).isSome then pure (.pointer (some ⟨l.blk,a.off+l.sh,none⟩))
        else pure (.pointer (some ⟨<- newObj (.view ⟨l.blk,a.off+l.sh,none⟩ (<- elemOf ty)),0,none⟩))):=rfl
      rw[j,B0 D];rfl
     .obtain⟨ab,J,B⟩:=a;simp only at f;subst f;exact .ptr C
    .refine VOk.same (v':=.pointer (some ⟨l.blk,a.off+l.sh,none⟩)) h ?_ ?_
     .have:c'≠0:=A0;have j:Builtin.unsafeSliceData_ tys ty #[.slice (some ⟨l.blk,a.off+l.sh,none⟩) n c']=(do
        if c'≠0 then pure (.pointer (some ⟨l.blk,a.off+l.sh,none⟩))
        else if(<- viewAt l.blk).isSome then pure (.pointer (some ⟨l.blk,a.off+l.sh,none⟩))
        else pure (.pointer (some ⟨<- newObj (.view ⟨l.blk,a.off+l.sh,none⟩ (<- elemOf ty)),0,none⟩))):=rfl
      rw[j,B0 this];rfl
     .obtain⟨ab,J,B⟩:=a;simp only at f;subst f;exact .ptr C
    .omega
 .cases q
def VI(h:HR P base ρ m.H w)(f:HM P m t x=some (v,m'))(A:VR ρ x x'):VOk P base ρ m w (Instr.makeInterface t x') v m':=by
 unfold HM at f;split at f
 .rename_i d q;have n:(∀ ms,d≠.interface ms)->(Instr.makeInterface t x').run P w=.ok (.iface t x') w:=fun j=>by
   simp only[Instr.makeInterface,A5,D7 q,Result.andThen];cases d<;>first|rfl|exact absurd rfl (j _)
  split at f
  .cases f
  .rename_i j;obtain⟨_,f⟩:=A3 f;cases f;exact VOk.same h (n fun ms e=>j ms e) (.iface A)
 .cases f
def A2G(j:A0E m x=some (v,m'))(n:VR ρ x x'):m'=m/\VR ρ v x'/\((∃ a,x'=.pointer (some a))∨∃ f a b,x'=.func (.func f) a b):=by
 unfold A0E at j;split at j
 .cases j;obtain⟨l,_,_,rfl⟩:=Q3 n;exact⟨rfl,n,.inl ⟨_,rfl⟩⟩
 .cases j;cases n with
  | pure hp=>simp[J8]at hp
  | func _ _ _ _=>exact⟨rfl,by constructor<;>assumption,.inr ⟨_,_,_,rfl⟩⟩
 .cases j
def A1G(h:HR P base ρ m.H w)(j:NI P m t x y=some (v,m'))(O:VR ρ x x')(N:VR ρ y y'):VOk P base ρ m w (Builtin.copy_ ⟨t::tys⟩ ty #[x',y']) v m':=by
 unfold NI at j;split at j
 .rename_i e a n c hu;split at j
  .rename_i s X;split at j
   .rename_i k cs f;have Q:∃ a' c',x'=.slice a' n c':=by
     cases O with
     | pure _=>exact⟨_,_,rfl⟩
     | sl _ _=>exact⟨_,_,rfl⟩
     | op _ _ _ _=>exact⟨_,_,rfl⟩
     | opE _=>exact⟨_,_,rfl⟩
    obtain⟨a',c',rfl⟩:=Q;have D:∃ L cs',(Builtin.lenOf y').run P w=.ok L w/\Nat.min L n=k/\LR ρ cs cs'/\(Builtin.firstCells s k y').run P w=.ok ⟨cs'⟩ w:=by
     split at f
     .rename_i K _;obtain⟨q,f⟩:=A3 f;have q:=A1 q;subst q;cases f;cases R8 N;exact⟨0,[],rfl,by simp,.nil,rfl⟩
     .rename_i b K c0;split at f
      .rename_i r hr;cases f;rcases Q7 N with⟨l,B,_,_,rfl⟩|⟨l,c',B,_,_,_,_,rfl⟩|⟨a',c',_,rfl,_,rfl⟩
       .obtain⟨R,C,E,h3⟩:=aA h hr B;exact⟨K,R,rfl,rfl,C,L2 E h3⟩
       .obtain⟨R,C,E,h3⟩:=aA h hr B;exact⟨K,R,rfl,rfl,C,L2 E h3⟩
       .have:cs=[]:=by
         unfold bR at hr;split at hr
         .have:=(lY hr).2;simp at this;exact this
         .cases hr
        subst this;exact⟨0,[],rfl,rfl,.nil,by simp[Builtin.firstCells,loadCells,loadCellsFrom]⟩
      .cases f
     .rename_i b;cases f;cases Y7 N;refine⟨b.size,R3 (b.data.toList.take (Nat.min b.size n)),rfl,rfl,yH _ _,?_⟩;have e:((b.extract 0 (Nat.min b.size n)).data.map fun b=>Value.int .u8 b.toNat)=⟨R3 (b.data.toList.take (Nat.min b.size n))⟩:=by
       apply K0;simp[R3,jQ]
      show(pure ((b.extract 0 (Nat.min b.size n)).data.map fun b=>Value.int .u8 b.toNat):Sem c9).run P w=_;rw[e];rfl
     .cases f
    obtain⟨L,cs',r1,T,I,W⟩:=D;have A:(Builtin.copy_ ⟨t::tys⟩ ty #[.slice a' n c',y']).run P w=(match a' with|some a=>(do storeCells a cs';pure (goInt k):Sem Value)|none=>pure (goInt k)).run P w:=by
     unfold Builtin.copy_;simp only[K6,T6,T7,A5,D7 hu,L7 X,r1,T,W,Result.andThen];cases a' with
     | none=>rfl
     | some a=>rfl
    cases a with
    | none =>
      cases R8 O;simp only at j;obtain⟨q,j⟩:=A3 j;have q:=A1 q;cases j;exact VOk.same h (by rw[A,q];rfl) (.pure rfl)
    | some ad =>
      simp only at j;cases F:Nat.beq cs.length 0 with
      | true =>
        rw[F]at j;cases j;have F:=A1 F;have:cs'=[]:=H3.1 (by rw[<- I.1];exact F);subst this;refine VOk.same h (v':=.int .i64 k) ?_ (.pure rfl);rw[A];cases a'<;>rfl
      | false =>
        rw[F]at j;simp only[E7]at j;obtain⟨G,j⟩:=A3 j;have G:=A2 G;split at j
        .rename_i m2 hw;cases j;rcases Q7 O with⟨l,B,J,U,he⟩|⟨l,c',B,J,U,Y,S,he⟩|⟨a2,Z,_,Y,V,he⟩
         .cases he;obtain⟨w',C,E⟩:=rX h hw B I;exact⟨.int .i64 k,ρ,w',by rw[A];simp[A5,C,Result.andThen,goInt],.pure rfl,E⟩
         .cases he;obtain⟨w',C,E⟩:=rX h hw B I;exact⟨.int .i64 k,ρ,w',by rw[A];simp[A5,C,Result.andThen,goInt],.pure rfl,E⟩
         .have M:O7=9223372036854775808:=rfl;omega
        .cases j
   .cases j
  .cases j
 .cases j
def rP:∀ {cs:E0} {l:List UInt8},bytesOf cs=some l->∃ f:List Int,cs=f.map (Value.int .u8)/\l=f.map fun n=>UInt8.ofNat n.toNat
 | [],l,h=>by simp only[bytesOf,D9]at h;subst h;exact⟨[],rfl,rfl⟩
 | v::r,l,h=>by
   unfold bytesOf at h;split at h
   .rename_i he;cases he
   .rename_i n B he;cases he;split at h
    .rename_i C q;cases h;obtain⟨f,A,j⟩:=rP q;exact⟨n::f,by rw[A];rfl,by rw[j];rfl⟩
    .cases h
   .cases h
def tL:∀ {f:List Int} {cs':E0},LR ρ (f.map (Value.int .u8)) cs'->cs'=f.map (Value.int .u8)
 | [],cs',h=>h.nil_inv
 | n::r,cs',h=>by
   obtain⟨v',A,rfl,q,j⟩:=h.tail;cases K2 q;rw[tL j];rfl
def rF:∀ (f:List Int) (acc:List UInt8),(f.foldl (fun r n=>r.push (UInt8.ofNat n.toNat)) (ByteArray.mk ⟨acc⟩))=⟨⟨acc++f.map fun n=>UInt8.ofNat n.toNat⟩⟩
 | [],acc=>by simp
 | n::r,acc=>by
   rw[List.foldl_cons];have:(ByteArray.mk ⟨acc⟩).push (UInt8.ofNat n.toNat)=⟨⟨acc++[UInt8.ofNat n.toNat]⟩⟩:=by
    show ByteArray.mk (Array.push ⟨acc⟩ _)=_;simp
   rw[this,rF r];simp
def A1J(h:HR P base ρ m.H w)(W:base<=w.heap.size)(f:FM P m s t x=some (v,m'))(Y:L1 ρ m.n m'.hi)(J:VR ρ x x'):VOk P base ρ m w (convert s t x') v m':=by
 unfold FM at f;split at f
 .rename_i F k j n A E;cases K2 J;simp only[D9,Q0]at f;obtain⟨rfl,rfl⟩:=f;refine VOk.same (v':=.int k (k.wrap n)) h ?_ (by rw[cN,mW];exact .pure rfl);cases F<;>simp[convert,A5,D7 A,D7 E,Result.andThen,Conv.intToInt]
 .rename_i F b A E;cases Y7 J;cases f;refine VOk.same h ?_ (.pure rfl);cases F<;>simp[convert,A5,D7 A,D7 E,Result.andThen]
 .rename_i F j n A E;cases K2 J;cases f;refine VOk.same (v':=.string (Utf8.encode n)) h ?_ (.pure rfl);cases F<;>simp[convert,A5,D7 A,D7 E,Result.andThen,Conv.intToString]
 .rename_i F e b A E;cases Y7 J;split at f
  .rename_i he;split at f
   .rename_i G;rw[J4]at f;let q:Question:=.appendCap b.size 0 e
    let cap:=q.cut (w.tape w.drawn q)
    have K:b.size<=cap:=by show b.size<=b.size+_;omega
    have V:(choose q).run P w=.ok cap w.drew:=by
     simp only[choose,Sem.run];rw[A9 (by simp[q,Question.forced])];rfl
    let C:c9:=(b.data.map fun b=>Value.int .u8 b.toNat)++Array.replicate (cap-b.size) (.int .u8 0)
    have hC:C.size=cap:=by
     have:b.data.size=b.size:=rfl;simp[C,this];omega
    obtain⟨Z,O,X⟩:=fN (wd:=w.drew) (fz:=(C.size,C.size+1)) (cap:=cap) (C:=C) h W f Y (yH ρ b.data.toList) (fun i u hi=>by
      have N:=(B1.1 hi).1;simp[R3]at N;have Q:i<(b.data.map fun b=>Value.int .u8 b.toNat).size:=by simpa using N
      show((b.data.map fun b=>Value.int .u8 b.toNat)++Array.replicate (cap-b.size) (.int .u8 0))[i]? = some u;rw[W7 Q]
      simpa [R3]using hi) NF.end
     (fun inf L=>by
       have:inf.size=1:=by unfold I2 at G;rw[L]at G;exact A8 G
       rw[this,hC];omega) ⟨rfl,rfl,rfl⟩ rfl
    refine⟨.slice (some ⟨w.heap.size,0,none⟩) b.size cap,_,_,?_,?_,X⟩
    .have R:∀ w2:World,w2.heap[w.heap.size]? = some (.cells C e (0,0))->(markStringish ⟨w.heap.size,0,none⟩).run P w2=.ok () (w2.freeze { block:=w.heap.size,off:=C.size } 1):=fun w2 L=>by
      simp[markStringish,shape,freeze,Sem.run,World.shape?,L]
     have T:({ w.drew with heap:=w.heap.push (.cells C e (0,0)) }:World).freeze { block:=w.heap.size,off:=C.size } 1={ w.drew with heap:=w.heap.push (.cells C e (C.size,C.size+1)) }:=by
      unfold World.freeze;rw[A9 C8];congr 1;apply Array.ext_getElem?;intro i;rw[I1];by_cases hi:w.heap.size=i
      .subst hi;simp
      .rw[A9 hi];simp only[aP];rw[A9 (fun h=>hi h.symm),A9 (fun h=>hi h.symm)]
     have I:(convert s t (.string b)).run P w=(Conv.stringToBytes e b).run P w:=by
      cases F<;>simp[convert,A5,D7 A,D7 E,D7 he,Result.andThen]
     rw[I];unfold Conv.stringToBytes;simp only[A5,show(choose (.appendCap b.size 0 e)).run P w=.ok cap w.drew from V,Result.andThen];have U:(newRow e C).run P w.drew=.ok ⟨w.heap.size,0,none⟩ { w.drew with heap:=w.heap.push (.cells C e (0,0)) }:=rfl;rw[show(newRow e ((b.data.map fun b=>Value.int .u8 b.toNat)++Array.replicate (cap-b.size) (.int .u8 0))).run P w.drew=_ from U];simp only[Result.andThen];rw[R _ (by simp),T];rfl
    .rw[Z];exact VR.op (o:=0) (m':=cap) O (A7 _) K (fun _ _=>rfl)
   .cases f
  .cases f
 .rename_i e n c A E;cases R8 J;split at f
  .rename_i he;cases f;refine VOk.same h (v':=.string ByteArray.empty) ?_ (.pure rfl);simp[convert,A5,D7 A,D7 E,D7 he,Result.andThen,Conv.bytesToString]
  .cases f
 .rename_i e a n c A E;split at f
  .rename_i he;split at f
   .rename_i cs hr;split at f
    .rename_i l N;cases f;obtain⟨M,S,L⟩:=rP N;have D:∀ a' c',(loadCells a' n).run P w=.ok (M.map (Value.int .u8)).toArray w->(convert s t (.slice (some a') n c')).run P w=.ok (.string ⟨⟨l⟩⟩) w:=fun a' c' B=>by
      have:=run_bytesToString w a' n c' M B;have O:=rF M [];simp only[R1]at O;simp only[convert,A5,D7 A,D7 E,D7 he,Result.andThen];rw[this,show ByteArray.empty=ByteArray.mk ⟨[]⟩from rfl,O,L]
     rcases Q7 J with⟨lc,B,_,_,rfl⟩|⟨lc,c',B,_,_,_,_,rfl⟩|⟨a',c',_,rfl,_,rfl⟩
     .obtain⟨r',g1,g2,g3⟩:=aA h hr B;rw[S]at g1
      have:=tL g1;subst this;exact VOk.same h (D _ _ (L2 g2 g3)) (.pure rfl)
     .obtain⟨r',g1,g2,g3⟩:=aA h hr B;rw[S]at g1
      have:=tL g1;subst this;exact VOk.same h (D _ _ (L2 g2 g3)) (.pure rfl)
     .have:cs=[]:=by
       unfold bR at hr;split at hr
       .have:=(lY hr).2;simpa using this
       .cases hr
      subst this;have:M=[]:=by cases M with|nil=>rfl|cons _ _=>cases S
      subst this;exact VOk.same h (D _ _ (by simp[loadCells,loadCellsFrom])) (.pure rfl)
    .cases f
   .cases f
  .cases f
 .cases f
end
end
section
open Go
variable [Ora]
section
variable {P:Program} {base:Nat} {ρ:Ren} {m m':Mem} {w:World}
def AJ(q:P.cellsOf e=1)(count off n:Nat)(j:off+n<=count):liesAt P P.depth e count off e n=true:=by
 have f:P.depth=(2*(P.types.size+Made.depth)+1)+1:=rfl;rw[f];simp only[liesAt,J9];left;rw[f];simp[rowAt,q,j,sameLayout,Nat.mod_one]
def fZ:∀ (f:List Int) (b o:Nat) (acc:ByteArray),(∀ (j:Nat) (v:Value),(f.map (Value.int .u8))[j]? = some v->w.cell? ⟨b,o+j,none⟩=some v) ->
  (loadBytes ⟨b,o,none⟩ acc f.length).run P w=.ok ⟨acc.data++(f.map fun n=>UInt8.ofNat n.toNat).toArray⟩ w
 | [],b,o,acc,_=>by simp[loadBytes]
 | n::f,b,o,acc,h=>by
   have A:w.cell? ⟨b,o,none⟩=some (.int .u8 n):=by simpa using h 0 _ rfl
   have q:=fZ f b (o+1) (acc.push n.toNat.toUInt8) (fun j v B=>by
    have:=h (j+1) v (by simpa using B);rw[show o+1+j=o+(j+1) by omega];exact this)
   simp only[B2,loadBytes,A5,run_load,A,Result.andThen,n9];rw[q];have:(acc.push n.toNat.toUInt8).data=acc.data.push n.toNat.toUInt8:=rfl;rw[this];congr 2;apply K0;simp
def CI{l l':Value}(h:HR P base ρ m.H w)(f:fV P m pt p l=some (v,m'))(hp:VR ρ p p')(hl:VR ρ l l') :
  VOk P base ρ m w (Builtin.unsafeString_ ⟨pt::tys⟩ ty #[p',l']) v m':=by
 have F:IntKind.i64.max=9223372036854775807:=rfl;unfold fV at f;split at f
 .cases hp with|pure _=>?_
  cases K2 hl;cases f;refine VOk.same h (v':=.string ByteArray.empty) ?_ (.pure rfl);rename_i k _;have E:Builtin.unsafeString_ ⟨pt::tys⟩ ty #[.pointer none,.int k (.ofNat 0)] =
    (do
      let n <- asInt (.int k (.ofNat 0))
      if n<0 then runtimePanic (.error "unsafe.String: len out of range")
      if n>IntKind.i64.max then unsupported (.unsafePointer "String: a length above the largest int")
      if n=0 then pure (.string .empty)
      else runtimePanic (.error "unsafe.String: ptr is nil and len is not zero")):=rfl
  rw[E];simp[asInt,asIntOf,F]
 .rename_i a k n;cases K2 hl;obtain⟨lc,J,ay,rfl⟩:=Q3 hp;split at f
  .rename_i cs T K X;split at f
   .rename_i e az L;obtain⟨q,f⟩:=A3 f;obtain⟨q,Z⟩:=B3 q;obtain⟨q1,q2⟩:=B3 q;have q1:0<n:=A2 q1;have q2:=A2 q2;have Z:=A1 Z;subst Z;split at f
    .rename_i r hr;split at f
     .rename_i bs m2 V m9;cases f;obtain⟨Y,h1,h2⟩:=rP V;have G:bR m a n=some r:=by
       unfold bR;rw[K,X];exact hr
      obtain⟨r',g1,g2,g3⟩:=aA h G J;rw[h1]at g1;have S:=tL g1;subst S;obtain⟨⟨O,C,fz,T',z2,z3,z4⟩,z5⟩:=h.atl J X;have z2:w.heap[lc.blk]? = some (.cells C e fz):=by rw[z2,(z4 rfl).1]
      have N:Y.length=n:=by simpa using g2
      have D:P.cellsOf e=1:=by
       unfold I2 at L;unfold Program.cellsOf;cases hi:P.info? e with
       | none=>rw[hi]at L;cases L
       | some i=>rw[hi]at L;have:=A8 L;simp[this]
      have U:a.off+lc.sh+n<=C.size:=by
       have B:=g3 (n-1) (.int .u8 Y[n-1]) (by simp[N]);simp only[World.cell?,z2]at B
       have:=(D5.1 (by simpa using B)).1;omega
      have Q:=fZ (P:=P) (w:=w) Y lc.blk (a.off+lc.sh) .empty g3;rw[N]at Q;have W:w.shape? lc.blk=some (e,C.size):=by simp[World.shape?,z2]
      have I:=AJ (P:=P) D (C.size / P.cellsOf e) (a.off+lc.sh) n (by rw[D];simpa using U);have E:Builtin.unsafeString_ ⟨pt::tys⟩ ty #[.pointer (some ⟨lc.blk,a.off+lc.sh,none⟩),.int k (.ofNat n)] =
       (do
         let n <- asInt (.int k (.ofNat n))
         if n<0 then runtimePanic (.error "unsafe.String: len out of range")
         if n>IntKind.i64.max then unsupported (.unsafePointer "String: a length above the largest int")
         if n=0 then pure (.string .empty)
         else if <- variablesAt ⟨lc.blk,a.off+lc.sh,none⟩ (<- elemOf pt) n.toNat then do
          let s <- loadBytes ⟨lc.blk,a.off+lc.sh,none⟩ .empty n.toNat
          freeze ⟨lc.blk,a.off+lc.sh,none⟩ n.toNat
          pure (.string s)
         else unsupported (.unsafePointer "String: not so many bytes at ptr")):=rfl
      have e1:Int.ofNat n=(n:Int):=rfl;have M:¬ (n:Int)<0:=A0;have R:¬ (9223372036854775807:Int)<(n:Int):=A0;have hz:¬ (n:Int)=0:=A0;have A:n≠0:=A0;refine⟨.string ⟨⟨bs⟩⟩,ρ,w.freeze ⟨lc.blk,a.off+lc.sh,none⟩ n,?_,.pure rfl,St.write h m9 X rfl J O ?_ ?_ ?_ ?_⟩
      .rw[E];simp[asInt,asIntOf,F,e1,M,R,hz,A,variablesAt,W,elemOf,D7 az,I,Q,freeze,Sem.run,A5,Result.andThen,h2]
      .simp[World.freeze,A]
      .simp[World.freeze,A]
      .intro j hj;simp only[World.freeze,A,if_false,I1];rw[A9 (fun e=>hj e.symm)]
      .refine⟨O,C,(if fz.1 == fz.2 then(a.off+lc.sh,a.off+lc.sh+n)else(min fz.1 (a.off+lc.sh),max fz.2 (a.off+lc.sh+n))),e,?_,z3,fun hc=>by cases hc⟩;simp only[World.freeze,A,if_false,I1,if_true,z2,M1]
     .cases f
    .cases f
   .cases f
  .cases f
 .cases f
def NS{ks:Array Bool}(h:HR P base ρ m.H w)(D:base<=w.heap.size)(f:kP P m b vs tys=some (v,m'))(E:L1 ρ m.n m'.hi)(A:LR ρ vs vs') :
  ∃ s:Sem Value,builtin b ⟨tys⟩ ty ks ⟨vs'⟩=(do pure (.value (<- s)))/\VOk P base ρ m w s v m':=by
 unfold kP at f;split at f
 .obtain⟨x',r1,rfl,j,q⟩:=A.tail;cases q.nil_inv;unfold noM at f;split at f
  .rename_i u hu;cases f;obtain⟨g1,g2⟩:=SR h hu j;exact⟨_,rfl,VOk.same h g1 (.pure g2)⟩
  .cases f
 .obtain⟨x',r1,rfl,j,q⟩:=A.tail;cases q.nil_inv;unfold noM at f;split at f
  .rename_i u hu;cases f;obtain⟨g1,g2⟩:=A2y hu j w;exact⟨_,rfl,VOk.same h g1 (.pure g2)⟩
  .cases f
 .obtain⟨x',r1,rfl,j,q⟩:=A.tail;obtain⟨y',C,rfl,h3,B⟩:=q.tail;cases B.nil_inv;rename_i t t2 rest;refine⟨Builtin.append_ ⟨t::t2::rest⟩ ty #[x',y'],rfl,?_⟩
  have:=QT (ty:=ty) h D f E j h3;have e:Builtin.append_ ⟨t::t2::rest⟩ ty #[x',y']=Builtin.append_ #[t,t2] ty #[x',y']:=rfl;rw[e];exact this
 .obtain⟨x',r1,rfl,j,q⟩:=A.tail;obtain⟨y',C,rfl,h3,B⟩:=q.tail;cases B.nil_inv;exact⟨_,rfl,A1G h f j h3⟩
 .unfold noM at f;split at f
  .rename_i u hu;cases f;obtain⟨g1,g2⟩:=SK (P:=P) (ty:=ty) (tys:=⟨tys⟩) hu A w;exact⟨_,rfl,VOk.same h g1 (.pure g2)⟩
  .cases f
 .unfold noM at f;split at f
  .rename_i u hu;cases f;obtain⟨g1,g2⟩:=SI (P:=P) (ty:=ty) (tys:=⟨tys⟩) hu A w;exact⟨_,rfl,VOk.same h g1 (.pure g2)⟩
  .cases f
 .obtain⟨x',r1,rfl,j,q⟩:=A.tail;cases q.nil_inv;exact⟨_,rfl,CV h f j⟩
 .obtain⟨x',r1,rfl,j,q⟩:=A.tail;obtain⟨y',C,rfl,h3,B⟩:=q.tail;cases B.nil_inv;exact⟨_,rfl,CI h f j h3⟩
 .cases f
def NOk(P:Program)(base:Nat)(ρ:Ren)(m:Mem)(w:World)(s:Sem Next)(v:Value)(m':Mem):Prop :=
 ∃ v' f w',(s.run P w=.ok (.value v') w'∨(s.run P w=.ok .skip w'/\v'=undef))/\VR f v v'/\St P base ρ f m m' w w'
def NOk.of{s:Sem Value}(h:VOk P base ρ m w s v m'):NOk P base ρ m w (do pure (.value (<- s))) v m':=by
 obtain⟨v',f,w',n,j,h3⟩:=h;exact⟨v',f,w',.inl (by simp[A5,n,Result.andThen]),j,h3⟩
def sH(ρ:Ren):VR ρ undef undef:=.tuple (a:=[]) (a':=[]) rfl (fun i v v' h=>by simp at h)
def NOk.ofU{s:Sem Unit}(h:UOk P base ρ m w s m'):NOk P base ρ m w (do s;pure .skip) undef m':=by
 obtain⟨f,w',j,h3⟩:=h;exact⟨undef,f,w',.inr ⟨by simp[A5,j,Result.andThen],rfl⟩,sH _,h3⟩
def NOk.same{s:Sem Value}(h:HR P base ρ m.H w)(hr:s.run P w=.ok v' w)(f:VR ρ v v'):NOk P base ρ m w (do pure (.value (<- s))) v m:=NOk.of (VOk.same h hr f)
def FR(ρ:Ren)(fr:Fr)(g:Operand->Value)(o:Op):Prop:=∀ x ∈ o.operands.toList,VR ρ (ev fr x) (g x)
def aU(h:noM o m=some (v,m')):o=some v/\m'=m:=by
 unfold noM at h;split at h
 .cases h;exact⟨rfl,rfl⟩
 .cases h
def pJ{o:Option Mem}(h:PW o=some (v,m')):o=some m'/\v=undef:=by
 unfold PW at h;split at h
 .cases h;exact⟨rfl,rfl⟩
 .cases h
def eU{fr:Fr}{g:Operand->Value}:∀ {xs:List Operand},(∀ x ∈ xs,VR ρ (ev fr x) (g x))->LR ρ (evL fr xs) (xs.map g)
 | [],_=>.nil
 | x::r,h=>.cons (h x B6) (eU fun y f=>h y (D1 _ f))
def QJ{fr:Fr}{g:Operand->Value}:∀ {xs:List (Nat×Operand)},(∀ x ∈ xs.map (·.2),VR ρ (ev fr x) (g x))->PR ρ (evP fr xs) (xs.map fun x=>(x.1,g x.2))
 | [],_=>trivial
 | (i,x)::r,h=>⟨rfl,h x (by simp),QJ fun y f=>h y (by simp at f ⊢;exact .inr f)⟩
def lX{fr:Fr}{x:Option Operand}(h:∀ y ∈ x.toList,VR ρ (ev fr y) (g y)):OR ρ (evO fr x) (x.map g):=by
 cases x with
 | none=>trivial
 | some y=>exact h y (by simp)
set_option maxHeartbeats 1000000 in
def A5o{fr:Fr}{o:Oper}(h:HR P base ρ m.H w)(K:base<=w.heap.size)(q:opM P fr m o.op=some (v,m'))(L:L1 ρ m.n m'.hi)(U:FR ρ fr g o.op) :
  NOk P base ρ m w (execOp g o) v m':=by
 obtain⟨dst,op,ty,pos,W,X⟩:=o;simp only at q U;have j:∀ {x},x ∈ op.operands.toList->VR ρ (ev fr x) (g x):=fun C=>U _ C
 unfold opM at q;split at q
 .cases q;exact⟨_,ρ,w,.inl rfl,j (by simp[Op.operands]),.refl h⟩
 .cases q;exact⟨_,ρ,w,.inl rfl,j (by simp[Op.operands]),.refl h⟩
 .rename_i c a b;have M:=j (x:=c) (by simp[Op.operands]);unfold RY at q;split at q
  .rename_i F;rw[F]at M;cases q;exact⟨g a,ρ,w,.inl (by simp[execOp,eH M,asBool]),j (by simp[Op.operands]),.refl h⟩
  .rename_i F;rw[F]at M;cases q;exact⟨g b,ρ,w,.inl (by simp[execOp,eH M,asBool]),j (by simp[Op.operands]),.refl h⟩
  .cases q
 .exact NOk.of (VJ h K q L)
 .exact NOk.of (A2H h K q L (j (by simp[Op.operands])))
 .rename_i t ps;obtain⟨A,rfl⟩:=aU q;obtain⟨v',B,h3⟩:=WE A (QJ (g:=g) (fun x C=>j (by simpa [Op.operands]using C))) w;have e:(ps.map fun(i,x)=>(i,g x))=⟨ps.toList.map fun x=>(x.1,g x.2)⟩:=by apply K0;simp
  exact NOk.same (s:=Instr.build t (ps.map fun(i,x)=>(i,g x))) h (by rw[e];exact B) h3
 .rename_i t n ps
  have:=BW h K q L (QJ (g:=g) (fun x C=>j (by simpa [Op.operands]using C)));have e:(ps.map fun(i,x)=>(i,g x))=⟨ps.toList.map fun x=>(x.1,g x.2)⟩:=by apply K0;simp
  refine NOk.of (s:=Instr.buildSlice t n (ps.map fun(i,x)=>(i,g x))) ?_;rw[e];exact this
 .rename_i t x;have C:=j (x:=x) (by simp[Op.operands]);unfold RZ at q;split at q
  .rename_i a G;rw[G]at C;obtain⟨l,N,Q,I⟩:=Q3 C;obtain⟨A,rfl⟩:=aU q;obtain⟨v',B,h3⟩:=MA h A N;refine NOk.same (s:=Instr.loadAt t (g x)) h ?_ h3;rw[I]
   simpa [Instr.loadAt,Instr.sureAddr]using B
  .cases q
 .rename_i t x y;have C:=j (x:=x) (by simp[Op.operands]);have D:=j (x:=y) (by simp[Op.operands]);unfold HL at q;split at q
  .rename_i a G;rw[G]at C;obtain⟨l,N,Q,I⟩:=Q3 C;obtain⟨A,rfl⟩:=pJ q
   have:=UK h A N D;refine NOk.ofU (s:=Instr.storeAt t (g x) (g y)) ?_;rw[I];obtain⟨T,w',r1,Y⟩:=this;exact⟨T,w',by simpa [Instr.storeAt,Instr.sureAddr]using r1,Y⟩
  .cases q
 .rename_i x;have C:=j (x:=x) (by simp[Op.operands]);obtain⟨hm,A,B⟩:=A2G q C;subst hm;refine⟨g x,ρ,w,.inl ?_,A,.refl h⟩;rcases B with⟨a,V⟩|⟨f,a,b,V⟩<;>simp[execOp,V]
 .rename_i op t x y yt;have C:=j (x:=x) (by simp[Op.operands]);have D:=j (x:=y) (by simp[Op.operands]);unfold A2I at q;have E:(AQ op=true->oA P t x y (ev fr x) (ev fr y)=true)->noM (uF P op t (ev fr x) (ev fr y)) m=some (v,m')->NOk P base ρ m w (execOp g ⟨dst,.binOp op t x y yt,ty,pos,W,X⟩) v m':=fun R hn=>by
   obtain⟨A,rfl⟩:=aU hn;obtain⟨B,h3⟩:=yR A C D w;have Z:=tP R C D w;refine NOk.same (s:=do eqGuard op t x y (g x) (g y);binOp op t (g x) (g y)) h ?_ (.pure h3);simp[A5,Z,B,Result.andThen]
  cases J:AQ op with
  | true =>
    rw[J]at q;simp only[F1]at q;obtain⟨A,B⟩:=A3 q;exact E (fun _=>A) B
  | false =>
    rw[J]at q;simp only[E7]at q;exact E (fun h=>by rw[J]at h;cases h) q
 .rename_i op t x;obtain⟨A,rfl⟩:=aU q;obtain⟨B,h3⟩:=OQ (P:=P) A (j (x:=x) (by simp[Op.operands])) w;exact NOk.same (s:=Op.unary op (g x)) h B (.pure h3)
 .exact NOk.of (A1J h K q L (j (by simp[Op.operands])))
 .exact NOk.of (VI h q (j (by simp[Op.operands])))
 .rename_i f first cap
  cases q;have l1:=eU (ρ:=ρ) (fr:=fr) (g:=g) (xs:=first.toList) fun x C=>j (by simp[Op.operands];exact .inl (by simpa using C))
  have l2:=eU (ρ:=ρ) (fr:=fr) (g:=g) (xs:=cap.toList) fun x C=>j (by simp[Op.operands];exact .inr (by simpa using C))
  refine⟨.func (.func f) ⟨first.toList.map g⟩ ⟨cap.toList.map g⟩,ρ,w,.inl ?_,.func l1.1 l2.1 l1.2 l2.2,.refl h⟩;have S:first.map g=⟨first.toList.map g⟩:=by apply K0;simp
  have O:cap.map g=⟨cap.toList.map g⟩:=by apply K0;simp
  simp[execOp,Instr.makeFunc,S,O]
 .exact NOk.of (CZ h K q L (j (by simp[Op.operands])) (j (by simp[Op.operands])))
 .rename_i t x lo hi mx;obtain⟨A,rfl⟩:=aU q;obtain⟨v',B,h3⟩:=jZ A (j (x:=x) (by simp[Op.operands])) (lX (g:=g) fun y D=>j (by simp[Op.operands]at D ⊢;exact .inr (.inl D))) (lX (g:=g) fun y D=>j (by simp[Op.operands]at D ⊢;exact .inr (.inr (.inl D)))) (lX (g:=g) fun y D=>j (by simp[Op.operands]at D ⊢;exact .inr (.inr (.inr D)))) w;exact NOk.same (s:=Instr.sliceAt t (g x) (lo.map g) (hi.map g) (mx.map g)) h B h3
 .obtain⟨A,rfl⟩:=aU q;obtain⟨v',B,h3⟩:=oC A (j (by simp[Op.operands])) w;exact NOk.same h B h3
 .obtain⟨A,rfl⟩:=aU q;obtain⟨v',B,h3⟩:=VW A (j (by simp[Op.operands])) w;exact NOk.same h B h3
 .obtain⟨A,rfl⟩:=aU q;obtain⟨v',B,h3⟩:=eI A (j (by simp[Op.operands])) (j (by simp[Op.operands])) w;exact NOk.same h B h3
 .obtain⟨A,rfl⟩:=aU q;obtain⟨v',B,h3⟩:=vB A (j (by simp[Op.operands])) (j (by simp[Op.operands])) w;exact NOk.same h B h3
 .obtain⟨hm,v',B,h3⟩:=LN (P:=P) q (j (by simp[Op.operands])) w;subst hm;exact NOk.same h B h3
 .rename_i b xs tys;have l1:=eU (ρ:=ρ) (fr:=fr) (g:=g) (xs:=xs.toList) fun x C=>j (by show x ∈ (#[]++xs:Array Operand).toList;simpa using C)
  obtain⟨ks,O⟩:∃ ks,execOp g ⟨dst,.call ⟨.builtin b,xs,tys⟩,ty,pos,W,X⟩=builtin b tys ty ks (xs.map g):=⟨_,rfl⟩;obtain⟨s,e,hs⟩:=NS (ty:=ty) (ks:=ks) h K q L l1;have S:xs.map g=⟨xs.toList.map g⟩:=by apply K0;simp
  rw[O,S];have e3:tys=⟨tys.toList⟩:=rfl;rw[e3,e];exact NOk.of hs
 .cases q
end
end
section
open Go
def ofV:S8->U
 | some (.int k n)=>.int k n
 | some (.bool b)=>.bool b
 | some (.string s)=>.str s.data.toList
 | _=>.none
def F3(E:Nat->U):Value->U
 | .complex .f64 i _=>E i
 | .int k n=>.int k n
 | .bool b=>.bool b
 | .string s=>.str s.data.toList
 | _=>.none
def evB(op:BinOp):U->U->U
 | .int k a,.int j b=>ofV (cR op k j a b)
 | .str a,.str b=>ofV (A16 op ⟨⟨a⟩⟩ ⟨⟨b⟩⟩)
 | .bool a,.bool b=>match op with
   | .eql=>.bool (a == b)
   | .neq=>.bool (!(a == b))
   | _=>.none
 | _,_=>.none
def ev1(op:UnOp):U->U
 | .int k n=>ofV (unM op (.int k n))
 | .bool b=>ofV (unM op (.bool b))
 | _=>.none
def eqU:U->U->Option Bool
 | .int k a,.int j b=>if k=j then some (a == b)else none
 | .bool a,.bool b=>some (a == b)
 | .str a,.str b=>some (a == b)
 | _,_=>none
def oF:List U->Option Bool
 | []=>some true
 | a::b::r=>match eqU a b,oF r with
   | some x,some y=>some (x && y)
   | _,_=>none
 | _=>none
def KH(s:List UInt8)(l h:Int):U :=
 match l,h with
 | .ofNat l,.ofNat h=>if l<=h/\h<=s.length then .str ((s.drop l).take (h-l))else .none
 | _,_=>.none
def vQ:List U->Option (List UInt8)
 | []=>some []
 | .int .u8 (.ofNat n)::r=>if n<256 then match vQ r with
   | some l=>some (UInt8.ofNat n::l)
   | none=>none else none
 | _::_=>none
def xL:List (List U)->Option (List UInt8)
 | []=>some []
 | [.int .u8 (.ofNat n)]::r=>if n<256 then match xL r with
   | some l=>some (UInt8.ofNat n::l)
   | none=>none else none
 | _::_=>none
def mH(s:List UInt8):List (List U):=s.map fun b=>[.int .u8 b.toNat]
def aN(w:Nat):Nat->List U->Option (List (List U))
 | 0,[]=>some []
 | 0,_::_=>none
 | n+1,l=>if w<=l.length then match aN w n (l.drop w)with
   | some r=>some (l.take w::r)
   | none=>none else none
def PP(row:List U)(o:Nat)(cells:List U):List U:=row.take o++cells++row.drop (o+cells.length)
def vR:Nat:=1000000000
def oI(f:Bool)(w:Nat)(rows r:List (List U)):U:=if rows.length+r.length<=vR then(match r with|[]=>.seq f w rows|r=>.seq false w (rows++r))else .none
def isU(a b:U):Bool :=
 match eqU a b with
 | some c=>c
 | none=>false
def u5:List U->List U->Bool
 | [],_=>true
 | a::k,b::r=>isU a b && u5 k r
 | _::_,[]=>false
def ZP(kw:Nat)(c:List U):List (List U)->List (List U)
 | []=>[c]
 | r::rs=>if u5 (c.take kw) r then c::rs else r::ZP kw c rs
def evU:LOp->List U->U
 | .mhas w kw,.seq _ v rows::k=>if v=w/\k.length=kw then .bool (rows.any (u5 k))else .none
 | .mget w kw o,.seq _ v rows::z::k=>if v=w/\k.length=kw then(match rows.find? (u5 k)with
   | some r=>r.getD o .none
   | none=>z)else .none
 | .mput w kw,.seq nul v rows::c=>if v=w/\c.length=w then .seq nul w (ZP kw c rows)else .none
 | .len,[.seq _ _ rows]=>.int .i64 rows.length
 | .mks,l=>match vQ l with
   | some s=>.str s
   | none=>.none
 | .inbs w,[.int _ i,.seq _ v rows]=>if v=w then .bool (decide (0<=i) && decide (i<rows.length))else .none
 | .get w o,[.seq false v rows,.int _ (.ofNat k)]=>if v=w then(rows.getD k []).getD o .none else .none
 | .mk w,l=>if w=0 then .none else match aN w (l.length / w) l with
   | some r=>.seq false w r
   | none=>.none
 | .nilw w,[]=>.seq true w []
 | .nilp,[.seq nul _ _]=>.bool nul
 | .snoc w,.seq nul v rows::l=>if v=w/\w≠0 then match aN w (l.length / w) l with
   | some r=>oI nul w rows r
   | none=>.none else .none
 | .cat w,[.seq nul v rows,.seq _ v2 r]=>if v=w/\v2=w then oI nul w rows r else .none
 | .cats,[.seq nul v rows,.str s]=>if v=1 then oI nul 1 rows (mH s)else .none
 | .set w o,.seq false v rows::.int _ (.ofNat k)::l=>if v=w/\k<rows.length/\o+l.length<=w then .seq false w (rows.set k (PP (rows.getD k []) o l))else .none
 | .subs w,[.seq nul v rows,.int _ (.ofNat l),.int _ (.ofNat h)]=>if v=w/\l<=h/\h<=rows.length then .seq nul w ((rows.drop l).take (h-l))else .none
 | .str,[.seq _ v rows]=>if v=1 then match xL rows with
   | some s=>.str s
   | none=>.none else .none
 | .byt,[.str s]=>.seq false 1 (mH s)
 | .ustr,[.seq _ v rows,.int _ (.ofNat n)]=>if v=1/\n<=rows.length/\n<=vR then match xL (rows.take n)with
   | some s=>.str s
   | none=>.none else .none
 | .rep w,.int _ (.ofNat n)::l=>if l.length=w/\n<=vR then .seq false w (List.replicate n l)else .none
 | .bin op,[a,b]=>evB op a b
 | .un op,[a]=>ev1 op a
 | .conv k,[.int _ n]=>.int k (k.wrap n)
 | .len,[.str s]=>.int .i64 s.length
 | .rune,[.str s,.int _ (.ofNat k)]=>.int .i32 (Utf8.decode ⟨⟨s⟩⟩ k).1
 | .rpos,[.str s,.int _ (.ofNat k)]=>.int .i64 (k+(Utf8.decode ⟨⟨s⟩⟩ k).2:Nat)
 | .idx,[.str s,.int _ (.ofNat k)]=>match s[k]? with
   | some b=>.int .u8 b.toNat
   | none=>.none
 | .sub,[.str s,.int _ l,.int _ h]=>KH s l h
 | .sub1,[.str s,.int _ l]=>KH s l s.length
 | .sel,.int _ (.ofNat k)::cs=>cs.getD k .none
 | .inb,[.int _ i,.int _ n]=>.bool (decide (0<=i) && decide (i<n))
 | .eqs,l=>match oF l with
   | some b=>.bool b
   | none=>.none
 | .max,[.int k a,.int _ b]=>.int k (if b>a then b else a)
 | .min,[.int k a,.int _ b]=>.int k (if b<a then b else a)
 | _,_=>.none
def u7.ok(E:Nat->U):u7->Prop
 | .lt i t op xs=>E i=evU op (xs.map (F3 E))/\H7 (E i)=t/\t<10
 | .dt i t op xs=>E i=evU op (xs.map (F3 E))/\H7 (E i)=t/\∃ f w rows,E i=.seq f w rows
 | .br i b=>E i=.bool b
 | .as op xs=>evU op (xs.map (F3 E))=.bool true
 | .con spec xs i d n=>∃ outs,spec (xs.map (F3 E))=some (d,outs)/\outs.length=n/\∀ j u,outs[j]? = some u->E (i+j)=u
def V2(E:Nat->U)(l:List u7):Prop:=∀ e ∈ l,e.ok E
def Lg.le(a b:Lg):Prop:=a.log <:+ b.log
def Lg.le.refl(a:Lg):a.le a:=List.suffix_refl _
def Lg.le.trans{a b c:Lg}(h:a.le b)(k:b.le c):a.le c:=List.IsSuffix.trans h k
def V2.le{E:Nat->U}{a b:Lg}(h:V2 E b.log)(k:a.le b):V2 E a.log:=fun e he=>h e (k.subset he)
variable [Ora]
abbrev Sat(lg:Lg):Prop:=V2 Ora.env lg.log
omit [Ora] in
def RE{u:U}(h:H7 u<10):∃ v,toV u=some v/\ofV (some v)=u/\H6 v=H7 u:=by
 cases u with
 | none=>simp[H7]at h
 | seq _ _ _=>simp only[H7]at h;omega
 | int k n=>exact⟨_,rfl,rfl,rfl⟩
 | bool b=>exact⟨_,rfl,rfl,rfl⟩
 | str s=>exact⟨_,rfl,rfl,rfl⟩
def HK(h:H7 (ofV o)<10):∃ v,o=some v/\toV (ofV o)=some v:=by
 unfold ofV at h;split at h
 .exact⟨_,rfl,rfl⟩
 .exact⟨_,rfl,rfl⟩
 .rename_i s;refine⟨_,rfl,?_⟩;simp[ofV,toV]
 .simp[H7]at h
def N1(k:IntKind):kJ k<8:=by cases k<;>decide
theorem cE{ρ:Ren}{v v':Value}(h:VR ρ v v')(f:H6 v<10):toV (F3 Ora.env v)=some v'/\H7 (F3 Ora.env v)=H6 v:=by
 cases h with
 | pure hp =>
   cases v<;>simp only[H6]at f<;>first
    | exact⟨rfl,rfl⟩
    | (exfalso;omega)
    | (simp[J8]at hp)
 | hole h j=>exact⟨h,j⟩
 | junk=>simp[H6]at f
 | ixp _ _ _ _ _=>simp[H6,ixp]at f
 | dat _ _ _ _ _=>simp[H6,Go.Sx.dat]at f
 | clp _ _ _ _ _ _=>simp[H6,Go.Sx.clp]at f
 | own _ _ _=>simp[H6,Go.Sx.own]at f
 | dpt _ _ _=>simp[H6,Go.Sx.dpt]at f
 | opt _ _ _=>simp[H6,Go.Sx.opt]at f
 | yv _=>simp[H6,Go.Sx.yv]at f
 | sdt _=>simp[H6,Go.Sx.sdt]at f
 | _=>simp[H6]at f
def O2{ρ:Ren}(h:VR ρ v v')(q:H6 v<8):∃ k n,v'=.int k n/\F3 Ora.env v=.int k n/\H6 v=kJ k:=by
 obtain⟨j,f⟩:=cE h A0;cases hu:F3 Ora.env v with
 | int k n=>rw[hu]at j f;cases j;exact⟨k,n,rfl,rfl,f.symm⟩
 | bool b=>rw[hu]at f;simp only[H7]at f;omega
 | str s=>rw[hu]at f;simp only[H7]at f;omega
 | none=>rw[hu]at j;cases j
 | seq _ _ _=>rw[hu]at j;cases j
def jY{ρ:Ren}(h:VR ρ v v')(q:H6 v=8):∃ b,v'=.bool b/\F3 Ora.env v=.bool b:=by
 obtain⟨f,j⟩:=cE h A0;cases hu:F3 Ora.env v with
 | int k n=>rw[hu]at j;simp only[H7]at j;have:=N1 k;omega
 | bool b=>rw[hu]at f;cases f;exact⟨b,rfl,rfl⟩
 | str s=>rw[hu]at j;simp only[H7]at j;omega
 | none=>rw[hu]at f;cases f
 | seq _ _ _=>rw[hu]at f;cases f
def bC{ρ:Ren}(h:VR ρ v v')(q:H6 v=9):∃ s,v'=.string ⟨⟨s⟩⟩/\F3 Ora.env v=.str s:=by
 obtain⟨f,j⟩:=cE h A0;cases hu:F3 Ora.env v with
 | int k n=>rw[hu]at j;simp only[H7]at j;have:=N1 k;omega
 | bool b=>rw[hu]at j;simp only[H7]at j;omega
 | str s=>rw[hu]at f;cases f;exact⟨s,rfl,rfl⟩
 | none=>rw[hu]at f;cases f
 | seq _ _ _=>rw[hu]at f;cases f
def lT{m m':Mem}{t:Nat}{op:LOp}(h:X4 m t op xs=some (v,m')):v=hole m.lg.nx t/\m'=m.wLg ⟨m.lg.nx+1,m.lg.pi,.lt m.lg.nx t op xs::m.lg.log⟩:=by
 obtain⟨H,n,W,hi,⟨nx,pi,log⟩⟩:=m;simp only[X4,F5,J4]at h;cases h;exact⟨rfl,rfl⟩
def O0{m m':Mem}{t:Nat}{op:LOp}(h:X4 m t op xs=some (v,m'))(q:Sat m'.lg):∃ u,evU op (xs.map (F3 Ora.env))=u/\H7 u=t/\∃ r,toV u=some r/\(∀ ρ,VR ρ v r)/\t<10:=by
 obtain⟨rfl,rfl⟩:=lT h;obtain⟨n,j,h3⟩:=q (.lt m.lg.nx t op xs) (by cases m;exact B6);refine⟨_,rfl,n▸j,?_⟩;obtain⟨r,f,_⟩:=RE (u:=Ora.env m.lg.nx) A0;exact⟨r,n▸f,fun ρ=>.hole f j,h3⟩
section
variable {P:Program} {base:Nat} {ρ:Ren} {m m':Mem} {w:World}
def St.wLg(h:HR P base ρ m.H w)(lg:Lg):St P base ρ ρ m (m.wLg lg) w w:=by
 obtain⟨H,n,W,hi,l⟩:=m;have r:=St.refl (m:=⟨H,n,W,hi,l⟩) h;exact⟨r.ext,r.new,r.nle,r.hle,r.nhi,r.hr,r.wsub,r.wrw,r.keep,r.size,r.os,r.blk,r.same,r.tch⟩
def dP:∀ {l:List u7} {i:Nat} {b:Bool},AX l i=some b->u7.br i b ∈ l
 | [],_,_,h=>by cases h
 | .br j c::r,i,b,h=>by
   rw[AX]at h;cases f:Nat.beq j i with
   | true=>rw[f]at h;cases h;rw[A1 f];exact B6
   | false=>rw[f]at h;exact D1 _ (dP h)
 | .lt _ _ _ _::r,i,b,h=>D1 _ (dP (l:=r) h)
 | .dt _ _ _ _::r,i,b,h=>D1 _ (dP (l:=r) h)
 | .as _ _::r,i,b,h=>D1 _ (dP (l:=r) h)
 | .con _ _ _ _ _::r,i,b,h=>D1 _ (dP (l:=r) h)
def gU{lg f:Lg}{b:Bool}(h:brL lg c=some (b,f)):lg.le f:=by
 unfold brL at h;split at h
 .cases h;exact .refl _
 .obtain⟨nx,pi,log⟩:=lg;simp only at h;split at h
  .cases h;exact .refl _
  .split at h
   .cases h;exact⟨[_],rfl⟩
   .cases h;exact⟨[_],rfl⟩
   .cases h
 .cases h
def oJ{lg f:Lg}{b:Bool}(h:brL lg c=some (b,f))(q:VR ρ c c')(n:Sat f):c'=.bool b:=by
 unfold brL at h;split at h
 .cases h;exact eH q
 .rename_i i;have C:Ora.env i=.bool b:=by
   obtain⟨nx,pi,log⟩:=lg;simp only at h;split at h
   .rename_i b' B;cases h;exact n _ (dP B)
   .split at h
    .cases h;exact n (.br i true) B6
    .cases h;exact n (.br i false) B6
    .cases h
  obtain⟨b',A,j⟩:=jY q rfl;have j:Ora.env i=.bool b':=j;rw[C]at j;cases j;exact A
 .cases h
def wU:∀ {a b:List U} {z:Bool},a.length%2=0->oF (a++b)=some z->∃ x y,oF a=some x/\oF b=some y/\z=(x && y)
 | [],b,z,_,h=>⟨true,z,rfl,h,rfl⟩
 | [_],_,_,hl,_=>by simp at hl
 | p::q::r,b,z,hl,h=>by
   simp only[aF]at h;unfold oF at h;split at h
   .rename_i u v f j;cases h;obtain⟨x,y,A,n,rfl⟩:=wU (by simp only[B2]at hl;omega) j;exact⟨u && x,y,by simp only[oF,f,A],n,by simp[Bool.and_assoc]⟩
   .cases h
def US(h:gK P t x y=true)(E:VR ρ x x')(D:VR ρ y y'){b:Bool}(f:eqU (F3 Ora.env x) (F3 Ora.env y)=some b)(n:Nat)(w:World):(Op.equalIn (n+1) t x' y').run P w=.ok b w:=by
 unfold gK at h;split at h
 .rename_i hu;obtain⟨j,A⟩:=B3 h;obtain⟨p,rfl,C⟩:=jY E (A1 j);obtain⟨q,rfl,B⟩:=jY D (A1 A);rw[C,B]at f;cases f;simp[Op.equalIn,A5,D7 hu,Result.andThen]
 .rename_i k hu;obtain⟨j,A⟩:=B3 h;have j:=A1 j;have A:=A1 A;obtain⟨G,p,rfl,C,f1⟩:=O2 E (by have:=N1 k;omega);obtain⟨F,q,rfl,B,f2⟩:=O2 D (by have:=N1 k;omega);have g1:G=k:=by cases G<;>cases k<;>first|rfl|(simp only[kJ]at f1 j;omega)
  have g2:F=k:=by cases F<;>cases k<;>first|rfl|(simp only[kJ]at f2 A;omega)
  subst g1;subst g2;rw[C,B]at f;simp[eqU]at f;subst f;simp[Op.equalIn,A5,D7 hu,Result.andThen]
 .rename_i hu;obtain⟨j,A⟩:=B3 h;obtain⟨p,rfl,C⟩:=bC E (A1 j);obtain⟨q,rfl,B⟩:=bC D (A1 A);rw[C,B]at f;cases f
  have:=run_equalIn_string (P:=P) w n t ⟨⟨p⟩⟩ ⟨⟨q⟩⟩ hu;rw[this];simp[ByteArray.toList_eq]
 .cases h
mutual
def TH:∀ (d:Nat) (t:TypeId) (x y:Value) (l:List Value),eqS P d t x y=some l->l.length%2=0
 | 0,_,_,_,_,h=>by simp[eqS]at h
 | d+1,t,x,y,l,h=>by
   unfold eqS at h;cases hs:gK P t x y with
   | true=>rw[hs]at h;cases h;simp
   | false =>
     rw[hs]at h;simp only[E7]at h;split at h
     .rename_i fs xs ys hu;cases hst:P.stoodInHeld t with
      | true=>rw[hst]at h;cases h
      | false=>rw[hst]at h;exact BE d _ _ _ l h
     .split at h
      .exact BE d _ _ _ l h
      .cases h
     .cases h
def BE:∀ (d:Nat) (fs:List Field) (xs ys:List Value) (l:List Value),BF P d fs xs ys=some l->l.length%2=0
 | 0,_,_,_,_,h=>by simp[BF]at h
 | d+1,[],_,_,_,h=>by simp only[BF,D9]at h;subst h;rfl
 | d+1,f::fs,xs,ys,l,h=>by
   unfold BF at h;cases hnm:f.name == "_" with
   | true=>rw[hnm]at h;cases h
   | false =>
     rw[hnm]at h;simp only[E7]at h;split at h
     .split at h
      .rename_i a b ha hb;cases h
       have:=TH d _ _ _ a ha
       have:=BE d _ _ _ b hb;simp only[A4];omega
      .cases h
     .cases h
end
mutual
def QK:∀ (d:Nat) (t:TypeId) (x y x' y':Value) (l:List Value) (b:Bool),eqS P d t x y=some l->oF (l.map (F3 Ora.env))=some b->VR ρ x x'->VR ρ y y'->∀ (n:Nat),d<=n->∀ w:World,(Op.equalIn n t x' y').run P w=.ok b w
 | 0,_,_,_,_,_,_,_,h,_,_,_,_,_,_=>by simp[eqS]at h
 | d+1,t,x,y,x',y',l,b,h,hl,hx,hy,n,hn,w=>by
   obtain⟨n,rfl⟩:∃ k,n=k+1:=⟨n-1,A0⟩;have hn':d<=n:=A0;unfold eqS at h;cases hs:gK P t x y with
   | true =>
     rw[hs]at h;cases h;simp only[E4,I3,oF]at hl;split at hl
     .rename_i u v e1 e2;cases e2;cases hl;rw[qO];exact US hs hx hy e1 n w
     .cases hl
   | false =>
     rw[hs]at h;simp only[E7]at h;split at h
     .rename_i fs xs ys hu;cases hst:P.stoodInHeld t with
      | true=>rw[hst]at h;cases h
      | false =>
        rw[hst]at h;obtain⟨xs',rfl,hx1⟩:=Z7 hx;obtain⟨ys',rfl,hy1⟩:=Z7 hy;have hf:P.fieldsOf t=fs:=by simp[Program.fieldsOf,hu]
        rw[run_equalIn_struct (P:=P) w n t _ _ (by rw[hf];exact hu) hst,hf];exact IN d fs.toList xs.toList ys.toList xs' ys' l b h hl hx1 hy1 n hn' w
     .rename_i k e xs ys hu;split at h
      .rename_i s hz;obtain⟨xs',rfl,hx1⟩:=Z7 hx;obtain⟨ys',rfl,hy1⟩:=Z7 hy;obtain⟨i,hi,rfl⟩:=DT hz;rw[run_equalIn_array (P:=P) (w:=w) n _ _ hu hi,show P.cellsOf e=i.size by simp[Program.cellsOf,hi],gO];exact IN d _ xs.toList ys.toList xs' ys' l b h hl hx1 hy1 n hn' w
      .cases h
     .cases h
def IN:∀ (d:Nat) (fs:List Field) (xs ys xs' ys':List Value) (l:List Value) (b:Bool),BF P d fs xs ys=some l->oF (l.map (F3 Ora.env))=some b->LR ρ xs xs'->LR ρ ys ys'->∀ (n:Nat),d<=n->∀ w:World,(Op.eqFields n ⟨xs'⟩ ⟨ys'⟩ fs).run P w=.ok b w
 | 0,_,_,_,_,_,_,_,h,_,_,_,_,_,_=>by simp[BF]at h
 | d+1,[],_,_,_,_,_,b,h,hl,_,_,_,_,_=>by
   simp only[BF,D9]at h;subst h;simp only[I3,oF,D9]at hl;subst hl;simp[Op.eqFields]
 | d+1,f::fs,xs,ys,xs',ys',l,b,h,hl,hx,hy,n,hn,w=>by
   unfold BF at h;cases hnm:f.name == "_" with
   | true=>rw[hnm]at h;cases h
   | false =>
     rw[hnm]at h;simp only[E7]at h;have hn':f.name ≠ "_":=by simpa using hnm
     split at h
     .rename_i x y h1 h2;obtain⟨x',g1,g2⟩:=kF h1 hx w;obtain⟨y',g3,g4⟩:=kF h2 hy w;split at h
      .rename_i a c ha hc;cases h;rw[Y3]at hl;obtain⟨p,q,e1,e2,rfl⟩:=wU (by have:=TH d _ _ _ a ha;simpa using this) hl;have ih:=QK d f.type x y x' y' a p ha e1 g2 g4 n A0 w;have ih2:=IN d fs xs ys xs' ys' c q hc e2 hx hy n A0 w;unfold Op.eqFields;rw[B0 hn'];cases p<;>simp[A5,g1,g3,Result.andThen,ih,ih2]
      .cases h
     .cases h
end
end
end
section
open Go
variable [Ora]
section
variable {P:Program} {base:Nat} {ρ:Ren} {m m':Mem} {w w':World}
def St.new0{ab:AB}(h:HR P base ρ m.H w)(V:w8 m ab k=some (v,m'))(T:L1 ρ m.n m'.hi)(K:BR P (upd ρ m.n l') ab l' w)(I:l'.on=false)
  (M:∀ q,Tc ab l' q->Fp ρ m.H q/\∀ id,id<=J0->∀ a l,Hp.get m.H id=some a->ρ id=some l->a.rw=true->l.on=true->l.blk≠q):v=k m.n/\upd ρ m.n l' m.n=some l'/\St P base ρ (upd ρ m.n l') m m' w w:=by
 obtain⟨hle,S,rfl⟩:=N0 V;have F:ρ m.n=none:=T m.n (A7 _) (L8 _ _).2;have A:=i0 (l:=l') F;refine⟨S,N2 _ _ _,A,fun b q B j=>?_,by simp,(L8 _ _).1,fun _=>t7 (L8 _ _).2,⟨fun b q N=>?_,fun id hid a f=>?_⟩,fun b K=>K,fun b B j=>absurd B j,fun q N _=>rfl,A7 _,⟨rfl,rfl,rfl⟩,fun b q B j C=>?_,fun id hid B j=>?_,fun q ⟨id,a,l,hid,f,E,O⟩=>.inr ?_⟩
 .obtain⟨rfl,rfl⟩:=Y5 B j;exact⟨A7 _,K1 _⟩
 .cases Q:ρ b with
  | some U=>exact h.dom b U Q
  | none=>obtain⟨rfl,rfl⟩:=Y5 N Q;exact hle
 .rw[F6 _ _ _ _ hle hid]at f;by_cases e:id=m.n
  .rw[B0 e]at f;have f:=A8 f;subst f;subst e;exact⟨l',N2 _ _ _,K,fun _ C=>(by rw[I]at C;cases C)⟩
  .rw[A9 e]at f;obtain⟨R,B,j,h3⟩:=h.at_ id hid a f;refine⟨R,A _ _ B,j.mono A (fun _ _=>rfl),fun hr C=>⟨(h3 hr C).1,fun G D J l2 g1 g2 g3=>?_⟩⟩;rw[F6 _ _ _ _ hle D]at g1;by_cases L:G=m.n
   .subst L;rw[N2]at g2
    have:=A8 g2;subst this;rw[B0 rfl]at g1;have g1:=A8 g1;subst g1;exact absurd rfl ((M _ g3).2 id hid a R f B hr C)
   .rw[A9 L]at g1;unfold upd at g2;rw[A9 L]at g2;exact(h3 hr C).2 G D J l2 g1 g2 g3
 .obtain⟨rfl,rfl⟩:=Y5 B j;rw[I]at C;cases C
 .rw[F6 _ _ _ _ hle hid,A9];intro e;subst e;rcases j with j|j
  .omega
  .have j:upN m.hi m.n<=m.n:=j
   have:=(L8 m.hi m.n).2;omega
 .have f:Hp.get (m.H.set m.n (some ab)) id=some a:=f;rw[F6 _ _ _ _ hle hid]at f;by_cases e:id=m.n
  .subst e;rw[B0 rfl]at f;have f:=A8 f;subst f;rw[N2]at E;have E:=A8 E;subst E;exact(M q O.2).1
  .rw[A9 e]at f;unfold upd at E;rw[A9 e]at E;exact⟨id,a,l,hid,f,E,O⟩
def St.same0{ab:AB}{id:Nat}(h:HR P base ρ m.H w)(U:eA m id ab'=some m')(M:Hp.get m.H id=some ab)(D:ab.rw=true)(I:ρ id=some l)(N:BR P ρ ab' l w)(Q:∀ q,Tc ab' l q->Tc ab l q):St P base ρ ρ m m' w w:=by
 obtain⟨hle,rfl⟩:=Y6 U;obtain⟨E,h3⟩:=h.atl I M;refine⟨fun _ _ h=>h,fun b k F E=>(by rw[F]at E;cases E),A7 _,A7 _,fun h=>h,⟨h.dom,fun n f a A=>?_⟩,fun b N=>D1 _ N,fun b F E k L=>?_,fun k L T=>rfl,A7 _,⟨rfl,rfl,rfl⟩,fun b k F E=>(by rw[F]at E;cases E),fun n f S V=>?_,fun k ⟨n,a,q,f,A,J,R⟩=>.inr ?_⟩
 .rw[F6 _ _ _ _ hle f]at A;by_cases e:n=id
  .rw[B0 e]at A;have A:=A8 A;subst A;subst e;refine⟨l,I,N,fun _ C=>⟨(h3 D C).1,fun B j G O g1 g2 g3=>?_⟩⟩;rw[F6 _ _ _ _ hle j]at g1;by_cases K:B=n
   .exact K
   .rw[A9 K]at g1;exact(h3 D C).2 B j G O g1 g2 g3
  .rw[A9 e]at A;obtain⟨l2,g1,g2,g3⟩:=h.at_ n f a A;refine⟨l2,g1,g2.mono (fun _ _ h=>h) (fun k L=>rfl),fun hr C=>⟨(g3 hr C).1,fun B j G O f1 f2 f3=>?_⟩⟩;rw[F6 _ _ _ _ hle j]at f1;by_cases K:B=id
   .subst K;rw[I]at f2
    have:=A8 f2;subst this;have f1:=A8 (by simpa using f1);subst f1;exact(g3 hr C).2 B j ab l M I (Q _ f3)
   .rw[A9 K]at f1;exact(g3 hr C).2 B j G O f1 f2 f3
 .rcases C4.1 F with rfl|F
  .exact⟨ab,M,D⟩
  .exact absurd F E
 .rw[F6 _ _ _ _ hle f,A9];intro e;subst e;exact S B6
 .have A:Hp.get (m.H.set id (some ab')) n=some a:=A;rw[F6 _ _ _ _ hle f]at A;by_cases e:n=id
  .subst e;rw[B0 rfl]at A;have A:=A8 A;subst A;rw[I]at J;have J:=A8 J;subst J;exact⟨n,ab,l,f,M,I,AB.rw_fr D,Q _ R.2⟩
  .rw[A9 e]at A;exact⟨n,a,q,f,A,J,R⟩
def St.move{ab:AB}{id:Nat}(h:HR P base ρ m.H w)(hle:id<=J0)(hg:Hp.get m.H id=some ab)(F:ab.rw=true)(S:ρ id=some l)
  (hn:w8 (mL m id) ab' k=some (v,m')) (hf:L1 ρ m.n m'.hi) (O:l'.on=true->l.on=true/\l'.blk=l.blk)
  (ho:w'.os=w.os/\w'.tape=w.tape/\w'.output=w.output) (ay:w'.heap.size=w.heap.size) (Z:∀ k,(l.on=true->k≠l.blk)->w'.heap[k]? = w.heap[k]?) (T:BR P (upd ρ m.n l') ab' l' w') (av:ab'≠.frz) :
  v=k m.n/\upd ρ m.n l' m.n=some l'/\St P base ρ (upd ρ m.n l') m m' w w':=by
 rw[aV]at hn;obtain⟨W,hv,rfl⟩:=N0 hn;have C:ρ m.n=none:=hf m.n (A7 _) (L8 _ _).2;have I:=i0 (l:=l') C;obtain⟨R,h3⟩:=h.atl S hg;have U:∀ k,Tc ab' l' k->l.on=true/\k=l.blk:=fun k Z=>by
  rcases Z with⟨_,L,rfl⟩|⟨rfl,_⟩
  .exact O L
  .exact absurd rfl av
 have ar:id≠m.n:=fun e=>by subst e;rw[S]at C;cases C
 have A:∀ i,i<=J0->Hp.get ((m.H.set id none).set m.n (some ab')) i=if i=m.n then some ab' else if i=id then none else Hp.get m.H i:=fun i hi=>by
  rw[F6 _ _ _ _ W hi,F6 _ _ _ _ hle hi]
 refine⟨hv,N2 _ _ _,I,fun b q L R=>?_,x6 _,(L8 _ _).1,fun _=>t7 (L8 _ _).2,⟨fun b q E=>?_,fun i hi a f=>?_⟩,fun b T=>D1 _ T,fun b L R q E=>?_,fun q E aw=>Z q ?_,by rw[ay];exact A7 _,ho,fun b q L R B=>?_,fun i hi h4 V=>?_,fun k ⟨i,a,q,hi,f,E,ht⟩=>.inr ?_⟩
 .obtain⟨rfl,rfl⟩:=Y5 L R;exact⟨A7 _,K1 _⟩
 .cases h0:ρ b with
  | some q0=>exact h.dom b q0 h0
  | none=>obtain⟨rfl,rfl⟩:=Y5 E h0;exact W
 .have f:Hp.get ((m.H.set id none).set m.n (some ab')) i=some a:=f;rw[A i hi]at f;by_cases e:i=m.n
  .rw[B0 e]at f;have f:=A8 f;subst f;subst e;refine⟨l',N2 _ _ _,T,fun au B=>?_⟩;obtain⟨j,D⟩:=O B;refine⟨by rw[D];exact(h3 F j).1,fun K N az l2 g1 g2 g3=>?_⟩;rw[A K N]at g1;by_cases e2:K=m.n
   .exact e2
   .rw[A9 e2]at g1;unfold upd at g2;rw[A9 e2]at g2;by_cases J:K=id
    .rw[B0 J]at g1;cases g1
    .rw[A9 J]at g1;exact absurd ((h3 F j).2 K N az l2 g1 g2 (D▸g3)) J
  .rw[A9 e]at f;by_cases J:i=id
   .rw[B0 J]at f;cases f
   .rw[A9 J]at f;obtain⟨l2,g1,g2,g3⟩:=h.at_ i hi a f;have X:∀ k,Tc a l2 k->l.on=true->k≠l.blk:=fun k Q j hh=>J ((h3 F j).2 i hi a l2 f g1 (hh▸Q))
    refine⟨l2,I _ _ g1,g2.mono I (fun k Q=>Z _ (X k Q)),fun hr B=>⟨(g3 hr B).1,fun G M Y l3 f1 f2 f3=>?_⟩⟩;have f1:Hp.get ((m.H.set id none).set m.n (some ab')) G=some Y:=f1;rw[A G M]at f1;by_cases e4:G=m.n
    .subst e4;rw[N2]at f2
     have:=A8 f2;subst this;rw[B0 rfl]at f1;have f1:=A8 f1;subst f1;obtain⟨j,E⟩:=U _ f3;exact absurd E (X _ (.inl ⟨AB.rw_on hr,B,rfl⟩) j)
    .rw[A9 e4]at f1;unfold upd at f2;rw[A9 e4]at f2;by_cases e5:G=id
     .rw[B0 e5]at f1;cases f1
     .rw[A9 e5]at f1;exact(g3 hr B).2 G M Y l3 f1 f2 f3
 .rcases C4.1 L with rfl|L
  .exact⟨ab,hg,F⟩
  .exact absurd L R
 .exact fun j e=>aw id B6 l S j e.symm
 .obtain⟨rfl,rfl⟩:=Y5 L R;obtain⟨j,D⟩:=O B;exact .inr ⟨id,B6,l,S,j,D.symm⟩
 .have ax:=A i hi;show Hp.get ((m.H.set id none).set m.n (some ab')) i=_;rw[ax,A9,A9]
  .intro e;subst e;exact h4 B6
  .intro e;subst e;rcases V with V|V
   .omega
   .have V:upN m.hi m.n<=m.n:=V
    have:=(L8 m.hi m.n).2;omega
 .have f:Hp.get ((m.H.set id none).set m.n (some ab')) i=some a:=f;rw[A i hi]at f;by_cases e:i=m.n
  .rw[B0 e]at f;have f:=A8 f;subst f;subst e;rw[N2]at E;have E:=A8 E;subst E;obtain⟨j,T⟩:=U k ht.2;exact⟨id,ab,l,hle,hg,S,AB.rw_fr F,.inl ⟨AB.rw_on F,j,T.symm⟩⟩
  .rw[A9 e]at f;unfold upd at E;rw[A9 e]at E;by_cases J:i=id
   .rw[B0 J]at f;cases f
   .rw[A9 J]at f;exact⟨i,a,q,hi,f,E,ht⟩
end
end
section
open Go
variable [Ora]
def cK{m m':Mem}{ab:AB}(h:w8 m ab k=some (v,m')):m'.lg=m.lg:=by
 obtain⟨_,_,rfl⟩:=N0 h;rfl
def fF{m m':Mem}{id:Nat}{ab:AB}(h:eA m id ab=some m'):m'.lg=m.lg:=by
 obtain⟨_,rfl⟩:=Y6 h;rfl
def uK{m m':Mem}(h:qP m a vs=some m'):m'.lg=m.lg:=by
 unfold qP at h;split at h
 .obtain⟨_,h⟩:=A3 h;rw[J4]at h;exact fF h
 .cases h
def UL{P:Program}{m m':Mem}(h:zE P m t a v=some m'):m'.lg=m.lg:=by
 unfold zE at h;split at h
 .obtain⟨_,h⟩:=A3 h;exact uK h
 .cases h
def bK{m m':Mem}(h:noM o m=some (v,m')):m'.lg=m.lg:=by
 obtain⟨_,rfl⟩:=aU h;rfl
def BX{P:Program}{m m':Mem}{n:Nat}{ps:List (Nat×Value)}(h:eM P m t n ps=some (v,m')):m'.lg=m.lg:=by
 unfold eM at h;split at h
 .split at h
  .obtain⟨_,h⟩:=A3 h;split at h
   .exact cK h
   .cases h
  .cases h
 .cases h
def DA{P:Program}{m m':Mem}{l:Value}(h:gG P m t l c=some (v,m')):m'.lg=m.lg:=by
 unfold gG at h;split at h
 .split at h
  .obtain⟨_,h⟩:=A3 h;split at h
   .rw[J4]at h;exact cK h
   .cases h
  .cases h
 .cases h
def A1K{P:Program}{m m':Mem}(h:FM P m s t x=some (v,m')):m'.lg=m.lg:=by
 unfold FM at h;split at h
 .cases h;rfl
 .cases h;rfl
 .cases h;rfl
 .split at h
  .split at h
   .rw[J4]at h;exact cK h
   .cases h
  .cases h
 .split at h<;>cases h;rfl
 .split at h
  .split at h
   .split at h<;>cases h;rfl
   .cases h
  .cases h
 .cases h
def QU{P:Program}{m m':Mem}(h:uH P m t t2 x y=some (v,m')):m'.lg=m.lg:=by
 unfold uH at h;split at h
 .rename_i B d2 _ _;cases j:eS d2 with
  | false=>rw[j]at h;cases h
  | true =>
  rw[j]at h;simp only[S5,E7]at h;split at h
  .rename_i i a n c _;split at h
   .rename_i k new z _ _;obtain⟨_,h⟩:=A3 h;cases A:Nat.beq k 0 with
    | true =>
      rw[A]at h;simp only[F1]at h;split at h
      .obtain⟨_,h⟩:=A3 h;cases h;rfl
      .obtain⟨_,h⟩:=A3 h;cases h;rfl
    | false =>
      rw[A]at h;simp only[E7]at h;split at h
      .obtain⟨_,h⟩:=A3 h;rw[J4]at h;exact cK h
      .cases f:Nat.blt c O7 with
       | true =>
         rw[f]at h;simp only[F1]at h;cases q:Nat.ble (n+k) c with
         | true =>
           rw[q]at h;simp only[F1]at h;split at h
           .rename_i m1 _ hw;cases h;exact uK hw
           .cases h
         | false =>
           rw[q]at h;simp only[E7]at h;split at h
           .rw[J4]at h;exact cK h
           .cases h
       | false =>
         rw[f]at h;simp only[E7]at h;obtain⟨_,h⟩:=A3 h;split at h
         .obtain⟨_,h⟩:=A3 h;rw[J4]at h;rw[cK h,aV]
         .cases h
   .cases h
  .cases h
 .cases h
def A1H{P:Program}{m m':Mem}(h:NI P m t x y=some (v,m')):m'.lg=m.lg:=by
 unfold NI at h;split at h
 .split at h
  .split at h
   .split at h
    .obtain⟨_,h⟩:=A3 h;cases h;rfl
    .rename_i k cs j _ n;cases f:Nat.beq cs.length 0 with
     | true=>rw[f]at h;cases h;rfl
     | false =>
       rw[f]at h;simp only[E7]at h;obtain⟨_,h⟩:=A3 h;split at h
       .rename_i hw;cases h;exact uK hw
       .cases h
   .cases h
  .cases h
 .cases h
def CJ{P:Program}{m m':Mem}{l:Value}(h:fV P m pt p l=some (v,m')):m'.lg=m.lg:=by
 unfold fV at h;split at h
 .cases h;rfl
 .split at h
  .split at h
   .obtain⟨_,h⟩:=A3 h;split at h
    .split at h
     .rename_i m9;cases h;exact fF m9
     .cases h
    .cases h
   .cases h
  .cases h
 .cases h
def NT{P:Program}{m m':Mem}(h:kP P m b vs tys=some (v,m')):m'.lg=m.lg:=by
 unfold kP at h;split at h
 .exact bK h
 .exact bK h
 .exact QU h
 .exact A1H h
 .exact bK h
 .exact bK h
 .unfold lJ at h;split at h
  .cases h;rfl
  .rename_i a n c;cases f:Nat.beq n 0 || Nat.beq c 0 || Nat.beq c (O7+2)with
   | true=>rw[f]at h;cases h
   | false=>rw[f]at h;cases h;rfl
  .cases h
 .exact CJ h
 .cases h
def A5p{P:Program}{fr:Fr}{m m':Mem}{o:Op}(h:opM P fr m o=some (v,m')):m'.lg=m.lg:=by
 unfold opM at h;split at h
 .cases h;rfl
 .cases h;rfl
 .unfold RY at h;split at h<;>cases h<;>rfl
 .unfold HN at h;split at h
  .exact cK h
  .cases h
 .unfold A0F at h;obtain⟨_,h⟩:=A3 h;exact cK h
 .exact bK h
 .exact BX h
 .unfold RZ at h;split at h
  .exact bK h
  .cases h
 .unfold HL at h;split at h
  .obtain⟨h,_⟩:=pJ h;exact UL h
  .cases h
 .unfold A0E at h;split at h<;>cases h<;>rfl
 .unfold A2I at h;rename_i op t x y j;cases f:AQ op with
  | true=>rw[f]at h;simp only[F1]at h;obtain⟨_,h⟩:=A3 h;exact bK h
  | false=>rw[f]at h;exact bK h
 .exact bK h
 .exact A1K h
 .unfold HM at h;split at h
  .split at h
   .cases h
   .obtain⟨_,h⟩:=A3 h;cases h;rfl
  .cases h
 .cases h;rfl
 .exact DA h
 .exact bK h
 .exact bK h
 .exact bK h
 .exact bK h
 .exact bK h
 .unfold nP at h;split at h
  .exact bK h
  .cases h
 .exact NT h
 .cases h
def J1{m m':Mem}{t:Nat}{op:LOp}(h:X4 m t op xs=some (v,m')):m.lg.le m'.lg:=by
 obtain⟨_,rfl⟩:=lT h;obtain⟨H,n,W,hi,l⟩:=m;exact⟨[_],rfl⟩
def K7(m m':Mem):Prop:=∃ lg,m'=m.wLg lg
def K7.refl(m:Mem):K7 m m:=⟨m.lg,by cases m;rfl⟩
def K7.trans{a b c:Mem}(h:K7 a b)(k:K7 b c):K7 a c:=by
 obtain⟨l,rfl⟩:=h;obtain⟨l2,rfl⟩:=k;exact⟨l2,by cases a;rfl⟩
def I8{m m':Mem}{t:Nat}{op:LOp}(h:X4 m t op xs=some (v,m')):K7 m m':=⟨_,(lT h).2⟩
section
variable {P:Program} {base:Nat} {ρ:Ren} {m m':Mem} {w:World}
def OU{a b:Value}(h:yA m c a b=some (v,m')):m.lg.le m'.lg/\K7 m m':=by
 obtain⟨H,n,W,hi,lg⟩:=m;unfold yA at h;simp only at h;split at h
 .rename_i f j;cases h;exact⟨gU j,⟨_,rfl⟩⟩
 .rename_i f j;cases h;exact⟨gU j,⟨_,rfl⟩⟩
 .cases h
def UJ{a b:Value}(h:qR P m op t a b=some (v,m')):m.lg.le m'.lg/\K7 m m':=by
 unfold qR at h;simp only at h;cases f:(Nat.blt (H6 a) 8 && Nat.blt (H6 b) 8) || (Nat.beq (H6 a) 9 && Nat.beq (H6 b) 9)with
 | true=>rw[f]at h;exact⟨J1 h,I8 h⟩
 | false =>
   rw[f]at h;simp only[E7]at h;obtain⟨_,h⟩:=A3 h;exact⟨J1 h,I8 h⟩
def YP{x y:Operand}{a b:Value}(h:KG P m op t x y a b=some (v,m')):m.lg.le m'.lg/\K7 m m':=by
 unfold KG at h;obtain⟨_,h⟩:=A3 h;split at h
 .exact⟨J1 h,I8 h⟩
 .split at h
  .rename_i m1 f;exact⟨(J1 f).trans (J1 h),(I8 f).trans (I8 h)⟩
  .cases h
 .cases h
def KF{i:Value}(h:aQ P m t x i=some (v,m')):m.lg.le m'.lg/\K7 m m':=by
 unfold aQ at h;cases f:!(Nat.blt (H6 i) 8)with
 | true=>rw[f]at h;cases h
 | false =>
   rw[f]at h;simp only[E7]at h;split at h
   .obtain⟨_,h⟩:=A3 h;exact⟨J1 h,I8 h⟩
   .split at h
    .obtain⟨_,h⟩:=A3 h;exact⟨J1 h,I8 h⟩
    .obtain⟨_,h⟩:=A3 h;exact⟨J1 h,I8 h⟩
    .cases h
   .cases h
def KD(h:nD P m t x lo hi mx=some (v,m')):m.lg.le m'.lg/\K7 m m':=by
 unfold nD at h;split at h
 .obtain⟨_,h⟩:=A3 h;split at h
  .cases h;exact⟨.refl _,.refl _⟩
  .obtain⟨_,h⟩:=A3 h;exact⟨J1 h,I8 h⟩
  .obtain⟨_,h⟩:=A3 h;exact⟨J1 h,I8 h⟩
  .obtain⟨_,h⟩:=A3 h;exact⟨J1 h,I8 h⟩
 .cases h
def YM{op:UnOp}(h:KB m op x=some (v,m')):m.lg.le m'.lg/\K7 m m':=by
 unfold KB at h;simp only at h;split at h
 .obtain⟨_,h⟩:=A3 h;exact⟨J1 h,I8 h⟩
 .obtain⟨_,h⟩:=A3 h;exact⟨J1 h,I8 h⟩
def OY(h:sS P m s t x=some (v,m')):m.lg.le m'.lg/\K7 m m':=by
 unfold sS at h;split at h
 .obtain⟨_,h⟩:=A3 h;exact⟨J1 h,I8 h⟩
 .obtain⟨_,h⟩:=A3 h;cases h;exact⟨.refl _,.refl _⟩
 .cases h
def CT(h:fY P m b vs tys=some (v,m')):m.lg.le m'.lg/\K7 m m':=by
 unfold fY at h;split at h
 .split at h
  .obtain⟨_,h⟩:=A3 h;exact⟨J1 h,I8 h⟩
  .cases h
 .obtain⟨_,h⟩:=A3 h;exact⟨J1 h,I8 h⟩
 .obtain⟨_,h⟩:=A3 h;exact⟨J1 h,I8 h⟩
 .cases h
def SW{s n:Nat}{i:Value}(h:VQ m a s n i=some (v,m')):m.lg.le m'.lg/\K7 m m':=by
 unfold VQ at h;cases j:!(Nat.blt (H6 i) 8)with
 | true=>rw[j]at h;cases h
 | false =>
   rw[j]at h;simp only[E7]at h;split at h
   .rename_i b H k W hi lg q;split at h
    .rename_i f A;cases h;have B:=J1 q;obtain⟨l1,C⟩:=I8 q;refine⟨B.trans (gU A),f,?_⟩;obtain⟨H0,n0,E,D,F⟩:=m;cases C;rfl
    .cases h
   .cases h
def CP{i:Value}(h:fW P m t x i=some (v,m')):m.lg.le m'.lg/\K7 m m':=by
 unfold fW at h;split at h
 .split at h
  .exact SW h
  .cases h
 .split at h
  .generalize f:Nat.beq _ (O7+2)=q at h;cases q with
   | true=>cases h
   | false=>exact SW h
  .cases h
 .cases h
def CR(h:fX P m s x i=some (v,m')):m.lg.le m'.lg/\K7 m m':=by
 unfold fX at h;split at h
 .split at h
  .split at h
   .split at h
    .cases h;exact⟨.refl _,.refl _⟩
    .cases h
   .cases h
  .cases h
 .cases h
def iJ{cs:E0}{s n:Nat}{i:Value}:∀ {k o:Nat} {m m':Mem} {r:E0},eB m cs s n i o k=some (r,m')->m.lg.le m'.lg/\K7 m m'
 | 0,o,m,m',r,h=>by cases h;exact⟨.refl _,.refl _⟩
 | k+1,o,m,m',r,h=>by
   unfold eB at h;split at h
   .obtain⟨_,h⟩:=A3 h;split at h
    .rename_i m1 f;split at h
     .rename_i j;cases h
      have:=iJ j;exact⟨(J1 f).trans this.1,(I8 f).trans this.2⟩
     .cases h
    .cases h
   .cases h
def OW(h:sR P m t x=some (v,m')):m.lg.le m'.lg/\K7 m m':=by
 unfold sR at h;split at h
 .split at h
  .split at h
   .split at h
    .rename_i f;cases h;exact iJ f
    .cases h
   .cases h
  .split at h
   .split at h
    .rename_i f;cases h;exact iJ f
    .cases h
   .cases h
  .cases h
 .cases h
def RF{fr:Fr}{o:Op}(h:YN P fr m o=some (v,m')):m.lg.le m'.lg/\K7 m m':=by
 unfold YN at h;split at h
 .exact OU h
 .split at h
  .rename_i r hr;cases h;exact UJ hr
  .exact YP h
 .exact YM h
 .exact OY h
 .exact KD h
 .exact KF h
 .exact CP h
 .exact CR h
 .exact OW h
 .exact CT h
 .cases h
def tK{j k:IntKind}(h:kJ j=kJ k):j=k:=by cases j<;>cases k<;>first|rfl|(simp only[kJ]at h;omega)
def UI{x y:Operand}{a b:Value}(h:qR P m op t a b=some (v,m'))(G:VR ρ a a')(F:VR ρ b b')(L:Sat m'.lg)(w:World) :
  ∃ r,(do eqGuard op t x y a' b';binOp op t a' b':Sem Value).run P w=.ok r w/\VR ρ v r:=by
 have fin:∀ {r:Value} {p q:Value},zM p=true->zM q=true->uF P op t p q=some r->a'=p->b'=q->(do eqGuard op t x y a' b';binOp op t a' b':Sem Value).run P w=.ok r w:=fun{r p q} hp J hr f D=>by
  subst f;subst D;have v1:VR ρ a' a':=.pure (by cases a'<;>simp[zM]at hp<;>rfl);have v2:VR ρ b' b':=.pure (by cases b'<;>simp[zM]at J<;>rfl);have g:oA P t x y a' b'=true:=by
   cases a'<;>simp[zM]at hp<;>cases b'<;>simp[zM]at J<;>rfl
  have Q:=tP (op:=op) (fun _=>g) v1 v2 w;obtain⟨A,_⟩:=yR hr v1 v2 w;simp[A5,Q,A,Result.andThen]
 unfold qR at h;simp only at h;cases B:(Nat.blt (H6 a) 8 && Nat.blt (H6 b) 8) || (Nat.beq (H6 a) 9 && Nat.beq (H6 b) 9)with
 | true =>
   rw[B]at h;obtain⟨u,f,D,r,C,H,O⟩:=O0 h L;have M:H7 u<10:=by rw[D];exact O
   refine⟨r,?_,H ρ⟩;rcases J9 _ _▸B with B|B
   .obtain⟨E,I⟩:=B3 B;obtain⟨k,n,rfl,f1,_⟩:=O2 G (A2 E);obtain⟨j,S,rfl,f2,_⟩:=O2 F (A2 I);simp only[E4,I3,f1,f2,evU,evB]at f;subst f;obtain⟨R,g1,g2⟩:=HK M;rw[C]at g2;cases g2;exact fin rfl rfl (by unfold uF;exact g1) rfl rfl
   .obtain⟨E,I⟩:=B3 B;obtain⟨s1,rfl,f1⟩:=bC G (A1 E);obtain⟨s2,rfl,f2⟩:=bC F (A1 I);simp only[E4,I3,f1,f2,evU,evB]at f;subst f;obtain⟨R,g1,g2⟩:=HK M;rw[C]at g2;cases g2;exact fin rfl rfl (by unfold uF;exact g1) rfl rfl
 | false =>
   rw[B]at h;simp only[E7]at h;obtain⟨A,h⟩:=A3 h;obtain⟨A,N⟩:=B3 A;obtain⟨A,K⟩:=B3 A;obtain⟨A,h3⟩:=B3 A;have hu:P.underlying t=some .bool:=by
    split at N
    .assumption
    .cases N
   obtain⟨u,f,D,r,C,H,_⟩:=O0 h L;refine⟨r,?_,H ρ⟩;obtain⟨p,rfl,f1⟩:=jY G (A1 A);obtain⟨q,rfl,f2⟩:=jY F (A1 h3);simp only[E4,I3,f1,f2,evU,evB]at f;cases op<;>simp only[AQ]at K<;>first
    | cases K
    | skip
   .subst f;cases C;exact fin rfl rfl (by simp[uF,ED,eqM,hu]) rfl rfl
   .subst f;cases C;exact fin rfl rfl (by simp[uF,ED,eqM,hu]) rfl rfl
def wZ(e:Bool)(f:∃ cs,a'=.agg cs):binOp (bif e then .eql else .neq) t a' b'=(do let r <- Op.equal t a' b';pure (.bool (bif e then r else !r))):=by
 obtain⟨cs,rfl⟩:=f;cases e<;>cases b'<;>rfl
def YO{x y:Operand}{a b:Value}(h:KG P m op t x y a b=some (v,m'))(E:VR ρ a a')(L:VR ρ b b')(q:qR P m op t a b=none)(O:Sat m'.lg)(w:World) :
  ∃ r,(do eqGuard op t x y a' b';binOp op t a' b':Sem Value).run P w=.ok r w/\VR ρ v r:=by
 unfold KG at h;obtain⟨U,h⟩:=A3 h;have G:=tP (op:=op) (fun _=>U) E L w;have j:∀ {l},eqS P 20 t a b=some l->(op=.eql∨op=.neq)->∃ cs,a'=.agg cs:=fun{l} f N=>by
  unfold eqS at f;cases A:gK P t a b with
  | true =>
    unfold gK at A;unfold qR at q;simp only at q;split at A
    .rename_i hu;obtain⟨F,D⟩:=B3 A;rw[A1 F,A1 D,hu]at q;obtain⟨H,n,W,hi,⟨nx,pi,log⟩⟩:=m;rcases N with rfl|rfl<;>simp[AQ,X4,F5,J4]at q
    .rename_i k hu;obtain⟨F,D⟩:=B3 A;have X:=N1 k;have V:Nat.blt (kJ k) 8=true:=C5 X;rw[A1 F,A1 D,V]at q;obtain⟨H,n,W,hi,⟨nx,pi,log⟩⟩:=m;simp[X4,F5,J4]at q
    .obtain⟨F,D⟩:=B3 A;rw[A1 F,A1 D]at q;obtain⟨H,n,W,hi,⟨nx,pi,log⟩⟩:=m;simp[X4,F5,J4]at q
    .cases A
  | false =>
    rw[A]at f;simp only[E7]at f;split at f
    .obtain⟨cs',rfl,_⟩:=Z7 E;exact⟨_,rfl⟩
    .obtain⟨cs',rfl,_⟩:=Z7 E;exact⟨_,rfl⟩
    .cases f
 split at h
 .rename_i l f _;obtain⟨u,B,T,r,I,Q,_⟩:=O0 h O;refine⟨r,?_,Q ρ⟩;simp only[evU]at B;split at B
  .rename_i z R;subst B;cases I;have he:(Op.equal t a' b').run P w=.ok z w:=QK 20 t a b a' b' l z f R E L _ C8 w;have C:=wZ (t:=t) (b':=b') true (j f (.inl rfl));simp only[F1]at C;rw[C];simp[A5,G,he,Result.andThen]
  .subst B;cases I
 .rename_i l f _;split at h
  .rename_i hh m1 S;have J:Sat m1.lg:=V2.le O (J1 h);obtain⟨Y,f1,f2,r1,f3,f4,_⟩:=O0 S J;obtain⟨u,B,T,r,I,Q,_⟩:=O0 h O;refine⟨r,?_,Q ρ⟩;simp only[evU]at f1;split at f1
   .rename_i z R;subst f1;cases f3;have K:=cE (ρ:=ρ) (f4 ρ) (by obtain⟨e,_⟩:=lT S;rw[e];show 8<10;omega);have:F3 Ora.env hh=.bool z:=by
     cases hu:F3 Ora.env hh<;>rw[hu]at K<;>first|(cases K.1;done)|skip
     all_goals (obtain⟨M,_⟩:=K;cases M;rfl)
    simp only[E4,I3,this,evU,ev1,unM,ofV]at B;subst B;cases I;have he:(Op.equal t a' b').run P w=.ok z w:=QK 20 t a b a' b' l z f R E L _ C8 w;have C:=wZ (t:=t) (b':=b') false (j f (.inr rfl));simp only[E7]at C;rw[C];simp[A5,G,he,Result.andThen]
   .subst f1;cases f3
  .cases h
 .cases h
end
end
end Go.Sx
