import Derived.Test.YtjdnjfnhdeplfaaX1
import Derived.Laws.BytesString
set_option linter.all false
set_option maxRecDepth 100000
set_option maxHeartbeats 4000000
namespace Go.Sx
open Go
variable {e pt s t t2 ty:TypeId}{k:Nat->Value}{a' b' c c' p p' u v v' x x' y y' z:Value}{new new' old' vs vs' xs:D0}{d d2:TypeDesc}{a:Addr}{inf:TypeInfo}{ab':AB}{l l':Loc}{r:Q0}{i:Nat}{op:BinOp}{tys:List TypeId}{b:Builtin}{hi lo mx o:N6}{g:Operand->Value}
section
open Go
variable [Ora]
def FJ(a b:Nat)(h:b<a):Builtin.nextslicecap a b<=3*a+4000:=by
 have grow:∀ r c,Builtin.growBy a r c<=max (c) (2*a+800):=by
  intro r;induction r with
  | zero=>intro c;simp only[Builtin.growBy];exact Nat.le_max_left _ _
  | succ r f =>
    intro c;simp only[Builtin.growBy];split
    .exact Nat.le_max_left _ _
    .have:=f (c+(c+768) / 4);refine B6 this ?_;rw[Nat.max_le];constructor
     .refine B6 ?_ (Nat.le_max_right _ _);omega
     .exact Nat.le_max_right _ _
 unfold Builtin.nextslicecap;split
 .omega
 .split
  .omega
  .have:=grow 4 b;refine B6 this ?_;rw[Nat.max_le];omega
section
variable {P:Program} {base:Nat} {ρ:Ren} {m m':Mem} {w:World}
def v6{w wd:World}(h:wd.heap=w.heap)(a:Addr):wd.cell? a=w.cell? a:=by simp[World.cell?,h]
def qP(ρ:Ren):∀ l:List UInt8,LR ρ (M6 l) (M6 l)
 | []=>.nil
 | b::r=>.cons (.pure rfl) (qP ρ r)
def pR{s k:Nat}(h:HR P base ρ m.H w)(f:bV m s y=some (k,new))(B:VR ρ y y') :
  (∀ wd,(Builtin.lenOf y').run P wd=.ok k wd)/\∃ new',LR ρ new new'/\∀ wd:World,wd.heap=w.heap->(Builtin.firstCells s k y').run P wd=.ok ⟨new'⟩ wd:=by
 unfold bV at f;split at f
 .rename_i n c;obtain⟨h1,q⟩:=A2 f;have h1:=A0 h1;subst h1;cases q;cases M8 B;exact⟨fun _=>rfl,[],.nil,fun _ _=>rfl⟩
 .rename_i a n c;split at f
  .rename_i cs hr;cases f;rcases M3 B with⟨l,D,_,_,rfl⟩|⟨l,c',D,_,_,_,_,rfl⟩|⟨a',c',_,rfl,_,rfl⟩
   .obtain⟨A,h1,q,h3⟩:=X4 h hr D;exact⟨fun _=>rfl,A,h1,fun wd hw=>I5 q fun j v C=>by rw[v6 hw];exact h3 j v C⟩
   .obtain⟨A,h1,q,h3⟩:=X4 h hr D;exact⟨fun _=>rfl,A,h1,fun wd hw=>I5 q fun j v C=>by rw[v6 hw];exact h3 j v C⟩
   .have:new=[]:=by
     unfold i7 at hr;split at hr
     .have:=(fD hr).2;simp at this;exact this
     .cases hr
    subst this;refine⟨fun _=>rfl,[],.nil,fun wd _=>?_⟩;simp[Builtin.firstCells,loadCells,loadCellsFrom]
  .cases f
 .rename_i b;obtain⟨_,f⟩:=A2 f;cases f;cases R2 B;refine⟨fun _=>rfl,M6 b.data.toList,?_,fun wd _=>?_⟩
  .exact qP _ _
  .have e:((b.extract 0 b.size).data.map fun b=>Value.int .u8 b.toNat)=⟨M6 b.data.toList⟩:=by
    apply H7;simp[M6]
   show(pure ((b.extract 0 b.size).data.map fun b=>Value.int .u8 b.toNat):Sem Q0).run P wd=_;rw[e];rfl
 .cases f
def YY(h:aJ d=true):(∃ e,d=.slice e)∨d=.string:=by cases d<;>first|cases h;done|exact .inl ⟨_,rfl⟩|exact .inr rfl
def dV{n k c:Nat}{a:Option Addr}(hu:P.underlying t=some (.slice e))(D:P.underlying t2=some d2)(B:aJ d2=true)
  (hi:P.info? e=some inf) (H:∀ w,(zeroValue e).run P w=.ok z w) (hlen:∀ wd,(Builtin.lenOf x').run P wd=.ok k wd)
  (hold:∀ wd:World,wd.heap=w.heap->(Builtin.firstCells inf.size n (.slice a n c)).run P wd=.ok ⟨old'⟩ wd) (j:∀ wd:World,wd.heap=w.heap->(Builtin.firstCells inf.size k x').run P wd=.ok ⟨new'⟩ wd)
  (C:¬ n+k<=c) (J:(3*(n+k)+4000)*inf.bytes<=281474976710656) (hm:n+k<=1000000000) :
  ∃ nc,n+k<=nc/\(Builtin.append_ #[t,t2] ty #[.slice a n c,x']).run P w=.ok (.slice (some ⟨w.heap.size,0,none⟩) (n+k) nc) { w.drew with heap:=w.heap.push (.cells (⟨old'⟩++⟨new'⟩++Builtin.zeroCells z.cells (nc-(n+k))) e (0,0)) }:=by
 have I:F6 P e=some inf.size:=by simp[F6,hi]
 have h:Builtin.nextslicecap (n+k) c*inf.bytes<=281474976710656:=by
  have:=E4 inf.bytes (FJ (n+k) c A9);omega
 let q:Question:=.appendCap (n+k) c e
 let nc:=q.cut (w.tape w.drawn q)
 have F:n+k<=nc:=by show n+k<=(n+k)+_;omega
 refine⟨nc,F,?_⟩;have E:(choose q).run P w=.ok nc w.drew:=by
  simp only[choose,Sem.run];rw[B1 (by simp[q,Question.forced])];rfl
 have f:∀ k w,(askRoom k).run P w=.ok () w:=fun k w=>by unfold askRoom;split<;>rfl
 unfold Builtin.append_;rcases YY B with⟨K,rfl⟩|rfl
 all_goals simp only[I0,O1,O2,A3,C8 hu,C8 D,Result.andThen,J0 I,Sem.run_pure,G8,if_false,hlen]
 all_goals
  have A:¬ (((n+k:Nat):Int)>IntKind.i64.max):=by simp[IntKind.max,IntKind.bits,IntKind.signed];omega
  simp only[B1 C,A,false_and,if_false,A3,Result.andThen,R5 hi];rw[B1 (show ¬ (Builtin.nextslicecap (n+k) c*inf.bytes>2 ^ 48) by simpa using h)];have G:w.drew.heap=w.heap:=rfl;simp only[A3,Sem.run_pure,Result.andThen,show(choose (.appendCap (n+k) c e)).run P w=.ok nc w.drew from E,f,hold _ G,j _ G,H,R5 hi,Bool.not_false,if_true];rfl
def iZ{n k c:Nat}{w':World}(hu:P.underlying t=some (.slice e))(q:P.underlying t2=some d2)(j:aJ d2=true)
  (hi:P.info? e=some inf) (hlen:∀ wd,(Builtin.lenOf x').run P wd=.ok k wd) (f:(Builtin.firstCells inf.size k x').run P w=.ok ⟨new'⟩ w)
  (hle:n+k<=c) (h:(storeCells (a.add (n*inf.size)) new').run P w=.ok () w') :
  (Builtin.append_ #[t,t2] ty #[.slice (some a) n c,x']).run P w=.ok (.slice (some a) (n+k) c) w':=by
 have A:F6 P e=some inf.size:=by simp[F6,hi]
 unfold Builtin.append_;rcases YY j with⟨B,rfl⟩|rfl
 all_goals simp only[I0,O1,O2,A3,C8 hu,C8 q,Result.andThen,J0 A,Sem.run_pure,G8,if_false,hlen]
 all_goals simp[B2 hle,A3,f,Result.andThen,h]
def pJ(hu:P.underlying t=some (.slice e))(n:P.underlying t2=some d2)(j:aJ d2=true)
  (hi:P.info? e=some inf) (hlen:∀ wd,(Builtin.lenOf x').run P wd=.ok 0 wd) (f:(Builtin.firstCells inf.size 0 x').run P w=.ok #[] w) :
  (Builtin.append_ #[t,t2] ty #[.slice none 0 0,x']).run P w=.ok (.slice none 0 0) w:=by
 have q:F6 P e=some inf.size:=by simp[F6,hi]
 unfold Builtin.append_;rcases YY j with⟨h,rfl⟩|rfl
 all_goals simp only[I0,O1,O2,A3,C8 hu,C8 n,Result.andThen,J0 q,Sem.run_pure,G8,if_false,hlen]
 all_goals simp[A3,f,Result.andThen]
def St.kill{ab:AB}{id:Nat}(h:HR P base ρ m.H w)(hle:id<=G1)(G:Hp.get m.H id=some ab)(C:ab.rw=true):St P base ρ ρ m (fQ m id) w w:=by
 rw[Z4];refine⟨fun _ _ h=>h,fun b k h1 A=>(by rw[h1]at A;cases A),A6 _,A6 _,fun h=>h,h.sub fun j f a n=>?_,fun b D=>C5 _ D,fun b h1 A k B=>?_,fun k B J=>rfl,A6 _,⟨rfl,rfl,rfl⟩,fun b k h1 A=>(by rw[h1]at A;cases A),fun j f E K=>?_,fun k ⟨j,a,q,f,n,I,F⟩=>.inr ⟨j,a,q,f,?_,I,F⟩⟩
 .rw[E7 _ _ _ _ hle f]at n;by_cases e:j=id
  .rw[B2 e]at n;cases n
  .rw[B1 e]at n;exact n
 .rcases A8.1 h1 with rfl|h1
  .exact⟨ab,G,C⟩
  .exact absurd h1 A
 .rw[E7 _ _ _ _ hle f,B1];intro e;subst e;exact E B4
 .have n:Hp.get (m.H.set id none) j=some a:=n;rw[E7 _ _ _ _ hle f]at n;by_cases e:j=id
  .rw[B2 e]at n;cases n
  .rw[B1 e]at n;exact n
def St.grow{ab:AB}{id:Nat}{w':World}(h:HR P base ρ m.H w)(hle:id<=G1)(hg:Hp.get m.H id=some ab)(E:ab.rw=true)(V:ρ id=some l)(D:l.on=true)
  (hn:W5 (fQ m id) ab' k=some (v,m')) (hf:I2 ρ m.n m'.hi)
  (ho:w'.os=w.os/\w'.tape=w.tape/\w'.output=w.output) (X:w'.heap.size=w.heap.size) (hk:∀ k,k≠l.blk->w'.heap[k]? = w.heap[k]?) (Y:BR P (upd ρ m.n l) ab' l w') (az:ab'≠.frz:=by intro h;cases h) :
  v=k m.n/\St P base ρ (upd ρ m.n l) m m' w w':=by
 rw[Z4]at hn;obtain⟨S,hv,rfl⟩:=J7 hn;have B:ρ m.n=none:=hf m.n (A6 _) (J1 _ _).2;have C:=T7 (l:=l) B;obtain⟨O,h3⟩:=h.atl V hg;have W:∀ k,Tc ab' l k->k=l.blk:=fun k hk=>by
  rcases hk with⟨_,_,rfl⟩|⟨rfl,_⟩
  .rfl
  .exact absurd rfl az
 have ax:id≠m.n:=fun e=>by subst e;rw[V]at B;cases B
 have A:∀ i,i<=G1->Hp.get ((m.H.set id none).set m.n (some ab')) i=if i=m.n then some ab' else if i=id then none else Hp.get m.H i:=fun i hi=>by
  rw[E7 _ _ _ _ S hi,E7 _ _ _ _ hle hi]
 refine⟨hv,C,fun b q h1 O=>?_,W8 _,(J1 _ _).1,fun _=>V3 (J1 _ _).2,⟨fun b q F=>?_,fun i hi a f=>?_⟩,fun b Y=>C5 _ Y,fun b h1 O q F=>?_,fun q F ay=>hk q ?_,by rw[X];exact A6 _,ho,fun b q h1 O _=>?_,fun i hi h4 T=>?_,fun k ⟨i,a,q,hi,f,F,ht⟩=>.inr ?_⟩
 .obtain⟨rfl,rfl⟩:=Q9 h1 O;exact⟨A6 _,H5 _⟩
 .cases h0:ρ b with
  | some q0 =>
    rw[C b q0 h0]at F
    have:=A5 F;subst this;exact h.dom b q0 h0
  | none=>obtain⟨rfl,rfl⟩:=Q9 F h0;exact S
 .have f:Hp.get ((m.H.set id none).set m.n (some ab')) i=some a:=f;rw[A i hi]at f;have R:∀ j,j<=G1->∀ J l2,Hp.get ((m.H.set id none).set m.n (some ab')) j=some J->upd ρ m.n l j=some l2->Tc J l2 l.blk->j=m.n:=fun j K J l2 g1 g2 g3=>by
   rw[A j K]at g1;by_cases e2:j=m.n
   .exact e2
   .rw[B1 e2]at g1;unfold upd at g2;rw[B1 e2]at g2;by_cases I:j=id
    .rw[B2 I]at g1;cases g1
    .rw[B1 I]at g1;exact absurd ((h3 E D).2 j K J l2 g1 g2 g3) I
  by_cases e:i=m.n
  .rw[B2 e]at f;have f:=A5 f;subst f;subst e;exact⟨l,J9 _ _ _,Y,fun _ _=>⟨(h3 E D).1,R⟩⟩
  .rw[B1 e]at f;by_cases I:i=id
   .rw[B2 I]at f;cases f
   .rw[B1 I]at f;obtain⟨l2,g1,g2,g3⟩:=h.at_ i hi a f;have U:∀ k,Tc a l2 k->k≠l.blk:=fun k M hh=>I ((h3 E D).2 i hi a l2 f g1 (hh▸M))
    refine⟨l2,C _ _ g1,g2.mono C (fun k M=>hk _ (U k M)),fun hr N=>⟨(g3 hr N).1,fun G L Q l3 f1 f2 f3=>?_⟩⟩;have f1:Hp.get ((m.H.set id none).set m.n (some ab')) G=some Q:=f1;rw[A G L]at f1;by_cases e4:G=m.n
    .subst e4;rw[J9]at f2
     have:=A5 f2;subst this;rw[B2 rfl]at f1;have f1:=A5 f1;subst f1;exact absurd (W _ f3) (U _ (.inl ⟨AB.rw_on hr,N,rfl⟩))
    .rw[B1 e4]at f1;unfold upd at f2;rw[B1 e4]at f2;by_cases e5:G=id
     .rw[B2 e5]at f1;cases f1
     .rw[B1 e5]at f1;exact(g3 hr N).2 G L Q l3 f1 f2 f3
 .rcases A8.1 h1 with rfl|h1
  .exact⟨ab,hg,E⟩
  .exact absurd h1 O
 .exact fun e=>ay id B4 l V D e.symm
 .obtain⟨rfl,rfl⟩:=Q9 h1 O;exact .inr ⟨id,B4,q,V,D,rfl⟩
 .have Z:=A i hi;show Hp.get ((m.H.set id none).set m.n (some ab')) i=_;rw[Z,B1,B1]
  .intro e;subst e;exact h4 B4
  .intro e;subst e;rcases T with T|T
   .omega
   .have T:upN m.hi m.n<=m.n:=T
    have:=(J1 m.hi m.n).2;omega
 .have f:Hp.get ((m.H.set id none).set m.n (some ab')) i=some a:=f;rw[A i hi]at f;by_cases e:i=m.n
  .rw[B2 e]at f;have f:=A5 f;subst f;subst e;rw[J9]at F;have F:=A5 F;subst F;exact⟨id,ab,l,hle,hg,V,AB.rw_fr E,.inl ⟨AB.rw_on E,D,(W k ht.2).symm⟩⟩
  .rw[B1 e]at f;unfold upd at F;rw[B1 e]at F;by_cases I:i=id
   .rw[B2 I]at f;cases f
   .rw[B1 I]at f;exact⟨i,a,q,hi,f,F,ht⟩
def yU{s k:Nat}(h:HR P base ρ m.H w)(f:bV m s y=some (k,new))(j:z.cells.size=s):new.length=k*s:=by
 unfold bV at f;split at f
 .obtain⟨_,q⟩:=A2 f;cases q;simp
 .split at f
  .rename_i cs hr;cases f;unfold i7 at hr;split at hr
   .exact(fD hr).2
   .cases hr
  .cases f
 .rename_i b;obtain⟨q1,f⟩:=A2 f;have q1:=A0 q1;subst q1;cases f;simp[M6]
 .cases f
def CY(h:new'[i]? = some u):(({ toList:=[] }:Array Value)++⟨new'⟩++r)[i]? = some u:=by
 have f:=(A7.1 h).1;rw[I8 (by simp;exact f)]
 simpa using h
def bG(h:(old'++new')[i]? = some u):(({ toList:=old' }:Array Value)++⟨new'⟩++r)[i]? = some u:=by
 have f:=(A7.1 h).1;rw[I8 (by simpa using f)]
 simpa using h
def bF{s k n nc:Nat}(h1:new'.length=k*s)(q:n+k<=nc)(f:z.cells.size=s)(j:old'.length=n*s) :
  nc*s<=(({ toList:=old' }:Array Value)++⟨new'⟩++Builtin.zeroCells z.cells (nc-(n+k))).size:=by
 simp[Builtin.zeroCells,j,h1,f];rw[<- G0,<- G0];exact E4 _ A9
def GK(h:HR P base ρ m.H w)(hb:base<=w.heap.size)(f:nO P m t t2 x y=some (v,m'))(Z:I2 ρ m.n m'.hi)(X:VR ρ x x')(hy:VR ρ y y') :
  VOk P base ρ m w (Builtin.append_ #[t,t2] ty #[x',y']) v m':=by
 unfold nO at f;split at f
 .rename_i e d2 hu E;cases D:aJ d2 with
  | false=>rw[D]at f;cases f
  | true =>
  rw[D]at f;simp only[N5,D3]at f;split at f
  .rename_i inf a n c hi;split at f
   .rename_i k new z S hz;obtain⟨g1,f⟩:=A2 f;obtain⟨g1,g4⟩:=B3 g1;obtain⟨g1,g3⟩:=B3 g1;obtain⟨g1,g2⟩:=B3 g1;have g1:=A1 g1;have g2:=A1 g2;have g3:=A0 g3;obtain⟨hlen,new',F,G⟩:=pR h S hy;have Y:∀ w,(zeroValue e).run P w=.ok z w:=fun w=>m9 hz w
    have N:new'.length=k*inf.size:=by rw[<- F.1];exact yU h S g3
    have aq:K8=9223372036854775808:=rfl;cases hk:Nat.beq k 0 with
    | true =>
      have hk:=A0 hk;subst hk;have au:Nat.beq 0 0=true:=rfl;simp only[au,D7]at f;have ar:new'=[]:=D9.1 (by rw[N];simp);subst ar;cases a with
      | none =>
        simp only at f;obtain⟨q1,f⟩:=A2 f;obtain⟨q1,q2⟩:=B3 q1;have q1:=A0 q1;have q2:=A0 q2;subst q1;subst q2;cases f;cases M8 X;exact VOk.same h (pJ hu E D hi hlen (G w rfl)) (.pure rfl)
      | some Q =>
        simp only at f;obtain⟨q1,f⟩:=A2 f;obtain⟨q1,q2⟩:=B3 q1;have q1:=A1 q1;have q2:=A1 q2;cases f;rcases M3 X with⟨l,R,M,hc,rfl⟩|⟨l,c',R,M,hc,hn,A,rfl⟩|⟨a',c',_,_,he,_⟩
        .exact VOk.same h (iZ hu E D hi hlen (G w rfl) A9 rfl) (by simpa using X)
        .exact VOk.same h (iZ hu E D hi hlen (G w rfl) A9 rfl) (by simpa using X)
        .omega
    | false =>
      have ai:k≠0:=fun e=>by subst e;cases hk
      simp only[hk,D3]at f;cases a with
      | none =>
        simp only at f;obtain⟨q1,f⟩:=A2 f;obtain⟨q1,q2⟩:=B3 q1;have q1:=A0 q1;have q2:=A0 q2;subst q1;subst q2;rw[G5]at f;cases M8 X;obtain⟨nc,K,hr⟩:=dV (ty:=ty) (c:=0) (a:=none) (old':=[]) hu E D hi Y hlen (fun _ _=>rfl) G A9 g1 g2;have av:∀ B,P.info? e=some B->nc*B.size<=(({ toList:=[] }:Array Value)++⟨new'⟩++Builtin.zeroCells z.cells (nc-(0+k))).size:=fun B J=>by
         rw[hi]at J;cases J;exact bF N K g3 (by simp)
        obtain⟨V,e2,U⟩:=bD (wd:=w.drew) (fz:=(0,0)) (cap:=nc) h hb f Z F (fun i u hi=>by
         show(({ toList:=[] }:Array Value)++⟨new'⟩++Builtin.zeroCells z.cells (nc-(0+k)))[i]? = some u;exact CY hi) NF.zero av ⟨rfl,rfl,rfl⟩ rfl
        refine⟨_,_,_,hr,?_,U⟩;rw[V,D8]
        have:=VR.op (ρ:=upd ρ m.n (lc w.heap.size 0 nc)) (b:=m.n) (o:=0) (n:=k) (m:=K8) (m':=nc) e2 (A6 _) A9 (fun _ _=>rfl)
        simpa using this
      | some Q =>
        simp only at f;cases W:Nat.blt c K8 with
        | true =>
          have al:c<K8:=A1 W;simp only[W,D7]at f;rcases M3 X with⟨l,R,M,hc,rfl⟩|⟨l,c',R,M,hc,hn,A,rfl⟩|⟨a',c',_,_,he,_⟩
          .cases q:Nat.ble (n+k) c with
           | true =>
             have I:=A1 q;simp only[q,D7]at f;split at f
             .rename_i m2 hw;cases f;rw[aZ]at hw;obtain⟨w',h1,J⟩:=lK h hw R F;refine⟨_,ρ,w',iZ hu E D hi hlen (G w rfl) I ?_,?_,J⟩
              .rw[U6,show Q.off+l.sh+n*inf.size=Q.off+n*inf.size+l.sh by omega];exact h1
              .obtain⟨ab,ao,ah⟩:=Q;simp only at M;subst M;exact .sl R hc
             .cases f
           | false =>
             have I:¬ n+k<=c:=fun hle=>by rw[show Nat.ble (n+k) c=true from C4 hle]at q;cases q
             simp only[q,D3]at f;split at f
             .rename_i old hold;rw[G5]at f;obtain⟨old',o1,o2,o3⟩:=X4 h hold R;have L:∀ wd:World,wd.heap=w.heap->(Builtin.firstCells inf.size n (.slice (some ⟨l.blk,Q.off+l.sh,none⟩) n c)).run P wd=.ok ⟨old'⟩ wd:=fun wd hw=>I5 o2 fun j u hj=>by rw[v6 hw];exact o3 j u hj
              obtain⟨nc,K,hr⟩:=dV (ty:=ty) hu E D hi Y hlen L G I g1 g2;obtain⟨V,e2,U⟩:=bD (wd:=w.drew) (fz:=(0,0)) (cap:=nc) (C:=⟨old'⟩++⟨new'⟩++Builtin.zeroCells z.cells (nc-(n+k))) h hb f Z (o1.append F) (fun i u hi=>bG hi) NF.zero
               (fun B J=>by rw[hi]at J;cases J;exact bF N K g3 o2) ⟨rfl,rfl,rfl⟩ rfl
              refine⟨_,_,_,hr,?_,U⟩;rw[V]
              have:=VR.op (ρ:=upd ρ m.n (lc w.heap.size 0 nc)) (b:=m.n) (o:=0) (n:=n+k) (m:=K8) (m':=nc) e2 (A6 _) K (fun _ _=>rfl)
              simpa using this
             .cases f
          .omega
          .omega
        | false =>
          simp only[W,D3]at f;obtain⟨q0,az⟩:=A2 f;clear f;have f:=az;clear az;obtain⟨q1,q2⟩:=B3 q0;replace q1:=A0 q1;replace q2:=A0 q2;clear q0;split at f
          .rename_i cs T M hg;obtain⟨p1,f⟩:=A2 f;rw[H6,H6,H6]at p1;obtain⟨⟨⟨p1,p2⟩,p3⟩,p4⟩:=p1;have p1:=A0 p1;have p2:=A0 p2;have p3:=A1 p3;have p4:Q.block<m.n:=A1 p4;subst p2;rw[G5]at f;rcases M3 X with⟨_,_,_,hc,_⟩|⟨l,c',R,_,_,hn,A,rfl⟩|⟨a',c',_,_,he,_⟩
           .omega
           .have A:=A q1 q2;obtain⟨⟨ax,C,fz,T',z2,z3,z4⟩,z5⟩:=h.atl R hg;obtain⟨rfl,z6,z7⟩:=z4 rfl;have z8:=(z7 inf hi).2;have z7:=(z7 inf hi).1;by_cases q:n+k<=c'
            ·
             have ay:(n+k)*inf.size<=c'*inf.size:=E4 _ q;rw[G0]at ay;obtain⟨w',r1,r2,r3,r4,r5⟩:=V9 (P:=P) (b:=l.blk) (o:=n*inf.size+l.sh) (fz:=fz) new' 0 C w z2 (zK F g4) (by rw[N];subst A;omega) z6;obtain⟨V,U⟩:=St.grow (w':=w') (l:=l) h p3 hg rfl R ax f Z r2 r3 r5 (by
              have O:ρ m.n=none:=by
               rw[Z4]at f;obtain⟨_,_,rfl⟩:=J7 f;exact Z m.n (A6 _) (J1 _ _).2
              refine⟨ax,_,fz,_,r4,fun i u hi=>?_,fun _=>⟨rfl,z6.sz (by simp[W4]),fun B J=>⟨by simpa [W4]using(by rw[hi]at J;cases J;exact z7:l.sh+l.cap*B.size<=C.size),by rw[hi]at J;cases J;exact z8⟩⟩⟩;show ∃ u',(Array.mk (x9 C.toList (n*inf.size+l.sh+0) new'))[l.sh+i]? = some u'/\_;have aj:C.toList.length=C.size:=by simp
              rw[I0,gV _ _ _ _ (by rw[N];subst A;omega)];by_cases an:i<cs.length
              .rw[E5 an]at hi;rw[B1 A9];obtain⟨u',y1,y2⟩:=z3 i u hi;exact⟨u',by simpa using y1,y2.mono (T7 O)⟩
              .rw[D5 A9]at hi;have ag:=(A7.1 hi).1;have ak:=F.1;rw[B2 A9];obtain⟨u',y1,y2⟩:=F.get hi;exact⟨u',by rw[show l.sh+i-(n*inf.size+l.sh+0)=i-cs.length by omega];exact y1,y2.mono (T7 O)⟩)
             refine⟨_,_,w',iZ (ty:=ty) hu E D hi hlen (G w rfl) q ?_,?_,U⟩
             .rw[U6,q2,show 0+l.sh+n*inf.size=n*inf.size+l.sh by omega];exact r1
             .rw[V,q2];exact .op (J9 _ _ _) (A6 _) q (fun _ _=>A)
            ·
             have st1:=St.kill h p3 hg rfl;have aw:I2 ρ (fQ m Q.block).n m'.hi:=by rw[Z4];exact Z
             obtain⟨old',o1,o2⟩:=i9 (ρ:=ρ) (C:=C) (cs:=cs) (s:=l.sh) z3;have oL:old'.length=n*inf.size:=by rw[<- o1.1];exact p1
             have L:∀ wd:World,wd.heap=w.heap->(Builtin.firstCells inf.size n (.slice (some ⟨l.blk,Q.off+l.sh,none⟩) n c')).run P wd=.ok ⟨old'⟩ wd:=fun wd hw=>I5 oL fun j u hj=>by
              rw[v6 hw,q2]
              have:=o2 j u hj;simp[World.cell?,z2,this]
             obtain⟨nc,K,hr⟩:=dV (ty:=ty) hu E D hi Y hlen L G q g1 g2;obtain⟨V,e2,U⟩:=bD (wd:=w.drew) (fz:=(0,0)) (cap:=nc) (C:=⟨old'⟩++⟨new'⟩++Builtin.zeroCells z.cells (nc-(n+k))) st1.hr hb f aw (o1.append F) (fun i u hi=>bG hi) NF.zero
              (fun B J=>by rw[hi]at J;cases J;exact bF N K g3 oL) ⟨rfl,rfl,rfl⟩ rfl
             refine⟨_,_,_,hr,?_,St.trans Z st1 U⟩;rw[V]
             have:=VR.op (ρ:=upd ρ (fQ m Q.block).n (lc w.heap.size 0 nc)) (b:=(fQ m Q.block).n) (o:=0) (n:=n+k) (m:=K8) (m':=nc) e2 (A6 _) K (fun _ _=>rfl)
             simpa using this
           .omega
          .cases f
   .cases f
  .cases f
 .cases f
end
end
section
open Go
variable [Ora]
section
variable {P:Program} {base:Nat} {ρ:Ren} {m m':Mem} {w:World}
def EH{op:UnOp}(h:unM op x=some v)(f:VR ρ x x')(w:World):(Op.unary op x').run P w=.ok v w/\H3 v=true:=by
 unfold unM at h;split at h
 .cases H8 f;cases h;exact⟨by simp[Op.unary,Op.intArith,dK],by simp[dK,H3]⟩
 .cases H8 f;obtain⟨h1,j⟩:=r7 (P:=P) h w;exact⟨by simpa [Op.unary]using h1,j⟩
 .cases y4 f;cases h;exact⟨rfl,rfl⟩
 .cases h
def VQ(f:A0c P t x=some v)(j:VR ρ x x')(w:World):(Builtin.cap_ ⟨t::tys⟩ ty #[x']).run P w=.ok v w/\H3 v=true:=by
 unfold A0c at f;split at f
 .rename_i hu;cases M8 j;cases f;exact⟨by simp[Builtin.cap_,A3,C8 hu,Result.andThen,goInt],rfl⟩
 .rename_i hu;obtain⟨n,f⟩:=A2 f;have n:_<K8:=A1 n;cases f;rcases M3 j with⟨l,_,_,_,rfl⟩|⟨l,c',_,_,_,_,_,rfl⟩|⟨a',c',_,_,he,_⟩
  .exact⟨by simp[Builtin.cap_,A3,C8 hu,Result.andThen,goInt],rfl⟩
  .omega
  .omega
 .cases f
def IF(h:HR P base ρ m.H w)(f:PJ P m t x=some v)(q:VR ρ x x'):(Builtin.len_ ⟨t::tys⟩ ty #[x']).run P w=.ok v w/\H3 v=true:=by
 unfold PJ at f;split at f
 .rename_i hu;cases R2 q;cases f;refine⟨?_,rfl⟩;simp[Builtin.len_,A3,C8 hu,Result.andThen,goInt]
 .rename_i hu;cases f;refine⟨?_,rfl⟩;simp[Builtin.len_,A3,C8 hu,Result.andThen,goInt]
 .rename_i n c hu;cases f;refine⟨?_,rfl⟩;have j:∃ a' c',x'=.slice a' n c':=by
   cases q with
   | pure _=>exact⟨_,_,rfl⟩
   | sl _ _=>exact⟨_,_,rfl⟩
   | op _ _ _ _=>exact⟨_,_,rfl⟩
   | opE _=>exact⟨_,_,rfl⟩
  obtain⟨a',c',rfl⟩:=j;simp[Builtin.len_,A3,C8 hu,Result.andThen,goInt]
 .rename_i hu;cases q with|pure _=>?_
  cases f;refine⟨?_,rfl⟩;simp[Builtin.len_,A3,C8 hu,Result.andThen,goInt]
 .cases f
def HZ{tys:Array TypeId}(f:ZW vs=some v)(q:LR ρ vs vs')(w:World):(Builtin.max_ tys ty ⟨vs'⟩).run P w=.ok v w/\H3 v=true:=by
 unfold ZW at f;split at f
 .obtain⟨a',r1,rfl,h1,n⟩:=q.tail;obtain⟨b',r2,rfl,h3,j⟩:=n.tail;cases j.nil_inv;cases H8 h1;cases H8 h3;cases f;exact⟨by simp[Builtin.max_,Builtin.max2],rfl⟩
 .obtain⟨a',r1,rfl,h1,n⟩:=q.tail;obtain⟨b',r2,rfl,h3,j⟩:=n.tail;obtain⟨c',B,rfl,A,h⟩:=j.tail;cases h.nil_inv;rw[oR]at f;cases H8 h1;cases H8 h3;cases H8 A;cases f;exact⟨by simp[Builtin.max_,Builtin.max2],rfl⟩
 .cases f
def HY{tys:Array TypeId}(f:ZU vs=some v)(q:LR ρ vs vs')(w:World):(Builtin.min_ tys ty ⟨vs'⟩).run P w=.ok v w/\H3 v=true:=by
 unfold ZU at f;split at f
 .obtain⟨a',r1,rfl,h1,n⟩:=q.tail;obtain⟨b',r2,rfl,h3,j⟩:=n.tail;cases j.nil_inv;cases H8 h1;cases H8 h3;cases f;exact⟨by simp[Builtin.min_,Builtin.min2],rfl⟩
 .obtain⟨a',r1,rfl,h1,n⟩:=q.tail;obtain⟨b',r2,rfl,h3,j⟩:=n.tail;obtain⟨c',B,rfl,A,h⟩:=j.tail;cases h.nil_inv;rw[oR]at f;cases H8 h1;cases H8 h3;cases H8 A;cases f;exact⟨by simp[Builtin.min_,Builtin.min2],rfl⟩
 .cases f
def uP{tys:Array TypeId}(h:HR P base ρ m.H w)(q:eN m x=some (v,m'))(E:VR ρ x x'):VOk P base ρ m w (Builtin.unsafeSliceData_ tys ty #[x']) v m':=by
 unfold eN at q;split at q
 .cases q;cases M8 E;exact VOk.same h rfl (.pure rfl)
 .rename_i a n c;cases A:Nat.beq n 0 || Nat.beq c 0 || Nat.beq c (K8+2)with
  | true=>rw[A]at q;cases q
  | false =>
    rw[A]at q;simp only[D3,C7,I9]at q;obtain⟨rfl,rfl⟩:=q;simp only[X0]at A;obtain⟨⟨q1,q2⟩,q3⟩:=A;have q1:n≠0:=fun e=>by subst e;cases q1
    have q2:c≠0:=fun e=>by subst e;cases q2
    rcases M3 E with⟨l,B,j,F,rfl⟩|⟨l,c',B,j,F,I,D,rfl⟩|⟨a',c',_,he,_,_⟩
    .refine VOk.same (v':=.pointer (some ⟨l.blk,a.off+l.sh,none⟩)) h ?_ ?_
     .have f:Builtin.unsafeSliceData_ tys ty #[.slice (some ⟨l.blk,a.off+l.sh,none⟩) n c]=(do
        if c≠0 then pure (.pointer (some ⟨l.blk,a.off+l.sh,none⟩))
        else if(<- viewAt l.blk).isSome then pure (.pointer (some ⟨l.blk,a.off+l.sh,none⟩))
        else pure (.pointer (some ⟨<- newObj (.view ⟨l.blk,a.off+l.sh,none⟩ (<- elemOf ty)),0,none⟩))):=rfl
      rw[f,B2 q2];rfl
     .obtain⟨ab,G,C⟩:=a;simp only at j;subst j;exact .ptr B
    .refine VOk.same (v':=.pointer (some ⟨l.blk,a.off+l.sh,none⟩)) h ?_ ?_
     .have:c'≠0:=A9;have f:Builtin.unsafeSliceData_ tys ty #[.slice (some ⟨l.blk,a.off+l.sh,none⟩) n c']=(do
        if c'≠0 then pure (.pointer (some ⟨l.blk,a.off+l.sh,none⟩))
        else if(<- viewAt l.blk).isSome then pure (.pointer (some ⟨l.blk,a.off+l.sh,none⟩))
        else pure (.pointer (some ⟨<- newObj (.view ⟨l.blk,a.off+l.sh,none⟩ (<- elemOf ty)),0,none⟩))):=rfl
      rw[f,B2 this];rfl
     .obtain⟨ab,G,C⟩:=a;simp only at j;subst j;exact .ptr B
    .omega
 .cases q
def KZ(h:HR P base ρ m.H w)(f:yS P m t x=some (v,m'))(A:VR ρ x x'):VOk P base ρ m w (Instr.makeInterface t x') v m':=by
 unfold yS at f;split at f
 .rename_i d q;have n:(∀ ms,d≠.interface ms)->(Instr.makeInterface t x').run P w=.ok (.iface t x') w:=fun j=>by
   simp only[Instr.makeInterface,A3,C8 q,Result.andThen];cases d<;>first|rfl|exact absurd rfl (j _)
  split at f
  .cases f
  .rename_i j;obtain⟨_,f⟩:=A2 f;cases f;exact VOk.same h (n fun ms e=>j ms e) (.iface A)
 .cases f
def TY(j:OS m x=some (v,m'))(n:VR ρ x x'):m'=m/\VR ρ v x'/\((∃ a,x'=.pointer (some a))∨∃ f a b,x'=.func (.func f) a b):=by
 unfold OS at j;split at j
 .cases j;obtain⟨l,_,_,rfl⟩:=K9 n;exact⟨rfl,n,.inl ⟨_,rfl⟩⟩
 .cases j;cases n with
  | pure hp=>simp[H3]at hp
  | func _ _ _ _=>exact⟨rfl,by constructor<;>assumption,.inr ⟨_,_,_,rfl⟩⟩
 .cases j
def QU(h:HR P base ρ m.H w)(j:DP P m t x y=some (v,m'))(J:VR ρ x x')(K:VR ρ y y'):VOk P base ρ m w (Builtin.copy_ ⟨t::tys⟩ ty #[x',y']) v m':=by
 unfold DP at j;split at j
 .rename_i e a n c hu;split at j
  .rename_i s W;split at j
   .rename_i k cs f;have N:∃ a' c',x'=.slice a' n c':=by
     cases J with
     | pure _=>exact⟨_,_,rfl⟩
     | sl _ _=>exact⟨_,_,rfl⟩
     | op _ _ _ _=>exact⟨_,_,rfl⟩
     | opE _=>exact⟨_,_,rfl⟩
    obtain⟨a',c',rfl⟩:=N;have D:∃ L cs',(Builtin.lenOf y').run P w=.ok L w/\Nat.min L n=k/\LR ρ cs cs'/\(Builtin.firstCells s k y').run P w=.ok ⟨cs'⟩ w:=by
     split at f
     .rename_i Q _;obtain⟨q,f⟩:=A2 f;have q:=A0 q;subst q;cases f;cases M8 K;exact⟨0,[],rfl,by simp,.nil,rfl⟩
     .rename_i b Q X;split at f
      .rename_i r hr;cases f;rcases M3 K with⟨l,C,_,_,rfl⟩|⟨l,c',C,_,_,_,_,rfl⟩|⟨a',c',_,rfl,_,rfl⟩
       .obtain⟨I,h1,B,h3⟩:=X4 h hr C;exact⟨Q,I,rfl,rfl,h1,I5 B h3⟩
       .obtain⟨I,h1,B,h3⟩:=X4 h hr C;exact⟨Q,I,rfl,rfl,h1,I5 B h3⟩
       .have:cs=[]:=by
         unfold i7 at hr;split at hr
         .have:=(fD hr).2;simp at this;exact this
         .cases hr
        subst this;exact⟨0,[],rfl,rfl,.nil,by simp[Builtin.firstCells,loadCells,loadCellsFrom]⟩
      .cases f
     .rename_i b;cases f;cases R2 K;refine⟨b.size,M6 (b.data.toList.take (Nat.min b.size n)),rfl,rfl,qP _ _,?_⟩;have e:((b.extract 0 (Nat.min b.size n)).data.map fun b=>Value.int .u8 b.toNat)=⟨M6 (b.data.toList.take (Nat.min b.size n))⟩:=by
       apply H7;simp[M6,dM]
      show(pure ((b.extract 0 (Nat.min b.size n)).data.map fun b=>Value.int .u8 b.toNat):Sem Q0).run P w=_;rw[e];rfl
     .cases f
    obtain⟨L,cs',r1,r2,G,V⟩:=D;have A:(Builtin.copy_ ⟨t::tys⟩ ty #[.slice a' n c',y']).run P w=(match a' with|some a=>(do storeCells a cs';pure (goInt k):Sem Value)|none=>pure (goInt k)).run P w:=by
     unfold Builtin.copy_;simp only[I0,O1,O2,A3,C8 hu,J0 W,r1,r2,V,Result.andThen];cases a' with
     | none=>rfl
     | some a=>rfl
    cases a with
    | none =>
      cases M8 J;simp only at j;obtain⟨q,j⟩:=A2 j;have q:=A0 q;cases j;exact VOk.same h (by rw[A,q];rfl) (.pure rfl)
    | some Y =>
      simp only at j;cases E:Nat.beq cs.length 0 with
      | true =>
        rw[E]at j;cases j;have E:=A0 E;have:cs'=[]:=D9.1 (by rw[<- G.1];exact E);subst this;refine VOk.same h (v':=.int .i64 k) ?_ (.pure rfl);rw[A];cases a'<;>rfl
      | false =>
        rw[E]at j;simp only[D3]at j;obtain⟨F,j⟩:=A2 j;have F:=A1 F;split at j
        .rename_i m2 hw;cases j;rcases M3 J with⟨l,C,M,T,he⟩|⟨l,c',C,M,T,S,R,he⟩|⟨a2,c2,_,S,U,he⟩
         .cases he;obtain⟨w',h1,B⟩:=lK h hw C G;exact⟨.int .i64 k,ρ,w',by rw[A];simp[A3,h1,Result.andThen,goInt],.pure rfl,B⟩
         .cases he;obtain⟨w',h1,B⟩:=lK h hw C G;exact⟨.int .i64 k,ρ,w',by rw[A];simp[A3,h1,Result.andThen,goInt],.pure rfl,B⟩
         .have O:K8=9223372036854775808:=rfl;omega
        .cases j
   .cases j
  .cases j
 .cases j
def lD:∀ {cs:D0} {l:List UInt8},bytesOf cs=some l->∃ f:List Int,cs=f.map (Value.int .u8)/\l=f.map fun n=>UInt8.ofNat n.toNat
 | [],l,h=>by simp only[bytesOf,C7]at h;subst h;exact⟨[],rfl,rfl⟩
 | v::r,l,h=>by
   unfold bytesOf at h;split at h
   .rename_i he;cases he
   .rename_i n q he;cases he;split at h
    .rename_i l0 h0;cases h;obtain⟨f,h1,j⟩:=lD h0;exact⟨n::f,by rw[h1];rfl,by rw[j];rfl⟩
    .cases h
   .cases h
def mR:∀ {f:List Int} {cs':D0},LR ρ (f.map (Value.int .u8)) cs'->cs'=f.map (Value.int .u8)
 | [],cs',h=>h.nil_inv
 | n::r,cs',h=>by
   obtain⟨v',q,rfl,h1,j⟩:=h.tail;cases H8 h1;rw[mR j];rfl
def kV:∀ (f:List Int) (acc:List UInt8),(f.foldl (fun r n=>r.push (UInt8.ofNat n.toNat)) (ByteArray.mk ⟨acc⟩))=⟨⟨acc++f.map fun n=>UInt8.ofNat n.toNat⟩⟩
 | [],acc=>by simp
 | n::r,acc=>by
   rw[gD];have:(ByteArray.mk ⟨acc⟩).push (UInt8.ofNat n.toNat)=⟨⟨acc++[UInt8.ofNat n.toNat]⟩⟩:=by
    show ByteArray.mk (Array.push ⟨acc⟩ _)=_;simp
   rw[this,kV r];simp
def QX(h:HR P base ρ m.H w)(Y:base<=w.heap.size)(f:xC P m s t x=some (v,m'))(W:I2 ρ m.n m'.hi)(J:VR ρ x x'):VOk P base ρ m w (convert s t x') v m':=by
 unfold xC at f;split at f
 .rename_i F k j n D A;cases H8 J;simp only[C7,I9]at f;obtain⟨rfl,rfl⟩:=f;refine VOk.same (v':=.int k (k.wrap n)) h ?_ (by rw[dK,lM];exact .pure rfl);cases F<;>simp[convert,A3,C8 D,C8 A,Result.andThen,Conv.intToInt]
 .rename_i F b D A;cases R2 J;cases f;refine VOk.same h ?_ (.pure rfl);cases F<;>simp[convert,A3,C8 D,C8 A,Result.andThen]
 .rename_i F j n D A;cases H8 J;cases f;refine VOk.same (v':=.string (Utf8.encode n)) h ?_ (.pure rfl);cases F<;>simp[convert,A3,C8 D,C8 A,Result.andThen,Conv.intToString]
 .rename_i F e b D A;cases R2 J;split at f
  .rename_i he;split at f
   .rename_i G;rw[G5]at f;let q:Question:=.appendCap b.size 0 e
    let cap:=q.cut (w.tape w.drawn q)
    have L:b.size<=cap:=by show b.size<=b.size+_;omega
    have R:(choose q).run P w=.ok cap w.drew:=by
     simp only[choose,Sem.run];rw[B1 (by simp[q,Question.forced])];rfl
    let C:Q0:=(b.data.map fun b=>Value.int .u8 b.toNat)++Array.replicate (cap-b.size) (.int .u8 0)
    have hC:C.size=cap:=by
     have:b.data.size=b.size:=rfl;simp[C,this];omega
    obtain⟨Z,O,X⟩:=bD (wd:=w.drew) (fz:=(C.size,C.size+1)) (cap:=cap) (C:=C) h Y f W (qP ρ b.data.toList) (fun i u hi=>by
      have N:=(A7.1 hi).1;simp[M6]at N;have S:i<(b.data.map fun b=>Value.int .u8 b.toNat).size:=by simpa using N
      show((b.data.map fun b=>Value.int .u8 b.toNat)++Array.replicate (cap-b.size) (.int .u8 0))[i]? = some u;rw[I8 S]
      simpa [M6]using hi) NF.end
     (fun inf M=>by
       have:inf.size=1:=by unfold F6 at G;rw[M]at G;exact A5 G
       rw[this,hC];omega) ⟨rfl,rfl,rfl⟩ rfl
    refine⟨.slice (some ⟨w.heap.size,0,none⟩) b.size cap,_,_,?_,?_,X⟩
    .have U:∀ w2:World,w2.heap[w.heap.size]? = some (.cells C e (0,0))->(markStringish ⟨w.heap.size,0,none⟩).run P w2=.ok () (w2.freeze { block:=w.heap.size,off:=C.size } 1):=fun w2 M=>by
      simp[markStringish,shape,freeze,Sem.run,World.shape?,M]
     have Q:({ w.drew with heap:=w.heap.push (.cells C e (0,0)) }:World).freeze { block:=w.heap.size,off:=C.size } 1={ w.drew with heap:=w.heap.push (.cells C e (C.size,C.size+1)) }:=by
      unfold World.freeze;rw[B1 L7];congr 1;apply Array.ext_getElem?;intro i;rw[F1];by_cases hi:w.heap.size=i
      .subst hi;simp
      .rw[B1 hi];simp only[K3];rw[B1 (fun h=>hi h.symm),B1 (fun h=>hi h.symm)]
     have I:(convert s t (.string b)).run P w=(Conv.stringToBytes e b).run P w:=by
      cases F<;>simp[convert,A3,C8 D,C8 A,C8 he,Result.andThen]
     rw[I];unfold Conv.stringToBytes;simp only[A3,show(choose (.appendCap b.size 0 e)).run P w=.ok cap w.drew from R,Result.andThen];have T:(newRow e C).run P w.drew=.ok ⟨w.heap.size,0,none⟩ { w.drew with heap:=w.heap.push (.cells C e (0,0)) }:=rfl;rw[show(newRow e ((b.data.map fun b=>Value.int .u8 b.toNat)++Array.replicate (cap-b.size) (.int .u8 0))).run P w.drew=_ from T];simp only[Result.andThen];rw[U _ (by simp),Q];rfl
    .rw[Z];exact VR.op (o:=0) (m':=cap) O (A6 _) L (fun _ _=>rfl)
   .cases f
  .cases f
 .rename_i e n c D A;cases M8 J;split at f
  .rename_i he;cases f;refine VOk.same h (v':=.string ByteArray.empty) ?_ (.pure rfl);simp[convert,A3,C8 D,C8 A,C8 he,Result.andThen,Conv.bytesToString]
  .cases f
 .rename_i e a n c D A;split at f
  .rename_i he;split at f
   .rename_i cs hr;split at f
    .rename_i l N;cases f;obtain⟨K,h1,M⟩:=lD N;have B:∀ a' c',(loadCells a' n).run P w=.ok (K.map (Value.int .u8)).toArray w->(convert s t (.slice (some a') n c')).run P w=.ok (.string ⟨⟨l⟩⟩) w:=fun a' c' E=>by
      have:=run_bytesToString w a' n c' K E;have O:=kV K [];simp only[Q7]at O;simp only[convert,A3,C8 D,C8 A,C8 he,Result.andThen];rw[this,show ByteArray.empty=ByteArray.mk ⟨[]⟩from rfl,O,M]
     rcases M3 J with⟨lc,E,_,_,rfl⟩|⟨lc,c',E,_,_,_,_,rfl⟩|⟨a',c',_,rfl,_,rfl⟩
     .obtain⟨V,g1,g2,g3⟩:=X4 h hr E;rw[h1]at g1
      have:=mR g1;subst this;exact VOk.same h (B _ _ (I5 g2 g3)) (.pure rfl)
     .obtain⟨V,g1,g2,g3⟩:=X4 h hr E;rw[h1]at g1
      have:=mR g1;subst this;exact VOk.same h (B _ _ (I5 g2 g3)) (.pure rfl)
     .have:cs=[]:=by
       unfold i7 at hr;split at hr
       .have:=(fD hr).2;simpa using this
       .cases hr
      subst this;have:K=[]:=by cases K with|nil=>rfl|cons _ _=>cases h1
      subst this;exact VOk.same h (B _ _ (by simp[loadCells,loadCellsFrom])) (.pure rfl)
    .cases f
   .cases f
  .cases f
 .cases f
end
end
section
open Go
variable [Ora]
section
variable {P:Program} {base:Nat} {ρ:Ren} {m m':Mem} {w:World}
def sO(q:P.cellsOf e=1)(count off n:Nat)(j:off+n<=count):liesAt P P.depth e count off e n=true:=by
 have f:P.depth=(2*(P.types.size+Made.depth)+1)+1:=rfl;rw[f];simp only[liesAt,F7];left;rw[f];simp[rowAt,q,j,sameLayout,Nat.mod_one]
def bQ:∀ (f:List Int) (b o:Nat) (acc:ByteArray),(∀ (j:Nat) (v:Value),(f.map (Value.int .u8))[j]? = some v->w.cell? ⟨b,o+j,none⟩=some v) ->
  (loadBytes ⟨b,o,none⟩ acc f.length).run P w=.ok ⟨acc.data++(f.map fun n=>UInt8.ofNat n.toNat).toArray⟩ w
 | [],b,o,acc,_=>by simp[loadBytes]
 | n::f,b,o,acc,h=>by
   have h0:w.cell? ⟨b,o,none⟩=some (.int .u8 n):=by simpa using h 0 _ rfl
   have A:=bQ f b (o+1) (acc.push n.toNat.toUInt8) (fun j v q=>by
    have:=h (j+1) v (by simpa using q);rw[show o+1+j=o+(j+1) by omega];exact this)
   simp only[I7,loadBytes,A3,run_load,h0,Result.andThen,U6];rw[A];have:(acc.push n.toNat.toUInt8).data=acc.data.push n.toNat.toUInt8:=rfl;rw[this];congr 2;apply H7;simp
def uE{l l':Value}(h:HR P base ρ m.H w)(f:bM P m pt p l=some (v,m'))(hp:VR ρ p p')(hl:VR ρ l l') :
  VOk P base ρ m w (Builtin.unsafeString_ ⟨pt::tys⟩ ty #[p',l']) v m':=by
 have F:IntKind.i64.max=9223372036854775807:=rfl;unfold bM at f;split at f
 .cases hp with|pure _=>?_
  cases H8 hl;cases f;refine VOk.same h (v':=.string ByteArray.empty) ?_ (.pure rfl);rename_i k _;have B:Builtin.unsafeString_ ⟨pt::tys⟩ ty #[.pointer none,.int k (.ofNat 0)] =
    (do
      let n <- asInt (.int k (.ofNat 0))
      if n<0 then runtimePanic (.error "unsafe.String: len out of range")
      if n>IntKind.i64.max then unsupported (.unsafePointer "String: a length above the largest int")
      if n=0 then pure (.string .empty)
      else runtimePanic (.error "unsafe.String: ptr is nil and len is not zero")):=rfl
  rw[B];simp[asInt,asIntOf,F]
 .rename_i a k n;cases H8 hl;obtain⟨lc,K,az,rfl⟩:=K9 hp;split at f
  .rename_i cs T I Z;split at f
   .rename_i e W O;obtain⟨q,f⟩:=A2 f;obtain⟨q,q3⟩:=B3 q;obtain⟨q1,q2⟩:=B3 q;have q1:0<n:=A1 q1;have q2:=A1 q2;have q3:=A0 q3;subst q3;split at f
    .rename_i r hr;split at f
     .rename_i bs m2 V U4;cases f;obtain⟨S,h1,h2⟩:=lD V;have G:i7 m a n=some r:=by
       unfold i7;rw[I,Z];exact hr
      obtain⟨r',g1,g2,g3⟩:=X4 h G K;rw[h1]at g1;have U:=mR g1;subst U;obtain⟨⟨M,C,fz,T',z2,z3,z4⟩,z5⟩:=h.atl K Z;have z2:w.heap[lc.blk]? = some (.cells C e fz):=by rw[z2,(z4 rfl).1]
      have L:S.length=n:=by simpa using g2
      have A:P.cellsOf e=1:=by
       unfold F6 at O;unfold Program.cellsOf;cases hi:P.info? e with
       | none=>rw[hi]at O;cases O
       | some i=>rw[hi]at O;have:=A5 O;simp[this]
      have X:a.off+lc.sh+n<=C.size:=by
       have D:=g3 (n-1) (.int .u8 S[n-1]) (by simp[L]);simp only[World.cell?,z2]at D
       have:=(B5.1 (by simpa using D)).1;omega
      have Q:=bQ (P:=P) (w:=w) S lc.blk (a.off+lc.sh) .empty g3;rw[L]at Q;have Y:w.shape? lc.blk=some (e,C.size):=by simp[World.shape?,z2]
      have J:=sO (P:=P) A (C.size / P.cellsOf e) (a.off+lc.sh) n (by rw[A];simpa using X);have B:Builtin.unsafeString_ ⟨pt::tys⟩ ty #[.pointer (some ⟨lc.blk,a.off+lc.sh,none⟩),.int k (.ofNat n)] =
       (do
         let n <- asInt (.int k (.ofNat n))
         if n<0 then runtimePanic (.error "unsafe.String: len out of range")
         if n>IntKind.i64.max then unsupported (.unsafePointer "String: a length above the largest int")
         if n=0 then pure (.string .empty)
         else if <- variablesAt ⟨lc.blk,a.off+lc.sh,none⟩ (<- elemOf pt) n.toNat then do
          let s <- loadBytes ⟨lc.blk,a.off+lc.sh,none⟩ .empty n.toNat
          freeze ⟨lc.blk,a.off+lc.sh,none⟩ n.toNat
          pure (.string s)
         else unsupported (.unsafePointer "String: not so many bytes at ptr")):=rfl
      have e1:Int.ofNat n=(n:Int):=rfl;have N:¬ (n:Int)<0:=A9;have R:¬ (9223372036854775807:Int)<(n:Int):=A9;have hz:¬ (n:Int)=0:=A9;have E:n≠0:=A9;refine⟨.string ⟨⟨bs⟩⟩,ρ,w.freeze ⟨lc.blk,a.off+lc.sh,none⟩ n,?_,.pure rfl,St.write h U4 Z rfl K M ?_ ?_ ?_ ?_⟩
      .rw[B];simp[asInt,asIntOf,F,e1,N,R,hz,E,variablesAt,Y,elemOf,C8 W,J,Q,freeze,Sem.run,A3,Result.andThen,h2]
      .simp[World.freeze,E]
      .simp[World.freeze,E]
      .intro j hj;simp only[World.freeze,E,if_false,F1];rw[B1 (fun e=>hj e.symm)]
      .refine⟨M,C,(if fz.1 == fz.2 then(a.off+lc.sh,a.off+lc.sh+n)else(min fz.1 (a.off+lc.sh),max fz.2 (a.off+lc.sh+n))),e,?_,z3,fun hc=>by cases hc⟩;simp only[World.freeze,E,if_false,F1,if_true,z2,I3]
     .cases f
    .cases f
   .cases f
  .cases f
 .cases f
def DX{ks:Array Bool}(h:HR P base ρ m.H w)(C:base<=w.heap.size)(f:eI P m b vs tys=some (v,m'))(B:I2 ρ m.n m'.hi)(q:LR ρ vs vs') :
  ∃ s:Sem Value,builtin b ⟨tys⟩ ty ks ⟨vs'⟩=(do pure (.value (<- s)))/\VOk P base ρ m w s v m':=by
 unfold eI at f;split at f
 .obtain⟨x',r1,rfl,h1,j⟩:=q.tail;cases j.nil_inv;unfold noM at f;split at f
  .rename_i u hu;cases f;obtain⟨g1,g2⟩:=IF h hu h1;exact⟨_,rfl,VOk.same h g1 (.pure g2)⟩
  .cases f
 .obtain⟨x',r1,rfl,h1,j⟩:=q.tail;cases j.nil_inv;unfold noM at f;split at f
  .rename_i u hu;cases f;obtain⟨g1,g2⟩:=VQ hu h1 w;exact⟨_,rfl,VOk.same h g1 (.pure g2)⟩
  .cases f
 .obtain⟨x',r1,rfl,h1,j⟩:=q.tail;obtain⟨y',r2,rfl,h3,A⟩:=j.tail;cases A.nil_inv;rename_i t t2 rest;refine⟨Builtin.append_ ⟨t::t2::rest⟩ ty #[x',y'],rfl,?_⟩
  have:=GK (ty:=ty) h C f B h1 h3;have e:Builtin.append_ ⟨t::t2::rest⟩ ty #[x',y']=Builtin.append_ #[t,t2] ty #[x',y']:=rfl;rw[e];exact this
 .obtain⟨x',r1,rfl,h1,j⟩:=q.tail;obtain⟨y',r2,rfl,h3,A⟩:=j.tail;cases A.nil_inv;exact⟨_,rfl,QU h f h1 h3⟩
 .unfold noM at f;split at f
  .rename_i u hu;cases f;obtain⟨g1,g2⟩:=HZ (P:=P) (ty:=ty) (tys:=⟨tys⟩) hu q w;exact⟨_,rfl,VOk.same h g1 (.pure g2)⟩
  .cases f
 .unfold noM at f;split at f
  .rename_i u hu;cases f;obtain⟨g1,g2⟩:=HY (P:=P) (ty:=ty) (tys:=⟨tys⟩) hu q w;exact⟨_,rfl,VOk.same h g1 (.pure g2)⟩
  .cases f
 .obtain⟨x',r1,rfl,h1,j⟩:=q.tail;cases j.nil_inv;exact⟨_,rfl,uP h f h1⟩
 .obtain⟨x',r1,rfl,h1,j⟩:=q.tail;obtain⟨y',r2,rfl,h3,A⟩:=j.tail;cases A.nil_inv;exact⟨_,rfl,uE h f h1 h3⟩
 .cases f
def NOk(P:Program)(base:Nat)(ρ:Ren)(m:Mem)(w:World)(s:Sem Next)(v:Value)(m':Mem):Prop :=
 ∃ v' ρ' w',(s.run P w=.ok (.value v') w'∨(s.run P w=.ok .skip w'/\v'=undef))/\VR ρ' v v'/\St P base ρ ρ' m m' w w'
def NOk.of{s:Sem Value}(h:VOk P base ρ m w s v m'):NOk P base ρ m w (do pure (.value (<- s))) v m':=by
 obtain⟨v',ρ',w',h1,f,h3⟩:=h;exact⟨v',ρ',w',.inl (by simp[A3,h1,Result.andThen]),f,h3⟩
def lQ(ρ:Ren):VR ρ undef undef:=.tuple (a:=[]) (a':=[]) rfl (fun i v v' h=>by simp at h)
def NOk.ofU{s:Sem Unit}(h:UOk P base ρ m w s m'):NOk P base ρ m w (do s;pure .skip) undef m':=by
 obtain⟨ρ',w',h1,h3⟩:=h;exact⟨undef,ρ',w',.inr ⟨by simp[A3,h1,Result.andThen],rfl⟩,lQ _,h3⟩
def NOk.same{s:Sem Value}(h:HR P base ρ m.H w)(hr:s.run P w=.ok v' w)(f:VR ρ v v'):NOk P base ρ m w (do pure (.value (<- s))) v m:=NOk.of (VOk.same h hr f)
def FR(ρ:Ren)(fr:Fr)(g:Operand->Value)(o:Op):Prop:=∀ x ∈ o.operands.toList,VR ρ (ev fr x) (g x)
def Z3(h:noM o m=some (v,m')):o=some v/\m'=m:=by
 unfold noM at h;split at h
 .cases h;exact⟨rfl,rfl⟩
 .cases h
def jG{o:Option Mem}(h:FN o=some (v,m')):o=some m'/\v=undef:=by
 unfold FN at h;split at h
 .cases h;exact⟨rfl,rfl⟩
 .cases h
def aK{fr:Fr}{g:Operand->Value}:∀ {xs:List Operand},(∀ x ∈ xs,VR ρ (ev fr x) (g x))->LR ρ (evL fr xs) (xs.map g)
 | [],_=>.nil
 | x::r,h=>.cons (h x B4) (aK fun y f=>h y (C5 _ f))
def GB{fr:Fr}{g:Operand->Value}:∀ {xs:List (Nat×Operand)},(∀ x ∈ xs.map (·.2),VR ρ (ev fr x) (g x))->PR ρ (evP fr xs) (xs.map fun x=>(x.1,g x.2))
 | [],_=>trivial
 | (i,x)::r,h=>⟨rfl,h x (by simp),GB fun y f=>h y (by simp at f ⊢;exact .inr f)⟩
def fC{fr:Fr}{x:Option Operand}(h:∀ y ∈ x.toList,VR ρ (ev fr y) (g y)):OR ρ (evO fr x) (x.map g):=by
 cases x with
 | none=>trivial
 | some y=>exact h y (by simp)
set_option maxHeartbeats 1000000 in
def ZP{fr:Fr}{o:Oper}(h:HR P base ρ m.H w)(K:base<=w.heap.size)(q:opM P fr m o.op=some (v,m'))(J:I2 ρ m.n m'.hi)(V:FR ρ fr g o.op) :
  NOk P base ρ m w (execOp g o) v m':=by
 obtain⟨dst,op,ty,pos,T,U⟩:=o;simp only at q V;have j:∀ {x},x ∈ op.operands.toList->VR ρ (ev fr x) (g x):=fun B=>V _ B
 unfold opM at q;split at q
 .cases q;exact⟨_,ρ,w,.inl rfl,j (by simp[Op.operands]),.refl h⟩
 .cases q;exact⟨_,ρ,w,.inl rfl,j (by simp[Op.operands]),.refl h⟩
 .rename_i c a b;have L:=j (x:=c) (by simp[Op.operands]);unfold HP at q;split at q
  .rename_i I;rw[I]at L;cases q;exact⟨g a,ρ,w,.inl (by simp[execOp,y4 L,asBool]),j (by simp[Op.operands]),.refl h⟩
  .rename_i I;rw[I]at L;cases q;exact⟨g b,ρ,w,.inl (by simp[execOp,y4 L,asBool]),j (by simp[Op.operands]),.refl h⟩
  .cases q
 .exact NOk.of (LA h K q J)
 .exact NOk.of (TZ h K q J (j (by simp[Op.operands])))
 .rename_i t ps;obtain⟨h1,rfl⟩:=Z3 q;obtain⟨v',A,h3⟩:=LQ h1 (GB (g:=g) (fun x B=>j (by simpa [Op.operands]using B))) w;have e:(ps.map fun(i,x)=>(i,g x))=⟨ps.toList.map fun x=>(x.1,g x.2)⟩:=by apply H7;simp
  exact NOk.same (s:=Instr.build t (ps.map fun(i,x)=>(i,g x))) h (by rw[e];exact A) h3
 .rename_i t n ps
  have:=tW h K q J (GB (g:=g) (fun x B=>j (by simpa [Op.operands]using B)));have e:(ps.map fun(i,x)=>(i,g x))=⟨ps.toList.map fun x=>(x.1,g x.2)⟩:=by apply H7;simp
  refine NOk.of (s:=Instr.buildSlice t n (ps.map fun(i,x)=>(i,g x))) ?_;rw[e];exact this
 .rename_i t x;have B:=j (x:=x) (by simp[Op.operands]);unfold HQ at q;split at q
  .rename_i a G;rw[G]at B;obtain⟨l,O,M,F⟩:=K9 B;obtain⟨h1,rfl⟩:=Z3 q;obtain⟨v',A,h3⟩:=CJ h h1 O;refine NOk.same (s:=Instr.loadAt t (g x)) h ?_ h3;rw[F]
   simpa [Instr.loadAt,Instr.sureAddr]using A
  .cases q
 .rename_i t x y;have B:=j (x:=x) (by simp[Op.operands]);have C:=j (x:=y) (by simp[Op.operands]);unfold yR at q;split at q
  .rename_i a G;rw[G]at B;obtain⟨l,O,M,F⟩:=K9 B;obtain⟨h1,rfl⟩:=jG q
   have:=KE h h1 O C;refine NOk.ofU (s:=Instr.storeAt t (g x) (g y)) ?_;rw[F];obtain⟨ρ',w',r1,r2⟩:=this;exact⟨ρ',w',by simpa [Instr.storeAt,Instr.sureAddr]using r1,r2⟩
  .cases q
 .rename_i x;have B:=j (x:=x) (by simp[Op.operands]);obtain⟨hm,h1,A⟩:=TY q B;subst hm;refine⟨g x,ρ,w,.inl ?_,h1,.refl h⟩;rcases A with⟨a,S⟩|⟨f,a,b,S⟩<;>simp[execOp,S]
 .rename_i op t x y Y;have B:=j (x:=x) (by simp[Op.operands]);have C:=j (x:=y) (by simp[Op.operands]);unfold UA at q;have D:(sW op=true->iD P t x y (ev fr x) (ev fr y)=true)->noM (nM P op t (ev fr x) (ev fr y)) m=some (v,m')->NOk P base ρ m w (execOp g ⟨dst,.binOp op t x y Y,ty,pos,T,U⟩) v m':=fun N W=>by
   obtain⟨h1,rfl⟩:=Z3 W;obtain⟨A,h3⟩:=qZ h1 B C w;have X:=mV N B C w;refine NOk.same (s:=do eqGuard op t x y (g x) (g y);binOp op t (g x) (g y)) h ?_ (.pure h3);simp[A3,X,A,Result.andThen]
  cases E:sW op with
  | true =>
    rw[E]at q;simp only[D7]at q;obtain⟨h1,A⟩:=A2 q;exact D (fun _=>h1) A
  | false =>
    rw[E]at q;simp only[D3]at q;exact D (fun h=>by rw[E]at h;cases h) q
 .rename_i op t x;obtain⟨h1,rfl⟩:=Z3 q;obtain⟨A,h3⟩:=EH (P:=P) h1 (j (x:=x) (by simp[Op.operands])) w;exact NOk.same (s:=Op.unary op (g x)) h A (.pure h3)
 .exact NOk.of (QX h K q J (j (by simp[Op.operands])))
 .exact NOk.of (KZ h q (j (by simp[Op.operands])))
 .rename_i f first cap
  cases q;have l1:=aK (ρ:=ρ) (fr:=fr) (g:=g) (xs:=first.toList) fun x B=>j (by simp[Op.operands];exact .inl (by simpa using B))
  have l2:=aK (ρ:=ρ) (fr:=fr) (g:=g) (xs:=cap.toList) fun x B=>j (by simp[Op.operands];exact .inr (by simpa using B))
  refine⟨.func (.func f) ⟨first.toList.map g⟩ ⟨cap.toList.map g⟩,ρ,w,.inl ?_,.func l1.1 l2.1 l1.2 l2.2,.refl h⟩;have R:first.map g=⟨first.toList.map g⟩:=by apply H7;simp
  have Q:cap.map g=⟨cap.toList.map g⟩:=by apply H7;simp
  simp[execOp,Instr.makeFunc,R,Q]
 .exact NOk.of (uQ h K q J (j (by simp[Op.operands])) (j (by simp[Op.operands])))
 .rename_i t x lo hi mx;obtain⟨h1,rfl⟩:=Z3 q;obtain⟨v',A,h3⟩:=dT h1 (j (x:=x) (by simp[Op.operands])) (fC (g:=g) fun y C=>j (by simp[Op.operands]at C ⊢;exact .inr (.inl C))) (fC (g:=g) fun y C=>j (by simp[Op.operands]at C ⊢;exact .inr (.inr (.inl C)))) (fC (g:=g) fun y C=>j (by simp[Op.operands]at C ⊢;exact .inr (.inr (.inr C)))) w;exact NOk.same (s:=Instr.sliceAt t (g x) (lo.map g) (hi.map g) (mx.map g)) h A h3
 .obtain⟨h1,rfl⟩:=Z3 q;obtain⟨v',A,h3⟩:=iF h1 (j (by simp[Op.operands])) w;exact NOk.same h A h3
 .obtain⟨h1,rfl⟩:=Z3 q;obtain⟨v',A,h3⟩:=LI h1 (j (by simp[Op.operands])) w;exact NOk.same h A h3
 .obtain⟨h1,rfl⟩:=Z3 q;obtain⟨v',A,h3⟩:=y5 h1 (j (by simp[Op.operands])) (j (by simp[Op.operands])) w;exact NOk.same h A h3
 .obtain⟨h1,rfl⟩:=Z3 q;obtain⟨v',A,h3⟩:=oM h1 (j (by simp[Op.operands])) (j (by simp[Op.operands])) w;exact NOk.same h A h3
 .obtain⟨hm,v',A,h3⟩:=BZ (P:=P) q (j (by simp[Op.operands])) w;subst hm;exact NOk.same h A h3
 .rename_i b xs tys;have l1:=aK (ρ:=ρ) (fr:=fr) (g:=g) (xs:=xs.toList) fun x B=>j (by show x ∈ (#[]++xs:Array Operand).toList;simpa using B)
  obtain⟨ks,Q⟩:∃ ks,execOp g ⟨dst,.call ⟨.builtin b,xs,tys⟩,ty,pos,T,U⟩=builtin b tys ty ks (xs.map g):=⟨_,rfl⟩;obtain⟨s,e,hs⟩:=DX (ty:=ty) (ks:=ks) h K q J l1;have R:xs.map g=⟨xs.toList.map g⟩:=by apply H7;simp
  rw[Q,R];have Z:tys=⟨tys.toList⟩:=rfl;rw[Z,e];exact NOk.of hs
 .cases q
end
end
section
open Go
def ofV:N6->U
 | some (.int k n)=>.int k n
 | some (.bool b)=>.bool b
 | some (.string s)=>.str s.data.toList
 | _=>.none
def D4(E:Nat->U):Value->U
 | .complex .f64 i _=>E i
 | .int k n=>.int k n
 | .bool b=>.bool b
 | .string s=>.str s.data.toList
 | _=>.none
def evB(op:BinOp):U->U->U
 | .int k a,.int j b=>ofV (fS op k j a b)
 | .str a,.str b=>ofV (TM op ⟨⟨a⟩⟩ ⟨⟨b⟩⟩)
 | .bool a,.bool b=>match op with
   | .eql=>.bool (a == b)
   | .neq=>.bool (!(a == b))
   | _=>.none
 | _,_=>.none
def ev1(op:UnOp):U->U
 | .int k n=>ofV (unM op (.int k n))
 | .bool b=>ofV (unM op (.bool b))
 | _=>.none
def eqU:U->U->Option Bool
 | .int k a,.int j b=>if k=j then some (a == b)else none
 | .bool a,.bool b=>some (a == b)
 | .str a,.str b=>some (a == b)
 | _,_=>none
def iI:List U->Option Bool
 | []=>some true
 | a::b::r=>match eqU a b,iI r with
   | some x,some y=>some (x && y)
   | _,_=>none
 | _=>none
def TK(s:List UInt8)(l h:Int):U :=
 match l,h with
 | .ofNat l,.ofNat h=>if l<=h/\h<=s.length then .str ((s.drop l).take (h-l))else .none
 | _,_=>.none
def uY:List U->Option (List UInt8)
 | []=>some []
 | .int .u8 (.ofNat n)::r=>if n<256 then match uY r with
   | some l=>some (UInt8.ofNat n::l)
   | none=>none else none
 | _::_=>none
def zX:List (List U)->Option (List UInt8)
 | []=>some []
 | [.int .u8 (.ofNat n)]::r=>if n<256 then match zX r with
   | some l=>some (UInt8.ofNat n::l)
   | none=>none else none
 | _::_=>none
def kA(s:List UInt8):List (List U):=s.map fun b=>[.int .u8 b.toNat]
def Y5(w:Nat):Nat->List U->Option (List (List U))
 | 0,[]=>some []
 | 0,_::_=>none
 | n+1,l=>if w<=l.length then match Y5 w n (l.drop w)with
   | some r=>some (l.take w::r)
   | none=>none else none
def FE(row:List U)(o:Nat)(cells:List U):List U:=row.take o++cells++row.drop (o+cells.length)
def tZ:Nat:=1000000000
def nL(f:Bool)(w:Nat)(rows r:List (List U)):U:=if rows.length+r.length<=tZ then(match r with|[]=>.seq f w rows|r=>.seq false w (rows++r))else .none
def isU(a b:U):Bool :=
 match eqU a b with
 | some c=>c
 | none=>false
def P9:List U->List U->Bool
 | [],_=>true
 | a::k,b::r=>isU a b && P9 k r
 | _::_,[]=>false
def BP(kw:Nat)(c:List U):List (List U)->List (List U)
 | []=>[c]
 | r::rs=>if P9 (c.take kw) r then c::rs else r::BP kw c rs
def evU:LOp->List U->U
 | .mhas w kw,.seq _ v rows::k=>if v=w/\k.length=kw then .bool (rows.any (P9 k))else .none
 | .mget w kw o,.seq _ v rows::z::k=>if v=w/\k.length=kw then(match rows.find? (P9 k)with
   | some r=>r.getD o .none
   | none=>z)else .none
 | .mput w kw,.seq nul v rows::c=>if v=w/\c.length=w then .seq nul w (BP kw c rows)else .none
 | .len,[.seq _ _ rows]=>.int .i64 rows.length
 | .mks,l=>match uY l with
   | some s=>.str s
   | none=>.none
 | .inbs w,[.int _ i,.seq _ v rows]=>if v=w then .bool (decide (0<=i) && decide (i<rows.length))else .none
 | .get w o,[.seq false v rows,.int _ (.ofNat k)]=>if v=w then(rows.getD k []).getD o .none else .none
 | .mk w,l=>if w=0 then .none else match Y5 w (l.length / w) l with
   | some r=>.seq false w r
   | none=>.none
 | .nilw w,[]=>.seq true w []
 | .nilp,[.seq nul _ _]=>.bool nul
 | .snoc w,.seq nul v rows::l=>if v=w/\w≠0 then match Y5 w (l.length / w) l with
   | some r=>nL nul w rows r
   | none=>.none else .none
 | .cat w,[.seq nul v rows,.seq _ v2 r]=>if v=w/\v2=w then nL nul w rows r else .none
 | .cats,[.seq nul v rows,.str s]=>if v=1 then nL nul 1 rows (kA s)else .none
 | .set w o,.seq false v rows::.int _ (.ofNat k)::l=>if v=w/\k<rows.length/\o+l.length<=w then .seq false w (rows.set k (FE (rows.getD k []) o l))else .none
 | .subs w,[.seq nul v rows,.int _ (.ofNat l),.int _ (.ofNat h)]=>if v=w/\l<=h/\h<=rows.length then .seq nul w ((rows.drop l).take (h-l))else .none
 | .str,[.seq _ v rows]=>if v=1 then match zX rows with
   | some s=>.str s
   | none=>.none else .none
 | .byt,[.str s]=>.seq false 1 (kA s)
 | .ustr,[.seq _ v rows,.int _ (.ofNat n)]=>if v=1/\n<=rows.length/\n<=tZ then match zX (rows.take n)with
   | some s=>.str s
   | none=>.none else .none
 | .rep w,.int _ (.ofNat n)::l=>if l.length=w/\n<=tZ then .seq false w (List.replicate n l)else .none
 | .bin op,[a,b]=>evB op a b
 | .un op,[a]=>ev1 op a
 | .conv k,[.int _ n]=>.int k (k.wrap n)
 | .len,[.str s]=>.int .i64 s.length
 | .rune,[.str s,.int _ (.ofNat k)]=>.int .i32 (Utf8.decode ⟨⟨s⟩⟩ k).1
 | .rpos,[.str s,.int _ (.ofNat k)]=>.int .i64 (k+(Utf8.decode ⟨⟨s⟩⟩ k).2:Nat)
 | .idx,[.str s,.int _ (.ofNat k)]=>match s[k]? with
   | some b=>.int .u8 b.toNat
   | none=>.none
 | .sub,[.str s,.int _ l,.int _ h]=>TK s l h
 | .sub1,[.str s,.int _ l]=>TK s l s.length
 | .sel,.int _ (.ofNat k)::cs=>cs.getD k .none
 | .inb,[.int _ i,.int _ n]=>.bool (decide (0<=i) && decide (i<n))
 | .eqs,l=>match iI l with
   | some b=>.bool b
   | none=>.none
 | .max,[.int k a,.int _ b]=>.int k (if b>a then b else a)
 | .min,[.int k a,.int _ b]=>.int k (if b<a then b else a)
 | _,_=>.none
def T9.ok(E:Nat->U):T9->Prop
 | .lt i t op xs=>E i=evU op (xs.map (D4 E))/\F3 (E i)=t/\t<10
 | .dt i t op xs=>E i=evU op (xs.map (D4 E))/\F3 (E i)=t/\∃ f w rows,E i=.seq f w rows
 | .br i b=>E i=.bool b
 | .as op xs=>evU op (xs.map (D4 E))=.bool true
 | .con spec xs i d n=>∃ outs,spec (xs.map (D4 E))=some (d,outs)/\outs.length=n/\∀ j u,outs[j]? = some u->E (i+j)=u
def M4(E:Nat->U)(l:List T9):Prop:=∀ e ∈ l,e.ok E
def Lg.le(a b:Lg):Prop:=a.log <:+ b.log
def Lg.le.refl(a:Lg):a.le a:=List.suffix_refl _
def Lg.le.trans{a b c:Lg}(h:a.le b)(k:b.le c):a.le c:=List.IsSuffix.trans h k
def M4.le{E:Nat->U}{a b:Lg}(h:M4 E b.log)(k:a.le b):M4 E a.log:=fun e he=>h e (k.subset he)
variable [Ora]
abbrev Sat(lg:Lg):Prop:=M4 Ora.env lg.log
omit [Ora] in
def GY{u:U}(h:F3 u<10):∃ v,toV u=some v/\ofV (some v)=u/\F5 v=F3 u:=by
 cases u with
 | none=>simp[F3]at h
 | seq _ _ _=>simp only[F3]at h;omega
 | int k n=>exact⟨_,rfl,rfl,rfl⟩
 | bool b=>exact⟨_,rfl,rfl,rfl⟩
 | str s=>exact⟨_,rfl,rfl,rfl⟩
def yQ(h:F3 (ofV o)<10):∃ v,o=some v/\toV (ofV o)=some v:=by
 unfold ofV at h;split at h
 .exact⟨_,rfl,rfl⟩
 .exact⟨_,rfl,rfl⟩
 .rename_i s;refine⟨_,rfl,?_⟩;simp[ofV,toV]
 .simp[F3]at h
def J8(k:IntKind):eC k<8:=by cases k<;>decide
theorem l9{ρ:Ren}{v v':Value}(h:VR ρ v v')(f:F5 v<10):toV (D4 Ora.env v)=some v'/\F3 (D4 Ora.env v)=F5 v:=by
 cases h with
 | pure hp =>
   cases v<;>simp only[F5]at f<;>first
    | exact⟨rfl,rfl⟩
    | (exfalso;omega)
    | (simp[H3]at hp)
 | hole h j=>exact⟨h,j⟩
 | junk=>simp[F5]at f
 | ixp _ _ _ _ _=>simp[F5,ixp]at f
 | dat _ _ _ _ _=>simp[F5,Go.Sx.dat]at f
 | clp _ _ _ _ _ _=>simp[F5,Go.Sx.clp]at f
 | own _ _ _=>simp[F5,Go.Sx.own]at f
 | dpt _ _ _=>simp[F5,Go.Sx.dpt]at f
 | opt _ _ _=>simp[F5,Go.Sx.opt]at f
 | yv _=>simp[F5,Go.Sx.yv]at f
 | sdt _=>simp[F5,Go.Sx.sdt]at f
 | _=>simp[F5]at f
def K4{ρ:Ren}(h:VR ρ v v')(j:F5 v<8):∃ k n,v'=.int k n/\D4 Ora.env v=.int k n/\F5 v=eC k:=by
 obtain⟨h1,f⟩:=l9 h A9;cases hu:D4 Ora.env v with
 | int k n=>rw[hu]at h1 f;cases h1;exact⟨k,n,rfl,rfl,f.symm⟩
 | bool b=>rw[hu]at f;simp only[F3]at f;omega
 | str s=>rw[hu]at f;simp only[F3]at f;omega
 | none=>rw[hu]at h1;cases h1
 | seq _ _ _=>rw[hu]at h1;cases h1
def dR{ρ:Ren}(h:VR ρ v v')(j:F5 v=8):∃ b,v'=.bool b/\D4 Ora.env v=.bool b:=by
 obtain⟨h1,f⟩:=l9 h A9;cases hu:D4 Ora.env v with
 | int k n=>rw[hu]at f;simp only[F3]at f;have:=J8 k;omega
 | bool b=>rw[hu]at h1;cases h1;exact⟨b,rfl,rfl⟩
 | str s=>rw[hu]at f;simp only[F3]at f;omega
 | none=>rw[hu]at h1;cases h1
 | seq _ _ _=>rw[hu]at h1;cases h1
def Z9{ρ:Ren}(h:VR ρ v v')(j:F5 v=9):∃ s,v'=.string ⟨⟨s⟩⟩/\D4 Ora.env v=.str s:=by
 obtain⟨h1,f⟩:=l9 h A9;cases hu:D4 Ora.env v with
 | int k n=>rw[hu]at f;simp only[F3]at f;have:=J8 k;omega
 | bool b=>rw[hu]at f;simp only[F3]at f;omega
 | str s=>rw[hu]at h1;cases h1;exact⟨s,rfl,rfl⟩
 | none=>rw[hu]at h1;cases h1
 | seq _ _ _=>rw[hu]at h1;cases h1
def eY{m m':Mem}{t:Nat}{op:LOp}(h:Q2 m t op xs=some (v,m')):v=hole m.lg.nx t/\m'=m.wLg ⟨m.lg.nx+1,m.lg.pi,.lt m.lg.nx t op xs::m.lg.log⟩:=by
 obtain⟨H,n,W,hi,⟨nx,pi,log⟩⟩:=m;simp only[Q2,E1,G5]at h;cases h;exact⟨rfl,rfl⟩
def K2{m m':Mem}{t:Nat}{op:LOp}(h:Q2 m t op xs=some (v,m'))(n:Sat m'.lg):∃ u,evU op (xs.map (D4 Ora.env))=u/\F3 u=t/\∃ r,toV u=some r/\(∀ ρ,VR ρ v r)/\t<10:=by
 obtain⟨rfl,rfl⟩:=eY h;obtain⟨h1,j,h3⟩:=n (.lt m.lg.nx t op xs) (by cases m;exact B4);refine⟨_,rfl,h1▸j,?_⟩;obtain⟨r,f,_⟩:=GY (u:=Ora.env m.lg.nx) A9;exact⟨r,h1▸f,fun ρ=>.hole f j,h3⟩
section
variable {P:Program} {base:Nat} {ρ:Ren} {m m':Mem} {w:World}
def St.wLg(h:HR P base ρ m.H w)(lg:Lg):St P base ρ ρ m (m.wLg lg) w w:=by
 obtain⟨H,n,W,hi,l⟩:=m;have r:=St.refl (m:=⟨H,n,W,hi,l⟩) h;exact⟨r.ext,r.new,r.nle,r.hle,r.nhi,r.hr,r.wsub,r.wrw,r.keep,r.size,r.os,r.blk,r.same,r.tch⟩
def u9:∀ {l:List T9} {i:Nat} {b:Bool},tC l i=some b->T9.br i b ∈ l
 | [],_,_,h=>by cases h
 | .br j c::r,i,b,h=>by
   rw[tC]at h;cases f:Nat.beq j i with
   | true=>rw[f]at h;cases h;rw[A0 f];exact B4
   | false=>rw[f]at h;exact C5 _ (u9 h)
 | .lt _ _ _ _::r,i,b,h=>C5 _ (u9 (l:=r) h)
 | .dt _ _ _ _::r,i,b,h=>C5 _ (u9 (l:=r) h)
 | .as _ _::r,i,b,h=>C5 _ (u9 (l:=r) h)
 | .con _ _ _ _ _::r,i,b,h=>C5 _ (u9 (l:=r) h)
def cF{lg f:Lg}{b:Bool}(h:brL lg c=some (b,f)):lg.le f:=by
 unfold brL at h;split at h
 .cases h;exact .refl _
 .obtain⟨nx,pi,log⟩:=lg;simp only at h;split at h
  .cases h;exact .refl _
  .split at h
   .cases h;exact⟨[_],rfl⟩
   .cases h;exact⟨[_],rfl⟩
   .cases h
 .cases h
def iL{lg f:Lg}{b:Bool}(h:brL lg c=some (b,f))(q:VR ρ c c')(n:Sat f):c'=.bool b:=by
 unfold brL at h;split at h
 .cases h;exact y4 q
 .rename_i i;have B:Ora.env i=.bool b:=by
   obtain⟨nx,pi,log⟩:=lg;simp only at h;split at h
   .rename_i b' A;cases h;exact n _ (u9 A)
   .split at h
    .cases h;exact n (.br i true) B4
    .cases h;exact n (.br i false) B4
    .cases h
  obtain⟨b',h1,j⟩:=dR q rfl;have j:Ora.env i=.bool b':=j;rw[B]at j;cases j;exact h1
 .cases h
def pW:∀ {a b:List U} {z:Bool},a.length%2=0->iI (a++b)=some z->∃ x y,iI a=some x/\iI b=some y/\z=(x && y)
 | [],b,z,_,h=>⟨true,z,rfl,h,rfl⟩
 | [_],_,_,hl,_=>by simp at hl
 | p::q::r,b,z,hl,h=>by
   simp only[Y0]at h;unfold iI at h;split at h
   .rename_i u v n j;cases h;obtain⟨x,y,h1,f,rfl⟩:=pW (by simp only[I7]at hl;omega) j;exact⟨u && x,y,by simp only[iI,n,h1],f,by simp[Bool.and_assoc]⟩
   .cases h
def KM(h:cA P t x y=true)(C:VR ρ x x')(D:VR ρ y y'){b:Bool}(j:eqU (D4 Ora.env x) (D4 Ora.env y)=some b)(n:Nat)(w:World):(Op.equalIn (n+1) t x' y').run P w=.ok b w:=by
 unfold cA at h;split at h
 .rename_i hu;obtain⟨h1,f⟩:=B3 h;obtain⟨p,rfl,B⟩:=dR C (A0 h1);obtain⟨q,rfl,A⟩:=dR D (A0 f);rw[B,A]at j;cases j;simp[Op.equalIn,A3,C8 hu,Result.andThen]
 .rename_i k hu;obtain⟨h1,f⟩:=B3 h;have h1:=A0 h1;have f:=A0 f;obtain⟨F,p,rfl,B,f1⟩:=K4 C (by have:=J8 k;omega);obtain⟨E,q,rfl,A,f2⟩:=K4 D (by have:=J8 k;omega);have g1:F=k:=by cases F<;>cases k<;>first|rfl|(simp only[eC]at f1 h1;omega)
  have g2:E=k:=by cases E<;>cases k<;>first|rfl|(simp only[eC]at f2 f;omega)
  subst g1;subst g2;rw[B,A]at j;simp[eqU]at j;subst j;simp[Op.equalIn,A3,C8 hu,Result.andThen]
 .rename_i hu;obtain⟨h1,f⟩:=B3 h;obtain⟨p,rfl,B⟩:=Z9 C (A0 h1);obtain⟨q,rfl,A⟩:=Z9 D (A0 f);rw[B,A]at j;cases j
  have:=run_equalIn_string (P:=P) w n t ⟨⟨p⟩⟩ ⟨⟨q⟩⟩ hu;rw[this];simp[ByteArray.toList_eq]
 .cases h
mutual
def IQ:∀ (d:Nat) (t:TypeId) (x y:Value) (l:List Value),eqS P d t x y=some l->l.length%2=0
 | 0,_,_,_,_,h=>by simp[eqS]at h
 | d+1,t,x,y,l,h=>by
   unfold eqS at h;cases hs:cA P t x y with
   | true=>rw[hs]at h;cases h;simp
   | false =>
     rw[hs]at h;simp only[D3]at h;split at h
     .rename_i fs xs ys hu;cases hst:P.stoodInHeld t with
      | true=>rw[hst]at h;cases h
      | false=>rw[hst]at h;exact tF d _ _ _ l h
     .split at h
      .exact tF d _ _ _ l h
      .cases h
     .cases h
def tF:∀ (d:Nat) (fs:List Field) (xs ys:List Value) (l:List Value),tG P d fs xs ys=some l->l.length%2=0
 | 0,_,_,_,_,h=>by simp[tG]at h
 | d+1,[],_,_,_,h=>by simp only[tG,C7]at h;subst h;rfl
 | d+1,f::fs,xs,ys,l,h=>by
   unfold tG at h;cases hnm:f.name == "_" with
   | true=>rw[hnm]at h;cases h
   | false =>
     rw[hnm]at h;simp only[D3]at h;split at h
     .split at h
      .rename_i a b ha hb;cases h
       have:=IQ d _ _ _ a ha
       have:=tF d _ _ _ b hb;simp only[G7];omega
      .cases h
     .cases h
end
mutual
def GC:∀ (d:Nat) (t:TypeId) (x y x' y':Value) (l:List Value) (b:Bool),eqS P d t x y=some l->iI (l.map (D4 Ora.env))=some b->VR ρ x x'->VR ρ y y'->∀ (n:Nat),d<=n->∀ w:World,(Op.equalIn n t x' y').run P w=.ok b w
 | 0,_,_,_,_,_,_,_,h,_,_,_,_,_,_=>by simp[eqS]at h
 | d+1,t,x,y,x',y',l,b,h,hl,hx,hy,n,hn,w=>by
   obtain⟨n,rfl⟩:∃ k,n=k+1:=⟨n-1,A9⟩;have hn':d<=n:=A9;unfold eqS at h;cases hs:cA P t x y with
   | true =>
     rw[hs]at h;cases h;simp only[B8,E3,iI]at hl;split at hl
     .rename_i u v e1 e2;cases e2;cases hl;rw[kI];exact KM hs hx hy e1 n w
     .cases hl
   | false =>
     rw[hs]at h;simp only[D3]at h;split at h
     .rename_i fs xs ys hu;cases hst:P.stoodInHeld t with
      | true=>rw[hst]at h;cases h
      | false =>
        rw[hst]at h;obtain⟨xs',rfl,hx1⟩:=R9 hx;obtain⟨ys',rfl,hy1⟩:=R9 hy;have hf:P.fieldsOf t=fs:=by simp[Program.fieldsOf,hu]
        rw[run_equalIn_struct (P:=P) w n t _ _ (by rw[hf];exact hu) hst,hf];exact zM d fs.toList xs.toList ys.toList xs' ys' l b h hl hx1 hy1 n hn' w
     .rename_i k e xs ys hu;split at h
      .rename_i s hz;obtain⟨xs',rfl,hx1⟩:=R9 hx;obtain⟨ys',rfl,hy1⟩:=R9 hy;obtain⟨i,hi,rfl⟩:=vN hz;rw[run_equalIn_array (P:=P) (w:=w) n _ _ hu hi,show P.cellsOf e=i.size by simp[Program.cellsOf,hi],cC];exact zM d _ xs.toList ys.toList xs' ys' l b h hl hx1 hy1 n hn' w
      .cases h
     .cases h
def zM:∀ (d:Nat) (fs:List Field) (xs ys xs' ys':List Value) (l:List Value) (b:Bool),tG P d fs xs ys=some l->iI (l.map (D4 Ora.env))=some b->LR ρ xs xs'->LR ρ ys ys'->∀ (n:Nat),d<=n->∀ w:World,(Op.eqFields n ⟨xs'⟩ ⟨ys'⟩ fs).run P w=.ok b w
 | 0,_,_,_,_,_,_,_,h,_,_,_,_,_,_=>by simp[tG]at h
 | d+1,[],_,_,_,_,_,b,h,hl,_,_,_,_,_=>by
   simp only[tG,C7]at h;subst h;simp only[E3,iI,C7]at hl;subst hl;simp[Op.eqFields]
 | d+1,f::fs,xs,ys,xs',ys',l,b,h,hl,hx,hy,n,hn,w=>by
   unfold tG at h;cases hnm:f.name == "_" with
   | true=>rw[hnm]at h;cases h
   | false =>
     rw[hnm]at h;simp only[D3]at h;have hn':f.name ≠ "_":=by simpa using hnm
     split at h
     .rename_i x y h1 h2;obtain⟨x',g1,g2⟩:=dX h1 hx w;obtain⟨y',g3,g4⟩:=dX h2 hy w;split at h
      .rename_i a c ha hc;cases h;rw[M5]at hl;obtain⟨p,q,e1,e2,rfl⟩:=pW (by have:=IQ d _ _ _ a ha;simpa using this) hl;have ih:=GC d f.type x y x' y' a p ha e1 g2 g4 n A9 w;have ih2:=zM d fs xs ys xs' ys' c q hc e2 hx hy n A9 w;unfold Op.eqFields;rw[B2 hn'];cases p<;>simp[A3,g1,g3,Result.andThen,ih,ih2]
      .cases h
     .cases h
end
end
end
section
open Go
variable [Ora]
section
variable {P:Program} {base:Nat} {ρ:Ren} {m m':Mem} {w w':World}
def St.new0{ab:AB}(h:HR P base ρ m.H w)(Q:W5 m ab k=some (v,m'))(O:I2 ρ m.n m'.hi)(I:BR P (upd ρ m.n l') ab l' w)(F:l'.on=false)
  (M:∀ q,Tc ab l' q->Fp ρ m.H q/\∀ id,id<=G1->∀ a l,Hp.get m.H id=some a->ρ id=some l->a.rw=true->l.on=true->l.blk≠q):v=k m.n/\upd ρ m.n l' m.n=some l'/\St P base ρ (upd ρ m.n l') m m' w w:=by
 obtain⟨hle,S,rfl⟩:=J7 Q;have D:ρ m.n=none:=O m.n (A6 _) (J1 _ _).2;have A:=T7 (l:=l') D;refine⟨S,J9 _ _ _,A,fun b q h1 j=>?_,by simp,(J1 _ _).1,fun _=>V3 (J1 _ _).2,⟨fun b q N=>?_,fun id hid a f=>?_⟩,fun b I=>I,fun b h1 j=>absurd h1 j,fun q N _=>rfl,A6 _,⟨rfl,rfl,rfl⟩,fun b q h1 j B=>?_,fun id hid h1 j=>?_,fun q ⟨id,a,l,hid,f,E,L⟩=>.inr ?_⟩
 .obtain⟨rfl,rfl⟩:=Q9 h1 j;exact⟨A6 _,H5 _⟩
 .cases h0:ρ b with
  | some R=>exact h.dom b R h0
  | none=>obtain⟨rfl,rfl⟩:=Q9 N h0;exact hle
 .rw[E7 _ _ _ _ hle hid]at f;by_cases e:id=m.n
  .rw[B2 e]at f;have f:=A5 f;subst f;subst e;exact⟨l',J9 _ _ _,I,fun _ B=>(by rw[F]at B;cases B)⟩
  .rw[B1 e]at f;obtain⟨l0,h1,j,h3⟩:=h.at_ id hid a f;refine⟨l0,A _ _ h1,j.mono A (fun _ _=>rfl),fun hr B=>⟨(h3 hr B).1,fun G C J l2 g1 g2 g3=>?_⟩⟩;rw[E7 _ _ _ _ hle C]at g1;by_cases K:G=m.n
   .subst K;rw[J9]at g2
    have:=A5 g2;subst this;rw[B2 rfl]at g1;have g1:=A5 g1;subst g1;exact absurd rfl ((M _ g3).2 id hid a l0 f h1 hr B)
   .rw[B1 K]at g1;unfold upd at g2;rw[B1 K]at g2;exact(h3 hr B).2 G C J l2 g1 g2 g3
 .obtain⟨rfl,rfl⟩:=Q9 h1 j;rw[F]at B;cases B
 .rw[E7 _ _ _ _ hle hid,B1];intro e;subst e;rcases j with j|j
  .omega
  .have j:upN m.hi m.n<=m.n:=j
   have:=(J1 m.hi m.n).2;omega
 .have f:Hp.get (m.H.set m.n (some ab)) id=some a:=f;rw[E7 _ _ _ _ hle hid]at f;by_cases e:id=m.n
  .subst e;rw[B2 rfl]at f;have f:=A5 f;subst f;rw[J9]at E;have E:=A5 E;subst E;exact(M q L.2).1
  .rw[B1 e]at f;unfold upd at E;rw[B1 e]at E;exact⟨id,a,l,hid,f,E,L⟩
def St.same0{ab:AB}{id:Nat}(h:HR P base ρ m.H w)(S:x7 m id ab'=some m')(L:Hp.get m.H id=some ab)(D:ab.rw=true)(G:ρ id=some l)(M:BR P ρ ab' l w)(Q:∀ q,Tc ab' l q->Tc ab l q):St P base ρ ρ m m' w w:=by
 obtain⟨hle,rfl⟩:=R1 S;obtain⟨E,h3⟩:=h.atl G L;refine⟨fun _ _ h=>h,fun b k h1 E=>(by rw[h1]at E;cases E),A6 _,A6 _,fun h=>h,⟨h.dom,fun n f a A=>?_⟩,fun b M=>C5 _ M,fun b h1 E k I=>?_,fun k I T=>rfl,A6 _,⟨rfl,rfl,rfl⟩,fun b k h1 E=>(by rw[h1]at E;cases E),fun n f R U=>?_,fun k ⟨n,a,q,f,A,K,O⟩=>.inr ?_⟩
 .rw[E7 _ _ _ _ hle f]at A;by_cases e:n=id
  .rw[B2 e]at A;have A:=A5 A;subst A;subst e;refine⟨l,G,M,fun _ B=>⟨(h3 D B).1,fun C j F N g1 g2 g3=>?_⟩⟩;rw[E7 _ _ _ _ hle j]at g1;by_cases J:C=n
   .exact J
   .rw[B1 J]at g1;exact(h3 D B).2 C j F N g1 g2 g3
  .rw[B1 e]at A;obtain⟨l2,g1,g2,g3⟩:=h.at_ n f a A;refine⟨l2,g1,g2.mono (fun _ _ h=>h) (fun k I=>rfl),fun hr B=>⟨(g3 hr B).1,fun C j F N f1 f2 f3=>?_⟩⟩;rw[E7 _ _ _ _ hle j]at f1;by_cases J:C=id
   .subst J;rw[G]at f2
    have:=A5 f2;subst this;have f1:=A5 (by simpa using f1);subst f1;exact(g3 hr B).2 C j ab l L G (Q _ f3)
   .rw[B1 J]at f1;exact(g3 hr B).2 C j F N f1 f2 f3
 .rcases A8.1 h1 with rfl|h1
  .exact⟨ab,L,D⟩
  .exact absurd h1 E
 .rw[E7 _ _ _ _ hle f,B1];intro e;subst e;exact R B4
 .have A:Hp.get (m.H.set id (some ab')) n=some a:=A;rw[E7 _ _ _ _ hle f]at A;by_cases e:n=id
  .subst e;rw[B2 rfl]at A;have A:=A5 A;subst A;rw[G]at K;have K:=A5 K;subst K;exact⟨n,ab,l,f,L,G,AB.rw_fr D,Q _ O.2⟩
  .rw[B1 e]at A;exact⟨n,a,q,f,A,K,O⟩
def St.move{ab:AB}{id:Nat}(h:HR P base ρ m.H w)(hle:id<=G1)(hg:Hp.get m.H id=some ab)(D:ab.rw=true)(V:ρ id=some l)
  (hn:W5 (fQ m id) ab' k=some (v,m')) (hf:I2 ρ m.n m'.hi) (N:l'.on=true->l.on=true/\l'.blk=l.blk)
  (ho:w'.os=w.os/\w'.tape=w.tape/\w'.output=w.output) (X:w'.heap.size=w.heap.size) (hk:∀ k,(l.on=true->k≠l.blk)->w'.heap[k]? = w.heap[k]?) (S:BR P (upd ρ m.n l') ab' l' w') (az:ab'≠.frz) :
  v=k m.n/\upd ρ m.n l' m.n=some l'/\St P base ρ (upd ρ m.n l') m m' w w':=by
 rw[Z4]at hn;obtain⟨R,hv,rfl⟩:=J7 hn;have B:ρ m.n=none:=hf m.n (A6 _) (J1 _ _).2;have F:=T7 (l:=l') B;obtain⟨O,h3⟩:=h.atl V hg;have W:∀ k,Tc ab' l' k->l.on=true/\k=l.blk:=fun k hk=>by
  rcases hk with⟨_,h1,rfl⟩|⟨rfl,_⟩
  .exact N h1
  .exact absurd rfl az
 have aw:id≠m.n:=fun e=>by subst e;rw[V]at B;cases B
 have A:∀ i,i<=G1->Hp.get ((m.H.set id none).set m.n (some ab')) i=if i=m.n then some ab' else if i=id then none else Hp.get m.H i:=fun i hi=>by
  rw[E7 _ _ _ _ R hi,E7 _ _ _ _ hle hi]
 refine⟨hv,J9 _ _ _,F,fun b q h1 O=>?_,W8 _,(J1 _ _).1,fun _=>V3 (J1 _ _).2,⟨fun b q E=>?_,fun i hi a f=>?_⟩,fun b S=>C5 _ S,fun b h1 O q E=>?_,fun q E ay=>hk q ?_,by rw[X];exact A6 _,ho,fun b q h1 O C=>?_,fun i hi h4 T=>?_,fun k ⟨i,a,q,hi,f,E,ht⟩=>.inr ?_⟩
 .obtain⟨rfl,rfl⟩:=Q9 h1 O;exact⟨A6 _,H5 _⟩
 .cases h0:ρ b with
  | some q0=>exact h.dom b q0 h0
  | none=>obtain⟨rfl,rfl⟩:=Q9 E h0;exact R
 .have f:Hp.get ((m.H.set id none).set m.n (some ab')) i=some a:=f;rw[A i hi]at f;by_cases e:i=m.n
  .rw[B2 e]at f;have f:=A5 f;subst f;subst e;refine⟨l',J9 _ _ _,S,fun ax C=>?_⟩;obtain⟨j,hblk⟩:=N C;refine⟨by rw[hblk];exact(h3 D j).1,fun J K Y l2 g1 g2 g3=>?_⟩;rw[A J K]at g1;by_cases e2:J=m.n
   .exact e2
   .rw[B1 e2]at g1;unfold upd at g2;rw[B1 e2]at g2;by_cases I:J=id
    .rw[B2 I]at g1;cases g1
    .rw[B1 I]at g1;exact absurd ((h3 D j).2 J K Y l2 g1 g2 (hblk▸g3)) I
  .rw[B1 e]at f;by_cases I:i=id
   .rw[B2 I]at f;cases f
   .rw[B1 I]at f;obtain⟨l2,g1,g2,g3⟩:=h.at_ i hi a f;have U:∀ k,Tc a l2 k->l.on=true->k≠l.blk:=fun k M j hh=>I ((h3 D j).2 i hi a l2 f g1 (hh▸M))
    refine⟨l2,F _ _ g1,g2.mono F (fun k M=>hk _ (U k M)),fun hr C=>⟨(g3 hr C).1,fun G L Q l3 f1 f2 f3=>?_⟩⟩;have f1:Hp.get ((m.H.set id none).set m.n (some ab')) G=some Q:=f1;rw[A G L]at f1;by_cases e4:G=m.n
    .subst e4;rw[J9]at f2
     have:=A5 f2;subst this;rw[B2 rfl]at f1;have f1:=A5 f1;subst f1;obtain⟨j,E⟩:=W _ f3;exact absurd E (U _ (.inl ⟨AB.rw_on hr,C,rfl⟩) j)
    .rw[B1 e4]at f1;unfold upd at f2;rw[B1 e4]at f2;by_cases e5:G=id
     .rw[B2 e5]at f1;cases f1
     .rw[B1 e5]at f1;exact(g3 hr C).2 G L Q l3 f1 f2 f3
 .rcases A8.1 h1 with rfl|h1
  .exact⟨ab,hg,D⟩
  .exact absurd h1 O
 .exact fun j e=>ay id B4 l V j e.symm
 .obtain⟨rfl,rfl⟩:=Q9 h1 O;obtain⟨j,hblk⟩:=N C;exact .inr ⟨id,B4,l,V,j,hblk.symm⟩
 .have Z:=A i hi;show Hp.get ((m.H.set id none).set m.n (some ab')) i=_;rw[Z,B1,B1]
  .intro e;subst e;exact h4 B4
  .intro e;subst e;rcases T with T|T
   .omega
   .have T:upN m.hi m.n<=m.n:=T
    have:=(J1 m.hi m.n).2;omega
 .have f:Hp.get ((m.H.set id none).set m.n (some ab')) i=some a:=f;rw[A i hi]at f;by_cases e:i=m.n
  .rw[B2 e]at f;have f:=A5 f;subst f;subst e;rw[J9]at E;have E:=A5 E;subst E;obtain⟨j,S⟩:=W k ht.2;exact⟨id,ab,l,hle,hg,V,AB.rw_fr D,.inl ⟨AB.rw_on D,j,S.symm⟩⟩
  .rw[B1 e]at f;unfold upd at E;rw[B1 e]at E;by_cases I:i=id
   .rw[B2 I]at f;cases f
   .rw[B1 I]at f;exact⟨i,a,q,hi,f,E,ht⟩
end
end
section
open Go
variable [Ora]
def o8{m m':Mem}{ab:AB}(h:W5 m ab k=some (v,m')):m'.lg=m.lg:=by
 obtain⟨_,_,rfl⟩:=J7 h;rfl
def aY{m m':Mem}{id:Nat}{ab:AB}(h:x7 m id ab=some m'):m'.lg=m.lg:=by
 obtain⟨_,rfl⟩:=R1 h;rfl
def nU{m m':Mem}(h:kJ m a vs=some m'):m'.lg=m.lg:=by
 unfold kJ at h;split at h
 .obtain⟨_,h⟩:=A2 h;rw[G5]at h;exact aY h
 .cases h
def KF{P:Program}{m m':Mem}(h:rP P m t a v=some m'):m'.lg=m.lg:=by
 unfold rP at h;split at h
 .obtain⟨_,h⟩:=A2 h;exact nU h
 .cases h
def d8{m m':Mem}(h:noM o m=some (v,m')):m'.lg=m.lg:=by
 obtain⟨_,rfl⟩:=Z3 h;rfl
def tX{P:Program}{m m':Mem}{n:Nat}{ps:List (Nat×Value)}(h:y8 P m t n ps=some (v,m')):m'.lg=m.lg:=by
 unfold y8 at h;split at h
 .split at h
  .obtain⟨_,h⟩:=A2 h;split at h
   .exact o8 h
   .cases h
  .cases h
 .cases h
def uR{P:Program}{m m':Mem}{l:Value}(h:bW P m t l c=some (v,m')):m'.lg=m.lg:=by
 unfold bW at h;split at h
 .split at h
  .obtain⟨_,h⟩:=A2 h;split at h
   .rw[G5]at h;exact o8 h
   .cases h
  .cases h
 .cases h
def QY{P:Program}{m m':Mem}(h:xC P m s t x=some (v,m')):m'.lg=m.lg:=by
 unfold xC at h;split at h
 .cases h;rfl
 .cases h;rfl
 .cases h;rfl
 .split at h
  .split at h
   .rw[G5]at h;exact o8 h
   .cases h
  .cases h
 .split at h<;>cases h;rfl
 .split at h
  .split at h
   .split at h<;>cases h;rfl
   .cases h
  .cases h
 .cases h
def GL{P:Program}{m m':Mem}(h:nO P m t t2 x y=some (v,m')):m'.lg=m.lg:=by
 unfold nO at h;split at h
 .rename_i A d2 _ _;cases q:aJ d2 with
  | false=>rw[q]at h;cases h
  | true =>
  rw[q]at h;simp only[N5,D3]at h;split at h
  .rename_i i a n c _;split at h
   .rename_i k new z _ _;obtain⟨_,h⟩:=A2 h;cases hk:Nat.beq k 0 with
    | true =>
      rw[hk]at h;simp only[D7]at h;split at h
      .obtain⟨_,h⟩:=A2 h;cases h;rfl
      .obtain⟨_,h⟩:=A2 h;cases h;rfl
    | false =>
      rw[hk]at h;simp only[D3]at h;split at h
      .obtain⟨_,h⟩:=A2 h;rw[G5]at h;exact o8 h
      .cases j:Nat.blt c K8 with
       | true =>
         rw[j]at h;simp only[D7]at h;cases f:Nat.ble (n+k) c with
         | true =>
           rw[f]at h;simp only[D7]at h;split at h
           .rename_i m1 _ hw;cases h;exact nU hw
           .cases h
         | false =>
           rw[f]at h;simp only[D3]at h;split at h
           .rw[G5]at h;exact o8 h
           .cases h
       | false =>
         rw[j]at h;simp only[D3]at h;obtain⟨_,h⟩:=A2 h;split at h
         .obtain⟨_,h⟩:=A2 h;rw[G5]at h;rw[o8 h,Z4]
         .cases h
   .cases h
  .cases h
 .cases h
def QV{P:Program}{m m':Mem}(h:DP P m t x y=some (v,m')):m'.lg=m.lg:=by
 unfold DP at h;split at h
 .split at h
  .split at h
   .split at h
    .obtain⟨_,h⟩:=A2 h;cases h;rfl
    .rename_i k cs j _ n;cases f:Nat.beq cs.length 0 with
     | true=>rw[f]at h;cases h;rfl
     | false =>
       rw[f]at h;simp only[D3]at h;obtain⟨_,h⟩:=A2 h;split at h
       .rename_i hw;cases h;exact nU hw
       .cases h
   .cases h
  .cases h
 .cases h
def uF{P:Program}{m m':Mem}{l:Value}(h:bM P m pt p l=some (v,m')):m'.lg=m.lg:=by
 unfold bM at h;split at h
 .cases h;rfl
 .split at h
  .split at h
   .obtain⟨_,h⟩:=A2 h;split at h
    .split at h
     .rename_i U4;cases h;exact aY U4
     .cases h
    .cases h
   .cases h
  .cases h
 .cases h
def DY{P:Program}{m m':Mem}(h:eI P m b vs tys=some (v,m')):m'.lg=m.lg:=by
 unfold eI at h;split at h
 .exact d8 h
 .exact d8 h
 .exact GL h
 .exact QV h
 .exact d8 h
 .exact d8 h
 .unfold eN at h;split at h
  .cases h;rfl
  .rename_i a n c;cases f:Nat.beq n 0 || Nat.beq c 0 || Nat.beq c (K8+2)with
   | true=>rw[f]at h;cases h
   | false=>rw[f]at h;cases h;rfl
  .cases h
 .exact uF h
 .cases h
def ZQ{P:Program}{fr:Fr}{m m':Mem}{o:Op}(h:opM P fr m o=some (v,m')):m'.lg=m.lg:=by
 unfold opM at h;split at h
 .cases h;rfl
 .cases h;rfl
 .unfold HP at h;split at h<;>cases h<;>rfl
 .unfold yT at h;split at h
  .exact o8 h
  .cases h
 .unfold OT at h;obtain⟨_,h⟩:=A2 h;exact o8 h
 .exact d8 h
 .exact tX h
 .unfold HQ at h;split at h
  .exact d8 h
  .cases h
 .unfold yR at h;split at h
  .obtain⟨h,_⟩:=jG h;exact KF h
  .cases h
 .unfold OS at h;split at h<;>cases h<;>rfl
 .unfold UA at h;rename_i op t x y j;cases f:sW op with
  | true=>rw[f]at h;simp only[D7]at h;obtain⟨_,h⟩:=A2 h;exact d8 h
  | false=>rw[f]at h;exact d8 h
 .exact d8 h
 .exact QY h
 .unfold yS at h;split at h
  .split at h
   .cases h
   .obtain⟨_,h⟩:=A2 h;cases h;rfl
  .cases h
 .cases h;rfl
 .exact uR h
 .exact d8 h
 .exact d8 h
 .exact d8 h
 .exact d8 h
 .exact d8 h
 .unfold gX at h;split at h
  .exact d8 h
  .cases h
 .exact DY h
 .cases h
def G2{m m':Mem}{t:Nat}{op:LOp}(h:Q2 m t op xs=some (v,m')):m.lg.le m'.lg:=by
 obtain⟨_,rfl⟩:=eY h;obtain⟨H,n,W,hi,l⟩:=m;exact⟨[_],rfl⟩
def I1(m m':Mem):Prop:=∃ lg,m'=m.wLg lg
def I1.refl(m:Mem):I1 m m:=⟨m.lg,by cases m;rfl⟩
def I1.trans{a b c:Mem}(h:I1 a b)(k:I1 b c):I1 a c:=by
 obtain⟨l,rfl⟩:=h;obtain⟨l2,rfl⟩:=k;exact⟨l2,by cases a;rfl⟩
def F9{m m':Mem}{t:Nat}{op:LOp}(h:Q2 m t op xs=some (v,m')):I1 m m':=⟨_,(eY h).2⟩
section
variable {P:Program} {base:Nat} {ρ:Ren} {m m':Mem} {w:World}
def EL{a b:Value}(h:qK m c a b=some (v,m')):m.lg.le m'.lg/\I1 m m':=by
 obtain⟨H,n,W,hi,lg⟩:=m;unfold qK at h;simp only at h;split at h
 .rename_i j f;cases h;exact⟨cF f,⟨_,rfl⟩⟩
 .rename_i j f;cases h;exact⟨cF f,⟨_,rfl⟩⟩
 .cases h
def KD{a b:Value}(h:kN P m op t a b=some (v,m')):m.lg.le m'.lg/\I1 m m':=by
 unfold kN at h;simp only at h;cases h1:(Nat.blt (F5 a) 8 && Nat.blt (F5 b) 8) || (Nat.beq (F5 a) 9 && Nat.beq (F5 b) 9)with
 | true=>rw[h1]at h;exact⟨G2 h,F9 h⟩
 | false =>
   rw[h1]at h;simp only[D3]at h;obtain⟨_,h⟩:=A2 h;exact⟨G2 h,F9 h⟩
def MY{x y:Operand}{a b:Value}(h:AT P m op t x y a b=some (v,m')):m.lg.le m'.lg/\I1 m m':=by
 unfold AT at h;obtain⟨_,h⟩:=A2 h;split at h
 .exact⟨G2 h,F9 h⟩
 .split at h
  .rename_i m1 h1;exact⟨(G2 h1).trans (G2 h),(F9 h1).trans (F9 h)⟩
  .cases h
 .cases h
def AS{i:Value}(h:Z0 P m t x i=some (v,m')):m.lg.le m'.lg/\I1 m m':=by
 unfold Z0 at h;cases f:!(Nat.blt (F5 i) 8)with
 | true=>rw[f]at h;cases h
 | false =>
   rw[f]at h;simp only[D3]at h;split at h
   .obtain⟨_,h⟩:=A2 h;exact⟨G2 h,F9 h⟩
   .split at h
    .obtain⟨_,h⟩:=A2 h;exact⟨G2 h,F9 h⟩
    .obtain⟨_,h⟩:=A2 h;exact⟨G2 h,F9 h⟩
    .cases h
   .cases h
def AQ(h:gM P m t x lo hi mx=some (v,m')):m.lg.le m'.lg/\I1 m m':=by
 unfold gM at h;split at h
 .obtain⟨_,h⟩:=A2 h;split at h
  .cases h;exact⟨.refl _,.refl _⟩
  .obtain⟨_,h⟩:=A2 h;exact⟨G2 h,F9 h⟩
  .obtain⟨_,h⟩:=A2 h;exact⟨G2 h,F9 h⟩
  .obtain⟨_,h⟩:=A2 h;exact⟨G2 h,F9 h⟩
 .cases h
def MV{op:UnOp}(h:AO m op x=some (v,m')):m.lg.le m'.lg/\I1 m m':=by
 unfold AO at h;simp only at h;split at h
 .obtain⟨_,h⟩:=A2 h;exact⟨G2 h,F9 h⟩
 .obtain⟨_,h⟩:=A2 h;exact⟨G2 h,F9 h⟩
def EP(h:lV P m s t x=some (v,m')):m.lg.le m'.lg/\I1 m m':=by
 unfold lV at h;split at h
 .obtain⟨_,h⟩:=A2 h;exact⟨G2 h,F9 h⟩
 .obtain⟨_,h⟩:=A2 h;cases h;exact⟨.refl _,.refl _⟩
 .cases h
def uN(h:bP P m b vs tys=some (v,m')):m.lg.le m'.lg/\I1 m m':=by
 unfold bP at h;split at h
 .split at h
  .obtain⟨_,h⟩:=A2 h;exact⟨G2 h,F9 h⟩
  .cases h
 .obtain⟨_,h⟩:=A2 h;exact⟨G2 h,F9 h⟩
 .obtain⟨_,h⟩:=A2 h;exact⟨G2 h,F9 h⟩
 .cases h
def II{s n:Nat}{i:Value}(h:LF m a s n i=some (v,m')):m.lg.le m'.lg/\I1 m m':=by
 unfold LF at h;cases q:!(Nat.blt (F5 i) 8)with
 | true=>rw[q]at h;cases h
 | false =>
   rw[q]at h;simp only[D3]at h;split at h
   .rename_i b H k W hi lg j;split at h
    .rename_i f C;cases h;have h1:=G2 j;obtain⟨l1,B⟩:=F9 j;refine⟨h1.trans (cF C),f,?_⟩;obtain⟨H0,n0,D,A,l0⟩:=m;cases B;rfl
    .cases h
   .cases h
def uJ{i:Value}(h:bN P m t x i=some (v,m')):m.lg.le m'.lg/\I1 m m':=by
 unfold bN at h;split at h
 .split at h
  .exact II h
  .cases h
 .split at h
  .generalize f:Nat.beq _ (K8+2)=q at h;cases q with
   | true=>cases h
   | false=>exact II h
  .cases h
 .cases h
def uL(h:bO P m s x i=some (v,m')):m.lg.le m'.lg/\I1 m m':=by
 unfold bO at h;split at h
 .split at h
  .split at h
   .split at h
    .cases h;exact⟨.refl _,.refl _⟩
    .cases h
   .cases h
  .cases h
 .cases h
def cR{cs:D0}{s n:Nat}{i:Value}:∀ {k o:Nat} {m m':Mem} {r:D0},x8 m cs s n i o k=some (r,m')->m.lg.le m'.lg/\I1 m m'
 | 0,o,m,m',r,h=>by cases h;exact⟨.refl _,.refl _⟩
 | k+1,o,m,m',r,h=>by
   unfold x8 at h;split at h
   .obtain⟨_,h⟩:=A2 h;split at h
    .rename_i m1 h1;split at h
     .rename_i f;cases h
      have:=cR f;exact⟨(G2 h1).trans this.1,(F9 h1).trans this.2⟩
     .cases h
    .cases h
   .cases h
def EN(h:lU P m t x=some (v,m')):m.lg.le m'.lg/\I1 m m':=by
 unfold lU at h;split at h
 .split at h
  .split at h
   .split at h
    .rename_i h1;cases h;exact cR h1
    .cases h
   .cases h
  .split at h
   .split at h
    .rename_i h1;cases h;exact cR h1
    .cases h
   .cases h
  .cases h
 .cases h
def GZ{fr:Fr}{o:Op}(h:MW P fr m o=some (v,m')):m.lg.le m'.lg/\I1 m m':=by
 unfold MW at h;split at h
 .exact EL h
 .split at h
  .rename_i r hr;cases h;exact KD hr
  .exact MY h
 .exact MV h
 .exact EP h
 .exact AQ h
 .exact AS h
 .exact uJ h
 .exact uL h
 .exact EN h
 .exact uN h
 .cases h
def mO{j k:IntKind}(h:eC j=eC k):j=k:=by cases j<;>cases k<;>first|rfl|(simp only[eC]at h;omega)
def KC{x y:Operand}{a b:Value}(h:kN P m op t a b=some (v,m'))(F:VR ρ a a')(D:VR ρ b b')(L:Sat m'.lg)(w:World) :
  ∃ r,(do eqGuard op t x y a' b';binOp op t a' b':Sem Value).run P w=.ok r w/\VR ρ v r:=by
 have fin:∀ {r:Value} {p q:Value},rX p=true->rX q=true->nM P op t p q=some r->a'=p->b'=q->(do eqGuard op t x y a' b';binOp op t a' b':Sem Value).run P w=.ok r w:=fun{r p q} hp K hr f C=>by
  subst f;subst C;have v1:VR ρ a' a':=.pure (by cases a'<;>simp[rX]at hp<;>rfl);have v2:VR ρ b' b':=.pure (by cases b'<;>simp[rX]at K<;>rfl);have g:iD P t x y a' b'=true:=by
   cases a'<;>simp[rX]at hp<;>cases b'<;>simp[rX]at K<;>rfl
  have O:=mV (op:=op) (fun _=>g) v1 v2 w;obtain⟨A,_⟩:=qZ hr v1 v2 w;simp[A3,O,A,Result.andThen]
 unfold kN at h;simp only at h;cases h1:(Nat.blt (F5 a) 8 && Nat.blt (F5 b) 8) || (Nat.beq (F5 a) 9 && Nat.beq (F5 b) 9)with
 | true =>
   rw[h1]at h;obtain⟨u,f,C,r,B,G,N⟩:=K2 h L;have J:F3 u<10:=by rw[C];exact N
   refine⟨r,?_,G ρ⟩;rcases F7 _ _▸h1 with h1|h1
   .obtain⟨p1,E⟩:=B3 h1;obtain⟨k,n,rfl,f1,_⟩:=K4 F (A1 p1);obtain⟨j,Q,rfl,f2,_⟩:=K4 D (A1 E);simp only[B8,E3,f1,f2,evU,evB]at f;subst f;obtain⟨M,g1,g2⟩:=yQ J;rw[B]at g2;cases g2;exact fin rfl rfl (by unfold nM;exact g1) rfl rfl
   .obtain⟨p1,E⟩:=B3 h1;obtain⟨s1,rfl,f1⟩:=Z9 F (A0 p1);obtain⟨s2,rfl,f2⟩:=Z9 D (A0 E);simp only[B8,E3,f1,f2,evU,evB]at f;subst f;obtain⟨M,g1,g2⟩:=yQ J;rw[B]at g2;cases g2;exact fin rfl rfl (by unfold nM;exact g1) rfl rfl
 | false =>
   rw[h1]at h;simp only[D3]at h;obtain⟨A,h⟩:=A2 h;obtain⟨A,H⟩:=B3 A;obtain⟨A,I⟩:=B3 A;obtain⟨A,h3⟩:=B3 A;have hu:P.underlying t=some .bool:=by
    split at H
    .assumption
    .cases H
   obtain⟨u,f,C,r,B,G,_⟩:=K2 h L;refine⟨r,?_,G ρ⟩;obtain⟨p,rfl,f1⟩:=dR F (A0 A);obtain⟨q,rfl,f2⟩:=dR D (A0 h3);simp only[B8,E3,f1,f2,evU,evB]at f;cases op<;>simp only[sW]at I<;>first
    | cases I
    | skip
   .subst f;cases B;exact fin rfl rfl (by simp[nM,vW,eqM,hu]) rfl rfl
   .subst f;cases B;exact fin rfl rfl (by simp[nM,vW,eqM,hu]) rfl rfl
def qB(e:Bool)(f:∃ cs,a'=.agg cs):binOp (bif e then .eql else .neq) t a' b'=(do let r <- Op.equal t a' b';pure (.bool (bif e then r else !r))):=by
 obtain⟨cs,rfl⟩:=f;cases e<;>cases b'<;>rfl
def MX{x y:Operand}{a b:Value}(h:AT P m op t x y a b=some (v,m'))(D:VR ρ a a')(J:VR ρ b b')(j:kN P m op t a b=none)(L:Sat m'.lg)(w:World) :
  ∃ r,(do eqGuard op t x y a' b';binOp op t a' b':Sem Value).run P w=.ok r w/\VR ρ v r:=by
 unfold AT at h;obtain⟨R,h⟩:=A2 h;have C:=mV (op:=op) (fun _=>R) D J w;have q:∀ {l},eqS P 20 t a b=some l->(op=.eql∨op=.neq)->∃ cs,a'=.agg cs:=fun{l} f G=>by
  unfold eqS at f;cases B:cA P t a b with
  | true =>
    unfold cA at B;unfold kN at j;simp only at j;split at B
    .rename_i hu;obtain⟨q1,q2⟩:=B3 B;rw[A0 q1,A0 q2,hu]at j;obtain⟨H,n,W,hi,⟨nx,pi,log⟩⟩:=m;rcases G with rfl|rfl<;>simp[sW,Q2,E1,G5]at j
    .rename_i k hu;obtain⟨q1,q2⟩:=B3 B;have q3:=J8 k;have q4:Nat.blt (eC k) 8=true:=C4 q3;rw[A0 q1,A0 q2,q4]at j;obtain⟨H,n,W,hi,⟨nx,pi,log⟩⟩:=m;simp[Q2,E1,G5]at j
    .obtain⟨q1,q2⟩:=B3 B;rw[A0 q1,A0 q2]at j;obtain⟨H,n,W,hi,⟨nx,pi,log⟩⟩:=m;simp[Q2,E1,G5]at j
    .cases B
  | false =>
    rw[B]at f;simp only[D3]at f;split at f
    .obtain⟨cs',rfl,_⟩:=R9 D;exact⟨_,rfl⟩
    .obtain⟨cs',rfl,_⟩:=R9 D;exact⟨_,rfl⟩
    .cases f
 split at h
 .rename_i l f _;obtain⟨u,A,Q,r,F,N,_⟩:=K2 h L;refine⟨r,?_,N ρ⟩;simp only[evU]at A;split at A
  .rename_i z I;subst A;cases F;have he:(Op.equal t a' b').run P w=.ok z w:=GC 20 t a b a' b' l z f I D J _ L7 w;have E:=qB (t:=t) (b':=b') true (q f (.inl rfl));simp only[D7]at E;rw[E];simp[A3,C,he,Result.andThen]
  .subst A;cases F
 .rename_i l f _;split at h
  .rename_i hh m1 h1;have K:Sat m1.lg:=M4.le L (G2 h);obtain⟨S,f1,f2,r1,f3,f4,_⟩:=K2 h1 K;obtain⟨u,A,Q,r,F,N,_⟩:=K2 h L;refine⟨r,?_,N ρ⟩;simp only[evU]at f1;split at f1
   .rename_i z I;subst f1;cases f3;have O:=l9 (ρ:=ρ) (f4 ρ) (by obtain⟨e,_⟩:=eY h1;rw[e];show 8<10;omega);have:D4 Ora.env hh=.bool z:=by
     cases hu:D4 Ora.env hh<;>rw[hu]at O<;>first|(cases O.1;done)|skip
     all_goals (obtain⟨M,_⟩:=O;cases M;rfl)
    simp only[B8,E3,this,evU,ev1,unM,ofV]at A;subst A;cases F;have he:(Op.equal t a' b').run P w=.ok z w:=GC 20 t a b a' b' l z f I D J _ L7 w;have E:=qB (t:=t) (b':=b') false (q f (.inr rfl));simp only[D3]at E;rw[E];simp[A3,C,he,Result.andThen]
   .subst f1;cases f3
  .cases h
 .cases h
end
end
end Go.Sx
