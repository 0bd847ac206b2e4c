import Derived.Test.YtbbicpheoakeeaaGreatDoorX1
import Derived.Laws.BytesString
set_option linter.all false
set_option maxRecDepth 100000
set_option maxHeartbeats 4000000
namespace Go.Sx
variable {e pt s t t2 ty:TypeId}{k:Nat->Value}{a' b' c c' p p' u v v' x x' y y' z:Value}{new new' old' vs vs' xs:C9}{d d2:TypeDesc}{a:Addr}{inf:TypeInfo}{ab':AB}{l l':Loc}{r:U8}{i:Nat}{op:BinOp}{tys:List TypeId}{b:Builtin}{hi lo mx o:P4}{g:Operand->Value}
section
open Go
variable [Ora]
def KN(a b:Nat)(h:b<a):Builtin.nextslicecap a b<=3*a+4000:=by
 have grow:∀ r c,Builtin.growBy a r c<=max (c) (2*a+800):=by
  intro r;induction r with
  | zero=>intro c;simp only[Builtin.growBy];exact Nat.le_max_left _ _
  | succ r f =>
    intro c;simp only[Builtin.growBy];split
    .exact Nat.le_max_left _ _
    .have:=f (c+(c+768) / 4);refine B9 this ?_;rw[Nat.max_le];constructor
     .refine B9 ?_ (Nat.le_max_right _ _);omega
     .exact Nat.le_max_right _ _
 unfold Builtin.nextslicecap;split
 .omega
 .split
  .omega
  .have:=grow 4 b;refine B9 this ?_;rw[Nat.max_le];omega
section
variable {P:Program} {base:Nat} {ρ:Ren} {m m':Mem} {w:World}
def aF{w wd:World}(h:wd.heap=w.heap)(a:Addr):wd.cell? a=w.cell? a:=by simp[World.cell?,h]
def uA(ρ:Ren):∀ l:List UInt8,LR ρ (O4 l) (O4 l)
 | []=>.nil
 | b::r=>.cons (.pure rfl) (uA ρ r)
def sO{s k:Nat}(h:HR P base ρ m.H w)(f:dH m s y=some (k,new))(B:VR ρ y y') :
  (∀ wd,(Builtin.lenOf y').run P wd=.ok k wd)/\∃ new',LR ρ new new'/\∀ wd:World,wd.heap=w.heap->(Builtin.firstCells s k y').run P wd=.ok ⟨new'⟩ wd:=by
 unfold dH at f;split at f
 .rename_i n c;obtain⟨h1,q⟩:=A3 f;have h1:=A0 h1;subst h1;cases q;cases O5 B;exact⟨fun _=>rfl,[],.nil,fun _ _=>rfl⟩
 .rename_i a n c;split at f
  .rename_i cs hr;cases f;rcases O2 B with⟨l,A,_,_,rfl⟩|⟨l,c',A,_,_,_,_,rfl⟩|⟨a',c',_,rfl,_,rfl⟩
   .obtain⟨C,h1,q,h3⟩:=Y6 h hr A;exact⟨fun _=>rfl,C,h1,fun wd hw=>J3 q fun j v D=>by rw[aF hw];exact h3 j v D⟩
   .obtain⟨C,h1,q,h3⟩:=Y6 h hr A;exact⟨fun _=>rfl,C,h1,fun wd hw=>J3 q fun j v D=>by rw[aF hw];exact h3 j v D⟩
   .have:new=[]:=by
     unfold l5 at hr;split at hr
     .have:=(gV hr).2;simp at this;exact this
     .cases hr
    subst this;refine⟨fun _=>rfl,[],.nil,fun wd _=>?_⟩;simp[Builtin.firstCells,loadCells,loadCellsFrom]
  .cases f
 .rename_i b;obtain⟨_,f⟩:=A3 f;cases f;cases T7 B;refine⟨fun _=>rfl,O4 b.data.toList,?_,fun wd _=>?_⟩
  .exact uA _ _
  .have e:((b.extract 0 b.size).data.map fun b=>Value.int .u8 b.toNat)=⟨O4 b.data.toList⟩:=by
    apply I2;simp[O4]
   show(pure ((b.extract 0 b.size).data.map fun b=>Value.int .u8 b.toNat):Sem U8).run P wd=_;rw[e];rfl
 .cases f
def A4D(h:bV d=true):(∃ e,d=.slice e)∨d=.string:=by cases d<;>first|cases h;done|exact .inl ⟨_,rfl⟩|exact .inr rfl
def fI{n k c:Nat}{a:Option Addr}(hu:P.underlying t=some (.slice e))(C:P.underlying t2=some d2)(D:bV d2=true)
  (hi:P.info? e=some inf) (I:∀ w,(zeroValue e).run P w=.ok z w) (hlen:∀ wd,(Builtin.lenOf x').run P wd=.ok k wd)
  (hold:∀ wd:World,wd.heap=w.heap->(Builtin.firstCells inf.size n (.slice a n c)).run P wd=.ok ⟨old'⟩ wd) (f:∀ wd:World,wd.heap=w.heap->(Builtin.firstCells inf.size k x').run P wd=.ok ⟨new'⟩ wd)
  (E:¬ n+k<=c) (J:(3*(n+k)+4000)*inf.bytes<=281474976710656) (hm:n+k<=1000000000) :
  ∃ nc,n+k<=nc/\(Builtin.append_ #[t,t2] ty #[.slice a n c,x']).run P w=.ok (.slice (some ⟨w.heap.size,0,none⟩) (n+k) nc) { w.drew with heap:=w.heap.push (.cells (⟨old'⟩++⟨new'⟩++Builtin.zeroCells z.cells (nc-(n+k))) e (0,0)) }:=by
 have H:G3 P e=some inf.size:=by simp[G3,hi]
 have h:Builtin.nextslicecap (n+k) c*inf.bytes<=281474976710656:=by
  have:=F1 inf.bytes (KN (n+k) c A2);omega
 let q:Question:=.appendCap (n+k) c e
 let nc:=q.cut (w.tape w.drawn q)
 have F:n+k<=nc:=by show n+k<=(n+k)+_;omega
 refine⟨nc,F,?_⟩;have B:(choose q).run P w=.ok nc w.drew:=by
  simp only[choose,Sem.run];rw[A8 (by simp[q,Question.forced])];rfl
 have A:∀ k w,(askRoom k).run P w=.ok () w:=fun k w=>by unfold askRoom;split<;>rfl
 unfold Builtin.append_;rcases A4D D with⟨K,rfl⟩|rfl
 all_goals simp only[I0,P9,Q0,A4,C8 hu,C8 C,Result.andThen,J8 H,Sem.run_pure,I6,if_false,hlen]
 all_goals
  have j:¬ (((n+k:Nat):Int)>IntKind.i64.max):=by simp[IntKind.max,IntKind.bits,IntKind.signed];omega
  simp only[A8 E,j,false_and,if_false,A4,Result.andThen,U1 hi];rw[A8 (show ¬ (Builtin.nextslicecap (n+k) c*inf.bytes>2 ^ 48) by simpa using h)];have G:w.drew.heap=w.heap:=rfl;simp only[A4,Sem.run_pure,Result.andThen,show(choose (.appendCap (n+k) c e)).run P w=.ok nc w.drew from B,A,hold _ G,f _ G,I,U1 hi,Bool.not_false,if_true];rfl
def lG{n k c:Nat}{w':World}(hu:P.underlying t=some (.slice e))(q:P.underlying t2=some d2)(h:bV d2=true)
  (hi:P.info? e=some inf) (hlen:∀ wd,(Builtin.lenOf x').run P wd=.ok k wd) (f:(Builtin.firstCells inf.size k x').run P w=.ok ⟨new'⟩ w)
  (hle:n+k<=c) (j:(storeCells (a.add (n*inf.size)) new').run P w=.ok () w') :
  (Builtin.append_ #[t,t2] ty #[.slice (some a) n c,x']).run P w=.ok (.slice (some a) (n+k) c) w':=by
 have A:G3 P e=some inf.size:=by simp[G3,hi]
 unfold Builtin.append_;rcases A4D h with⟨B,rfl⟩|rfl
 all_goals simp only[I0,P9,Q0,A4,C8 hu,C8 q,Result.andThen,J8 A,Sem.run_pure,I6,if_false,hlen]
 all_goals simp[A9 hle,A4,f,Result.andThen,j]
def sC(hu:P.underlying t=some (.slice e))(j:P.underlying t2=some d2)(n:bV d2=true)
  (hi:P.info? e=some inf) (hlen:∀ wd,(Builtin.lenOf x').run P wd=.ok 0 wd) (f:(Builtin.firstCells inf.size 0 x').run P w=.ok #[] w) :
  (Builtin.append_ #[t,t2] ty #[.slice none 0 0,x']).run P w=.ok (.slice none 0 0) w:=by
 have q:G3 P e=some inf.size:=by simp[G3,hi]
 unfold Builtin.append_;rcases A4D n with⟨h,rfl⟩|rfl
 all_goals simp only[I0,P9,Q0,A4,C8 hu,C8 j,Result.andThen,J8 q,Sem.run_pure,I6,if_false,hlen]
 all_goals simp[A4,f,Result.andThen]
def St.kill{ab:AB}{id:Nat}(h:HR P base ρ m.H w)(hle:id<=G9)(I:Hp.get m.H id=some ab)(B:ab.rw=true):St P base ρ ρ m (iH m id) w w:=by
 rw[Z9];refine⟨fun _ _ h=>h,fun b k h1 A=>(by rw[h1]at A;cases A),A6 _,A6 _,fun h=>h,h.sub fun n f a j=>?_,fun b J=>C3 _ J,fun b h1 A k C=>?_,fun k C F=>rfl,A6 _,⟨rfl,rfl,rfl⟩,fun b k h1 A=>(by rw[h1]at A;cases A),fun n f G K=>?_,fun k ⟨n,a,q,f,j,E,D⟩=>.inr ⟨n,a,q,f,?_,E,D⟩⟩
 .rw[E5 _ _ _ _ hle f]at j;by_cases e:n=id
  .rw[A9 e]at j;cases j
  .rw[A8 e]at j;exact j
 .rcases B4.1 h1 with rfl|h1
  .exact⟨ab,I,B⟩
  .exact absurd h1 A
 .rw[E5 _ _ _ _ hle f,A8];intro e;subst e;exact G B1
 .have j:Hp.get (m.H.set id none) n=some a:=j;rw[E5 _ _ _ _ hle f]at j;by_cases e:n=id
  .rw[A9 e]at j;cases j
  .rw[A8 e]at j;exact j
def St.grow{ab:AB}{id:Nat}{w':World}(h:HR P base ρ m.H w)(hle:id<=G9)(hg:Hp.get m.H id=some ab)(F:ab.rw=true)(T:ρ id=some l)(E:l.on=true)
  (hn:Y1 (iH m id) ab' k=some (v,m')) (hf:J2 ρ m.n m'.hi)
  (ho:w'.os=w.os/\w'.tape=w.tape/\w'.output=w.output) (Z:w'.heap.size=w.heap.size) (X:∀ k,k≠l.blk->w'.heap[k]? = w.heap[k]?) (hb:BR P (upd ρ m.n l) ab' l w') (ay:ab'≠.frz:=by intro h;cases h) :
  v=k m.n/\St P base ρ (upd ρ m.n l) m m' w w':=by
 rw[Z9]at hn;obtain⟨R,hv,rfl⟩:=K6 hn;have B:ρ m.n=none:=hf m.n (A6 _) (J9 _ _).2;have C:=V4 (l:=l) B;obtain⟨O,h3⟩:=h.atl T hg;have U:∀ k,Tc ab' l k->k=l.blk:=fun k X=>by
  rcases X with⟨_,_,rfl⟩|⟨rfl,_⟩
  .rfl
  .exact absurd rfl ay
 have ax:id≠m.n:=fun e=>by subst e;rw[T]at B;cases B
 have A:∀ i,i<=G9->Hp.get ((m.H.set id none).set m.n (some ab')) i=if i=m.n then some ab' else if i=id then none else Hp.get m.H i:=fun i hi=>by
  rw[E5 _ _ _ _ R hi,E5 _ _ _ _ hle hi]
 refine⟨hv,C,fun b q h1 O=>?_,Y3 _,(J9 _ _).1,fun _=>X5 (J9 _ _).2,⟨fun b q D=>?_,fun i hi a f=>?_⟩,fun b hb=>C3 _ hb,fun b h1 O q D=>?_,fun q D Y=>X q ?_,by rw[Z];exact A6 _,ho,fun b q h1 O _=>?_,fun i hi h4 S=>?_,fun k ⟨i,a,q,hi,f,D,ht⟩=>.inr ?_⟩
 .obtain⟨rfl,rfl⟩:=T5 h1 O;exact⟨A6 _,I3 _⟩
 .cases h0:ρ b with
  | some q0 =>
    rw[C b q0 h0]at D
    have:=A7 D;subst this;exact h.dom b q0 h0
  | none=>obtain⟨rfl,rfl⟩:=T5 D h0;exact R
 .have f:Hp.get ((m.H.set id none).set m.n (some ab')) i=some a:=f;rw[A i hi]at f;have W:∀ j,j<=G9->∀ J l2,Hp.get ((m.H.set id none).set m.n (some ab')) j=some J->upd ρ m.n l j=some l2->Tc J l2 l.blk->j=m.n:=fun j K J l2 g1 g2 g3=>by
   rw[A j K]at g1;by_cases e2:j=m.n
   .exact e2
   .rw[A8 e2]at g1;unfold upd at g2;rw[A8 e2]at g2;by_cases I:j=id
    .rw[A9 I]at g1;cases g1
    .rw[A8 I]at g1;exact absurd ((h3 F E).2 j K J l2 g1 g2 g3) I
  by_cases e:i=m.n
  .rw[A9 e]at f;have f:=A7 f;subst f;subst e;exact⟨l,K8 _ _ _,hb,fun _ _=>⟨(h3 F E).1,W⟩⟩
  .rw[A8 e]at f;by_cases I:i=id
   .rw[A9 I]at f;cases f
   .rw[A8 I]at f;obtain⟨l2,g1,g2,g3⟩:=h.at_ i hi a f;have V:∀ k,Tc a l2 k->k≠l.blk:=fun k N hh=>I ((h3 F E).2 i hi a l2 f g1 (hh▸N))
    refine⟨l2,C _ _ g1,g2.mono C (fun k N=>X _ (V k N)),fun hr M=>⟨(g3 hr M).1,fun G L Q l3 f1 f2 f3=>?_⟩⟩;have f1:Hp.get ((m.H.set id none).set m.n (some ab')) G=some Q:=f1;rw[A G L]at f1;by_cases e4:G=m.n
    .subst e4;rw[K8]at f2
     have:=A7 f2;subst this;rw[A9 rfl]at f1;have f1:=A7 f1;subst f1;exact absurd (U _ f3) (V _ (.inl ⟨AB.rw_on hr,M,rfl⟩))
    .rw[A8 e4]at f1;unfold upd at f2;rw[A8 e4]at f2;by_cases e5:G=id
     .rw[A9 e5]at f1;cases f1
     .rw[A8 e5]at f1;exact(g3 hr M).2 G L Q l3 f1 f2 f3
 .rcases B4.1 h1 with rfl|h1
  .exact⟨ab,hg,F⟩
  .exact absurd h1 O
 .exact fun e=>Y id B1 l T E e.symm
 .obtain⟨rfl,rfl⟩:=T5 h1 O;exact .inr ⟨id,B1,q,T,E,rfl⟩
 .have az:=A i hi;show Hp.get ((m.H.set id none).set m.n (some ab')) i=_;rw[az,A8,A8]
  .intro e;subst e;exact h4 B1
  .intro e;subst e;rcases S with S|S
   .omega
   .have S:upN m.hi m.n<=m.n:=S
    have:=(J9 m.hi m.n).2;omega
 .have f:Hp.get ((m.H.set id none).set m.n (some ab')) i=some a:=f;rw[A i hi]at f;by_cases e:i=m.n
  .rw[A9 e]at f;have f:=A7 f;subst f;subst e;rw[K8]at D;have D:=A7 D;subst D;exact⟨id,ab,l,hle,hg,T,AB.rw_fr F,.inl ⟨AB.rw_on F,E,(U k ht.2).symm⟩⟩
  .rw[A8 e]at f;unfold upd at D;rw[A8 e]at D;by_cases I:i=id
   .rw[A9 I]at f;cases f
   .rw[A8 I]at f;exact⟨i,a,q,hi,f,D,ht⟩
def CG{s k:Nat}(h:HR P base ρ m.H w)(f:dH m s y=some (k,new))(n:z.cells.size=s):new.length=k*s:=by
 unfold dH at f;split at f
 .obtain⟨_,q⟩:=A3 f;cases q;simp
 .split at f
  .rename_i cs hr;cases f;unfold l5 at hr;split at hr
   .exact(gV hr).2
   .cases hr
  .cases f
 .rename_i b;obtain⟨j,f⟩:=A3 f;have j:=A0 j;subst j;cases f;simp[O4]
 .cases f
def HL(h:new'[i]? = some u):(({ toList:=[] }:Array Value)++⟨new'⟩++r)[i]? = some u:=by
 have f:=(B0.1 h).1;rw[S0 (by simp;exact f)]
 simpa using h
def cT(h:(old'++new')[i]? = some u):(({ toList:=old' }:Array Value)++⟨new'⟩++r)[i]? = some u:=by
 have f:=(B0.1 h).1;rw[S0 (by simpa using f)]
 simpa using h
def cS{s k n nc:Nat}(h1:new'.length=k*s)(j:n+k<=nc)(f:z.cells.size=s)(q:old'.length=n*s) :
  nc*s<=(({ toList:=old' }:Array Value)++⟨new'⟩++Builtin.zeroCells z.cells (nc-(n+k))).size:=by
 simp[Builtin.zeroCells,q,h1,f];rw[<- G8,<- G8];exact F1 _ A2
def MA(h:HR P base ρ m.H w)(hb:base<=w.heap.size)(f:qF P m t t2 x y=some (v,m'))(hf:J2 ρ m.n m'.hi)(hx:VR ρ x x')(hy:VR ρ y y') :
  VOk P base ρ m w (Builtin.append_ #[t,t2] ty #[x',y']) v m':=by
 unfold qF at f;split at f
 .rename_i e d2 hu I;cases D:bV d2 with
  | false=>rw[D]at f;cases f
  | true =>
  rw[D]at f;simp only[P1,D4]at f;split at f
  .rename_i inf a n c hi;split at f
   .rename_i k new z V hz;obtain⟨g1,f⟩:=A3 f;obtain⟨g1,g4⟩:=B3 g1;obtain⟨g1,g3⟩:=B3 g1;obtain⟨g1,g2⟩:=B3 g1;have g1:=A1 g1;have g2:=A1 g2;have g3:=A0 g3;obtain⟨hlen,new',F,G⟩:=sO h V hy;have Z:∀ w,(zeroValue e).run P w=.ok z w:=fun w=>o9 hz w
    have Q:new'.length=k*inf.size:=by rw[<- F.1];exact CG h V g3
    have au:M1=9223372036854775808:=rfl;cases hk:Nat.beq k 0 with
    | true =>
      have hk:=A0 hk;subst hk;have av:Nat.beq 0 0=true:=rfl;simp only[av,D8]at f;have ar:new'=[]:=F6.1 (by rw[Q];simp);subst ar;cases a with
      | none =>
        simp only at f;obtain⟨E,f⟩:=A3 f;obtain⟨E,J⟩:=B3 E;have E:=A0 E;have J:=A0 J;subst E;subst J;cases f;cases O5 hx;exact VOk.same h (sC hu I D hi hlen (G w rfl)) (.pure rfl)
      | some S =>
        simp only at f;obtain⟨E,f⟩:=A3 f;obtain⟨E,J⟩:=B3 E;have E:=A1 E;have J:=A1 J;cases f;rcases O2 hx with⟨l,U,O,hc,rfl⟩|⟨l,c',U,O,hc,hn,B,rfl⟩|⟨a',c',_,_,he,_⟩
        .exact VOk.same h (lG hu I D hi hlen (G w rfl) A2 rfl) (by simpa using hx)
        .exact VOk.same h (lG hu I D hi hlen (G w rfl) A2 rfl) (by simpa using hx)
        .omega
    | false =>
      have af:k≠0:=fun e=>by subst e;cases hk
      simp only[hk,D4]at f;cases a with
      | none =>
        simp only at f;obtain⟨E,f⟩:=A3 f;obtain⟨E,J⟩:=B3 E;have E:=A0 E;have J:=A0 J;subst E;subst J;rw[H4]at f;cases O5 hx;obtain⟨nc,L,hr⟩:=fI (ty:=ty) (c:=0) (a:=none) (old':=[]) hu I D hi Z hlen (fun _ _=>rfl) G A2 g1 g2;have an:∀ A,P.info? e=some A->nc*A.size<=(({ toList:=[] }:Array Value)++⟨new'⟩++Builtin.zeroCells z.cells (nc-(0+k))).size:=fun A M=>by
         rw[hi]at M;cases M;exact cS Q L g3 (by simp)
        obtain⟨W,e2,X⟩:=cQ (wd:=w.drew) (fz:=(0,0)) (cap:=nc) h hb f hf F (fun i u hi=>by
         show(({ toList:=[] }:Array Value)++⟨new'⟩++Builtin.zeroCells z.cells (nc-(0+k)))[i]? = some u;exact HL hi) NF.zero an ⟨rfl,rfl,rfl⟩ rfl
        refine⟨_,_,_,hr,?_,X⟩;rw[W,E8]
        have:=VR.op (ρ:=upd ρ m.n (lc w.heap.size 0 nc)) (b:=m.n) (o:=0) (n:=k) (m:=M1) (m':=nc) e2 (A6 _) A2 (fun _ _=>rfl)
        simpa using this
      | some S =>
        simp only at f;cases Y:Nat.blt c M1 with
        | true =>
          have aj:c<M1:=A1 Y;simp only[Y,D8]at f;rcases O2 hx with⟨l,U,O,hc,rfl⟩|⟨l,c',U,O,hc,hn,B,rfl⟩|⟨a',c',_,_,he,_⟩
          .cases q:Nat.ble (n+k) c with
           | true =>
             have N:=A1 q;simp only[q,D8]at f;split at f
             .rename_i m2 hw;cases f;rw[cJ]at hw;obtain⟨w',h1,M⟩:=nN h hw U F;refine⟨_,ρ,w',lG hu I D hi hlen (G w rfl) N ?_,?_,M⟩
              .rw[W4,show S.off+l.sh+n*inf.size=S.off+n*inf.size+l.sh by omega];exact h1
              .obtain⟨ab,ao,ai⟩:=S;simp only at O;subst O;exact .sl U hc
             .cases f
           | false =>
             have N:¬ n+k<=c:=fun hle=>by rw[show Nat.ble (n+k) c=true from C5 hle]at q;cases q
             simp only[q,D4]at f;split at f
             .rename_i old hold;rw[H4]at f;obtain⟨old',o1,o2,o3⟩:=Y6 h hold U;have K:∀ wd:World,wd.heap=w.heap->(Builtin.firstCells inf.size n (.slice (some ⟨l.blk,S.off+l.sh,none⟩) n c)).run P wd=.ok ⟨old'⟩ wd:=fun wd hw=>J3 o2 fun j u hj=>by rw[aF hw];exact o3 j u hj
              obtain⟨nc,L,hr⟩:=fI (ty:=ty) hu I D hi Z hlen K G N g1 g2;obtain⟨W,e2,X⟩:=cQ (wd:=w.drew) (fz:=(0,0)) (cap:=nc) (C:=⟨old'⟩++⟨new'⟩++Builtin.zeroCells z.cells (nc-(n+k))) h hb f hf (o1.append F) (fun i u hi=>cT hi) NF.zero
               (fun A M=>by rw[hi]at M;cases M;exact cS Q L g3 o2) ⟨rfl,rfl,rfl⟩ rfl
              refine⟨_,_,_,hr,?_,X⟩;rw[W]
              have:=VR.op (ρ:=upd ρ m.n (lc w.heap.size 0 nc)) (b:=m.n) (o:=0) (n:=n+k) (m:=M1) (m':=nc) e2 (A6 _) L (fun _ _=>rfl)
              simpa using this
             .cases f
          .omega
          .omega
        | false =>
          simp only[Y,D4]at f;obtain⟨q0,az⟩:=A3 f;clear f;have f:=az;clear az;obtain⟨E,J⟩:=B3 q0;replace E:=A0 E;replace J:=A0 J;clear q0;split at f
          .rename_i cs T O hg;obtain⟨p1,f⟩:=A3 f;rw[G4,G4,G4]at p1;obtain⟨⟨⟨p1,p2⟩,p3⟩,p4⟩:=p1;have p1:=A0 p1;have p2:=A0 p2;have p3:=A1 p3;have p4:S.block<m.n:=A1 p4;subst p2;rw[H4]at f;rcases O2 hx with⟨_,_,_,hc,_⟩|⟨l,c',U,_,_,hn,B,rfl⟩|⟨a',c',_,_,he,_⟩
           .omega
           .have B:=B E J;obtain⟨⟨ax,C,fz,T',z2,z3,z4⟩,z5⟩:=h.atl U hg;obtain⟨rfl,z6,z7⟩:=z4 rfl;have z8:=(z7 inf hi).2;have z7:=(z7 inf hi).1;by_cases q:n+k<=c'
            ·
             have ay:(n+k)*inf.size<=c'*inf.size:=F1 _ q;rw[G8]at ay;obtain⟨w',r1,r2,r3,r4,r5⟩:=X9 (P:=P) (b:=l.blk) (o:=n*inf.size+l.sh) (fz:=fz) new' 0 C w z2 (DB F g4) (by rw[Q];subst B;omega) z6;obtain⟨W,X⟩:=St.grow (w':=w') (l:=l) h p3 hg rfl U ax f hf r2 r3 r5 (by
              have R:ρ m.n=none:=by
               rw[Z9]at f;obtain⟨_,_,rfl⟩:=K6 f;exact hf m.n (A6 _) (J9 _ _).2
              refine⟨ax,_,fz,_,r4,fun i u hi=>?_,fun _=>⟨rfl,z6.sz (by simp[Y0]),fun A M=>⟨by simpa [Y0]using(by rw[hi]at M;cases M;exact z7:l.sh+l.cap*A.size<=C.size),by rw[hi]at M;cases M;exact z8⟩⟩⟩;show ∃ u',(Array.mk (bD C.toList (n*inf.size+l.sh+0) new'))[l.sh+i]? = some u'/\_;have ah:C.toList.length=C.size:=by simp
              rw[I0,jM _ _ _ _ (by rw[Q];subst B;omega)];by_cases al:i<cs.length
              .rw[E6 al]at hi;rw[A8 A2];obtain⟨u',y1,y2⟩:=z3 i u hi;exact⟨u',by simpa using y1,y2.mono (V4 R)⟩
              .rw[D7 A2]at hi;have ag:=(B0.1 hi).1;have ak:=F.1;rw[A9 A2];obtain⟨u',y1,y2⟩:=F.get hi;exact⟨u',by rw[show l.sh+i-(n*inf.size+l.sh+0)=i-cs.length by omega];exact y1,y2.mono (V4 R)⟩)
             refine⟨_,_,w',lG (ty:=ty) hu I D hi hlen (G w rfl) q ?_,?_,X⟩
             .rw[W4,J,show 0+l.sh+n*inf.size=n*inf.size+l.sh by omega];exact r1
             .rw[W,J];exact .op (K8 _ _ _) (A6 _) q (fun _ _=>B)
            ·
             have aw:=St.kill h p3 hg rfl;have aq:J2 ρ (iH m S.block).n m'.hi:=by rw[Z9];exact hf
             obtain⟨old',o1,o2⟩:=cP (ρ:=ρ) (C:=C) (cs:=cs) (s:=l.sh) z3;have oL:old'.length=n*inf.size:=by rw[<- o1.1];exact p1
             have K:∀ wd:World,wd.heap=w.heap->(Builtin.firstCells inf.size n (.slice (some ⟨l.blk,S.off+l.sh,none⟩) n c')).run P wd=.ok ⟨old'⟩ wd:=fun wd hw=>J3 oL fun j u hj=>by
              rw[aF hw,J]
              have:=o2 j u hj;simp[World.cell?,z2,this]
             obtain⟨nc,L,hr⟩:=fI (ty:=ty) hu I D hi Z hlen K G q g1 g2;obtain⟨W,e2,X⟩:=cQ (wd:=w.drew) (fz:=(0,0)) (cap:=nc) (C:=⟨old'⟩++⟨new'⟩++Builtin.zeroCells z.cells (nc-(n+k))) aw.hr hb f aq (o1.append F) (fun i u hi=>cT hi) NF.zero
              (fun A M=>by rw[hi]at M;cases M;exact cS Q L g3 oL) ⟨rfl,rfl,rfl⟩ rfl
             refine⟨_,_,_,hr,?_,St.trans hf aw X⟩;rw[W]
             have:=VR.op (ρ:=upd ρ (iH m S.block).n (lc w.heap.size 0 nc)) (b:=(iH m S.block).n) (o:=0) (n:=n+k) (m:=M1) (m':=nc) e2 (A6 _) L (fun _ _=>rfl)
             simpa using this
           .omega
          .cases f
   .cases f
  .cases f
 .cases f
end
end
section
open Go
variable [Ora]
section
variable {P:Program} {base:Nat} {ρ:Ren} {m m':Mem} {w:World}
def JH{op:UnOp}(h:unM op x=some v)(hx:VR ρ x x')(w:World):(Op.unary op x').run P w=.ok v w/\H9 v=true:=by
 unfold unM at h;split at h
 .cases I4 hx;cases h;exact⟨by simp[Op.unary,Op.intArith,bT],by simp[bT,H9]⟩
 .cases I4 hx;obtain⟨h1,f⟩:=s9 (P:=P) h w;exact⟨by simpa [Op.unary]using h1,f⟩
 .cases bG hx;cases h;exact⟨rfl,rfl⟩
 .cases h
def A13(f:A5Q P t x=some v)(hx:VR ρ x x')(w:World):(Builtin.cap_ ⟨t::tys⟩ ty #[x']).run P w=.ok v w/\H9 v=true:=by
 unfold A5Q at f;split at f
 .rename_i hu;cases O5 hx;cases f;exact⟨by simp[Builtin.cap_,A4,C8 hu,Result.andThen,goInt],rfl⟩
 .rename_i hu;obtain⟨j,f⟩:=A3 f;have j:_<M1:=A1 j;cases f;rcases O2 hx with⟨l,_,_,_,rfl⟩|⟨l,c',_,_,_,_,_,rfl⟩|⟨a',c',_,_,he,_⟩
  .exact⟨by simp[Builtin.cap_,A4,C8 hu,Result.andThen,goInt],rfl⟩
  .omega
  .omega
 .cases f
def OC(h:HR P base ρ m.H w)(f:WQ P m t x=some v)(hx:VR ρ x x'):(Builtin.len_ ⟨t::tys⟩ ty #[x']).run P w=.ok v w/\H9 v=true:=by
 unfold WQ at f;split at f
 .rename_i hu;cases T7 hx;cases f;refine⟨?_,rfl⟩;simp[Builtin.len_,A4,C8 hu,Result.andThen,goInt]
 .rename_i hu;cases f;refine⟨?_,rfl⟩;simp[Builtin.len_,A4,C8 hu,Result.andThen,goInt]
 .rename_i n c hu;cases f;refine⟨?_,rfl⟩;have j:∃ a' c',x'=.slice a' n c':=by
   cases hx with
   | pure _=>exact⟨_,_,rfl⟩
   | sl _ _=>exact⟨_,_,rfl⟩
   | op _ _ _ _=>exact⟨_,_,rfl⟩
   | opE _=>exact⟨_,_,rfl⟩
  obtain⟨a',c',rfl⟩:=j;simp[Builtin.len_,A4,C8 hu,Result.andThen,goInt]
 .rename_i hu;cases hx with|pure _=>?_
  cases f;refine⟨?_,rfl⟩;simp[Builtin.len_,A4,C8 hu,Result.andThen,goInt]
 .cases f
def NW{tys:Array TypeId}(f:A4e vs=some v)(hx:LR ρ vs vs')(w:World):(Builtin.max_ tys ty ⟨vs'⟩).run P w=.ok v w/\H9 v=true:=by
 unfold A4e at f;split at f
 .obtain⟨a',r1,rfl,h1,j⟩:=hx.tail;obtain⟨b',q,rfl,h3,n⟩:=j.tail;cases n.nil_inv;cases I4 h1;cases I4 h3;cases f;exact⟨by simp[Builtin.max_,Builtin.max2],rfl⟩
 .obtain⟨a',r1,rfl,h1,j⟩:=hx.tail;obtain⟨b',q,rfl,h3,n⟩:=j.tail;obtain⟨c',B,rfl,h,A⟩:=n.tail;cases A.nil_inv;rw[rH]at f;cases I4 h1;cases I4 h3;cases I4 h;cases f;exact⟨by simp[Builtin.max_,Builtin.max2],rfl⟩
 .cases f
def NU{tys:Array TypeId}(f:A4d vs=some v)(hx:LR ρ vs vs')(w:World):(Builtin.min_ tys ty ⟨vs'⟩).run P w=.ok v w/\H9 v=true:=by
 unfold A4d at f;split at f
 .obtain⟨a',r1,rfl,h1,j⟩:=hx.tail;obtain⟨b',q,rfl,h3,n⟩:=j.tail;cases n.nil_inv;cases I4 h1;cases I4 h3;cases f;exact⟨by simp[Builtin.min_,Builtin.min2],rfl⟩
 .obtain⟨a',r1,rfl,h1,j⟩:=hx.tail;obtain⟨b',q,rfl,h3,n⟩:=j.tail;obtain⟨c',B,rfl,h,A⟩:=n.tail;cases A.nil_inv;rw[rH]at f;cases I4 h1;cases I4 h3;cases I4 h;cases f;exact⟨by simp[Builtin.min_,Builtin.min2],rfl⟩
 .cases f
def yD{tys:Array TypeId}(h:HR P base ρ m.H w)(q:gD m x=some (v,m'))(hx:VR ρ x x'):VOk P base ρ m w (Builtin.unsafeSliceData_ tys ty #[x']) v m':=by
 unfold gD at q;split at q
 .cases q;cases O5 hx;exact VOk.same h rfl (.pure rfl)
 .rename_i a n c;cases A:Nat.beq n 0 || Nat.beq c 0 || Nat.beq c (M1+2)with
  | true=>rw[A]at q;cases q
  | false =>
    rw[A]at q;simp only[D4,D0,L2]at q;obtain⟨rfl,rfl⟩:=q;simp only[Y4]at A;obtain⟨⟨F,D⟩,K⟩:=A;have F:n≠0:=fun e=>by subst e;cases F
    have D:c≠0:=fun e=>by subst e;cases D
    rcases O2 hx with⟨l,B,f,G,rfl⟩|⟨l,c',B,f,G,J,E,rfl⟩|⟨a',c',_,he,_,_⟩
    .refine VOk.same (v':=.pointer (some ⟨l.blk,a.off+l.sh,none⟩)) h ?_ ?_
     .have j:Builtin.unsafeSliceData_ tys ty #[.slice (some ⟨l.blk,a.off+l.sh,none⟩) n c]=(do
        if c≠0 then pure (.pointer (some ⟨l.blk,a.off+l.sh,none⟩))
        else if(<- viewAt l.blk).isSome then pure (.pointer (some ⟨l.blk,a.off+l.sh,none⟩))
        else pure (.pointer (some ⟨<- newObj (.view ⟨l.blk,a.off+l.sh,none⟩ (<- elemOf ty)),0,none⟩))):=rfl
      rw[j,A9 D];rfl
     .obtain⟨ab,I,C⟩:=a;simp only at f;subst f;exact .ptr B
    .refine VOk.same (v':=.pointer (some ⟨l.blk,a.off+l.sh,none⟩)) h ?_ ?_
     .have:c'≠0:=A2;have j:Builtin.unsafeSliceData_ tys ty #[.slice (some ⟨l.blk,a.off+l.sh,none⟩) n c']=(do
        if c'≠0 then pure (.pointer (some ⟨l.blk,a.off+l.sh,none⟩))
        else if(<- viewAt l.blk).isSome then pure (.pointer (some ⟨l.blk,a.off+l.sh,none⟩))
        else pure (.pointer (some ⟨<- newObj (.view ⟨l.blk,a.off+l.sh,none⟩ (<- elemOf ty)),0,none⟩))):=rfl
      rw[j,A9 this];rfl
     .obtain⟨ab,I,C⟩:=a;simp only at f;subst f;exact .ptr B
    .omega
 .cases q
def RC(h:HR P base ρ m.H w)(f:CE P m t x=some (v,m'))(hx:VR ρ x x'):VOk P base ρ m w (Instr.makeInterface t x') v m':=by
 unfold CE at f;split at f
 .rename_i d q;have n:(∀ ms,d≠.interface ms)->(Instr.makeInterface t x').run P w=.ok (.iface t x') w:=fun j=>by
   simp only[Instr.makeInterface,A4,C8 q,Result.andThen];cases d<;>first|rfl|exact absurd rfl (j _)
  split at f
  .cases f
  .rename_i j;obtain⟨_,f⟩:=A3 f;cases f;exact VOk.same h (n fun ms e=>j ms e) (.iface hx)
 .cases f
def A07(j:VV m x=some (v,m'))(hx:VR ρ x x'):m'=m/\VR ρ v x'/\((∃ a,x'=.pointer (some a))∨∃ f a b,x'=.func (.func f) a b):=by
 unfold VV at j;split at j
 .cases j;obtain⟨l,_,_,rfl⟩:=N5 hx;exact⟨rfl,hx,.inl ⟨_,rfl⟩⟩
 .cases j;cases hx with
  | pure hp=>simp[H9]at hp
  | func _ _ _ _=>exact⟨rfl,by constructor<;>assumption,.inr ⟨_,_,_,rfl⟩⟩
 .cases j
def ZD(h:HR P base ρ m.H w)(j:IG P m t x y=some (v,m'))(hx:VR ρ x x')(K:VR ρ y y'):VOk P base ρ m w (Builtin.copy_ ⟨t::tys⟩ ty #[x',y']) v m':=by
 unfold IG at j;split at j
 .rename_i e a n c hu;split at j
  .rename_i s W;split at j
   .rename_i k cs f;have I:∃ a' c',x'=.slice a' n c':=by
     cases hx with
     | pure _=>exact⟨_,_,rfl⟩
     | sl _ _=>exact⟨_,_,rfl⟩
     | op _ _ _ _=>exact⟨_,_,rfl⟩
     | opE _=>exact⟨_,_,rfl⟩
    obtain⟨a',c',rfl⟩:=I;have B:∃ L cs',(Builtin.lenOf y').run P w=.ok L w/\Nat.min L n=k/\LR ρ cs cs'/\(Builtin.firstCells s k y').run P w=.ok ⟨cs'⟩ w:=by
     split at f
     .rename_i M _;obtain⟨q,f⟩:=A3 f;have q:=A0 q;subst q;cases f;cases O5 K;exact⟨0,[],rfl,by simp,.nil,rfl⟩
     .rename_i b M Y;split at f
      .rename_i r hr;cases f;rcases O2 K with⟨l,D,_,_,rfl⟩|⟨l,c',D,_,_,_,_,rfl⟩|⟨a',c',_,rfl,_,rfl⟩
       .obtain⟨N,h1,C,h3⟩:=Y6 h hr D;exact⟨M,N,rfl,rfl,h1,J3 C h3⟩
       .obtain⟨N,h1,C,h3⟩:=Y6 h hr D;exact⟨M,N,rfl,rfl,h1,J3 C h3⟩
       .have:cs=[]:=by
         unfold l5 at hr;split at hr
         .have:=(gV hr).2;simp at this;exact this
         .cases hr
        subst this;exact⟨0,[],rfl,rfl,.nil,by simp[Builtin.firstCells,loadCells,loadCellsFrom]⟩
      .cases f
     .rename_i b;cases f;cases T7 K;refine⟨b.size,O4 (b.data.toList.take (Nat.min b.size n)),rfl,rfl,uA _ _,?_⟩;have e:((b.extract 0 (Nat.min b.size n)).data.map fun b=>Value.int .u8 b.toNat)=⟨O4 (b.data.toList.take (Nat.min b.size n))⟩:=by
       apply I2;simp[O4,eV]
      show(pure ((b.extract 0 (Nat.min b.size n)).data.map fun b=>Value.int .u8 b.toNat):Sem U8).run P w=_;rw[e];rfl
     .cases f
    obtain⟨L,cs',r1,T,O,S⟩:=B;have A:(Builtin.copy_ ⟨t::tys⟩ ty #[.slice a' n c',y']).run P w=(match a' with|some a=>(do storeCells a cs';pure (goInt k):Sem Value)|none=>pure (goInt k)).run P w:=by
     unfold Builtin.copy_;simp only[I0,P9,Q0,A4,C8 hu,J8 W,r1,T,S,Result.andThen];cases a' with
     | none=>rfl
     | some a=>rfl
    cases a with
    | none =>
      cases O5 hx;simp only at j;obtain⟨q,j⟩:=A3 j;have q:=A0 q;cases j;exact VOk.same h (by rw[A,q];rfl) (.pure rfl)
    | some X =>
      simp only at j;cases F:Nat.beq cs.length 0 with
      | true =>
        rw[F]at j;cases j;have F:=A0 F;have:cs'=[]:=F6.1 (by rw[<- O.1];exact F);subst this;refine VOk.same h (v':=.int .i64 k) ?_ (.pure rfl);rw[A];cases a'<;>rfl
      | false =>
        rw[F]at j;simp only[D4]at j;obtain⟨E,j⟩:=A3 j;have E:=A1 E;split at j
        .rename_i m2 hw;cases j;rcases O2 hx with⟨l,D,G,V,he⟩|⟨l,c',D,G,V,R,Q,he⟩|⟨a2,Z,_,R,U,he⟩
         .cases he;obtain⟨w',h1,C⟩:=nN h hw D O;exact⟨.int .i64 k,ρ,w',by rw[A];simp[A4,h1,Result.andThen,goInt],.pure rfl,C⟩
         .cases he;obtain⟨w',h1,C⟩:=nN h hw D O;exact⟨.int .i64 k,ρ,w',by rw[A];simp[A4,h1,Result.andThen,goInt],.pure rfl,C⟩
         .have J:M1=9223372036854775808:=rfl;omega
        .cases j
   .cases j
  .cases j
 .cases j
def nH:∀ {cs:C9} {l:List UInt8},bytesOf cs=some l->∃ f:List Int,cs=f.map (Value.int .u8)/\l=f.map fun n=>UInt8.ofNat n.toNat
 | [],l,h=>by simp only[bytesOf,D0]at h;subst h;exact⟨[],rfl,rfl⟩
 | v::r,l,h=>by
   unfold bytesOf at h;split at h
   .rename_i he;cases he
   .rename_i n q he;cases he;split at h
    .rename_i l0 h0;cases h;obtain⟨f,h1,j⟩:=nH h0;exact⟨n::f,by rw[h1];rfl,by rw[j];rfl⟩
    .cases h
   .cases h
def pD:∀ {f:List Int} {cs':C9},LR ρ (f.map (Value.int .u8)) cs'->cs'=f.map (Value.int .u8)
 | [],cs',h=>h.nil_inv
 | n::r,cs',h=>by
   obtain⟨v',q,rfl,h1,j⟩:=h.tail;cases I4 h1;rw[pD j];rfl
def mZ:∀ (f:List Int) (acc:List UInt8),(f.foldl (fun r n=>r.push (UInt8.ofNat n.toNat)) (ByteArray.mk ⟨acc⟩))=⟨⟨acc++f.map fun n=>UInt8.ofNat n.toNat⟩⟩
 | [],acc=>by simp
 | n::r,acc=>by
   rw[List.foldl_cons];have:(ByteArray.mk ⟨acc⟩).push (UInt8.ofNat n.toNat)=⟨⟨acc++[UInt8.ofNat n.toNat]⟩⟩:=by
    show ByteArray.mk (Array.push ⟨acc⟩ _)=_;simp
   rw[this,mZ r];simp
def ZG(h:HR P base ρ m.H w)(X:base<=w.heap.size)(f:AN P m s t x=some (v,m'))(Y:J2 ρ m.n m'.hi)(hx:VR ρ x x'):VOk P base ρ m w (convert s t x') v m':=by
 unfold AN at f;split at f
 .rename_i F k j n E A;cases I4 hx;simp only[D0,L2]at f;obtain⟨rfl,rfl⟩:=f;refine VOk.same (v':=.int k (k.wrap n)) h ?_ (by rw[bT,iV];exact .pure rfl);cases F<;>simp[convert,A4,C8 E,C8 A,Result.andThen,Conv.intToInt]
 .rename_i F b E A;cases T7 hx;cases f;refine VOk.same h ?_ (.pure rfl);cases F<;>simp[convert,A4,C8 E,C8 A,Result.andThen]
 .rename_i F j n E A;cases I4 hx;cases f;refine VOk.same (v':=.string (Utf8.encode n)) h ?_ (.pure rfl);cases F<;>simp[convert,A4,C8 E,C8 A,Result.andThen,Conv.intToString]
 .rename_i F e b E A;cases T7 hx;split at f
  .rename_i he;split at f
   .rename_i G;rw[H4]at f;let q:Question:=.appendCap b.size 0 e
    let cap:=q.cut (w.tape w.drawn q)
    have K:b.size<=cap:=by show b.size<=b.size+_;omega
    have R:(choose q).run P w=.ok cap w.drew:=by
     simp only[choose,Sem.run];rw[A8 (by simp[q,Question.forced])];rfl
    let C:U8:=(b.data.map fun b=>Value.int .u8 b.toNat)++Array.replicate (cap-b.size) (.int .u8 0)
    have hC:C.size=cap:=by
     have:b.data.size=b.size:=rfl;simp[C,this];omega
    obtain⟨W,N,U⟩:=cQ (wd:=w.drew) (fz:=(C.size,C.size+1)) (cap:=cap) (C:=C) h X f Y (uA ρ b.data.toList) (fun i u hi=>by
      have M:=(B0.1 hi).1;simp[O4]at M;have T:i<(b.data.map fun b=>Value.int .u8 b.toNat).size:=by simpa using M
      show((b.data.map fun b=>Value.int .u8 b.toNat)++Array.replicate (cap-b.size) (.int .u8 0))[i]? = some u;rw[S0 T]
      simpa [O4]using hi) NF.end
     (fun inf J=>by
       have:inf.size=1:=by unfold G3 at G;rw[J]at G;exact A7 G
       rw[this,hC];omega) ⟨rfl,rfl,rfl⟩ rfl
    refine⟨.slice (some ⟨w.heap.size,0,none⟩) b.size cap,_,_,?_,?_,U⟩
    .have S:∀ w2:World,w2.heap[w.heap.size]? = some (.cells C e (0,0))->(markStringish ⟨w.heap.size,0,none⟩).run P w2=.ok () (w2.freeze { block:=w.heap.size,off:=C.size } 1):=fun w2 J=>by
      simp[markStringish,shape,freeze,Sem.run,World.shape?,J]
     have Q:({ w.drew with heap:=w.heap.push (.cells C e (0,0)) }:World).freeze { block:=w.heap.size,off:=C.size } 1={ w.drew with heap:=w.heap.push (.cells C e (C.size,C.size+1)) }:=by
      unfold World.freeze;rw[A8 F7];congr 1;apply Array.ext_getElem?;intro i;rw[G6];by_cases hi:w.heap.size=i
      .subst hi;simp
      .rw[A8 hi];simp only[Z5];rw[A8 (fun h=>hi h.symm),A8 (fun h=>hi h.symm)]
     have I:(convert s t (.string b)).run P w=(Conv.stringToBytes e b).run P w:=by
      cases F<;>simp[convert,A4,C8 E,C8 A,C8 he,Result.andThen]
     rw[I];unfold Conv.stringToBytes;simp only[A4,show(choose (.appendCap b.size 0 e)).run P w=.ok cap w.drew from R,Result.andThen];have O:(newRow e C).run P w.drew=.ok ⟨w.heap.size,0,none⟩ { w.drew with heap:=w.heap.push (.cells C e (0,0)) }:=rfl;rw[show(newRow e ((b.data.map fun b=>Value.int .u8 b.toNat)++Array.replicate (cap-b.size) (.int .u8 0))).run P w.drew=_ from O];simp only[Result.andThen];rw[S _ (by simp),Q];rfl
    .rw[W];exact VR.op (o:=0) (m':=cap) N (A6 _) K (fun _ _=>rfl)
   .cases f
  .cases f
 .rename_i e n c E A;cases O5 hx;split at f
  .rename_i he;cases f;refine VOk.same h (v':=.string ByteArray.empty) ?_ (.pure rfl);simp[convert,A4,C8 E,C8 A,C8 he,Result.andThen,Conv.bytesToString]
  .cases f
 .rename_i e a n c E A;split at f
  .rename_i he;split at f
   .rename_i cs hr;split at f
    .rename_i l M;cases f;obtain⟨L,h1,J⟩:=nH M;have B:∀ a' c',(loadCells a' n).run P w=.ok (L.map (Value.int .u8)).toArray w->(convert s t (.slice (some a') n c')).run P w=.ok (.string ⟨⟨l⟩⟩) w:=fun a' c' D=>by
      have:=run_bytesToString w a' n c' L D;have N:=mZ L [];simp only[G1]at N;simp only[convert,A4,C8 E,C8 A,C8 he,Result.andThen];rw[this,show ByteArray.empty=ByteArray.mk ⟨[]⟩from rfl,N,J]
     rcases O2 hx with⟨lc,D,_,_,rfl⟩|⟨lc,c',D,_,_,_,_,rfl⟩|⟨a',c',_,rfl,_,rfl⟩
     .obtain⟨V,g1,g2,g3⟩:=Y6 h hr D;rw[h1]at g1
      have:=pD g1;subst this;exact VOk.same h (B _ _ (J3 g2 g3)) (.pure rfl)
     .obtain⟨V,g1,g2,g3⟩:=Y6 h hr D;rw[h1]at g1
      have:=pD g1;subst this;exact VOk.same h (B _ _ (J3 g2 g3)) (.pure rfl)
     .have:cs=[]:=by
       unfold l5 at hr;split at hr
       .have:=(gV hr).2;simpa using this
       .cases hr
      subst this;have:L=[]:=by cases L with|nil=>rfl|cons _ _=>cases h1
      subst this;exact VOk.same h (B _ _ (by simp[loadCells,loadCellsFrom])) (.pure rfl)
    .cases f
   .cases f
  .cases f
 .cases f
end
end
section
open Go
variable [Ora]
section
variable {P:Program} {base:Nat} {ρ:Ren} {m m':Mem} {w:World}
def vW(q:P.cellsOf e=1)(count off n:Nat)(j:off+n<=count):liesAt P P.depth e count off e n=true:=by
 have f:P.depth=(2*(P.types.size+Made.depth)+1)+1:=rfl;rw[f];simp only[liesAt,I1];left;rw[f];simp[rowAt,q,j,sameLayout,Nat.mod_one]
def dD:∀ (f:List Int) (b o:Nat) (acc:ByteArray),(∀ (j:Nat) (v:Value),(f.map (Value.int .u8))[j]? = some v->w.cell? ⟨b,o+j,none⟩=some v) ->
  (loadBytes ⟨b,o,none⟩ acc f.length).run P w=.ok ⟨acc.data++(f.map fun n=>UInt8.ofNat n.toNat).toArray⟩ w
 | [],b,o,acc,_=>by simp[loadBytes]
 | n::f,b,o,acc,h=>by
   have h0:w.cell? ⟨b,o,none⟩=some (.int .u8 n):=by simpa using h 0 _ rfl
   have A:=dD f b (o+1) (acc.push n.toNat.toUInt8) (fun j v q=>by
    have:=h (j+1) v (by simpa using q);rw[show o+1+j=o+(j+1) by omega];exact this)
   simp only[D5,loadBytes,A4,run_load,h0,Result.andThen,W4];rw[A];have:(acc.push n.toNat.toUInt8).data=acc.data.push n.toNat.toUInt8:=rfl;rw[this];congr 2;apply I2;simp
def xR{l l':Value}(h:HR P base ρ m.H w)(f:cY P m pt p l=some (v,m'))(hp:VR ρ p p')(hl:VR ρ l l') :
  VOk P base ρ m w (Builtin.unsafeString_ ⟨pt::tys⟩ ty #[p',l']) v m':=by
 have F:IntKind.i64.max=9223372036854775807:=rfl;unfold cY at f;split at f
 .cases hp with|pure _=>?_
  cases I4 hl;cases f;refine VOk.same h (v':=.string ByteArray.empty) ?_ (.pure rfl);rename_i k _;have E:Builtin.unsafeString_ ⟨pt::tys⟩ ty #[.pointer none,.int k (.ofNat 0)] =
    (do
      let n <- asInt (.int k (.ofNat 0))
      if n<0 then runtimePanic (.error "unsafe.String: len out of range")
      if n>IntKind.i64.max then unsupported (.unsafePointer "String: a length above the largest int")
      if n=0 then pure (.string .empty)
      else runtimePanic (.error "unsafe.String: ptr is nil and len is not zero")):=rfl
  rw[E];simp[asInt,asIntOf,F]
 .rename_i a k n;cases I4 hl;obtain⟨lc,J,az,rfl⟩:=N5 hp;split at f
  .rename_i cs T I W;split at f
   .rename_i e Z M;obtain⟨q,f⟩:=A3 f;obtain⟨q,q3⟩:=B3 q;obtain⟨q1,q2⟩:=B3 q;have q1:0<n:=A1 q1;have q2:=A1 q2;have q3:=A0 q3;subst q3;split at f
    .rename_i r hr;split at f
     .rename_i bs m2 X V9;cases f;obtain⟨V,h1,h2⟩:=nH X;have G:l5 m a n=some r:=by
       unfold l5;rw[I,W];exact hr
      obtain⟨r',g1,g2,g3⟩:=Y6 h G J;rw[h1]at g1;have Y:=pD g1;subst Y;obtain⟨⟨O,C,fz,T',z2,z3,z4⟩,z5⟩:=h.atl J W;have z2:w.heap[lc.blk]? = some (.cells C e fz):=by rw[z2,(z4 rfl).1]
      have Q:V.length=n:=by simpa using g2
      have A:P.cellsOf e=1:=by
       unfold G3 at M;unfold Program.cellsOf;cases hi:P.info? e with
       | none=>rw[hi]at M;cases M
       | some i=>rw[hi]at M;have:=A7 M;simp[this]
      have U:a.off+lc.sh+n<=C.size:=by
       have B:=g3 (n-1) (.int .u8 V[n-1]) (by simp[Q]);simp only[World.cell?,z2]at B
       have:=(C6.1 (by simpa using B)).1;omega
      have L:=dD (P:=P) (w:=w) V lc.blk (a.off+lc.sh) .empty g3;rw[Q]at L;have S:w.shape? lc.blk=some (e,C.size):=by simp[World.shape?,z2]
      have K:=vW (P:=P) A (C.size / P.cellsOf e) (a.off+lc.sh) n (by rw[A];simpa using U);have E:Builtin.unsafeString_ ⟨pt::tys⟩ ty #[.pointer (some ⟨lc.blk,a.off+lc.sh,none⟩),.int k (.ofNat n)] =
       (do
         let n <- asInt (.int k (.ofNat n))
         if n<0 then runtimePanic (.error "unsafe.String: len out of range")
         if n>IntKind.i64.max then unsupported (.unsafePointer "String: a length above the largest int")
         if n=0 then pure (.string .empty)
         else if <- variablesAt ⟨lc.blk,a.off+lc.sh,none⟩ (<- elemOf pt) n.toNat then do
          let s <- loadBytes ⟨lc.blk,a.off+lc.sh,none⟩ .empty n.toNat
          freeze ⟨lc.blk,a.off+lc.sh,none⟩ n.toNat
          pure (.string s)
         else unsupported (.unsafePointer "String: not so many bytes at ptr")):=rfl
      have e1:Int.ofNat n=(n:Int):=rfl;have R:¬ (n:Int)<0:=A2;have N:¬ (9223372036854775807:Int)<(n:Int):=A2;have hz:¬ (n:Int)=0:=A2;have D:n≠0:=A2;refine⟨.string ⟨⟨bs⟩⟩,ρ,w.freeze ⟨lc.blk,a.off+lc.sh,none⟩ n,?_,.pure rfl,St.write h V9 W rfl J O ?_ ?_ ?_ ?_⟩
      .rw[E];simp[asInt,asIntOf,F,e1,R,N,hz,D,variablesAt,S,elemOf,C8 Z,K,L,freeze,Sem.run,A4,Result.andThen,h2]
      .simp[World.freeze,D]
      .simp[World.freeze,D]
      .intro j hj;simp only[World.freeze,D,if_false,G6];rw[A8 (fun e=>hj e.symm)]
      .refine⟨O,C,(if fz.1 == fz.2 then(a.off+lc.sh,a.off+lc.sh+n)else(min fz.1 (a.off+lc.sh),max fz.2 (a.off+lc.sh+n))),e,?_,z3,fun hc=>by cases hc⟩;simp only[World.freeze,D,if_false,G6,if_true,z2,K2]
     .cases f
    .cases f
   .cases f
  .cases f
 .cases f
def IT{ks:Array Bool}(h:HR P base ρ m.H w)(B:base<=w.heap.size)(f:fT P m b vs tys=some (v,m'))(C:J2 ρ m.n m'.hi)(hx:LR ρ vs vs') :
  ∃ s:Sem Value,builtin b ⟨tys⟩ ty ks ⟨vs'⟩=(do pure (.value (<- s)))/\VOk P base ρ m w s v m':=by
 unfold fT at f;split at f
 .obtain⟨x',r1,rfl,h1,j⟩:=hx.tail;cases j.nil_inv;unfold noM at f;split at f
  .rename_i u hu;cases f;obtain⟨g1,g2⟩:=OC h hu h1;exact⟨_,rfl,VOk.same h g1 (.pure g2)⟩
  .cases f
 .obtain⟨x',r1,rfl,h1,j⟩:=hx.tail;cases j.nil_inv;unfold noM at f;split at f
  .rename_i u hu;cases f;obtain⟨g1,g2⟩:=A13 hu h1 w;exact⟨_,rfl,VOk.same h g1 (.pure g2)⟩
  .cases f
 .obtain⟨x',r1,rfl,h1,j⟩:=hx.tail;obtain⟨y',A,rfl,h3,q⟩:=j.tail;cases q.nil_inv;rename_i t t2 rest;refine⟨Builtin.append_ ⟨t::t2::rest⟩ ty #[x',y'],rfl,?_⟩
  have:=MA (ty:=ty) h B f C h1 h3;have e:Builtin.append_ ⟨t::t2::rest⟩ ty #[x',y']=Builtin.append_ #[t,t2] ty #[x',y']:=rfl;rw[e];exact this
 .obtain⟨x',r1,rfl,h1,j⟩:=hx.tail;obtain⟨y',A,rfl,h3,q⟩:=j.tail;cases q.nil_inv;exact⟨_,rfl,ZD h f h1 h3⟩
 .unfold noM at f;split at f
  .rename_i u hu;cases f;obtain⟨g1,g2⟩:=NW (P:=P) (ty:=ty) (tys:=⟨tys⟩) hu hx w;exact⟨_,rfl,VOk.same h g1 (.pure g2)⟩
  .cases f
 .unfold noM at f;split at f
  .rename_i u hu;cases f;obtain⟨g1,g2⟩:=NU (P:=P) (ty:=ty) (tys:=⟨tys⟩) hu hx w;exact⟨_,rfl,VOk.same h g1 (.pure g2)⟩
  .cases f
 .obtain⟨x',r1,rfl,h1,j⟩:=hx.tail;cases j.nil_inv;exact⟨_,rfl,yD h f h1⟩
 .obtain⟨x',r1,rfl,h1,j⟩:=hx.tail;obtain⟨y',A,rfl,h3,q⟩:=j.tail;cases q.nil_inv;exact⟨_,rfl,xR h f h1 h3⟩
 .cases f
def NOk(P:Program)(base:Nat)(ρ:Ren)(m:Mem)(w:World)(s:Sem Next)(v:Value)(m':Mem):Prop :=
 ∃ v' f w',(s.run P w=.ok (.value v') w'∨(s.run P w=.ok .skip w'/\v'=undef))/\VR f v v'/\St P base ρ f m m' w w'
def NOk.of{s:Sem Value}(h:VOk P base ρ m w s v m'):NOk P base ρ m w (do pure (.value (<- s))) v m':=by
 obtain⟨v',f,w',h1,j,h3⟩:=h;exact⟨v',f,w',.inl (by simp[A4,h1,Result.andThen]),j,h3⟩
def nR(ρ:Ren):VR ρ undef undef:=.tuple (a:=[]) (a':=[]) rfl (fun i v v' h=>by simp at h)
def NOk.ofU{s:Sem Unit}(h:UOk P base ρ m w s m'):NOk P base ρ m w (do s;pure .skip) undef m':=by
 obtain⟨f,w',h1,h3⟩:=h;exact⟨undef,f,w',.inr ⟨by simp[A4,h1,Result.andThen],rfl⟩,nR _,h3⟩
def NOk.same{s:Sem Value}(h:HR P base ρ m.H w)(hr:s.run P w=.ok v' w)(hv:VR ρ v v'):NOk P base ρ m w (do pure (.value (<- s))) v m:=NOk.of (VOk.same h hr hv)
def FR(ρ:Ren)(fr:Fr)(g:Operand->Value)(o:Op):Prop:=∀ x ∈ o.operands.toList,VR ρ (ev fr x) (g x)
def Z8(h:noM o m=some (v,m')):o=some v/\m'=m:=by
 unfold noM at h;split at h
 .cases h;exact⟨rfl,rfl⟩
 .cases h
def lN{o:Option Mem}(h:KP o=some (v,m')):o=some m'/\v=undef:=by
 unfold KP at h;split at h
 .cases h;exact⟨rfl,rfl⟩
 .cases h
def bW{fr:Fr}{g:Operand->Value}:∀ {xs:List Operand},(∀ x ∈ xs,VR ρ (ev fr x) (g x))->LR ρ (evL fr xs) (xs.map g)
 | [],_=>.nil
 | x::r,h=>.cons (h x B1) (bW fun y f=>h y (C3 _ f))
def LH{fr:Fr}{g:Operand->Value}:∀ {xs:List (Nat×Operand)},(∀ x ∈ xs.map (·.2),VR ρ (ev fr x) (g x))->PR ρ (evP fr xs) (xs.map fun x=>(x.1,g x.2))
 | [],_=>trivial
 | (i,x)::r,h=>⟨rfl,h x (by simp),LH fun y f=>h y (by simp at f ⊢;exact .inr f)⟩
def gT{fr:Fr}{x:Option Operand}(h:∀ y ∈ x.toList,VR ρ (ev fr y) (g y)):OR ρ (evO fr x) (x.map g):=by
 cases x with
 | none=>trivial
 | some y=>exact h y (by simp)
set_option maxHeartbeats 1000000 in
def A4Y{fr:Fr}{o:Oper}(h:HR P base ρ m.H w)(I:base<=w.heap.size)(q:opM P fr m o.op=some (v,m'))(J:J2 ρ m.n m'.hi)(T:FR ρ fr g o.op) :
  NOk P base ρ m w (execOp g o) v m':=by
 obtain⟨dst,op,ty,pos,U,V⟩:=o;simp only at q T;have j:∀ {x},x ∈ op.operands.toList->VR ρ (ev fr x) (g x):=fun hx=>T _ hx
 unfold opM at q;split at q
 .cases q;exact⟨_,ρ,w,.inl rfl,j (by simp[Op.operands]),.refl h⟩
 .cases q;exact⟨_,ρ,w,.inl rfl,j (by simp[Op.operands]),.refl h⟩
 .rename_i c a b;have K:=j (x:=c) (by simp[Op.operands]);unfold NN at q;split at q
  .rename_i D;rw[D]at K;cases q;exact⟨g a,ρ,w,.inl (by simp[execOp,bG K,asBool]),j (by simp[Op.operands]),.refl h⟩
  .rename_i D;rw[D]at K;cases q;exact⟨g b,ρ,w,.inl (by simp[execOp,bG K,asBool]),j (by simp[Op.operands]),.refl h⟩
  .cases q
 .exact NOk.of (RD h I q J)
 .exact NOk.of (A08 h I q J (j (by simp[Op.operands])))
 .rename_i t ps;obtain⟨h1,rfl⟩:=Z8 q;obtain⟨v',A,h3⟩:=RY h1 (LH (g:=g) (fun x hx=>j (by simpa [Op.operands]using hx))) w;have e:(ps.map fun(i,x)=>(i,g x))=⟨ps.toList.map fun x=>(x.1,g x.2)⟩:=by apply I2;simp
  exact NOk.same (s:=Instr.build t (ps.map fun(i,x)=>(i,g x))) h (by rw[e];exact A) h3
 .rename_i t n ps
  have:=xG h I q J (LH (g:=g) (fun x hx=>j (by simpa [Op.operands]using hx)));have e:(ps.map fun(i,x)=>(i,g x))=⟨ps.toList.map fun x=>(x.1,g x.2)⟩:=by apply I2;simp
  refine NOk.of (s:=Instr.buildSlice t n (ps.map fun(i,x)=>(i,g x))) ?_;rw[e];exact this
 .rename_i t x;have hx:=j (x:=x) (by simp[Op.operands]);unfold NO at q;split at q
  .rename_i a G;rw[G]at hx;obtain⟨l,N,L,E⟩:=N5 hx;obtain⟨h1,rfl⟩:=Z8 q;obtain⟨v',A,h3⟩:=GQ h h1 N;refine NOk.same (s:=Instr.loadAt t (g x)) h ?_ h3;rw[E]
   simpa [Instr.loadAt,Instr.sureAddr]using A
  .cases q
 .rename_i t x y;have hx:=j (x:=x) (by simp[Op.operands]);have B:=j (x:=y) (by simp[Op.operands]);unfold CD at q;split at q
  .rename_i a G;rw[G]at hx;obtain⟨l,N,L,E⟩:=N5 hx;obtain⟨h1,rfl⟩:=lN q
   have:=QE h h1 N B;refine NOk.ofU (s:=Instr.storeAt t (g x) (g y)) ?_;rw[E];obtain⟨Q,w',r1,Z⟩:=this;exact⟨Q,w',by simpa [Instr.storeAt,Instr.sureAddr]using r1,Z⟩
  .cases q
 .rename_i x;have hx:=j (x:=x) (by simp[Op.operands]);obtain⟨hm,h1,A⟩:=A07 q hx;subst hm;refine⟨g x,ρ,w,.inl ?_,h1,.refl h⟩;rcases A with⟨a,S⟩|⟨f,a,b,S⟩<;>simp[execOp,S]
 .rename_i op t x y yt;have hx:=j (x:=x) (by simp[Op.operands]);have B:=j (x:=y) (by simp[Op.operands]);unfold A09 at q;have C:(wI op=true->kC P t x y (ev fr x) (ev fr y)=true)->noM (qC P op t (ev fr x) (ev fr y)) m=some (v,m')->NOk P base ρ m w (execOp g ⟨dst,.binOp op t x y yt,ty,pos,U,V⟩) v m':=fun M Y=>by
   obtain⟨h1,rfl⟩:=Z8 Y;obtain⟨A,h3⟩:=uF h1 hx B w;have W:=pL M hx B w;refine NOk.same (s:=do eqGuard op t x y (g x) (g y);binOp op t (g x) (g y)) h ?_ (.pure h3);simp[A4,W,A,Result.andThen]
  cases F:wI op with
  | true =>
    rw[F]at q;simp only[D8]at q;obtain⟨h1,A⟩:=A3 q;exact C (fun _=>h1) A
  | false =>
    rw[F]at q;simp only[D4]at q;exact C (fun h=>by rw[F]at h;cases h) q
 .rename_i op t x;obtain⟨h1,rfl⟩:=Z8 q;obtain⟨A,h3⟩:=JH (P:=P) h1 (j (x:=x) (by simp[Op.operands])) w;exact NOk.same (s:=Op.unary op (g x)) h A (.pure h3)
 .exact NOk.of (ZG h I q J (j (by simp[Op.operands])))
 .exact NOk.of (RC h q (j (by simp[Op.operands])))
 .rename_i f first cap
  cases q;have l1:=bW (ρ:=ρ) (fr:=fr) (g:=g) (xs:=first.toList) fun x hx=>j (by simp[Op.operands];exact .inl (by simpa using hx))
  have l2:=bW (ρ:=ρ) (fr:=fr) (g:=g) (xs:=cap.toList) fun x hx=>j (by simp[Op.operands];exact .inr (by simpa using hx))
  refine⟨.func (.func f) ⟨first.toList.map g⟩ ⟨cap.toList.map g⟩,ρ,w,.inl ?_,.func l1.1 l2.1 l1.2 l2.2,.refl h⟩;have O:first.map g=⟨first.toList.map g⟩:=by apply I2;simp
  have R:cap.map g=⟨cap.toList.map g⟩:=by apply I2;simp
  simp[execOp,Instr.makeFunc,O,R]
 .exact NOk.of (yG h I q J (j (by simp[Op.operands])) (j (by simp[Op.operands])))
 .rename_i t x lo hi mx;obtain⟨h1,rfl⟩:=Z8 q;obtain⟨v',A,h3⟩:=fF h1 (j (x:=x) (by simp[Op.operands])) (gT (g:=g) fun y B=>j (by simp[Op.operands]at B ⊢;exact .inr (.inl B))) (gT (g:=g) fun y B=>j (by simp[Op.operands]at B ⊢;exact .inr (.inr (.inl B)))) (gT (g:=g) fun y B=>j (by simp[Op.operands]at B ⊢;exact .inr (.inr (.inr B)))) w;exact NOk.same (s:=Instr.sliceAt t (g x) (lo.map g) (hi.map g) (mx.map g)) h A h3
 .obtain⟨h1,rfl⟩:=Z8 q;obtain⟨v',A,h3⟩:=kF h1 (j (by simp[Op.operands])) w;exact NOk.same h A h3
 .obtain⟨h1,rfl⟩:=Z8 q;obtain⟨v',A,h3⟩:=RP h1 (j (by simp[Op.operands])) w;exact NOk.same h A h3
 .obtain⟨h1,rfl⟩:=Z8 q;obtain⟨v',A,h3⟩:=bJ h1 (j (by simp[Op.operands])) (j (by simp[Op.operands])) w;exact NOk.same h A h3
 .obtain⟨h1,rfl⟩:=Z8 q;obtain⟨v',A,h3⟩:=qY h1 (j (by simp[Op.operands])) (j (by simp[Op.operands])) w;exact NOk.same h A h3
 .obtain⟨hm,v',A,h3⟩:=GG (P:=P) q (j (by simp[Op.operands])) w;subst hm;exact NOk.same h A h3
 .rename_i b xs tys;have l1:=bW (ρ:=ρ) (fr:=fr) (g:=g) (xs:=xs.toList) fun x hx=>j (by show x ∈ (#[]++xs:Array Operand).toList;simpa using hx)
  obtain⟨ks,R⟩:∃ ks,execOp g ⟨dst,.call ⟨.builtin b,xs,tys⟩,ty,pos,U,V⟩=builtin b tys ty ks (xs.map g):=⟨_,rfl⟩;obtain⟨s,e,hs⟩:=IT (ty:=ty) (ks:=ks) h I q J l1;have O:xs.map g=⟨xs.toList.map g⟩:=by apply I2;simp
  rw[R,O];have X:tys=⟨tys.toList⟩:=rfl;rw[X,e];exact NOk.of hs
 .cases q
end
end
section
open Go
def ofV:P4->U
 | some (.int k n)=>.int k n
 | some (.bool b)=>.bool b
 | some (.string s)=>.str s.data.toList
 | _=>.none
def D3(E:Nat->U):Value->U
 | .complex .f64 i _=>E i
 | .int k n=>.int k n
 | .bool b=>.bool b
 | .string s=>.str s.data.toList
 | _=>.none
def evB(op:BinOp):U->U->U
 | .int k a,.int j b=>ofV (bH op k j a b)
 | .str a,.str b=>ofV (A0f op ⟨⟨a⟩⟩ ⟨⟨b⟩⟩)
 | .bool a,.bool b=>match op with
   | .eql=>.bool (a == b)
   | .neq=>.bool (!(a == b))
   | _=>.none
 | _,_=>.none
def ev1(op:UnOp):U->U
 | .int k n=>ofV (unM op (.int k n))
 | .bool b=>ofV (unM op (.bool b))
 | _=>.none
def eqU:U->U->Option Bool
 | .int k a,.int j b=>if k=j then some (a == b)else none
 | .bool a,.bool b=>some (a == b)
 | .str a,.str b=>some (a == b)
 | _,_=>none
def kI:List U->Option Bool
 | []=>some true
 | a::b::r=>match eqU a b,kI r with
   | some x,some y=>some (x && y)
   | _,_=>none
 | _=>none
def EW(s:List UInt8)(l h:Int):U :=
 match l,h with
 | .ofNat l,.ofNat h=>if l<=h/\h<=s.length then .str ((s.drop l).take (h-l))else .none
 | _,_=>.none
def rO:List U->Option (List UInt8)
 | []=>some []
 | .int .u8 (.ofNat n)::r=>if n<256 then match rO r with
   | some l=>some (UInt8.ofNat n::l)
   | none=>none else none
 | _::_=>none
def tL:List (List U)->Option (List UInt8)
 | []=>some []
 | [.int .u8 (.ofNat n)]::r=>if n<256 then match tL r with
   | some l=>some (UInt8.ofNat n::l)
   | none=>none else none
 | _::_=>none
def iD(s:List UInt8):List (List U):=s.map fun b=>[.int .u8 b.toNat]
def Z3(w:Nat):Nat->List U->Option (List (List U))
 | 0,[]=>some []
 | 0,_::_=>none
 | n+1,l=>if w<=l.length then match Z3 w n (l.drop w)with
   | some r=>some (l.take w::r)
   | none=>none else none
def vH(row:List U)(o:Nat)(cells:List U):List U:=row.take o++cells++row.drop (o+cells.length)
def qE:Nat:=1000000000
def kM(f:Bool)(w:Nat)(rows r:List (List U)):U:=if rows.length+r.length<=qE then(match r with|[]=>.seq f w rows|r=>.seq false w (rows++r))else .none
def isU(a b:U):Bool :=
 match eqU a b with
 | some c=>c
 | none=>false
def S5:List U->List U->Bool
 | [],_=>true
 | a::k,b::r=>isU a b && S5 k r
 | _::_,[]=>false
def FU(kw:Nat)(c:List U):List (List U)->List (List U)
 | []=>[c]
 | r::rs=>if S5 (c.take kw) r then c::rs else r::FU kw c rs
def evU:LOp->List U->U
 | .mhas w kw,.seq _ v rows::k=>if v=w/\k.length=kw then .bool (rows.any (S5 k))else .none
 | .mget w kw o,.seq _ v rows::z::k=>if v=w/\k.length=kw then(match rows.find? (S5 k)with
   | some r=>r.getD o .none
   | none=>z)else .none
 | .mput w kw,.seq nul v rows::c=>if v=w/\c.length=w then .seq nul w (FU kw c rows)else .none
 | .len,[.seq _ _ rows]=>.int .i64 rows.length
 | .mks,l=>match rO l with
   | some s=>.str s
   | none=>.none
 | .inbs w,[.int _ i,.seq _ v rows]=>if v=w then .bool (decide (0<=i) && decide (i<rows.length))else .none
 | .get w o,[.seq false v rows,.int _ (.ofNat k)]=>if v=w then(rows.getD k []).getD o .none else .none
 | .mk w,l=>if w=0 then .none else match Z3 w (l.length / w) l with
   | some r=>.seq false w r
   | none=>.none
 | .nilw w,[]=>.seq true w []
 | .nilp,[.seq nul _ _]=>.bool nul
 | .snoc w,.seq nul v rows::l=>if v=w/\w≠0 then match Z3 w (l.length / w) l with
   | some r=>kM nul w rows r
   | none=>.none else .none
 | .cat w,[.seq nul v rows,.seq _ v2 r]=>if v=w/\v2=w then kM nul w rows r else .none
 | .cats,[.seq nul v rows,.str s]=>if v=1 then kM nul 1 rows (iD s)else .none
 | .set w o,.seq false v rows::.int _ (.ofNat k)::l=>if v=w/\k<rows.length/\o+l.length<=w then .seq false w (rows.set k (vH (rows.getD k []) o l))else .none
 | .subs w,[.seq nul v rows,.int _ (.ofNat l),.int _ (.ofNat h)]=>if v=w/\l<=h/\h<=rows.length then .seq nul w ((rows.drop l).take (h-l))else .none
 | .str,[.seq _ v rows]=>if v=1 then match tL rows with
   | some s=>.str s
   | none=>.none else .none
 | .byt,[.str s]=>.seq false 1 (iD s)
 | .ustr,[.seq _ v rows,.int _ (.ofNat n)]=>if v=1/\n<=rows.length/\n<=qE then match tL (rows.take n)with
   | some s=>.str s
   | none=>.none else .none
 | .rep w,.int _ (.ofNat n)::l=>if l.length=w/\n<=qE then .seq false w (List.replicate n l)else .none
 | .bin op,[a,b]=>evB op a b
 | .un op,[a]=>ev1 op a
 | .conv k,[.int _ n]=>.int k (k.wrap n)
 | .len,[.str s]=>.int .i64 s.length
 | .rune,[.str s,.int _ (.ofNat k)]=>.int .i32 (Utf8.decode ⟨⟨s⟩⟩ k).1
 | .rpos,[.str s,.int _ (.ofNat k)]=>.int .i64 (k+(Utf8.decode ⟨⟨s⟩⟩ k).2:Nat)
 | .idx,[.str s,.int _ (.ofNat k)]=>match s[k]? with
   | some b=>.int .u8 b.toNat
   | none=>.none
 | .sub,[.str s,.int _ l,.int _ h]=>EW s l h
 | .sub1,[.str s,.int _ l]=>EW s l s.length
 | .sel,.int _ (.ofNat k)::cs=>cs.getD k .none
 | .inb,[.int _ i,.int _ n]=>.bool (decide (0<=i) && decide (i<n))
 | .eqs,l=>match kI l with
   | some b=>.bool b
   | none=>.none
 | .max,[.int k a,.int _ b]=>.int k (if b>a then b else a)
 | .min,[.int k a,.int _ b]=>.int k (if b<a then b else a)
 | _,_=>.none
def c8.ok(E:Nat->U):c8->Prop
 | .lt i t op xs=>E i=evU op (xs.map (D3 E))/\F5 (E i)=t/\t<10
 | .dt i t op xs=>E i=evU op (xs.map (D3 E))/\F5 (E i)=t/\∃ f w rows,E i=.seq f w rows
 | .br i b=>E i=.bool b
 | .as op xs=>evU op (xs.map (D3 E))=.bool true
 | .con spec xs i d n=>∃ outs,spec (xs.map (D3 E))=some (d,outs)/\outs.length=n/\∀ j u,outs[j]? = some u->E (i+j)=u
def Q8(E:Nat->U)(l:List c8):Prop:=∀ e ∈ l,e.ok E
def Lg.le(a b:Lg):Prop:=a.log <:+ b.log
def Lg.le.refl(a:Lg):a.le a:=List.suffix_refl _
def Lg.le.trans{a b c:Lg}(h:a.le b)(k:b.le c):a.le c:=List.IsSuffix.trans h k
def Q8.le{E:Nat->U}{a b:Lg}(h:Q8 E b.log)(k:a.le b):Q8 E a.log:=fun e he=>h e (k.subset he)
variable [Ora]
abbrev Sat(lg:Lg):Prop:=Q8 Ora.env lg.log
omit [Ora] in
def MO{u:U}(h:F5 u<10):∃ v,toV u=some v/\ofV (some v)=u/\G0 v=F5 u:=by
 cases u with
 | none=>simp[F5]at h
 | seq _ _ _=>simp only[F5]at h;omega
 | int k n=>exact⟨_,rfl,rfl,rfl⟩
 | bool b=>exact⟨_,rfl,rfl,rfl⟩
 | str s=>exact⟨_,rfl,rfl,rfl⟩
def CC(h:F5 (ofV o)<10):∃ v,o=some v/\toV (ofV o)=some v:=by
 unfold ofV at h;split at h
 .exact⟨_,rfl,rfl⟩
 .exact⟨_,rfl,rfl⟩
 .rename_i s;refine⟨_,rfl,?_⟩;simp[ofV,toV]
 .simp[F5]at h
def K7(k:IntKind):fN k<8:=by cases k<;>decide
theorem n9{ρ:Ren}{v v':Value}(h:VR ρ v v')(f:G0 v<10):toV (D3 Ora.env v)=some v'/\F5 (D3 Ora.env v)=G0 v:=by
 cases h with
 | pure hp =>
   cases v<;>simp only[G0]at f<;>first
    | exact⟨rfl,rfl⟩
    | (exfalso;omega)
    | (simp[H9]at hp)
 | hole h j=>exact⟨h,j⟩
 | junk=>simp[G0]at f
 | ixp _ _ _ _ _=>simp[G0,ixp]at f
 | dat _ _ _ _ _=>simp[G0,Go.Sx.dat]at f
 | clp _ _ _ _ _ _=>simp[G0,Go.Sx.clp]at f
 | own _ _ _=>simp[G0,Go.Sx.own]at f
 | dpt _ _ _=>simp[G0,Go.Sx.dpt]at f
 | opt _ _ _=>simp[G0,Go.Sx.opt]at f
 | yv _=>simp[G0,Go.Sx.yv]at f
 | sdt _=>simp[G0,Go.Sx.sdt]at f
 | _=>simp[G0]at f
def L7{ρ:Ren}(h:VR ρ v v')(j:G0 v<8):∃ k n,v'=.int k n/\D3 Ora.env v=.int k n/\G0 v=fN k:=by
 obtain⟨h1,f⟩:=n9 h A2;cases hu:D3 Ora.env v with
 | int k n=>rw[hu]at h1 f;cases h1;exact⟨k,n,rfl,rfl,f.symm⟩
 | bool b=>rw[hu]at f;simp only[F5]at f;omega
 | str s=>rw[hu]at f;simp only[F5]at f;omega
 | none=>rw[hu]at h1;cases h1
 | seq _ _ _=>rw[hu]at h1;cases h1
def fE{ρ:Ren}(h:VR ρ v v')(j:G0 v=8):∃ b,v'=.bool b/\D3 Ora.env v=.bool b:=by
 obtain⟨h1,f⟩:=n9 h A2;cases hu:D3 Ora.env v with
 | int k n=>rw[hu]at f;simp only[F5]at f;have:=K7 k;omega
 | bool b=>rw[hu]at h1;cases h1;exact⟨b,rfl,rfl⟩
 | str s=>rw[hu]at f;simp only[F5]at f;omega
 | none=>rw[hu]at h1;cases h1
 | seq _ _ _=>rw[hu]at h1;cases h1
def d7{ρ:Ren}(h:VR ρ v v')(j:G0 v=9):∃ s,v'=.string ⟨⟨s⟩⟩/\D3 Ora.env v=.str s:=by
 obtain⟨h1,f⟩:=n9 h A2;cases hu:D3 Ora.env v with
 | int k n=>rw[hu]at f;simp only[F5]at f;have:=K7 k;omega
 | bool b=>rw[hu]at f;simp only[F5]at f;omega
 | str s=>rw[hu]at h1;cases h1;exact⟨s,rfl,rfl⟩
 | none=>rw[hu]at h1;cases h1
 | seq _ _ _=>rw[hu]at h1;cases h1
def gO{m m':Mem}{t:Nat}{op:LOp}(h:S7 m t op xs=some (v,m')):v=hole m.lg.nx t/\m'=m.wLg ⟨m.lg.nx+1,m.lg.pi,.lt m.lg.nx t op xs::m.lg.log⟩:=by
 obtain⟨H,n,W,hi,⟨nx,pi,log⟩⟩:=m;simp only[S7,E1,H4]at h;cases h;exact⟨rfl,rfl⟩
def L5{m m':Mem}{t:Nat}{op:LOp}(h:S7 m t op xs=some (v,m'))(n:Sat m'.lg):∃ u,evU op (xs.map (D3 Ora.env))=u/\F5 u=t/\∃ r,toV u=some r/\(∀ ρ,VR ρ v r)/\t<10:=by
 obtain⟨rfl,rfl⟩:=gO h;obtain⟨h1,f,h3⟩:=n (.lt m.lg.nx t op xs) (by cases m;exact B1);refine⟨_,rfl,h1▸f,?_⟩;obtain⟨r,j,_⟩:=MO (u:=Ora.env m.lg.nx) A2;exact⟨r,h1▸j,fun ρ=>.hole j f,h3⟩
section
variable {P:Program} {base:Nat} {ρ:Ren} {m m':Mem} {w:World}
def St.wLg(h:HR P base ρ m.H w)(lg:Lg):St P base ρ ρ m (m.wLg lg) w w:=by
 obtain⟨H,n,W,hi,l⟩:=m;have r:=St.refl (m:=⟨H,n,W,hi,l⟩) h;exact⟨r.ext,r.new,r.nle,r.hle,r.nhi,r.hr,r.wsub,r.wrw,r.keep,r.size,r.os,r.blk,r.same,r.tch⟩
def aC:∀ {l:List c8} {i:Nat} {b:Bool},wQ l i=some b->c8.br i b ∈ l
 | [],_,_,h=>by cases h
 | .br j c::r,i,b,h=>by
   rw[wQ]at h;cases f:Nat.beq j i with
   | true=>rw[f]at h;cases h;rw[A0 f];exact B1
   | false=>rw[f]at h;exact C3 _ (aC h)
 | .lt _ _ _ _::r,i,b,h=>C3 _ (aC (l:=r) h)
 | .dt _ _ _ _::r,i,b,h=>C3 _ (aC (l:=r) h)
 | .as _ _::r,i,b,h=>C3 _ (aC (l:=r) h)
 | .con _ _ _ _ _::r,i,b,h=>C3 _ (aC (l:=r) h)
def dT{lg f:Lg}{b:Bool}(h:brL lg c=some (b,f)):lg.le f:=by
 unfold brL at h;split at h
 .cases h;exact .refl _
 .obtain⟨nx,pi,log⟩:=lg;simp only at h;split at h
  .cases h;exact .refl _
  .split at h
   .cases h;exact⟨[_],rfl⟩
   .cases h;exact⟨[_],rfl⟩
   .cases h
 .cases h
def kN{lg f:Lg}{b:Bool}(h:brL lg c=some (b,f))(q:VR ρ c c')(n:Sat f):c'=.bool b:=by
 unfold brL at h;split at h
 .cases h;exact bG q
 .rename_i i;have A:Ora.env i=.bool b:=by
   obtain⟨nx,pi,log⟩:=lg;simp only at h;split at h
   .rename_i b' B;cases h;exact n _ (aC B)
   .split at h
    .cases h;exact n (.br i true) B1
    .cases h;exact n (.br i false) B1
    .cases h
  obtain⟨b',h1,j⟩:=fE q rfl;have j:Ora.env i=.bool b':=j;rw[A]at j;cases j;exact h1
 .cases h
def sS:∀ {a b:List U} {z:Bool},a.length%2=0->kI (a++b)=some z->∃ x y,kI a=some x/\kI b=some y/\z=(x && y)
 | [],b,z,_,h=>⟨true,z,rfl,h,rfl⟩
 | [_],_,_,hl,_=>by simp at hl
 | p::q::r,b,z,hl,h=>by
   simp only[R4]at h;unfold kI at h;split at h
   .rename_i u v j n;cases h;obtain⟨x,y,h1,f,rfl⟩:=sS (by simp only[D5]at hl;omega) n;exact⟨u && x,y,by simp only[kI,j,h1],f,by simp[Bool.and_assoc]⟩
   .cases h
def QN(h:dN P t x y=true)(hx:VR ρ x x')(C:VR ρ y y'){b:Bool}(j:eqU (D3 Ora.env x) (D3 Ora.env y)=some b)(n:Nat)(w:World):(Op.equalIn (n+1) t x' y').run P w=.ok b w:=by
 unfold dN at h;split at h
 .rename_i hu;obtain⟨h1,f⟩:=B3 h;obtain⟨p,rfl,A⟩:=fE hx (A0 h1);obtain⟨q,rfl,B⟩:=fE C (A0 f);rw[A,B]at j;cases j;simp[Op.equalIn,A4,C8 hu,Result.andThen]
 .rename_i k hu;obtain⟨h1,f⟩:=B3 h;have h1:=A0 h1;have f:=A0 f;obtain⟨E,p,rfl,A,f1⟩:=L7 hx (by have:=K7 k;omega);obtain⟨D,q,rfl,B,f2⟩:=L7 C (by have:=K7 k;omega);have g1:E=k:=by cases E<;>cases k<;>first|rfl|(simp only[fN]at f1 h1;omega)
  have g2:D=k:=by cases D<;>cases k<;>first|rfl|(simp only[fN]at f2 f;omega)
  subst g1;subst g2;rw[A,B]at j;simp[eqU]at j;subst j;simp[Op.equalIn,A4,C8 hu,Result.andThen]
 .rename_i hu;obtain⟨h1,f⟩:=B3 h;obtain⟨p,rfl,A⟩:=d7 hx (A0 h1);obtain⟨q,rfl,B⟩:=d7 C (A0 f);rw[A,B]at j;cases j
  have:=run_equalIn_string (P:=P) w n t ⟨⟨p⟩⟩ ⟨⟨q⟩⟩ hu;rw[this];simp[ByteArray.toList_eq]
 .cases h
mutual
def PF:∀ (d:Nat) (t:TypeId) (x y:Value) (l:List Value),eqS P d t x y=some l->l.length%2=0
 | 0,_,_,_,_,h=>by simp[eqS]at h
 | d+1,t,x,y,l,h=>by
   unfold eqS at h;cases hs:dN P t x y with
   | true=>rw[hs]at h;cases h;simp
   | false =>
     rw[hs]at h;simp only[D4]at h;split at h
     .rename_i fs xs ys hu;cases hst:P.stoodInHeld t with
      | true=>rw[hst]at h;cases h
      | false=>rw[hst]at h;exact wT d _ _ _ l h
     .split at h
      .exact wT d _ _ _ l h
      .cases h
     .cases h
def wT:∀ (d:Nat) (fs:List Field) (xs ys:List Value) (l:List Value),wU P d fs xs ys=some l->l.length%2=0
 | 0,_,_,_,_,h=>by simp[wU]at h
 | d+1,[],_,_,_,h=>by simp only[wU,D0]at h;subst h;rfl
 | d+1,f::fs,xs,ys,l,h=>by
   unfold wU at h;cases hnm:f.name == "_" with
   | true=>rw[hnm]at h;cases h
   | false =>
     rw[hnm]at h;simp only[D4]at h;split at h
     .split at h
      .rename_i a b ha hb;cases h
       have:=PF d _ _ _ a ha
       have:=wT d _ _ _ b hb;simp only[B8];omega
      .cases h
     .cases h
end
mutual
def LJ:∀ (d:Nat) (t:TypeId) (x y x' y':Value) (l:List Value) (b:Bool),eqS P d t x y=some l->kI (l.map (D3 Ora.env))=some b->VR ρ x x'->VR ρ y y'->∀ (n:Nat),d<=n->∀ w:World,(Op.equalIn n t x' y').run P w=.ok b w
 | 0,_,_,_,_,_,_,_,h,_,_,_,_,_,_=>by simp[eqS]at h
 | d+1,t,x,y,x',y',l,b,h,hl,hx,hy,n,hn,w=>by
   obtain⟨n,rfl⟩:∃ k,n=k+1:=⟨n-1,A2⟩;have hn':d<=n:=A2;unfold eqS at h;cases hs:dN P t x y with
   | true =>
     rw[hs]at h;cases h;simp only[C4,F8,kI]at hl;split at hl
     .rename_i u v e1 e2;cases e2;cases hl;rw[mP];exact QN hs hx hy e1 n w
     .cases hl
   | false =>
     rw[hs]at h;simp only[D4]at h;split at h
     .rename_i fs xs ys hu;cases hst:P.stoodInHeld t with
      | true=>rw[hst]at h;cases h
      | false =>
        rw[hst]at h;obtain⟨xs',rfl,hx1⟩:=U5 hx;obtain⟨ys',rfl,hy1⟩:=U5 hy;have hf:P.fieldsOf t=fs:=by simp[Program.fieldsOf,hu]
        rw[run_equalIn_struct (P:=P) w n t _ _ (by rw[hf];exact hu) hst,hf];exact DF d fs.toList xs.toList ys.toList xs' ys' l b h hl hx1 hy1 n hn' w
     .rename_i k e xs ys hu;split at h
      .rename_i s hz;obtain⟨xs',rfl,hx1⟩:=U5 hx;obtain⟨ys',rfl,hy1⟩:=U5 hy;obtain⟨i,hi,rfl⟩:=yX hz;rw[run_equalIn_array (P:=P) (w:=w) n _ _ hu hi,show P.cellsOf e=i.size by simp[Program.cellsOf,hi],dR];exact DF d _ xs.toList ys.toList xs' ys' l b h hl hx1 hy1 n hn' w
      .cases h
     .cases h
def DF:∀ (d:Nat) (fs:List Field) (xs ys xs' ys':List Value) (l:List Value) (b:Bool),wU P d fs xs ys=some l->kI (l.map (D3 Ora.env))=some b->LR ρ xs xs'->LR ρ ys ys'->∀ (n:Nat),d<=n->∀ w:World,(Op.eqFields n ⟨xs'⟩ ⟨ys'⟩ fs).run P w=.ok b w
 | 0,_,_,_,_,_,_,_,h,_,_,_,_,_,_=>by simp[wU]at h
 | d+1,[],_,_,_,_,_,b,h,hl,_,_,_,_,_=>by
   simp only[wU,D0]at h;subst h;simp only[F8,kI,D0]at hl;subst hl;simp[Op.eqFields]
 | d+1,f::fs,xs,ys,xs',ys',l,b,h,hl,hx,hy,n,hn,w=>by
   unfold wU at h;cases hnm:f.name == "_" with
   | true=>rw[hnm]at h;cases h
   | false =>
     rw[hnm]at h;simp only[D4]at h;have hn':f.name ≠ "_":=by simpa using hnm
     split at h
     .rename_i x y h1 h2;obtain⟨x',g1,g2⟩:=fK h1 hx w;obtain⟨y',g3,g4⟩:=fK h2 hy w;split at h
      .rename_i a c ha hc;cases h;rw[S9]at hl;obtain⟨p,q,e1,e2,rfl⟩:=sS (by have:=PF d _ _ _ a ha;simpa using this) hl;have ih:=LJ d f.type x y x' y' a p ha e1 g2 g4 n A2 w;have ih2:=DF d fs xs ys xs' ys' c q hc e2 hx hy n A2 w;unfold Op.eqFields;rw[A9 hn'];cases p<;>simp[A4,g1,g3,Result.andThen,ih,ih2]
      .cases h
     .cases h
end
end
end
section
open Go
variable [Ora]
section
variable {P:Program} {base:Nat} {ρ:Ren} {m m':Mem} {w w':World}
def St.new0{ab:AB}(h:HR P base ρ m.H w)(O:Y1 m ab k=some (v,m'))(R:J2 ρ m.n m'.hi)(J:BR P (upd ρ m.n l') ab l' w)(F:l'.on=false)
  (N:∀ q,Tc ab l' q->Fp ρ m.H q/\∀ id,id<=G9->∀ a l,Hp.get m.H id=some a->ρ id=some l->a.rw=true->l.on=true->l.blk≠q):v=k m.n/\upd ρ m.n l' m.n=some l'/\St P base ρ (upd ρ m.n l') m m' w w:=by
 obtain⟨hle,hv,rfl⟩:=K6 O;have E:ρ m.n=none:=R m.n (A6 _) (J9 _ _).2;have A:=V4 (l:=l') E;refine⟨hv,K8 _ _ _,A,fun b q h1 j=>?_,by simp,(J9 _ _).1,fun _=>X5 (J9 _ _).2,⟨fun b q M=>?_,fun id hid a f=>?_⟩,fun b J=>J,fun b h1 j=>absurd h1 j,fun q M _=>rfl,A6 _,⟨rfl,rfl,rfl⟩,fun b q h1 j B=>?_,fun id hid h1 j=>?_,fun q ⟨id,a,l,hid,f,D,L⟩=>.inr ?_⟩
 .obtain⟨rfl,rfl⟩:=T5 h1 j;exact⟨A6 _,I3 _⟩
 .cases h0:ρ b with
  | some Q=>exact h.dom b Q h0
  | none=>obtain⟨rfl,rfl⟩:=T5 M h0;exact hle
 .rw[E5 _ _ _ _ hle hid]at f;by_cases e:id=m.n
  .rw[A9 e]at f;have f:=A7 f;subst f;subst e;exact⟨l',K8 _ _ _,J,fun _ B=>(by rw[F]at B;cases B)⟩
  .rw[A8 e]at f;obtain⟨l0,h1,j,h3⟩:=h.at_ id hid a f;refine⟨l0,A _ _ h1,j.mono A (fun _ _=>rfl),fun hr B=>⟨(h3 hr B).1,fun G C I l2 g1 g2 g3=>?_⟩⟩;rw[E5 _ _ _ _ hle C]at g1;by_cases K:G=m.n
   .subst K;rw[K8]at g2
    have:=A7 g2;subst this;rw[A9 rfl]at g1;have g1:=A7 g1;subst g1;exact absurd rfl ((N _ g3).2 id hid a l0 f h1 hr B)
   .rw[A8 K]at g1;unfold upd at g2;rw[A8 K]at g2;exact(h3 hr B).2 G C I l2 g1 g2 g3
 .obtain⟨rfl,rfl⟩:=T5 h1 j;rw[F]at B;cases B
 .rw[E5 _ _ _ _ hle hid,A8];intro e;subst e;rcases j with j|j
  .omega
  .have j:upN m.hi m.n<=m.n:=j
   have:=(J9 m.hi m.n).2;omega
 .have f:Hp.get (m.H.set m.n (some ab)) id=some a:=f;rw[E5 _ _ _ _ hle hid]at f;by_cases e:id=m.n
  .subst e;rw[A9 rfl]at f;have f:=A7 f;subst f;rw[K8]at D;have D:=A7 D;subst D;exact(N q L.2).1
  .rw[A8 e]at f;unfold upd at D;rw[A8 e]at D;exact⟨id,a,l,hid,f,D,L⟩
def St.same0{ab:AB}{id:Nat}(h:HR P base ρ m.H w)(T:bB m id ab'=some m')(L:Hp.get m.H id=some ab)(D:ab.rw=true)(G:ρ id=some l)(N:BR P ρ ab' l w)(Q:∀ q,Tc ab' l q->Tc ab l q):St P base ρ ρ m m' w w:=by
 obtain⟨hle,rfl⟩:=T6 T;obtain⟨E,h3⟩:=h.atl G L;refine⟨fun _ _ h=>h,fun b k h1 E=>(by rw[h1]at E;cases E),A6 _,A6 _,fun h=>h,⟨h.dom,fun n f a A=>?_⟩,fun b N=>C3 _ N,fun b h1 E k K=>?_,fun k K R=>rfl,A6 _,⟨rfl,rfl,rfl⟩,fun b k h1 E=>(by rw[h1]at E;cases E),fun n f S U=>?_,fun k ⟨n,a,q,f,A,I,O⟩=>.inr ?_⟩
 .rw[E5 _ _ _ _ hle f]at A;by_cases e:n=id
  .rw[A9 e]at A;have A:=A7 A;subst A;subst e;refine⟨l,G,N,fun _ C=>⟨(h3 D C).1,fun B j F M g1 g2 g3=>?_⟩⟩;rw[E5 _ _ _ _ hle j]at g1;by_cases J:B=n
   .exact J
   .rw[A8 J]at g1;exact(h3 D C).2 B j F M g1 g2 g3
  .rw[A8 e]at A;obtain⟨l2,g1,g2,g3⟩:=h.at_ n f a A;refine⟨l2,g1,g2.mono (fun _ _ h=>h) (fun k K=>rfl),fun hr C=>⟨(g3 hr C).1,fun B j F M f1 f2 f3=>?_⟩⟩;rw[E5 _ _ _ _ hle j]at f1;by_cases J:B=id
   .subst J;rw[G]at f2
    have:=A7 f2;subst this;have f1:=A7 (by simpa using f1);subst f1;exact(g3 hr C).2 B j ab l L G (Q _ f3)
   .rw[A8 J]at f1;exact(g3 hr C).2 B j F M f1 f2 f3
 .rcases B4.1 h1 with rfl|h1
  .exact⟨ab,L,D⟩
  .exact absurd h1 E
 .rw[E5 _ _ _ _ hle f,A8];intro e;subst e;exact S B1
 .have A:Hp.get (m.H.set id (some ab')) n=some a:=A;rw[E5 _ _ _ _ hle f]at A;by_cases e:n=id
  .subst e;rw[A9 rfl]at A;have A:=A7 A;subst A;rw[G]at I;have I:=A7 I;subst I;exact⟨n,ab,l,f,L,G,AB.rw_fr D,Q _ O.2⟩
  .rw[A8 e]at A;exact⟨n,a,q,f,A,I,O⟩
def St.move{ab:AB}{id:Nat}(h:HR P base ρ m.H w)(hle:id<=G9)(hg:Hp.get m.H id=some ab)(F:ab.rw=true)(U:ρ id=some l)
  (hn:Y1 (iH m id) ab' k=some (v,m')) (hf:J2 ρ m.n m'.hi) (N:l'.on=true->l.on=true/\l'.blk=l.blk)
  (ho:w'.os=w.os/\w'.tape=w.tape/\w'.output=w.output) (ay:w'.heap.size=w.heap.size) (Y:∀ k,(l.on=true->k≠l.blk)->w'.heap[k]? = w.heap[k]?) (W:BR P (upd ρ m.n l') ab' l' w') (aw:ab'≠.frz) :
  v=k m.n/\upd ρ m.n l' m.n=some l'/\St P base ρ (upd ρ m.n l') m m' w w':=by
 rw[Z9]at hn;obtain⟨S,hv,rfl⟩:=K6 hn;have B:ρ m.n=none:=hf m.n (A6 _) (J9 _ _).2;have I:=V4 (l:=l') B;obtain⟨Q,h3⟩:=h.atl U hg;have V:∀ k,Tc ab' l' k->l.on=true/\k=l.blk:=fun k Y=>by
  rcases Y with⟨_,h1,rfl⟩|⟨rfl,_⟩
  .exact N h1
  .exact absurd rfl aw
 have av:id≠m.n:=fun e=>by subst e;rw[U]at B;cases B
 have A:∀ i,i<=G9->Hp.get ((m.H.set id none).set m.n (some ab')) i=if i=m.n then some ab' else if i=id then none else Hp.get m.H i:=fun i hi=>by
  rw[E5 _ _ _ _ S hi,E5 _ _ _ _ hle hi]
 refine⟨hv,K8 _ _ _,I,fun b q h1 Q=>?_,Y3 _,(J9 _ _).1,fun _=>X5 (J9 _ _).2,⟨fun b q E=>?_,fun i hi a f=>?_⟩,fun b W=>C3 _ W,fun b h1 Q q E=>?_,fun q E az=>Y q ?_,by rw[ay];exact A6 _,ho,fun b q h1 Q C=>?_,fun i hi h4 T=>?_,fun k ⟨i,a,q,hi,f,E,ht⟩=>.inr ?_⟩
 .obtain⟨rfl,rfl⟩:=T5 h1 Q;exact⟨A6 _,I3 _⟩
 .cases h0:ρ b with
  | some q0=>exact h.dom b q0 h0
  | none=>obtain⟨rfl,rfl⟩:=T5 E h0;exact S
 .have f:Hp.get ((m.H.set id none).set m.n (some ab')) i=some a:=f;rw[A i hi]at f;by_cases e:i=m.n
  .rw[A9 e]at f;have f:=A7 f;subst f;subst e;refine⟨l',K8 _ _ _,W,fun au C=>?_⟩;obtain⟨j,D⟩:=N C;refine⟨by rw[D];exact(h3 F j).1,fun K L Z l2 g1 g2 g3=>?_⟩;rw[A K L]at g1;by_cases e2:K=m.n
   .exact e2
   .rw[A8 e2]at g1;unfold upd at g2;rw[A8 e2]at g2;by_cases J:K=id
    .rw[A9 J]at g1;cases g1
    .rw[A8 J]at g1;exact absurd ((h3 F j).2 K L Z l2 g1 g2 (D▸g3)) J
  .rw[A8 e]at f;by_cases J:i=id
   .rw[A9 J]at f;cases f
   .rw[A8 J]at f;obtain⟨l2,g1,g2,g3⟩:=h.at_ i hi a f;have X:∀ k,Tc a l2 k->l.on=true->k≠l.blk:=fun k O j hh=>J ((h3 F j).2 i hi a l2 f g1 (hh▸O))
    refine⟨l2,I _ _ g1,g2.mono I (fun k O=>Y _ (X k O)),fun hr C=>⟨(g3 hr C).1,fun G M R l3 f1 f2 f3=>?_⟩⟩;have f1:Hp.get ((m.H.set id none).set m.n (some ab')) G=some R:=f1;rw[A G M]at f1;by_cases e4:G=m.n
    .subst e4;rw[K8]at f2
     have:=A7 f2;subst this;rw[A9 rfl]at f1;have f1:=A7 f1;subst f1;obtain⟨j,E⟩:=V _ f3;exact absurd E (X _ (.inl ⟨AB.rw_on hr,C,rfl⟩) j)
    .rw[A8 e4]at f1;unfold upd at f2;rw[A8 e4]at f2;by_cases e5:G=id
     .rw[A9 e5]at f1;cases f1
     .rw[A8 e5]at f1;exact(g3 hr C).2 G M R l3 f1 f2 f3
 .rcases B4.1 h1 with rfl|h1
  .exact⟨ab,hg,F⟩
  .exact absurd h1 Q
 .exact fun j e=>az id B1 l U j e.symm
 .obtain⟨rfl,rfl⟩:=T5 h1 Q;obtain⟨j,D⟩:=N C;exact .inr ⟨id,B1,l,U,j,D.symm⟩
 .have ax:=A i hi;show Hp.get ((m.H.set id none).set m.n (some ab')) i=_;rw[ax,A8,A8]
  .intro e;subst e;exact h4 B1
  .intro e;subst e;rcases T with T|T
   .omega
   .have T:upN m.hi m.n<=m.n:=T
    have:=(J9 m.hi m.n).2;omega
 .have f:Hp.get ((m.H.set id none).set m.n (some ab')) i=some a:=f;rw[A i hi]at f;by_cases e:i=m.n
  .rw[A9 e]at f;have f:=A7 f;subst f;subst e;rw[K8]at E;have E:=A7 E;subst E;obtain⟨j,W⟩:=V k ht.2;exact⟨id,ab,l,hle,hg,U,AB.rw_fr F,.inl ⟨AB.rw_on F,j,W.symm⟩⟩
  .rw[A8 e]at f;unfold upd at E;rw[A8 e]at E;by_cases J:i=id
   .rw[A9 J]at f;cases f
   .rw[A8 J]at f;exact⟨i,a,q,hi,f,E,ht⟩
end
end
section
open Go
variable [Ora]
def p9{m m':Mem}{ab:AB}(h:Y1 m ab k=some (v,m')):m'.lg=m.lg:=by
 obtain⟨_,_,rfl⟩:=K6 h;rfl
def cI{m m':Mem}{id:Nat}{ab:AB}(h:bB m id ab=some m'):m'.lg=m.lg:=by
 obtain⟨_,rfl⟩:=T6 h;rfl
def qI{m m':Mem}(h:mQ m a vs=some m'):m'.lg=m.lg:=by
 unfold mQ at h;split at h
 .obtain⟨_,h⟩:=A3 h;rw[H4]at h;exact cI h
 .cases h
def QF{P:Program}{m m':Mem}(h:uR P m t a v=some m'):m'.lg=m.lg:=by
 unfold uR at h;split at h
 .obtain⟨_,h⟩:=A3 h;exact qI h
 .cases h
def e9{m m':Mem}(h:noM o m=some (v,m')):m'.lg=m.lg:=by
 obtain⟨_,rfl⟩:=Z8 h;rfl
def xH{P:Program}{m m':Mem}{n:Nat}{ps:List (Nat×Value)}(h:bM P m t n ps=some (v,m')):m'.lg=m.lg:=by
 unfold bM at h;split at h
 .split at h
  .obtain⟨_,h⟩:=A3 h;split at h
   .exact p9 h
   .cases h
  .cases h
 .cases h
def yH{P:Program}{m m':Mem}{l:Value}(h:dI P m t l c=some (v,m')):m'.lg=m.lg:=by
 unfold dI at h;split at h
 .split at h
  .obtain⟨_,h⟩:=A3 h;split at h
   .rw[H4]at h;exact p9 h
   .cases h
  .cases h
 .cases h
def ZH{P:Program}{m m':Mem}(h:AN P m s t x=some (v,m')):m'.lg=m.lg:=by
 unfold AN at h;split at h
 .cases h;rfl
 .cases h;rfl
 .cases h;rfl
 .split at h
  .split at h
   .rw[H4]at h;exact p9 h
   .cases h
  .cases h
 .split at h<;>cases h;rfl
 .split at h
  .split at h
   .split at h<;>cases h;rfl
   .cases h
  .cases h
 .cases h
def MB{P:Program}{m m':Mem}(h:qF P m t t2 x y=some (v,m')):m'.lg=m.lg:=by
 unfold qF at h;split at h
 .rename_i B d2 _ _;cases f:bV d2 with
  | false=>rw[f]at h;cases h
  | true =>
  rw[f]at h;simp only[P1,D4]at h;split at h
  .rename_i i a n c _;split at h
   .rename_i k new z _ _;obtain⟨_,h⟩:=A3 h;cases A:Nat.beq k 0 with
    | true =>
      rw[A]at h;simp only[D8]at h;split at h
      .obtain⟨_,h⟩:=A3 h;cases h;rfl
      .obtain⟨_,h⟩:=A3 h;cases h;rfl
    | false =>
      rw[A]at h;simp only[D4]at h;split at h
      .obtain⟨_,h⟩:=A3 h;rw[H4]at h;exact p9 h
      .cases q:Nat.blt c M1 with
       | true =>
         rw[q]at h;simp only[D8]at h;cases j:Nat.ble (n+k) c with
         | true =>
           rw[j]at h;simp only[D8]at h;split at h
           .rename_i m1 _ hw;cases h;exact qI hw
           .cases h
         | false =>
           rw[j]at h;simp only[D4]at h;split at h
           .rw[H4]at h;exact p9 h
           .cases h
       | false =>
         rw[q]at h;simp only[D4]at h;obtain⟨_,h⟩:=A3 h;split at h
         .obtain⟨_,h⟩:=A3 h;rw[H4]at h;rw[p9 h,Z9]
         .cases h
   .cases h
  .cases h
 .cases h
def ZE{P:Program}{m m':Mem}(h:IG P m t x y=some (v,m')):m'.lg=m.lg:=by
 unfold IG at h;split at h
 .split at h
  .split at h
   .split at h
    .obtain⟨_,h⟩:=A3 h;cases h;rfl
    .rename_i k cs j _ n;cases f:Nat.beq cs.length 0 with
     | true=>rw[f]at h;cases h;rfl
     | false =>
       rw[f]at h;simp only[D4]at h;obtain⟨_,h⟩:=A3 h;split at h
       .rename_i hw;cases h;exact qI hw
       .cases h
   .cases h
  .cases h
 .cases h
def xS{P:Program}{m m':Mem}{l:Value}(h:cY P m pt p l=some (v,m')):m'.lg=m.lg:=by
 unfold cY at h;split at h
 .cases h;rfl
 .split at h
  .split at h
   .obtain⟨_,h⟩:=A3 h;split at h
    .split at h
     .rename_i V9;cases h;exact cI V9
     .cases h
    .cases h
   .cases h
  .cases h
 .cases h
def IU{P:Program}{m m':Mem}(h:fT P m b vs tys=some (v,m')):m'.lg=m.lg:=by
 unfold fT at h;split at h
 .exact e9 h
 .exact e9 h
 .exact MB h
 .exact ZE h
 .exact e9 h
 .exact e9 h
 .unfold gD at h;split at h
  .cases h;rfl
  .rename_i a n c;cases f:Nat.beq n 0 || Nat.beq c 0 || Nat.beq c (M1+2)with
   | true=>rw[f]at h;cases h
   | false=>rw[f]at h;cases h;rfl
  .cases h
 .exact xS h
 .cases h
def A4Z{P:Program}{fr:Fr}{m m':Mem}{o:Op}(h:opM P fr m o=some (v,m')):m'.lg=m.lg:=by
 unfold opM at h;split at h
 .cases h;rfl
 .cases h;rfl
 .unfold NN at h;split at h<;>cases h<;>rfl
 .unfold CF at h;split at h
  .exact p9 h
  .cases h
 .unfold VW at h;obtain⟨_,h⟩:=A3 h;exact p9 h
 .exact e9 h
 .exact xH h
 .unfold NO at h;split at h
  .exact e9 h
  .cases h
 .unfold CD at h;split at h
  .obtain⟨h,_⟩:=lN h;exact QF h
  .cases h
 .unfold VV at h;split at h<;>cases h<;>rfl
 .unfold A09 at h;rename_i op t x y j;cases f:wI op with
  | true=>rw[f]at h;simp only[D8]at h;obtain⟨_,h⟩:=A3 h;exact e9 h
  | false=>rw[f]at h;exact e9 h
 .exact e9 h
 .exact ZH h
 .unfold CE at h;split at h
  .split at h
   .cases h
   .obtain⟨_,h⟩:=A3 h;cases h;rfl
  .cases h
 .cases h;rfl
 .exact yH h
 .exact e9 h
 .exact e9 h
 .exact e9 h
 .exact e9 h
 .exact e9 h
 .unfold jO at h;split at h
  .exact e9 h
  .cases h
 .exact IU h
 .cases h
def H1{m m':Mem}{t:Nat}{op:LOp}(h:S7 m t op xs=some (v,m')):m.lg.le m'.lg:=by
 obtain⟨_,rfl⟩:=gO h;obtain⟨H,n,W,hi,l⟩:=m;exact⟨[_],rfl⟩
def I9(m m':Mem):Prop:=∃ lg,m'=m.wLg lg
def I9.refl(m:Mem):I9 m m:=⟨m.lg,by cases m;rfl⟩
def I9.trans{a b c:Mem}(h:I9 a b)(k:I9 b c):I9 a c:=by
 obtain⟨l,rfl⟩:=h;obtain⟨l2,rfl⟩:=k;exact⟨l2,by cases a;rfl⟩
def G7{m m':Mem}{t:Nat}{op:LOp}(h:S7 m t op xs=some (v,m')):I9 m m':=⟨_,(gO h).2⟩
section
variable {P:Program} {base:Nat} {ρ:Ren} {m m':Mem} {w:World}
def JL{a b:Value}(h:tR m c a b=some (v,m')):m.lg.le m'.lg/\I9 m m':=by
 obtain⟨H,n,W,hi,lg⟩:=m;unfold tR at h;simp only at h;split at h
 .rename_i j f;cases h;exact⟨dT f,⟨_,rfl⟩⟩
 .rename_i j f;cases h;exact⟨dT f,⟨_,rfl⟩⟩
 .cases h
def QD{a b:Value}(h:mS P m op t a b=some (v,m')):m.lg.le m'.lg/\I9 m m':=by
 unfold mS at h;simp only at h;cases h1:(Nat.blt (G0 a) 8 && Nat.blt (G0 b) 8) || (Nat.beq (G0 a) 9 && Nat.beq (G0 b) 9)with
 | true=>rw[h1]at h;exact⟨H1 h,G7 h⟩
 | false =>
   rw[h1]at h;simp only[D4]at h;obtain⟨_,h⟩:=A3 h;exact⟨H1 h,G7 h⟩
def TB{x y:Operand}{a b:Value}(h:EV P m op t x y a b=some (v,m')):m.lg.le m'.lg/\I9 m m':=by
 unfold EV at h;obtain⟨_,h⟩:=A3 h;split at h
 .exact⟨H1 h,G7 h⟩
 .split at h
  .rename_i m1 h1;exact⟨(H1 h1).trans (H1 h),(G7 h1).trans (G7 h)⟩
  .cases h
 .cases h
def EU{i:Value}(h:Z6 P m t x i=some (v,m')):m.lg.le m'.lg/\I9 m m':=by
 unfold Z6 at h;cases f:!(Nat.blt (G0 i) 8)with
 | true=>rw[f]at h;cases h
 | false =>
   rw[f]at h;simp only[D4]at h;split at h
   .obtain⟨_,h⟩:=A3 h;exact⟨H1 h,G7 h⟩
   .split at h
    .obtain⟨_,h⟩:=A3 h;exact⟨H1 h,G7 h⟩
    .obtain⟨_,h⟩:=A3 h;exact⟨H1 h,G7 h⟩
    .cases h
   .cases h
def ES(h:jC P m t x lo hi mx=some (v,m')):m.lg.le m'.lg/\I9 m m':=by
 unfold jC at h;split at h
 .obtain⟨_,h⟩:=A3 h;split at h
  .cases h;exact⟨.refl _,.refl _⟩
  .obtain⟨_,h⟩:=A3 h;exact⟨H1 h,G7 h⟩
  .obtain⟨_,h⟩:=A3 h;exact⟨H1 h,G7 h⟩
  .obtain⟨_,h⟩:=A3 h;exact⟨H1 h,G7 h⟩
 .cases h
def SY{op:UnOp}(h:EQ m op x=some (v,m')):m.lg.le m'.lg/\I9 m m':=by
 unfold EQ at h;simp only at h;split at h
 .obtain⟨_,h⟩:=A3 h;exact⟨H1 h,G7 h⟩
 .obtain⟨_,h⟩:=A3 h;exact⟨H1 h,G7 h⟩
def JP(h:nZ P m s t x=some (v,m')):m.lg.le m'.lg/\I9 m m':=by
 unfold nZ at h;split at h
 .obtain⟨_,h⟩:=A3 h;exact⟨H1 h,G7 h⟩
 .obtain⟨_,h⟩:=A3 h;cases h;exact⟨.refl _,.refl _⟩
 .cases h
def yB(h:dC P m b vs tys=some (v,m')):m.lg.le m'.lg/\I9 m m':=by
 unfold dC at h;split at h
 .split at h
  .obtain⟨_,h⟩:=A3 h;exact⟨H1 h,G7 h⟩
  .cases h
 .obtain⟨_,h⟩:=A3 h;exact⟨H1 h,G7 h⟩
 .obtain⟨_,h⟩:=A3 h;exact⟨H1 h,G7 h⟩
 .cases h
def ON{s n:Nat}{i:Value}(h:RM m a s n i=some (v,m')):m.lg.le m'.lg/\I9 m m':=by
 unfold RM at h;cases j:!(Nat.blt (G0 i) 8)with
 | true=>rw[j]at h;cases h
 | false =>
   rw[j]at h;simp only[D4]at h;split at h
   .rename_i b H k W hi lg q;split at h
    .rename_i f B;cases h;have h1:=H1 q;obtain⟨l1,A⟩:=G7 q;refine⟨h1.trans (dT B),f,?_⟩;obtain⟨H0,n0,D,C,l0⟩:=m;cases A;rfl
    .cases h
   .cases h
def xX{i:Value}(h:dA P m t x i=some (v,m')):m.lg.le m'.lg/\I9 m m':=by
 unfold dA at h;split at h
 .split at h
  .exact ON h
  .cases h
 .split at h
  .generalize f:Nat.beq _ (M1+2)=q at h;cases q with
   | true=>cases h
   | false=>exact ON h
  .cases h
 .cases h
def xZ(h:dB P m s x i=some (v,m')):m.lg.le m'.lg/\I9 m m':=by
 unfold dB at h;split at h
 .split at h
  .split at h
   .split at h
    .cases h;exact⟨.refl _,.refl _⟩
    .cases h
   .cases h
  .cases h
 .cases h
def eD{cs:C9}{s n:Nat}{i:Value}:∀ {k o:Nat} {m m':Mem} {r:C9},bC m cs s n i o k=some (r,m')->m.lg.le m'.lg/\I9 m m'
 | 0,o,m,m',r,h=>by cases h;exact⟨.refl _,.refl _⟩
 | k+1,o,m,m',r,h=>by
   unfold bC at h;split at h
   .obtain⟨_,h⟩:=A3 h;split at h
    .rename_i m1 h1;split at h
     .rename_i f;cases h
      have:=eD f;exact⟨(H1 h1).trans this.1,(G7 h1).trans this.2⟩
     .cases h
    .cases h
   .cases h
def JN(h:nY P m t x=some (v,m')):m.lg.le m'.lg/\I9 m m':=by
 unfold nY at h;split at h
 .split at h
  .split at h
   .split at h
    .rename_i h1;cases h;exact eD h1
    .cases h
   .cases h
  .split at h
   .split at h
    .rename_i h1;cases h;exact eD h1
    .cases h
   .cases h
  .cases h
 .cases h
def MP{fr:Fr}{o:Op}(h:SZ P fr m o=some (v,m')):m.lg.le m'.lg/\I9 m m':=by
 unfold SZ at h;split at h
 .exact JL h
 .split at h
  .rename_i r hr;cases h;exact QD hr
  .exact TB h
 .exact SY h
 .exact JP h
 .exact ES h
 .exact EU h
 .exact xX h
 .exact xZ h
 .exact JN h
 .exact yB h
 .cases h
def oW{j k:IntKind}(h:fN j=fN k):j=k:=by cases j<;>cases k<;>first|rfl|(simp only[fN]at h;omega)
def QC{x y:Operand}{a b:Value}(h:mS P m op t a b=some (v,m'))(E:VR ρ a a')(G:VR ρ b b')(M:Sat m'.lg)(w:World) :
  ∃ r,(do eqGuard op t x y a' b';binOp op t a' b':Sem Value).run P w=.ok r w/\VR ρ v r:=by
 have fin:∀ {r:Value} {p q:Value},uZ p=true->uZ q=true->qC P op t p q=some r->a'=p->b'=q->(do eqGuard op t x y a' b';binOp op t a' b':Sem Value).run P w=.ok r w:=fun{r p q} hp J hr f C=>by
  subst f;subst C;have v1:VR ρ a' a':=.pure (by cases a'<;>simp[uZ]at hp<;>rfl);have v2:VR ρ b' b':=.pure (by cases b'<;>simp[uZ]at J<;>rfl);have g:kC P t x y a' b'=true:=by
   cases a'<;>simp[uZ]at hp<;>cases b'<;>simp[uZ]at J<;>rfl
  have Q:=pL (op:=op) (fun _=>g) v1 v2 w;obtain⟨A,_⟩:=uF hr v1 v2 w;simp[A4,Q,A,Result.andThen]
 unfold mS at h;simp only at h;cases h1:(Nat.blt (G0 a) 8 && Nat.blt (G0 b) 8) || (Nat.beq (G0 a) 9 && Nat.beq (G0 b) 9)with
 | true =>
   rw[h1]at h;obtain⟨u,f,C,r,B,H,N⟩:=L5 h M;have I:F5 u<10:=by rw[C];exact N
   refine⟨r,?_,H ρ⟩;rcases I1 _ _▸h1 with h1|h1
   .obtain⟨D,F⟩:=B3 h1;obtain⟨k,n,rfl,f1,_⟩:=L7 E (A1 D);obtain⟨j,R,rfl,f2,_⟩:=L7 G (A1 F);simp only[C4,F8,f1,f2,evU,evB]at f;subst f;obtain⟨O,g1,g2⟩:=CC I;rw[B]at g2;cases g2;exact fin rfl rfl (by unfold qC;exact g1) rfl rfl
   .obtain⟨D,F⟩:=B3 h1;obtain⟨s1,rfl,f1⟩:=d7 E (A0 D);obtain⟨s2,rfl,f2⟩:=d7 G (A0 F);simp only[C4,F8,f1,f2,evU,evB]at f;subst f;obtain⟨O,g1,g2⟩:=CC I;rw[B]at g2;cases g2;exact fin rfl rfl (by unfold qC;exact g1) rfl rfl
 | false =>
   rw[h1]at h;simp only[D4]at h;obtain⟨A,h⟩:=A3 h;obtain⟨A,K⟩:=B3 A;obtain⟨A,L⟩:=B3 A;obtain⟨A,h3⟩:=B3 A;have hu:P.underlying t=some .bool:=by
    split at K
    .assumption
    .cases K
   obtain⟨u,f,C,r,B,H,_⟩:=L5 h M;refine⟨r,?_,H ρ⟩;obtain⟨p,rfl,f1⟩:=fE E (A0 A);obtain⟨q,rfl,f2⟩:=fE G (A0 h3);simp only[C4,F8,f1,f2,evU,evB]at f;cases op<;>simp only[wI]at L<;>first
    | cases L
    | skip
   .subst f;cases B;exact fin rfl rfl (by simp[qC,zG,eqM,hu]) rfl rfl
   .subst f;cases B;exact fin rfl rfl (by simp[qC,zG,eqM,hu]) rfl rfl
def sY(e:Bool)(f:∃ cs,a'=.agg cs):binOp (bif e then .eql else .neq) t a' b'=(do let r <- Op.equal t a' b';pure (.bool (bif e then r else !r))):=by
 obtain⟨cs,rfl⟩:=f;cases e<;>cases b'<;>rfl
def TA{x y:Operand}{a b:Value}(h:EV P m op t x y a b=some (v,m'))(E:VR ρ a a')(J:VR ρ b b')(j:mS P m op t a b=none)(N:Sat m'.lg)(w:World) :
  ∃ r,(do eqGuard op t x y a' b';binOp op t a' b':Sem Value).run P w=.ok r w/\VR ρ v r:=by
 unfold EV at h;obtain⟨T,h⟩:=A3 h;have D:=pL (op:=op) (fun _=>T) E J w;have q:∀ {l},eqS P 20 t a b=some l->(op=.eql∨op=.neq)->∃ cs,a'=.agg cs:=fun{l} f K=>by
  unfold eqS at f;cases A:dN P t a b with
  | true =>
    unfold dN at A;unfold mS at j;simp only at j;split at A
    .rename_i hu;obtain⟨F,G⟩:=B3 A;rw[A0 F,A0 G,hu]at j;obtain⟨H,n,W,hi,⟨nx,pi,log⟩⟩:=m;rcases K with rfl|rfl<;>simp[wI,S7,E1,H4]at j
    .rename_i k hu;obtain⟨F,G⟩:=B3 A;have R:=K7 k;have S:Nat.blt (fN k) 8=true:=C5 R;rw[A0 F,A0 G,S]at j;obtain⟨H,n,W,hi,⟨nx,pi,log⟩⟩:=m;simp[S7,E1,H4]at j
    .obtain⟨F,G⟩:=B3 A;rw[A0 F,A0 G]at j;obtain⟨H,n,W,hi,⟨nx,pi,log⟩⟩:=m;simp[S7,E1,H4]at j
    .cases A
  | false =>
    rw[A]at f;simp only[D4]at f;split at f
    .obtain⟨cs',rfl,_⟩:=U5 E;exact⟨_,rfl⟩
    .obtain⟨cs',rfl,_⟩:=U5 E;exact⟨_,rfl⟩
    .cases f
 split at h
 .rename_i l f _;obtain⟨u,B,U,r,I,O,_⟩:=L5 h N;refine⟨r,?_,O ρ⟩;simp only[evU]at B;split at B
  .rename_i z M;subst B;cases I;have he:(Op.equal t a' b').run P w=.ok z w:=LJ 20 t a b a' b' l z f M E J _ F7 w;have C:=sY (t:=t) (b':=b') true (q f (.inl rfl));simp only[D8]at C;rw[C];simp[A4,D,he,Result.andThen]
  .subst B;cases I
 .rename_i l f _;split at h
  .rename_i hh m1 h1;have L:Sat m1.lg:=Q8.le N (H1 h);obtain⟨V,f1,f2,r1,f3,f4,_⟩:=L5 h1 L;obtain⟨u,B,U,r,I,O,_⟩:=L5 h N;refine⟨r,?_,O ρ⟩;simp only[evU]at f1;split at f1
   .rename_i z M;subst f1;cases f3;have hv:=n9 (ρ:=ρ) (f4 ρ) (by obtain⟨e,_⟩:=gO h1;rw[e];show 8<10;omega);have:D3 Ora.env hh=.bool z:=by
     cases hu:D3 Ora.env hh<;>rw[hu]at hv<;>first|(cases hv.1;done)|skip
     all_goals (obtain⟨Q,_⟩:=hv;cases Q;rfl)
    simp only[C4,F8,this,evU,ev1,unM,ofV]at B;subst B;cases I;have he:(Op.equal t a' b').run P w=.ok z w:=LJ 20 t a b a' b' l z f M E J _ F7 w;have C:=sY (t:=t) (b':=b') false (q f (.inr rfl));simp only[D4]at C;rw[C];simp[A4,D,he,Result.andThen]
   .subst f1;cases f3
  .cases h
 .cases h
end
end
end Go.Sx
