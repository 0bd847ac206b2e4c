import Derived.Test.YtbbicpheoakeeaaGreatDoorX1
import Derived.Laws.BytesString
set_option linter.all false
set_option maxRecDepth 100000
set_option maxHeartbeats 4000000
namespace Go.Sx
variable {e pt s t t2 ty:TypeId}{k:Nat->Value}{a' b' c c' p p' u v v' x x' y y' z:Value}{new new' old' vs vs' xs:D0}{d d2:TypeDesc}{a:Addr}{inf:TypeInfo}{ab':AB}{l l':Loc}{r:V8}{i:Nat}{op:BinOp}{tys:List TypeId}{b:Builtin}{hi lo mx o:Q3}{g:Operand->Value}
section
open Go
variable [Ora]
def OA(a b:Nat)(h:b<a):Builtin.nextslicecap a b<=3*a+4000:=by
 have grow:∀ r c,Builtin.growBy a r c<=max (c) (2*a+800):=by
  intro r;induction r with
  | zero=>intro c;simp only[Builtin.growBy];exact Nat.le_max_left _ _
  | succ r f =>
    intro c;simp only[Builtin.growBy];split
    .exact Nat.le_max_left _ _
    .have:=f (c+(c+768) / 4);refine B9 this ?_;rw[Nat.max_le];constructor
     .refine B9 ?_ (Nat.le_max_right _ _);omega
     .exact Nat.le_max_right _ _
 unfold Builtin.nextslicecap;split
 .omega
 .split
  .omega
  .have:=grow 4 b;refine B9 this ?_;rw[Nat.max_le];omega
section
variable {P:Program} {base:Nat} {ρ:Ren} {m m':Mem} {w:World}
def bX{w wd:World}(h:wd.heap=w.heap)(a:Addr):wd.cell? a=w.cell? a:=by simp[World.cell?,h]
def wJ(ρ:Ren):∀ l:List UInt8,LR ρ (P2 l) (P2 l)
 | []=>.nil
 | b::r=>.cons (.pure rfl) (wJ ρ r)
def uW{s k:Nat}(h:HR P base ρ m.H w)(f:eR m s y=some (k,new))(B:VR ρ y y') :
  (∀ wd,(Builtin.lenOf y').run P wd=.ok k wd)/\∃ new',LR ρ new new'/\∀ wd:World,wd.heap=w.heap->(Builtin.firstCells s k y').run P wd=.ok ⟨new'⟩ wd:=by
 unfold eR at f;split at f
 .rename_i n c;obtain⟨h1,q⟩:=A3 f;have h1:=A0 h1;subst h1;cases q;cases P4 B;exact⟨fun _=>rfl,[],.nil,fun _ _=>rfl⟩
 .rename_i a n c;split at f
  .rename_i cs hr;cases f;rcases P0 B with⟨l,A,_,_,rfl⟩|⟨l,c',A,_,_,_,_,rfl⟩|⟨a',c',_,rfl,_,rfl⟩
   .obtain⟨C,h1,q,h3⟩:=d8 h hr A;exact⟨fun _=>rfl,C,h1,fun wd hw=>K4 q fun j v D=>by rw[bX hw];exact h3 j v D⟩
   .obtain⟨C,h1,q,h3⟩:=d8 h hr A;exact⟨fun _=>rfl,C,h1,fun wd hw=>K4 q fun j v D=>by rw[bX hw];exact h3 j v D⟩
   .have:new=[]:=by
     unfold t8 at hr;split at hr
     .have:=(jH hr).2;simp at this;exact this
     .cases hr
    subst this;refine⟨fun _=>rfl,[],.nil,fun wd _=>?_⟩;simp[Builtin.firstCells,loadCells,loadCellsFrom]
  .cases f
 .rename_i b;obtain⟨_,f⟩:=A3 f;cases f;cases U6 B;refine⟨fun _=>rfl,P2 b.data.toList,?_,fun wd _=>?_⟩
  .exact wJ _ _
  .have e:((b.extract 0 b.size).data.map fun b=>Value.int .u8 b.toNat)=⟨P2 b.data.toList⟩:=by
    apply J1;simp[P2]
   show(pure ((b.extract 0 b.size).data.map fun b=>Value.int .u8 b.toNat):Sem V8).run P wd=_;rw[e];rfl
 .cases f
def A7A(h:dE d=true):(∃ e,d=.slice e)∨d=.string:=by cases d<;>first|cases h;done|exact .inl ⟨_,rfl⟩|exact .inr rfl
def hP{n k c:Nat}{a:Option Addr}(hu:P.underlying t=some (.slice e))(F:P.underlying t2=some d2)(C:dE d2=true)
  (hi:P.info? e=some inf) (H:∀ w,(zeroValue e).run P w=.ok z w) (hlen:∀ wd,(Builtin.lenOf x').run P wd=.ok k wd)
  (hold:∀ wd:World,wd.heap=w.heap->(Builtin.firstCells inf.size n (.slice a n c)).run P wd=.ok ⟨old'⟩ wd) (h:∀ wd:World,wd.heap=w.heap->(Builtin.firstCells inf.size k x').run P wd=.ok ⟨new'⟩ wd)
  (D:¬ n+k<=c) (K:(3*(n+k)+4000)*inf.bytes<=281474976710656) (hm:n+k<=1000000000) :
  ∃ nc,n+k<=nc/\(Builtin.append_ #[t,t2] ty #[.slice a n c,x']).run P w=.ok (.slice (some ⟨w.heap.size,0,none⟩) (n+k) nc) { w.drew with heap:=w.heap.push (.cells (⟨old'⟩++⟨new'⟩++Builtin.zeroCells z.cells (nc-(n+k))) e (0,0)) }:=by
 have I:H1 P e=some inf.size:=by simp[H1,hi]
 have A:Builtin.nextslicecap (n+k) c*inf.bytes<=281474976710656:=by
  have:=F7 inf.bytes (OA (n+k) c A2);omega
 let q:Question:=.appendCap (n+k) c e
 let nc:=q.cut (w.tape w.drawn q)
 have E:n+k<=nc:=by show n+k<=(n+k)+_;omega
 refine⟨nc,E,?_⟩;have B:(choose q).run P w=.ok nc w.drew:=by
  simp only[choose,Sem.run];rw[A7 (by simp[q,Question.forced])];rfl
 have f:∀ k w,(askRoom k).run P w=.ok () w:=fun k w=>by unfold askRoom;split<;>rfl
 unfold Builtin.append_;rcases A7A C with⟨J,rfl⟩|rfl
 all_goals simp only[I9,Q7,Q8,A4,C9 hu,C9 F,Result.andThen,K8 I,Sem.run_pure,J7,if_false,hlen]
 all_goals
  have j:¬ (((n+k:Nat):Int)>IntKind.i64.max):=by simp[IntKind.max,IntKind.bits,IntKind.signed];omega
  simp only[A7 D,j,false_and,if_false,A4,Result.andThen,V1 hi];rw[A7 (show ¬ (Builtin.nextslicecap (n+k) c*inf.bytes>2 ^ 48) by simpa using A)];have G:w.drew.heap=w.heap:=rfl;simp only[A4,Sem.run_pure,Result.andThen,show(choose (.appendCap (n+k) c e)).run P w=.ok nc w.drew from B,f,hold _ G,h _ G,H,V1 hi,Bool.not_false,if_true];rfl
def mZ{n k c:Nat}{w':World}(hu:P.underlying t=some (.slice e))(q:P.underlying t2=some d2)(h:dE d2=true)
  (hi:P.info? e=some inf) (hlen:∀ wd,(Builtin.lenOf x').run P wd=.ok k wd) (f:(Builtin.firstCells inf.size k x').run P w=.ok ⟨new'⟩ w)
  (hle:n+k<=c) (j:(storeCells (a.add (n*inf.size)) new').run P w=.ok () w') :
  (Builtin.append_ #[t,t2] ty #[.slice (some a) n c,x']).run P w=.ok (.slice (some a) (n+k) c) w':=by
 have A:H1 P e=some inf.size:=by simp[H1,hi]
 unfold Builtin.append_;rcases A7A h with⟨B,rfl⟩|rfl
 all_goals simp only[I9,Q7,Q8,A4,C9 hu,C9 q,Result.andThen,K8 A,Sem.run_pure,J7,if_false,hlen]
 all_goals simp[A9 hle,A4,f,Result.andThen,j]
def uK(hu:P.underlying t=some (.slice e))(j:P.underlying t2=some d2)(n:dE d2=true)
  (hi:P.info? e=some inf) (hlen:∀ wd,(Builtin.lenOf x').run P wd=.ok 0 wd) (f:(Builtin.firstCells inf.size 0 x').run P w=.ok #[] w) :
  (Builtin.append_ #[t,t2] ty #[.slice none 0 0,x']).run P w=.ok (.slice none 0 0) w:=by
 have q:H1 P e=some inf.size:=by simp[H1,hi]
 unfold Builtin.append_;rcases A7A n with⟨h,rfl⟩|rfl
 all_goals simp only[I9,Q7,Q8,A4,C9 hu,C9 j,Result.andThen,K8 q,Sem.run_pure,J7,if_false,hlen]
 all_goals simp[A4,f,Result.andThen]
def St.kill{ab:AB}{id:Nat}(h:HR P base ρ m.H w)(hle:id<=H7)(I:Hp.get m.H id=some ab)(B:ab.rw=true):St P base ρ ρ m (jZ m id) w w:=by
 rw[m6];refine⟨fun _ _ h=>h,fun b k h1 A=>(by rw[h1]at A;cases A),A6 _,A6 _,fun h=>h,h.sub fun n f a j=>?_,fun b F=>C4 _ F,fun b h1 A k C=>?_,fun k C D=>rfl,A6 _,⟨rfl,rfl,rfl⟩,fun b k h1 A=>(by rw[h1]at A;cases A),fun n f G K=>?_,fun k ⟨n,a,q,f,j,J,E⟩=>.inr ⟨n,a,q,f,?_,J,E⟩⟩
 .rw[F0 _ _ _ _ hle f]at j;by_cases e:n=id
  .rw[A9 e]at j;cases j
  .rw[A7 e]at j;exact j
 .rcases B5.1 h1 with rfl|h1
  .exact⟨ab,I,B⟩
  .exact absurd h1 A
 .rw[F0 _ _ _ _ hle f,A7];intro e;subst e;exact G B4
 .have j:Hp.get (m.H.set id none) n=some a:=j;rw[F0 _ _ _ _ hle f]at j;by_cases e:n=id
  .rw[A9 e]at j;cases j
  .rw[A7 e]at j;exact j
def St.grow{ab:AB}{id:Nat}{w':World}(h:HR P base ρ m.H w)(hle:id<=H7)(hg:Hp.get m.H id=some ab)(D:ab.rw=true)(R:ρ id=some l)(E:l.on=true)
  (hn:Z4 (jZ m id) ab' k=some (v,m')) (hf:K2 ρ m.n m'.hi)
  (ho:w'.os=w.os/\w'.tape=w.tape/\w'.output=w.output) (Y:w'.heap.size=w.heap.size) (X:∀ k,k≠l.blk->w'.heap[k]? = w.heap[k]?) (hb:BR P (upd ρ m.n l) ab' l w') (ay:ab'≠.frz:=by intro h;cases h) :
  v=k m.n/\St P base ρ (upd ρ m.n l) m m' w w':=by
 rw[m6]at hn;obtain⟨U,hv,rfl⟩:=L5 hn;have B:ρ m.n=none:=hf m.n (A6 _) (K9 _ _).2;have C:=W7 (l:=l) B;obtain⟨O,h3⟩:=h.atl R hg;have W:∀ k,Tc ab' l k->k=l.blk:=fun k X=>by
  rcases X with⟨_,_,rfl⟩|⟨rfl,_⟩
  .rfl
  .exact absurd rfl ay
 have ax:id≠m.n:=fun e=>by subst e;rw[R]at B;cases B
 have A:∀ i,i<=H7->Hp.get ((m.H.set id none).set m.n (some ab')) i=if i=m.n then some ab' else if i=id then none else Hp.get m.H i:=fun i hi=>by
  rw[F0 _ _ _ _ U hi,F0 _ _ _ _ hle hi]
 refine⟨hv,C,fun b q h1 O=>?_,W6 _,(K9 _ _).1,fun _=>Y7 (K9 _ _).2,⟨fun b q F=>?_,fun i hi a f=>?_⟩,fun b hb=>C4 _ hb,fun b h1 O q F=>?_,fun q F az=>X q ?_,by rw[Y];exact A6 _,ho,fun b q h1 O _=>?_,fun i hi h4 S=>?_,fun k ⟨i,a,q,hi,f,F,ht⟩=>.inr ?_⟩
 .obtain⟨rfl,rfl⟩:=U3 h1 O;exact⟨A6 _,J3 _⟩
 .cases h0:ρ b with
  | some q0 =>
    rw[C b q0 h0]at F
    have:=A8 F;subst this;exact h.dom b q0 h0
  | none=>obtain⟨rfl,rfl⟩:=U3 F h0;exact U
 .have f:Hp.get ((m.H.set id none).set m.n (some ab')) i=some a:=f;rw[A i hi]at f;have Q:∀ j,j<=H7->∀ J l2,Hp.get ((m.H.set id none).set m.n (some ab')) j=some J->upd ρ m.n l j=some l2->Tc J l2 l.blk->j=m.n:=fun j L J l2 g1 g2 g3=>by
   rw[A j L]at g1;by_cases e2:j=m.n
   .exact e2
   .rw[A7 e2]at g1;unfold upd at g2;rw[A7 e2]at g2;by_cases I:j=id
    .rw[A9 I]at g1;cases g1
    .rw[A7 I]at g1;exact absurd ((h3 D E).2 j L J l2 g1 g2 g3) I
  by_cases e:i=m.n
  .rw[A9 e]at f;have f:=A8 f;subst f;subst e;exact⟨l,L7 _ _ _,hb,fun _ _=>⟨(h3 D E).1,Q⟩⟩
  .rw[A7 e]at f;by_cases I:i=id
   .rw[A9 I]at f;cases f
   .rw[A7 I]at f;obtain⟨l2,g1,g2,g3⟩:=h.at_ i hi a f;have V:∀ k,Tc a l2 k->k≠l.blk:=fun k N hh=>I ((h3 D E).2 i hi a l2 f g1 (hh▸N))
    refine⟨l2,C _ _ g1,g2.mono C (fun k N=>X _ (V k N)),fun hr M=>⟨(g3 hr M).1,fun G K T l3 f1 f2 f3=>?_⟩⟩;have f1:Hp.get ((m.H.set id none).set m.n (some ab')) G=some T:=f1;rw[A G K]at f1;by_cases e4:G=m.n
    .subst e4;rw[L7]at f2
     have:=A8 f2;subst this;rw[A9 rfl]at f1;have f1:=A8 f1;subst f1;exact absurd (W _ f3) (V _ (.inl ⟨AB.rw_on hr,M,rfl⟩))
    .rw[A7 e4]at f1;unfold upd at f2;rw[A7 e4]at f2;by_cases e5:G=id
     .rw[A9 e5]at f1;cases f1
     .rw[A7 e5]at f1;exact(g3 hr M).2 G K T l3 f1 f2 f3
 .rcases B5.1 h1 with rfl|h1
  .exact⟨ab,hg,D⟩
  .exact absurd h1 O
 .exact fun e=>az id B4 l R E e.symm
 .obtain⟨rfl,rfl⟩:=U3 h1 O;exact .inr ⟨id,B4,q,R,E,rfl⟩
 .have Z:=A i hi;show Hp.get ((m.H.set id none).set m.n (some ab')) i=_;rw[Z,A7,A7]
  .intro e;subst e;exact h4 B4
  .intro e;subst e;rcases S with S|S
   .omega
   .have S:upN m.hi m.n<=m.n:=S
    have:=(K9 m.hi m.n).2;omega
 .have f:Hp.get ((m.H.set id none).set m.n (some ab')) i=some a:=f;rw[A i hi]at f;by_cases e:i=m.n
  .rw[A9 e]at f;have f:=A8 f;subst f;subst e;rw[L7]at F;have F:=A8 F;subst F;exact⟨id,ab,l,hle,hg,R,AB.rw_fr D,.inl ⟨AB.rw_on D,E,(W k ht.2).symm⟩⟩
  .rw[A7 e]at f;unfold upd at F;rw[A7 e]at F;by_cases I:i=id
   .rw[A9 I]at f;cases f
   .rw[A7 I]at f;exact⟨i,a,q,hi,f,F,ht⟩
def FJ{s k:Nat}(h:HR P base ρ m.H w)(f:eR m s y=some (k,new))(n:z.cells.size=s):new.length=k*s:=by
 unfold eR at f;split at f
 .obtain⟨_,q⟩:=A3 f;cases q;simp
 .split at f
  .rename_i cs hr;cases f;unfold t8 at hr;split at hr
   .exact(jH hr).2
   .cases hr
  .cases f
 .rename_i b;obtain⟨j,f⟩:=A3 f;have j:=A0 j;subst j;cases f;simp[P2]
 .cases f
def KU(h:new'[i]? = some u):(({ toList:=[] }:Array Value)++⟨new'⟩++r)[i]? = some u:=by
 have f:=(B0.1 h).1;rw[S7 (by simp;exact f)]
 simpa using h
def eE(h:(old'++new')[i]? = some u):(({ toList:=old' }:Array Value)++⟨new'⟩++r)[i]? = some u:=by
 have f:=(B0.1 h).1;rw[S7 (by simpa using f)]
 simpa using h
def eD{s k n nc:Nat}(h1:new'.length=k*s)(f:n+k<=nc)(q:z.cells.size=s)(j:old'.length=n*s) :
  nc*s<=(({ toList:=old' }:Array Value)++⟨new'⟩++Builtin.zeroCells z.cells (nc-(n+k))).size:=by
 simp[Builtin.zeroCells,j,h1,q];rw[<- H6,<- H6];exact F7 _ A2
def PM(h:HR P base ρ m.H w)(hb:base<=w.heap.size)(f:sQ P m t t2 x y=some (v,m'))(hf:K2 ρ m.n m'.hi)(hx:VR ρ x x')(hy:VR ρ y y') :
  VOk P base ρ m w (Builtin.append_ #[t,t2] ty #[x',y']) v m':=by
 unfold sQ at f;split at f
 .rename_i e d2 hu I;cases D:dE d2 with
  | false=>rw[D]at f;cases f
  | true =>
  rw[D]at f;simp only[P9,D6]at f;split at f
  .rename_i inf a n c hi;split at f
   .rename_i k new z V hz;obtain⟨g1,f⟩:=A3 f;obtain⟨g1,g4⟩:=B6 g1;obtain⟨g1,g3⟩:=B6 g1;obtain⟨g1,g2⟩:=B6 g1;have g1:=A1 g1;have g2:=A1 g2;have g3:=A0 g3;obtain⟨hlen,new',F,J⟩:=uW h V hy;have X:∀ w,(zeroValue e).run P w=.ok z w:=fun w=>aJ hz w
    have Q:new'.length=k*inf.size:=by rw[<- F.1];exact FJ h V g3
    have au:M9=9223372036854775808:=rfl;cases hk:Nat.beq k 0 with
    | true =>
      have hk:=A0 hk;subst hk;have an:Nat.beq 0 0=true:=rfl;simp only[an,E3]at f;have aq:new'=[]:=G0.1 (by rw[Q];simp);subst aq;cases a with
      | none =>
        simp only at f;obtain⟨E,f⟩:=A3 f;obtain⟨E,G⟩:=B6 E;have E:=A0 E;have G:=A0 G;subst E;subst G;cases f;cases P4 hx;exact VOk.same h (uK hu I D hi hlen (J w rfl)) (.pure rfl)
      | some S =>
        simp only at f;obtain⟨E,f⟩:=A3 f;obtain⟨E,G⟩:=B6 E;have E:=A1 E;have G:=A1 G;cases f;rcases P0 hx with⟨l,U,O,hc,rfl⟩|⟨l,c',U,O,hc,hn,B,rfl⟩|⟨a',c',_,_,he,_⟩
        .exact VOk.same h (mZ hu I D hi hlen (J w rfl) A2 rfl) (by simpa using hx)
        .exact VOk.same h (mZ hu I D hi hlen (J w rfl) A2 rfl) (by simpa using hx)
        .omega
    | false =>
      have ah:k≠0:=fun e=>by subst e;cases hk
      simp only[hk,D6]at f;cases a with
      | none =>
        simp only at f;obtain⟨E,f⟩:=A3 f;obtain⟨E,G⟩:=B6 E;have E:=A0 E;have G:=A0 G;subst E;subst G;rw[I1]at f;cases P4 hx;obtain⟨nc,K,hr⟩:=hP (ty:=ty) (c:=0) (a:=none) (old':=[]) hu I D hi X hlen (fun _ _=>rfl) J A2 g1 g2;have av:∀ A,P.info? e=some A->nc*A.size<=(({ toList:=[] }:Array Value)++⟨new'⟩++Builtin.zeroCells z.cells (nc-(0+k))).size:=fun A N=>by
         rw[hi]at N;cases N;exact eD Q K g3 (by simp)
        obtain⟨Z,e2,W⟩:=eC (wd:=w.drew) (fz:=(0,0)) (cap:=nc) h hb f hf F (fun i u hi=>by
         show(({ toList:=[] }:Array Value)++⟨new'⟩++Builtin.zeroCells z.cells (nc-(0+k)))[i]? = some u;exact KU hi) NF.zero av ⟨rfl,rfl,rfl⟩ rfl
        refine⟨_,_,_,hr,?_,W⟩;rw[Z,F4]
        have:=VR.op (ρ:=upd ρ m.n (lc w.heap.size 0 nc)) (b:=m.n) (o:=0) (n:=k) (m:=M9) (m':=nc) e2 (A6 _) A2 (fun _ _=>rfl)
        simpa using this
      | some S =>
        simp only at f;cases Y:Nat.blt c M9 with
        | true =>
          have ak:c<M9:=A1 Y;simp only[Y,E3]at f;rcases P0 hx with⟨l,U,O,hc,rfl⟩|⟨l,c',U,O,hc,hn,B,rfl⟩|⟨a',c',_,_,he,_⟩
          .cases q:Nat.ble (n+k) c with
           | true =>
             have L:=A1 q;simp only[q,E3]at f;split at f
             .rename_i m2 hw;cases f;rw[dX]at hw;obtain⟨w',h1,N⟩:=pM h hw U F;refine⟨_,ρ,w',mZ hu I D hi hlen (J w rfl) L ?_,?_,N⟩
              .rw[Y0,show S.off+l.sh+n*inf.size=S.off+n*inf.size+l.sh by omega];exact h1
              .obtain⟨ab,ao,af⟩:=S;simp only at O;subst O;exact .sl U hc
             .cases f
           | false =>
             have L:¬ n+k<=c:=fun hle=>by rw[show Nat.ble (n+k) c=true from C5 hle]at q;cases q
             simp only[q,D6]at f;split at f
             .rename_i old hold;rw[I1]at f;obtain⟨old',o1,o2,o3⟩:=d8 h hold U;have M:∀ wd:World,wd.heap=w.heap->(Builtin.firstCells inf.size n (.slice (some ⟨l.blk,S.off+l.sh,none⟩) n c)).run P wd=.ok ⟨old'⟩ wd:=fun wd hw=>K4 o2 fun j u hj=>by rw[bX hw];exact o3 j u hj
              obtain⟨nc,K,hr⟩:=hP (ty:=ty) hu I D hi X hlen M J L g1 g2;obtain⟨Z,e2,W⟩:=eC (wd:=w.drew) (fz:=(0,0)) (cap:=nc) (C:=⟨old'⟩++⟨new'⟩++Builtin.zeroCells z.cells (nc-(n+k))) h hb f hf (o1.append F) (fun i u hi=>eE hi) NF.zero
               (fun A N=>by rw[hi]at N;cases N;exact eD Q K g3 o2) ⟨rfl,rfl,rfl⟩ rfl
              refine⟨_,_,_,hr,?_,W⟩;rw[Z]
              have:=VR.op (ρ:=upd ρ m.n (lc w.heap.size 0 nc)) (b:=m.n) (o:=0) (n:=n+k) (m:=M9) (m':=nc) e2 (A6 _) K (fun _ _=>rfl)
              simpa using this
             .cases f
          .omega
          .omega
        | false =>
          simp only[Y,D6]at f;obtain⟨q0,ax⟩:=A3 f;clear f;have f:=ax;clear ax;obtain⟨E,G⟩:=B6 q0;replace E:=A0 E;replace G:=A0 G;clear q0;split at f
          .rename_i cs T O hg;obtain⟨p1,f⟩:=A3 f;rw[G8,G8,G8]at p1;obtain⟨⟨⟨p1,p2⟩,p3⟩,p4⟩:=p1;have p1:=A0 p1;have p2:=A0 p2;have p3:=A1 p3;have p4:S.block<m.n:=A1 p4;subst p2;rw[I1]at f;rcases P0 hx with⟨_,_,_,hc,_⟩|⟨l,c',U,_,_,hn,B,rfl⟩|⟨a',c',_,_,he,_⟩
           .omega
           .have B:=B E G;obtain⟨⟨aw,C,fz,T',z2,z3,z4⟩,z5⟩:=h.atl U hg;obtain⟨rfl,z6,z7⟩:=z4 rfl;have z8:=(z7 inf hi).2;have z7:=(z7 inf hi).1;by_cases q:n+k<=c'
            ·
             have az:(n+k)*inf.size<=c'*inf.size:=F7 _ q;rw[H6]at az;obtain⟨w',r1,r2,r3,r4,r5⟩:=Z2 (P:=P) (b:=l.blk) (o:=n*inf.size+l.sh) (fz:=fz) new' 0 C w z2 (GI F g4) (by rw[Q];subst B;omega) z6;obtain⟨Z,W⟩:=St.grow (w':=w') (l:=l) h p3 hg rfl U aw f hf r2 r3 r5 (by
              have R:ρ m.n=none:=by
               rw[m6]at f;obtain⟨_,_,rfl⟩:=L5 f;exact hf m.n (A6 _) (K9 _ _).2
              refine⟨aw,_,fz,_,r4,fun i u hi=>?_,fun _=>⟨rfl,z6.sz (by simp[Z3]),fun A N=>⟨by simpa [Z3]using(by rw[hi]at N;cases N;exact z7:l.sh+l.cap*A.size<=C.size),by rw[hi]at N;cases N;exact z8⟩⟩⟩;show ∃ u',(Array.mk (cM C.toList (n*inf.size+l.sh+0) new'))[l.sh+i]? = some u'/\_;have ag:C.toList.length=C.size:=by simp
              rw[I9,lJ _ _ _ _ (by rw[Q];subst B;omega)];by_cases ar:i<cs.length
              .rw[F1 ar]at hi;rw[A7 A2];obtain⟨u',y1,y2⟩:=z3 i u hi;exact⟨u',by simpa using y1,y2.mono (W7 R)⟩
              .rw[D8 A2]at hi;have ai:=(B0.1 hi).1;have aj:=F.1;rw[A9 A2];obtain⟨u',y1,y2⟩:=F.get hi;exact⟨u',by rw[show l.sh+i-(n*inf.size+l.sh+0)=i-cs.length by omega];exact y1,y2.mono (W7 R)⟩)
             refine⟨_,_,w',mZ (ty:=ty) hu I D hi hlen (J w rfl) q ?_,?_,W⟩
             .rw[Y0,G,show 0+l.sh+n*inf.size=n*inf.size+l.sh by omega];exact r1
             .rw[Z,G];exact .op (L7 _ _ _) (A6 _) q (fun _ _=>B)
            ·
             have ay:=St.kill h p3 hg rfl;have al:K2 ρ (jZ m S.block).n m'.hi:=by rw[m6];exact hf
             obtain⟨old',o1,o2⟩:=eB (ρ:=ρ) (C:=C) (cs:=cs) (s:=l.sh) z3;have oL:old'.length=n*inf.size:=by rw[<- o1.1];exact p1
             have M:∀ wd:World,wd.heap=w.heap->(Builtin.firstCells inf.size n (.slice (some ⟨l.blk,S.off+l.sh,none⟩) n c')).run P wd=.ok ⟨old'⟩ wd:=fun wd hw=>K4 oL fun j u hj=>by
              rw[bX hw,G]
              have:=o2 j u hj;simp[World.cell?,z2,this]
             obtain⟨nc,K,hr⟩:=hP (ty:=ty) hu I D hi X hlen M J q g1 g2;obtain⟨Z,e2,W⟩:=eC (wd:=w.drew) (fz:=(0,0)) (cap:=nc) (C:=⟨old'⟩++⟨new'⟩++Builtin.zeroCells z.cells (nc-(n+k))) ay.hr hb f al (o1.append F) (fun i u hi=>eE hi) NF.zero
              (fun A N=>by rw[hi]at N;cases N;exact eD Q K g3 oL) ⟨rfl,rfl,rfl⟩ rfl
             refine⟨_,_,_,hr,?_,St.trans hf ay W⟩;rw[Z]
             have:=VR.op (ρ:=upd ρ (jZ m S.block).n (lc w.heap.size 0 nc)) (b:=(jZ m S.block).n) (o:=0) (n:=n+k) (m:=M9) (m':=nc) e2 (A6 _) K (fun _ _=>rfl)
             simpa using this
           .omega
          .cases f
   .cases f
  .cases f
 .cases f
end
end
section
open Go
variable [Ora]
section
variable {P:Program} {base:Nat} {ρ:Ren} {m m':Mem} {w:World}
def MS{op:UnOp}(h:unM op x=some v)(hx:VR ρ x x')(w:World):(Op.unary op x').run P w=.ok v w/\I4 v=true:=by
 unfold unM at h;split at h
 .cases J4 hx;cases h;exact⟨by simp[Op.unary,Op.intArith,aP],by simp[aP,I4]⟩
 .cases J4 hx;obtain⟨h1,f⟩:=aV (P:=P) h w;exact⟨by simpa [Op.unary]using h1,f⟩
 .cases cP hx;cases h;exact⟨rfl,rfl⟩
 .cases h
def A3_(f:A8S P t x=some v)(hx:VR ρ x x')(w:World):(Builtin.cap_ ⟨t::tys⟩ ty #[x']).run P w=.ok v w/\I4 v=true:=by
 unfold A8S at f;split at f
 .rename_i hu;cases P4 hx;cases f;exact⟨by simp[Builtin.cap_,A4,C9 hu,Result.andThen,goInt],rfl⟩
 .rename_i hu;obtain⟨j,f⟩:=A3 f;have j:_<M9:=A1 j;cases f;rcases P0 hx with⟨l,_,_,_,rfl⟩|⟨l,c',_,_,_,_,_,rfl⟩|⟨a',c',_,_,he,_⟩
  .exact⟨by simp[Builtin.cap_,A4,C9 hu,Result.andThen,goInt],rfl⟩
  .omega
  .omega
 .cases f
def RS(h:HR P base ρ m.H w)(f:A0T P m t x=some v)(hx:VR ρ x x'):(Builtin.len_ ⟨t::tys⟩ ty #[x']).run P w=.ok v w/\I4 v=true:=by
 unfold A0T at f;split at f
 .rename_i hu;cases U6 hx;cases f;refine⟨?_,rfl⟩;simp[Builtin.len_,A4,C9 hu,Result.andThen,goInt]
 .rename_i hu;cases f;refine⟨?_,rfl⟩;simp[Builtin.len_,A4,C9 hu,Result.andThen,goInt]
 .rename_i n c hu;cases f;refine⟨?_,rfl⟩;have j:∃ a' c',x'=.slice a' n c':=by
   cases hx with
   | pure _=>exact⟨_,_,rfl⟩
   | sl _ _=>exact⟨_,_,rfl⟩
   | op _ _ _ _=>exact⟨_,_,rfl⟩
   | opE _=>exact⟨_,_,rfl⟩
  obtain⟨a',c',rfl⟩:=j;simp[Builtin.len_,A4,C9 hu,Result.andThen,goInt]
 .rename_i hu;cases hx with|pure _=>?_
  cases f;refine⟨?_,rfl⟩;simp[Builtin.len_,A4,C9 hu,Result.andThen,goInt]
 .cases f
def RN{tys:Array TypeId}(f:A7d vs=some v)(hx:LR ρ vs vs')(w:World):(Builtin.max_ tys ty ⟨vs'⟩).run P w=.ok v w/\I4 v=true:=by
 unfold A7d at f;split at f
 .obtain⟨a',r1,rfl,h1,j⟩:=hx.tail;obtain⟨b',A,rfl,h3,n⟩:=j.tail;cases n.nil_inv;cases J4 h1;cases J4 h3;cases f;exact⟨by simp[Builtin.max_,Builtin.max2],rfl⟩
 .obtain⟨a',r1,rfl,h1,j⟩:=hx.tail;obtain⟨b',A,rfl,h3,n⟩:=j.tail;obtain⟨c',B,rfl,h,q⟩:=n.tail;cases q.nil_inv;rw[tQ]at f;cases J4 h1;cases J4 h3;cases J4 h;cases f;exact⟨by simp[Builtin.max_,Builtin.max2],rfl⟩
 .cases f
def RL{tys:Array TypeId}(f:A7c vs=some v)(hx:LR ρ vs vs')(w:World):(Builtin.min_ tys ty ⟨vs'⟩).run P w=.ok v w/\I4 v=true:=by
 unfold A7c at f;split at f
 .obtain⟨a',r1,rfl,h1,j⟩:=hx.tail;obtain⟨b',A,rfl,h3,n⟩:=j.tail;cases n.nil_inv;cases J4 h1;cases J4 h3;cases f;exact⟨by simp[Builtin.min_,Builtin.min2],rfl⟩
 .obtain⟨a',r1,rfl,h1,j⟩:=hx.tail;obtain⟨b',A,rfl,h3,n⟩:=j.tail;obtain⟨c',B,rfl,h,q⟩:=n.tail;cases q.nil_inv;rw[tQ]at f;cases J4 h1;cases J4 h3;cases J4 h;cases f;exact⟨by simp[Builtin.min_,Builtin.min2],rfl⟩
 .cases f
def AX{tys:Array TypeId}(h:HR P base ρ m.H w)(q:iS m x=some (v,m'))(hx:VR ρ x x'):VOk P base ρ m w (Builtin.unsafeSliceData_ tys ty #[x']) v m':=by
 unfold iS at q;split at q
 .cases q;cases P4 hx;exact VOk.same h rfl (.pure rfl)
 .rename_i a n c;cases A:Nat.beq n 0 || Nat.beq c 0 || Nat.beq c (M9+2)with
  | true=>rw[A]at q;cases q
  | false =>
    rw[A]at q;simp only[D6,D2,M0]at q;obtain⟨rfl,rfl⟩:=q;simp only[Z7]at A;obtain⟨⟨F,C⟩,J⟩:=A;have F:n≠0:=fun e=>by subst e;cases F
    have C:c≠0:=fun e=>by subst e;cases C
    rcases P0 hx with⟨l,B,j,I,rfl⟩|⟨l,c',B,j,I,K,E,rfl⟩|⟨a',c',_,he,_,_⟩
    .refine VOk.same (v':=.pointer (some ⟨l.blk,a.off+l.sh,none⟩)) h ?_ ?_
     .have f:Builtin.unsafeSliceData_ tys ty #[.slice (some ⟨l.blk,a.off+l.sh,none⟩) n c]=(do
        if c≠0 then pure (.pointer (some ⟨l.blk,a.off+l.sh,none⟩))
        else if(<- viewAt l.blk).isSome then pure (.pointer (some ⟨l.blk,a.off+l.sh,none⟩))
        else pure (.pointer (some ⟨<- newObj (.view ⟨l.blk,a.off+l.sh,none⟩ (<- elemOf ty)),0,none⟩))):=rfl
      rw[f,A9 C];rfl
     .obtain⟨ab,G,D⟩:=a;simp only at j;subst j;exact .ptr B
    .refine VOk.same (v':=.pointer (some ⟨l.blk,a.off+l.sh,none⟩)) h ?_ ?_
     .have:c'≠0:=A2;have f:Builtin.unsafeSliceData_ tys ty #[.slice (some ⟨l.blk,a.off+l.sh,none⟩) n c']=(do
        if c'≠0 then pure (.pointer (some ⟨l.blk,a.off+l.sh,none⟩))
        else if(<- viewAt l.blk).isSome then pure (.pointer (some ⟨l.blk,a.off+l.sh,none⟩))
        else pure (.pointer (some ⟨<- newObj (.view ⟨l.blk,a.off+l.sh,none⟩ (<- elemOf ty)),0,none⟩))):=rfl
      rw[f,A9 this];rfl
     .obtain⟨ab,G,D⟩:=a;simp only at j;subst j;exact .ptr B
    .omega
 .cases q
def UU(h:HR P base ρ m.H w)(f:FH P m t x=some (v,m'))(hx:VR ρ x x'):VOk P base ρ m w (Instr.makeInterface t x') v m':=by
 unfold FH at f;split at f
 .rename_i d q;have n:(∀ ms,d≠.interface ms)->(Instr.makeInterface t x').run P w=.ok (.iface t x') w:=fun j=>by
   simp only[Instr.makeInterface,A4,C9 q,Result.andThen];cases d<;>first|rfl|exact absurd rfl (j _)
  split at f
  .cases f
  .rename_i j;obtain⟨_,f⟩:=A3 f;cases f;exact VOk.same h (n fun ms e=>j ms e) (.iface hx)
 .cases f
def A27(j:ZY m x=some (v,m'))(hx:VR ρ x x'):m'=m/\VR ρ v x'/\((∃ a,x'=.pointer (some a))∨∃ f a b,x'=.func (.func f) a b):=by
 unfold ZY at j;split at j
 .cases j;obtain⟨l,_,_,rfl⟩:=O6 hx;exact⟨rfl,hx,.inl ⟨_,rfl⟩⟩
 .cases j;cases hx with
  | pure hp=>simp[I4]at hp
  | func _ _ _ _=>exact⟨rfl,by constructor<;>assumption,.inr ⟨_,_,_,rfl⟩⟩
 .cases j
def A1t(h:HR P base ρ m.H w)(j:LO P m t x y=some (v,m'))(hx:VR ρ x x')(I:VR ρ y y'):VOk P base ρ m w (Builtin.copy_ ⟨t::tys⟩ ty #[x',y']) v m':=by
 unfold LO at j;split at j
 .rename_i e a n c hu;split at j
  .rename_i s W;split at j
   .rename_i k cs f;have M:∃ a' c',x'=.slice a' n c':=by
     cases hx with
     | pure _=>exact⟨_,_,rfl⟩
     | sl _ _=>exact⟨_,_,rfl⟩
     | op _ _ _ _=>exact⟨_,_,rfl⟩
     | opE _=>exact⟨_,_,rfl⟩
    obtain⟨a',c',rfl⟩:=M;have D:∃ L cs',(Builtin.lenOf y').run P w=.ok L w/\Nat.min L n=k/\LR ρ cs cs'/\(Builtin.firstCells s k y').run P w=.ok ⟨cs'⟩ w:=by
     split at f
     .rename_i N _;obtain⟨q,f⟩:=A3 f;have q:=A0 q;subst q;cases f;cases P4 I;exact⟨0,[],rfl,by simp,.nil,rfl⟩
     .rename_i b N X;split at f
      .rename_i r hr;cases f;rcases P0 I with⟨l,C,_,_,rfl⟩|⟨l,c',C,_,_,_,_,rfl⟩|⟨a',c',_,rfl,_,rfl⟩
       .obtain⟨J,h1,B,h3⟩:=d8 h hr C;exact⟨N,J,rfl,rfl,h1,K4 B h3⟩
       .obtain⟨J,h1,B,h3⟩:=d8 h hr C;exact⟨N,J,rfl,rfl,h1,K4 B h3⟩
       .have:cs=[]:=by
         unfold t8 at hr;split at hr
         .have:=(jH hr).2;simp at this;exact this
         .cases hr
        subst this;exact⟨0,[],rfl,rfl,.nil,by simp[Builtin.firstCells,loadCells,loadCellsFrom]⟩
      .cases f
     .rename_i b;cases f;cases U6 I;refine⟨b.size,P2 (b.data.toList.take (Nat.min b.size n)),rfl,rfl,wJ _ _,?_⟩;have e:((b.extract 0 (Nat.min b.size n)).data.map fun b=>Value.int .u8 b.toNat)=⟨P2 (b.data.toList.take (Nat.min b.size n))⟩:=by
       apply J1;simp[P2,gO]
      show(pure ((b.extract 0 (Nat.min b.size n)).data.map fun b=>Value.int .u8 b.toNat):Sem V8).run P w=_;rw[e];rfl
     .cases f
    obtain⟨L,cs',r1,R,O,T⟩:=D;have A:(Builtin.copy_ ⟨t::tys⟩ ty #[.slice a' n c',y']).run P w=(match a' with|some a=>(do storeCells a cs';pure (goInt k):Sem Value)|none=>pure (goInt k)).run P w:=by
     unfold Builtin.copy_;simp only[I9,Q7,Q8,A4,C9 hu,K8 W,r1,R,T,Result.andThen];cases a' with
     | none=>rfl
     | some a=>rfl
    cases a with
    | none =>
      cases P4 hx;simp only at j;obtain⟨q,j⟩:=A3 j;have q:=A0 q;cases j;exact VOk.same h (by rw[A,q];rfl) (.pure rfl)
    | some Y =>
      simp only at j;cases E:Nat.beq cs.length 0 with
      | true =>
        rw[E]at j;cases j;have E:=A0 E;have:cs'=[]:=G0.1 (by rw[<- O.1];exact E);subst this;refine VOk.same h (v':=.int .i64 k) ?_ (.pure rfl);rw[A];cases a'<;>rfl
      | false =>
        rw[E]at j;simp only[D6]at j;obtain⟨F,j⟩:=A3 j;have F:=A1 F;split at j
        .rename_i m2 hw;cases j;rcases P0 hx with⟨l,C,K,S,he⟩|⟨l,c',C,K,S,U,Q,he⟩|⟨a2,Z,_,U,V,he⟩
         .cases he;obtain⟨w',h1,B⟩:=pM h hw C O;exact⟨.int .i64 k,ρ,w',by rw[A];simp[A4,h1,Result.andThen,goInt],.pure rfl,B⟩
         .cases he;obtain⟨w',h1,B⟩:=pM h hw C O;exact⟨.int .i64 k,ρ,w',by rw[A];simp[A4,h1,Result.andThen,goInt],.pure rfl,B⟩
         .have G:M9=9223372036854775808:=rfl;omega
        .cases j
   .cases j
  .cases j
 .cases j
def pB:∀ {cs:D0} {l:List UInt8},bytesOf cs=some l->∃ f:List Int,cs=f.map (Value.int .u8)/\l=f.map fun n=>UInt8.ofNat n.toNat
 | [],l,h=>by simp only[bytesOf,D2]at h;subst h;exact⟨[],rfl,rfl⟩
 | v::r,l,h=>by
   unfold bytesOf at h;split at h
   .rename_i he;cases he
   .rename_i n q he;cases he;split at h
    .rename_i l0 h0;cases h;obtain⟨f,h1,j⟩:=pB h0;exact⟨n::f,by rw[h1];rfl,by rw[j];rfl⟩
    .cases h
   .cases h
def rQ:∀ {f:List Int} {cs':D0},LR ρ (f.map (Value.int .u8)) cs'->cs'=f.map (Value.int .u8)
 | [],cs',h=>h.nil_inv
 | n::r,cs',h=>by
   obtain⟨v',q,rfl,h1,j⟩:=h.tail;cases J4 h1;rw[rQ j];rfl
def oU:∀ (f:List Int) (acc:List UInt8),(f.foldl (fun r n=>r.push (UInt8.ofNat n.toNat)) (ByteArray.mk ⟨acc⟩))=⟨⟨acc++f.map fun n=>UInt8.ofNat n.toNat⟩⟩
 | [],acc=>by simp
 | n::r,acc=>by
   rw[List.foldl_cons];have:(ByteArray.mk ⟨acc⟩).push (UInt8.ofNat n.toNat)=⟨⟨acc++[UInt8.ofNat n.toNat]⟩⟩:=by
    show ByteArray.mk (Array.push ⟨acc⟩ _)=_;simp
   rw[this,oU r];simp
def A1w(h:HR P base ρ m.H w)(X:base<=w.heap.size)(f:DK P m s t x=some (v,m'))(W:K2 ρ m.n m'.hi)(hx:VR ρ x x'):VOk P base ρ m w (convert s t x') v m':=by
 unfold DK at f;split at f
 .rename_i I k j n E B;cases J4 hx;simp only[D2,M0]at f;obtain⟨rfl,rfl⟩:=f;refine VOk.same (v':=.int k (k.wrap n)) h ?_ (by rw[aP,kS];exact .pure rfl);cases I<;>simp[convert,A4,C9 E,C9 B,Result.andThen,Conv.intToInt]
 .rename_i I b E B;cases U6 hx;cases f;refine VOk.same h ?_ (.pure rfl);cases I<;>simp[convert,A4,C9 E,C9 B,Result.andThen]
 .rename_i I j n E B;cases J4 hx;cases f;refine VOk.same (v':=.string (Utf8.encode n)) h ?_ (.pure rfl);cases I<;>simp[convert,A4,C9 E,C9 B,Result.andThen,Conv.intToString]
 .rename_i I e b E B;cases U6 hx;split at f
  .rename_i he;split at f
   .rename_i G;rw[I1]at f;let q:Question:=.appendCap b.size 0 e
    let cap:=q.cut (w.tape w.drawn q)
    have K:b.size<=cap:=by show b.size<=b.size+_;omega
    have O:(choose q).run P w=.ok cap w.drew:=by
     simp only[choose,Sem.run];rw[A7 (by simp[q,Question.forced])];rfl
    let C:V8:=(b.data.map fun b=>Value.int .u8 b.toNat)++Array.replicate (cap-b.size) (.int .u8 0)
    have hC:C.size=cap:=by
     have:b.data.size=b.size:=rfl;simp[C,this];omega
    obtain⟨Y,N,U⟩:=eC (wd:=w.drew) (fz:=(C.size,C.size+1)) (cap:=cap) (C:=C) h X f W (wJ ρ b.data.toList) (fun i u hi=>by
      have M:=(B0.1 hi).1;simp[P2]at M;have S:i<(b.data.map fun b=>Value.int .u8 b.toNat).size:=by simpa using M
      show((b.data.map fun b=>Value.int .u8 b.toNat)++Array.replicate (cap-b.size) (.int .u8 0))[i]? = some u;rw[S7 S]
      simpa [P2]using hi) NF.end
     (fun inf J=>by
       have:inf.size=1:=by unfold H1 at G;rw[J]at G;exact A8 G
       rw[this,hC];omega) ⟨rfl,rfl,rfl⟩ rfl
    refine⟨.slice (some ⟨w.heap.size,0,none⟩) b.size cap,_,_,?_,?_,U⟩
    .have Q:∀ w2:World,w2.heap[w.heap.size]? = some (.cells C e (0,0))->(markStringish ⟨w.heap.size,0,none⟩).run P w2=.ok () (w2.freeze { block:=w.heap.size,off:=C.size } 1):=fun w2 J=>by
      simp[markStringish,shape,freeze,Sem.run,World.shape?,J]
     have T:({ w.drew with heap:=w.heap.push (.cells C e (0,0)) }:World).freeze { block:=w.heap.size,off:=C.size } 1={ w.drew with heap:=w.heap.push (.cells C e (C.size,C.size+1)) }:=by
      unfold World.freeze;rw[A7 E7];congr 1;apply Array.ext_getElem?;intro i;rw[G9];by_cases hi:w.heap.size=i
      .subst hi;simp
      .rw[A7 hi];simp only[j8];rw[A7 (fun h=>hi h.symm),A7 (fun h=>hi h.symm)]
     have F:(convert s t (.string b)).run P w=(Conv.stringToBytes e b).run P w:=by
      cases I<;>simp[convert,A4,C9 E,C9 B,C9 he,Result.andThen]
     rw[F];unfold Conv.stringToBytes;simp only[A4,show(choose (.appendCap b.size 0 e)).run P w=.ok cap w.drew from O,Result.andThen];have R:(newRow e C).run P w.drew=.ok ⟨w.heap.size,0,none⟩ { w.drew with heap:=w.heap.push (.cells C e (0,0)) }:=rfl;rw[show(newRow e ((b.data.map fun b=>Value.int .u8 b.toNat)++Array.replicate (cap-b.size) (.int .u8 0))).run P w.drew=_ from R];simp only[Result.andThen];rw[Q _ (by simp),T];rfl
    .rw[Y];exact VR.op (o:=0) (m':=cap) N (A6 _) K (fun _ _=>rfl)
   .cases f
  .cases f
 .rename_i e n c E B;cases P4 hx;split at f
  .rename_i he;cases f;refine VOk.same h (v':=.string ByteArray.empty) ?_ (.pure rfl);simp[convert,A4,C9 E,C9 B,C9 he,Result.andThen,Conv.bytesToString]
  .cases f
 .rename_i e a n c E B;split at f
  .rename_i he;split at f
   .rename_i cs hr;split at f
    .rename_i l M;cases f;obtain⟨L,h1,J⟩:=pB M;have D:∀ a' c',(loadCells a' n).run P w=.ok (L.map (Value.int .u8)).toArray w->(convert s t (.slice (some a') n c')).run P w=.ok (.string ⟨⟨l⟩⟩) w:=fun a' c' A=>by
      have:=run_bytesToString w a' n c' L A;have N:=oU L [];simp only[G5]at N;simp only[convert,A4,C9 E,C9 B,C9 he,Result.andThen];rw[this,show ByteArray.empty=ByteArray.mk ⟨[]⟩from rfl,N,J]
     rcases P0 hx with⟨lc,A,_,_,rfl⟩|⟨lc,c',A,_,_,_,_,rfl⟩|⟨a',c',_,rfl,_,rfl⟩
     .obtain⟨V,g1,g2,g3⟩:=d8 h hr A;rw[h1]at g1
      have:=rQ g1;subst this;exact VOk.same h (D _ _ (K4 g2 g3)) (.pure rfl)
     .obtain⟨V,g1,g2,g3⟩:=d8 h hr A;rw[h1]at g1
      have:=rQ g1;subst this;exact VOk.same h (D _ _ (K4 g2 g3)) (.pure rfl)
     .have:cs=[]:=by
       unfold t8 at hr;split at hr
       .have:=(jH hr).2;simpa using this
       .cases hr
      subst this;have:L=[]:=by cases L with|nil=>rfl|cons _ _=>cases h1
      subst this;exact VOk.same h (D _ _ (by simp[loadCells,loadCellsFrom])) (.pure rfl)
    .cases f
   .cases f
  .cases f
 .cases f
end
end
section
open Go
variable [Ora]
section
variable {P:Program} {base:Nat} {ρ:Ren} {m m':Mem} {w:World}
def yK(q:P.cellsOf e=1)(count off n:Nat)(j:off+n<=count):liesAt P P.depth e count off e n=true:=by
 have f:P.depth=(2*(P.types.size+Made.depth)+1)+1:=rfl;rw[f];simp only[liesAt,J0];left;rw[f];simp[rowAt,q,j,sameLayout,Nat.mod_one]
def eN:∀ (f:List Int) (b o:Nat) (acc:ByteArray),(∀ (j:Nat) (v:Value),(f.map (Value.int .u8))[j]? = some v->w.cell? ⟨b,o+j,none⟩=some v) ->
  (loadBytes ⟨b,o,none⟩ acc f.length).run P w=.ok ⟨acc.data++(f.map fun n=>UInt8.ofNat n.toNat).toArray⟩ w
 | [],b,o,acc,_=>by simp[loadBytes]
 | n::f,b,o,acc,h=>by
   have h0:w.cell? ⟨b,o,none⟩=some (.int .u8 n):=by simpa using h 0 _ rfl
   have q:=eN f b (o+1) (acc.push n.toNat.toUInt8) (fun j v A=>by
    have:=h (j+1) v (by simpa using A);rw[show o+1+j=o+(j+1) by omega];exact this)
   simp only[E4,loadBytes,A4,run_load,h0,Result.andThen,Y0];rw[q];have:(acc.push n.toNat.toUInt8).data=acc.data.push n.toNat.toUInt8:=rfl;rw[this];congr 2;apply J1;simp
def AL{l l':Value}(h:HR P base ρ m.H w)(f:eJ P m pt p l=some (v,m'))(hp:VR ρ p p')(hl:VR ρ l l') :
  VOk P base ρ m w (Builtin.unsafeString_ ⟨pt::tys⟩ ty #[p',l']) v m':=by
 have F:IntKind.i64.max=9223372036854775807:=rfl;unfold eJ at f;split at f
 .cases hp with|pure _=>?_
  cases J4 hl;cases f;refine VOk.same h (v':=.string ByteArray.empty) ?_ (.pure rfl);rename_i k _;have A:Builtin.unsafeString_ ⟨pt::tys⟩ ty #[.pointer none,.int k (.ofNat 0)] =
    (do
      let n <- asInt (.int k (.ofNat 0))
      if n<0 then runtimePanic (.error "unsafe.String: len out of range")
      if n>IntKind.i64.max then unsupported (.unsafePointer "String: a length above the largest int")
      if n=0 then pure (.string .empty)
      else runtimePanic (.error "unsafe.String: ptr is nil and len is not zero")):=rfl
  rw[A];simp[asInt,asIntOf,F]
 .rename_i a k n;cases J4 hl;obtain⟨lc,I,az,rfl⟩:=O6 hp;split at f
  .rename_i cs T G hg;split at f
   .rename_i e X Q;obtain⟨q,f⟩:=A3 f;obtain⟨q,Y⟩:=B6 q;obtain⟨q1,q2⟩:=B6 q;have q1:0<n:=A1 q1;have q2:=A1 q2;have Y:=A0 Y;subst Y;split at f
    .rename_i r hr;split at f
     .rename_i bs m2 S X8;cases f;obtain⟨Z,h1,h2⟩:=pB S;have J:t8 m a n=some r:=by
       unfold t8;rw[G,hg];exact hr
      obtain⟨r',g1,g2,g3⟩:=d8 h J I;rw[h1]at g1;have U:=rQ g1;subst U;obtain⟨⟨O,C,fz,T',z2,z3,z4⟩,z5⟩:=h.atl I hg;have z2:w.heap[lc.blk]? = some (.cells C e fz):=by rw[z2,(z4 rfl).1]
      have N:Z.length=n:=by simpa using g2
      have B:P.cellsOf e=1:=by
       unfold H1 at Q;unfold Program.cellsOf;cases hi:P.info? e with
       | none=>rw[hi]at Q;cases Q
       | some i=>rw[hi]at Q;have:=A8 Q;simp[this]
      have V:a.off+lc.sh+n<=C.size:=by
       have D:=g3 (n-1) (.int .u8 Z[n-1]) (by simp[N]);simp only[World.cell?,z2]at D
       have:=(C7.1 (by simpa using D)).1;omega
      have R:=eN (P:=P) (w:=w) Z lc.blk (a.off+lc.sh) .empty g3;rw[N]at R;have W:w.shape? lc.blk=some (e,C.size):=by simp[World.shape?,z2]
      have K:=yK (P:=P) B (C.size / P.cellsOf e) (a.off+lc.sh) n (by rw[B];simpa using V);have A:Builtin.unsafeString_ ⟨pt::tys⟩ ty #[.pointer (some ⟨lc.blk,a.off+lc.sh,none⟩),.int k (.ofNat n)] =
       (do
         let n <- asInt (.int k (.ofNat n))
         if n<0 then runtimePanic (.error "unsafe.String: len out of range")
         if n>IntKind.i64.max then unsupported (.unsafePointer "String: a length above the largest int")
         if n=0 then pure (.string .empty)
         else if <- variablesAt ⟨lc.blk,a.off+lc.sh,none⟩ (<- elemOf pt) n.toNat then do
          let s <- loadBytes ⟨lc.blk,a.off+lc.sh,none⟩ .empty n.toNat
          freeze ⟨lc.blk,a.off+lc.sh,none⟩ n.toNat
          pure (.string s)
         else unsupported (.unsafePointer "String: not so many bytes at ptr")):=rfl
      have e1:Int.ofNat n=(n:Int):=rfl;have L:¬ (n:Int)<0:=A2;have M:¬ (9223372036854775807:Int)<(n:Int):=A2;have hz:¬ (n:Int)=0:=A2;have E:n≠0:=A2;refine⟨.string ⟨⟨bs⟩⟩,ρ,w.freeze ⟨lc.blk,a.off+lc.sh,none⟩ n,?_,.pure rfl,St.write h X8 hg rfl I O ?_ ?_ ?_ ?_⟩
      .rw[A];simp[asInt,asIntOf,F,e1,L,M,hz,E,variablesAt,W,elemOf,C9 X,K,R,freeze,Sem.run,A4,Result.andThen,h2]
      .simp[World.freeze,E]
      .simp[World.freeze,E]
      .intro j hj;simp only[World.freeze,E,if_false,G9];rw[A7 (fun e=>hj e.symm)]
      .refine⟨O,C,(if fz.1 == fz.2 then(a.off+lc.sh,a.off+lc.sh+n)else(min fz.1 (a.off+lc.sh),max fz.2 (a.off+lc.sh+n))),e,?_,z3,fun hc=>by cases hc⟩;simp only[World.freeze,E,if_false,G9,if_true,z2,L2]
     .cases f
    .cases f
   .cases f
  .cases f
 .cases f
def MB{ks:Array Bool}(h:HR P base ρ m.H w)(C:base<=w.heap.size)(f:iJ P m b vs tys=some (v,m'))(B:K2 ρ m.n m'.hi)(hx:LR ρ vs vs') :
  ∃ s:Sem Value,builtin b ⟨tys⟩ ty ks ⟨vs'⟩=(do pure (.value (<- s)))/\VOk P base ρ m w s v m':=by
 unfold iJ at f;split at f
 .obtain⟨x',r1,rfl,h1,j⟩:=hx.tail;cases j.nil_inv;unfold noM at f;split at f
  .rename_i u hu;cases f;obtain⟨g1,g2⟩:=RS h hu h1;exact⟨_,rfl,VOk.same h g1 (.pure g2)⟩
  .cases f
 .obtain⟨x',r1,rfl,h1,j⟩:=hx.tail;cases j.nil_inv;unfold noM at f;split at f
  .rename_i u hu;cases f;obtain⟨g1,g2⟩:=A3_ hu h1 w;exact⟨_,rfl,VOk.same h g1 (.pure g2)⟩
  .cases f
 .obtain⟨x',r1,rfl,h1,j⟩:=hx.tail;obtain⟨y',A,rfl,h3,q⟩:=j.tail;cases q.nil_inv;rename_i t t2 rest;refine⟨Builtin.append_ ⟨t::t2::rest⟩ ty #[x',y'],rfl,?_⟩
  have:=PM (ty:=ty) h C f B h1 h3;have e:Builtin.append_ ⟨t::t2::rest⟩ ty #[x',y']=Builtin.append_ #[t,t2] ty #[x',y']:=rfl;rw[e];exact this
 .obtain⟨x',r1,rfl,h1,j⟩:=hx.tail;obtain⟨y',A,rfl,h3,q⟩:=j.tail;cases q.nil_inv;exact⟨_,rfl,A1t h f h1 h3⟩
 .unfold noM at f;split at f
  .rename_i u hu;cases f;obtain⟨g1,g2⟩:=RN (P:=P) (ty:=ty) (tys:=⟨tys⟩) hu hx w;exact⟨_,rfl,VOk.same h g1 (.pure g2)⟩
  .cases f
 .unfold noM at f;split at f
  .rename_i u hu;cases f;obtain⟨g1,g2⟩:=RL (P:=P) (ty:=ty) (tys:=⟨tys⟩) hu hx w;exact⟨_,rfl,VOk.same h g1 (.pure g2)⟩
  .cases f
 .obtain⟨x',r1,rfl,h1,j⟩:=hx.tail;cases j.nil_inv;exact⟨_,rfl,AX h f h1⟩
 .obtain⟨x',r1,rfl,h1,j⟩:=hx.tail;obtain⟨y',A,rfl,h3,q⟩:=j.tail;cases q.nil_inv;exact⟨_,rfl,AL h f h1 h3⟩
 .cases f
def NOk(P:Program)(base:Nat)(ρ:Ren)(m:Mem)(w:World)(s:Sem Next)(v:Value)(m':Mem):Prop :=
 ∃ v' f w',(s.run P w=.ok (.value v') w'∨(s.run P w=.ok .skip w'/\v'=undef))/\VR f v v'/\St P base ρ f m m' w w'
def NOk.of{s:Sem Value}(h:VOk P base ρ m w s v m'):NOk P base ρ m w (do pure (.value (<- s))) v m':=by
 obtain⟨v',f,w',h1,j,h3⟩:=h;exact⟨v',f,w',.inl (by simp[A4,h1,Result.andThen]),j,h3⟩
def pU(ρ:Ren):VR ρ undef undef:=.tuple (a:=[]) (a':=[]) rfl (fun i v v' h=>by simp at h)
def NOk.ofU{s:Sem Unit}(h:UOk P base ρ m w s m'):NOk P base ρ m w (do s;pure .skip) undef m':=by
 obtain⟨f,w',h1,h3⟩:=h;exact⟨undef,f,w',.inr ⟨by simp[A4,h1,Result.andThen],rfl⟩,pU _,h3⟩
def NOk.same{s:Sem Value}(h:HR P base ρ m.H w)(hr:s.run P w=.ok v' w)(hv:VR ρ v v'):NOk P base ρ m w (do pure (.value (<- s))) v m:=NOk.of (VOk.same h hr hv)
def FR(ρ:Ren)(fr:Fr)(g:Operand->Value)(o:Op):Prop:=∀ x ∈ o.operands.toList,VR ρ (ev fr x) (g x)
def l7(h:noM o m=some (v,m')):o=some v/\m'=m:=by
 unfold noM at h;split at h
 .cases h;exact⟨rfl,rfl⟩
 .cases h
def nI{o:Option Mem}(h:OD o=some (v,m')):o=some m'/\v=undef:=by
 unfold OD at h;split at h
 .cases h;exact⟨rfl,rfl⟩
 .cases h
def dF{fr:Fr}{g:Operand->Value}:∀ {xs:List Operand},(∀ x ∈ xs,VR ρ (ev fr x) (g x))->LR ρ (evL fr xs) (xs.map g)
 | [],_=>.nil
 | x::r,h=>.cons (h x B4) (dF fun y f=>h y (C4 _ f))
def OX{fr:Fr}{g:Operand->Value}:∀ {xs:List (Nat×Operand)},(∀ x ∈ xs.map (·.2),VR ρ (ev fr x) (g x))->PR ρ (evP fr xs) (xs.map fun x=>(x.1,g x.2))
 | [],_=>trivial
 | (i,x)::r,h=>⟨rfl,h x (by simp),OX fun y f=>h y (by simp at f ⊢;exact .inr f)⟩
def jF{fr:Fr}{x:Option Operand}(h:∀ y ∈ x.toList,VR ρ (ev fr y) (g y)):OR ρ (evO fr x) (x.map g):=by
 cases x with
 | none=>trivial
 | some y=>exact h y (by simp)
set_option maxHeartbeats 1000000 in
def A7U{fr:Fr}{o:Oper}(h:HR P base ρ m.H w)(J:base<=w.heap.size)(q:opM P fr m o.op=some (v,m'))(I:K2 ρ m.n m'.hi)(V:FR ρ fr g o.op) :
  NOk P base ρ m w (execOp g o) v m':=by
 obtain⟨dst,op,ty,pos,T,S⟩:=o;simp only at q V;have j:∀ {x},x ∈ op.operands.toList->VR ρ (ev fr x) (g x):=fun hx=>V _ hx
 unfold opM at q;split at q
 .cases q;exact⟨_,ρ,w,.inl rfl,j (by simp[Op.operands]),.refl h⟩
 .cases q;exact⟨_,ρ,w,.inl rfl,j (by simp[Op.operands]),.refl h⟩
 .rename_i c a b;have K:=j (x:=c) (by simp[Op.operands]);unfold RE at q;split at q
  .rename_i E;rw[E]at K;cases q;exact⟨g a,ρ,w,.inl (by simp[execOp,cP K,asBool]),j (by simp[Op.operands]),.refl h⟩
  .rename_i E;rw[E]at K;cases q;exact⟨g b,ρ,w,.inl (by simp[execOp,cP K,asBool]),j (by simp[Op.operands]),.refl h⟩
  .cases q
 .exact NOk.of (UV h J q I)
 .exact NOk.of (A28 h J q I (j (by simp[Op.operands])))
 .rename_i t ps;obtain⟨h1,rfl⟩:=l7 q;obtain⟨v',A,h3⟩:=VP h1 (OX (g:=g) (fun x hx=>j (by simpa [Op.operands]using hx))) w;have e:(ps.map fun(i,x)=>(i,g x))=⟨ps.toList.map fun x=>(x.1,g x.2)⟩:=by apply J1;simp
  exact NOk.same (s:=Instr.build t (ps.map fun(i,x)=>(i,g x))) h (by rw[e];exact A) h3
 .rename_i t n ps
  have:=AA h J q I (OX (g:=g) (fun x hx=>j (by simpa [Op.operands]using hx)));have e:(ps.map fun(i,x)=>(i,g x))=⟨ps.toList.map fun x=>(x.1,g x.2)⟩:=by apply J1;simp
  refine NOk.of (s:=Instr.buildSlice t n (ps.map fun(i,x)=>(i,g x))) ?_;rw[e];exact this
 .rename_i t x;have hx:=j (x:=x) (by simp[Op.operands]);unfold RF at q;split at q
  .rename_i a F;rw[F]at hx;obtain⟨l,L,O,G⟩:=O6 hx;obtain⟨h1,rfl⟩:=l7 q;obtain⟨v',A,h3⟩:=KA h h1 L;refine NOk.same (s:=Instr.loadAt t (g x)) h ?_ h3;rw[G]
   simpa [Instr.loadAt,Instr.sureAddr]using A
  .cases q
 .rename_i t x y;have hx:=j (x:=x) (by simp[Op.operands]);have B:=j (x:=y) (by simp[Op.operands]);unfold FG at q;split at q
  .rename_i a F;rw[F]at hx;obtain⟨l,L,O,G⟩:=O6 hx;obtain⟨h1,rfl⟩:=nI q
   have:=TW h h1 L B;refine NOk.ofU (s:=Instr.storeAt t (g x) (g y)) ?_;rw[G];obtain⟨M,w',r1,Z⟩:=this;exact⟨M,w',by simpa [Instr.storeAt,Instr.sureAddr]using r1,Z⟩
  .cases q
 .rename_i x;have hx:=j (x:=x) (by simp[Op.operands]);obtain⟨hm,h1,A⟩:=A27 q hx;subst hm;refine⟨g x,ρ,w,.inl ?_,h1,.refl h⟩;rcases A with⟨a,U⟩|⟨f,a,b,U⟩<;>simp[execOp,U]
 .rename_i op t x y X;have hx:=j (x:=x) (by simp[Op.operands]);have B:=j (x:=y) (by simp[Op.operands]);unfold A29 at q;have C:(yY op=true->lZ P t x y (ev fr x) (ev fr y)=true)->noM (sO P op t (ev fr x) (ev fr y)) m=some (v,m')->NOk P base ρ m w (execOp g ⟨dst,.binOp op t x y X,ty,pos,T,S⟩) v m':=fun N hn=>by
   obtain⟨h1,rfl⟩:=l7 hn;obtain⟨A,h3⟩:=wP h1 hx B w;have Y:=rW N hx B w;refine NOk.same (s:=do eqGuard op t x y (g x) (g y);binOp op t (g x) (g y)) h ?_ (.pure h3);simp[A4,Y,A,Result.andThen]
  cases D:yY op with
  | true =>
    rw[D]at q;simp only[E3]at q;obtain⟨h1,A⟩:=A3 q;exact C (fun _=>h1) A
  | false =>
    rw[D]at q;simp only[D6]at q;exact C (fun h=>by rw[D]at h;cases h) q
 .rename_i op t x;obtain⟨h1,rfl⟩:=l7 q;obtain⟨A,h3⟩:=MS (P:=P) h1 (j (x:=x) (by simp[Op.operands])) w;exact NOk.same (s:=Op.unary op (g x)) h A (.pure h3)
 .exact NOk.of (A1w h J q I (j (by simp[Op.operands])))
 .exact NOk.of (UU h q (j (by simp[Op.operands])))
 .rename_i f first cap
  cases q;have l1:=dF (ρ:=ρ) (fr:=fr) (g:=g) (xs:=first.toList) fun x hx=>j (by simp[Op.operands];exact .inl (by simpa using hx))
  have l2:=dF (ρ:=ρ) (fr:=fr) (g:=g) (xs:=cap.toList) fun x hx=>j (by simp[Op.operands];exact .inr (by simpa using hx))
  refine⟨.func (.func f) ⟨first.toList.map g⟩ ⟨cap.toList.map g⟩,ρ,w,.inl ?_,.func l1.1 l2.1 l1.2 l2.2,.refl h⟩;have R:first.map g=⟨first.toList.map g⟩:=by apply J1;simp
  have Q:cap.map g=⟨cap.toList.map g⟩:=by apply J1;simp
  simp[execOp,Instr.makeFunc,R,Q]
 .exact NOk.of (BA h J q I (j (by simp[Op.operands])) (j (by simp[Op.operands])))
 .rename_i t x lo hi mx;obtain⟨h1,rfl⟩:=l7 q;obtain⟨v',A,h3⟩:=hJ h1 (j (x:=x) (by simp[Op.operands])) (jF (g:=g) fun y B=>j (by simp[Op.operands]at B ⊢;exact .inr (.inl B))) (jF (g:=g) fun y B=>j (by simp[Op.operands]at B ⊢;exact .inr (.inr (.inl B)))) (jF (g:=g) fun y B=>j (by simp[Op.operands]at B ⊢;exact .inr (.inr (.inr B)))) w;exact NOk.same (s:=Instr.sliceAt t (g x) (lo.map g) (hi.map g) (mx.map g)) h A h3
 .obtain⟨h1,rfl⟩:=l7 q;obtain⟨v',A,h3⟩:=mB h1 (j (by simp[Op.operands])) w;exact NOk.same h A h3
 .obtain⟨h1,rfl⟩:=l7 q;obtain⟨v',A,h3⟩:=VG h1 (j (by simp[Op.operands])) w;exact NOk.same h A h3
 .obtain⟨h1,rfl⟩:=l7 q;obtain⟨v',A,h3⟩:=cQ h1 (j (by simp[Op.operands])) (j (by simp[Op.operands])) w;exact NOk.same h A h3
 .obtain⟨h1,rfl⟩:=l7 q;obtain⟨v',A,h3⟩:=tK h1 (j (by simp[Op.operands])) (j (by simp[Op.operands])) w;exact NOk.same h A h3
 .obtain⟨hm,v',A,h3⟩:=JQ (P:=P) q (j (by simp[Op.operands])) w;subst hm;exact NOk.same h A h3
 .rename_i b xs tys;have l1:=dF (ρ:=ρ) (fr:=fr) (g:=g) (xs:=xs.toList) fun x hx=>j (by show x ∈ (#[]++xs:Array Operand).toList;simpa using hx)
  obtain⟨ks,Q⟩:∃ ks,execOp g ⟨dst,.call ⟨.builtin b,xs,tys⟩,ty,pos,T,S⟩=builtin b tys ty ks (xs.map g):=⟨_,rfl⟩;obtain⟨s,e,hs⟩:=MB (ty:=ty) (ks:=ks) h J q I l1;have R:xs.map g=⟨xs.toList.map g⟩:=by apply J1;simp
  rw[Q,R];have W:tys=⟨tys.toList⟩:=rfl;rw[W,e];exact NOk.of hs
 .cases q
end
end
section
open Go
def ofV:Q3->U
 | some (.int k n)=>.int k n
 | some (.bool b)=>.bool b
 | some (.string s)=>.str s.data.toList
 | _=>.none
def D5(E:Nat->U):Value->U
 | .complex .f64 i _=>E i
 | .int k n=>.int k n
 | .bool b=>.bool b
 | .string s=>.str s.data.toList
 | _=>.none
def evB(op:BinOp):U->U->U
 | .int k a,.int j b=>ofV (aT op k j a b)
 | .str a,.str b=>ofV (A2k op ⟨⟨a⟩⟩ ⟨⟨b⟩⟩)
 | .bool a,.bool b=>match op with
   | .eql=>.bool (a == b)
   | .neq=>.bool (!(a == b))
   | _=>.none
 | _,_=>.none
def ev1(op:UnOp):U->U
 | .int k n=>ofV (unM op (.int k n))
 | .bool b=>ofV (unM op (.bool b))
 | _=>.none
def eqU:U->U->Option Bool
 | .int k a,.int j b=>if k=j then some (a == b)else none
 | .bool a,.bool b=>some (a == b)
 | .str a,.str b=>some (a == b)
 | _,_=>none
def mE:List U->Option Bool
 | []=>some true
 | a::b::r=>match eqU a b,mE r with
   | some x,some y=>some (x && y)
   | _,_=>none
 | _=>none
def II(s:List UInt8)(l h:Int):U :=
 match l,h with
 | .ofNat l,.ofNat h=>if l<=h/\h<=s.length then .str ((s.drop l).take (h-l))else .none
 | _,_=>.none
def tZ:List U->Option (List UInt8)
 | []=>some []
 | .int .u8 (.ofNat n)::r=>if n<256 then match tZ r with
   | some l=>some (UInt8.ofNat n::l)
   | none=>none else none
 | _::_=>none
def vW:List (List U)->Option (List UInt8)
 | []=>some []
 | [.int .u8 (.ofNat n)]::r=>if n<256 then match vW r with
   | some l=>some (UInt8.ofNat n::l)
   | none=>none else none
 | _::_=>none
def jV(s:List UInt8):List (List U):=s.map fun b=>[.int .u8 b.toNat]
def i7(w:Nat):Nat->List U->Option (List (List U))
 | 0,[]=>some []
 | 0,_::_=>none
 | n+1,l=>if w<=l.length then match i7 w n (l.drop w)with
   | some r=>some (l.take w::r)
   | none=>none else none
def xU(row:List U)(o:Nat)(cells:List U):List U:=row.take o++cells++row.drop (o+cells.length)
def vX:Nat:=1000000000
def sN(f:Bool)(w:Nat)(rows r:List (List U)):U:=if rows.length+r.length<=vX then(match r with|[]=>.seq f w rows|r=>.seq false w (rows++r))else .none
def isU(a b:U):Bool :=
 match eqU a b with
 | some c=>c
 | none=>false
def T7:List U->List U->Bool
 | [],_=>true
 | a::k,b::r=>isU a b && T7 k r
 | _::_,[]=>false
def JH(kw:Nat)(c:List U):List (List U)->List (List U)
 | []=>[c]
 | r::rs=>if T7 (c.take kw) r then c::rs else r::JH kw c rs
def evU:LOp->List U->U
 | .mhas w kw,.seq _ v rows::k=>if v=w/\k.length=kw then .bool (rows.any (T7 k))else .none
 | .mget w kw o,.seq _ v rows::z::k=>if v=w/\k.length=kw then(match rows.find? (T7 k)with
   | some r=>r.getD o .none
   | none=>z)else .none
 | .mput w kw,.seq nul v rows::c=>if v=w/\c.length=w then .seq nul w (JH kw c rows)else .none
 | .len,[.seq _ _ rows]=>.int .i64 rows.length
 | .mks,l=>match tZ l with
   | some s=>.str s
   | none=>.none
 | .inbs w,[.int _ i,.seq _ v rows]=>if v=w then .bool (decide (0<=i) && decide (i<rows.length))else .none
 | .get w o,[.seq false v rows,.int _ (.ofNat k)]=>if v=w then(rows.getD k []).getD o .none else .none
 | .mk w,l=>if w=0 then .none else match i7 w (l.length / w) l with
   | some r=>.seq false w r
   | none=>.none
 | .nilw w,[]=>.seq true w []
 | .nilp,[.seq nul _ _]=>.bool nul
 | .snoc w,.seq nul v rows::l=>if v=w/\w≠0 then match i7 w (l.length / w) l with
   | some r=>sN nul w rows r
   | none=>.none else .none
 | .cat w,[.seq nul v rows,.seq _ v2 r]=>if v=w/\v2=w then sN nul w rows r else .none
 | .cats,[.seq nul v rows,.str s]=>if v=1 then sN nul 1 rows (jV s)else .none
 | .set w o,.seq false v rows::.int _ (.ofNat k)::l=>if v=w/\k<rows.length/\o+l.length<=w then .seq false w (rows.set k (xU (rows.getD k []) o l))else .none
 | .subs w,[.seq nul v rows,.int _ (.ofNat l),.int _ (.ofNat h)]=>if v=w/\l<=h/\h<=rows.length then .seq nul w ((rows.drop l).take (h-l))else .none
 | .str,[.seq _ v rows]=>if v=1 then match vW rows with
   | some s=>.str s
   | none=>.none else .none
 | .byt,[.str s]=>.seq false 1 (jV s)
 | .ustr,[.seq _ v rows,.int _ (.ofNat n)]=>if v=1/\n<=rows.length/\n<=vX then match vW (rows.take n)with
   | some s=>.str s
   | none=>.none else .none
 | .rep w,.int _ (.ofNat n)::l=>if l.length=w/\n<=vX then .seq false w (List.replicate n l)else .none
 | .bin op,[a,b]=>evB op a b
 | .un op,[a]=>ev1 op a
 | .conv k,[.int _ n]=>.int k (k.wrap n)
 | .len,[.str s]=>.int .i64 s.length
 | .rune,[.str s,.int _ (.ofNat k)]=>.int .i32 (Utf8.decode ⟨⟨s⟩⟩ k).1
 | .rpos,[.str s,.int _ (.ofNat k)]=>.int .i64 (k+(Utf8.decode ⟨⟨s⟩⟩ k).2:Nat)
 | .idx,[.str s,.int _ (.ofNat k)]=>match s[k]? with
   | some b=>.int .u8 b.toNat
   | none=>.none
 | .sub,[.str s,.int _ l,.int _ h]=>II s l h
 | .sub1,[.str s,.int _ l]=>II s l s.length
 | .sel,.int _ (.ofNat k)::cs=>cs.getD k .none
 | .inb,[.int _ i,.int _ n]=>.bool (decide (0<=i) && decide (i<n))
 | .eqs,l=>match mE l with
   | some b=>.bool b
   | none=>.none
 | .max,[.int k a,.int _ b]=>.int k (if b>a then b else a)
 | .min,[.int k a,.int _ b]=>.int k (if b<a then b else a)
 | _,_=>.none
def n7.ok(E:Nat->U):n7->Prop
 | .lt i t op xs=>E i=evU op (xs.map (D5 E))/\G2 (E i)=t/\t<10
 | .dt i t op xs=>E i=evU op (xs.map (D5 E))/\G2 (E i)=t/\∃ f w rows,E i=.seq f w rows
 | .br i b=>E i=.bool b
 | .as op xs=>evU op (xs.map (D5 E))=.bool true
 | .con spec xs i d n=>∃ outs,spec (xs.map (D5 E))=some (d,outs)/\outs.length=n/\∀ j u,outs[j]? = some u->E (i+j)=u
def R6(E:Nat->U)(l:List n7):Prop:=∀ e ∈ l,e.ok E
def Lg.le(a b:Lg):Prop:=a.log <:+ b.log
def Lg.le.refl(a:Lg):a.le a:=List.suffix_refl _
def Lg.le.trans{a b c:Lg}(h:a.le b)(k:b.le c):a.le c:=List.IsSuffix.trans h k
def R6.le{E:Nat->U}{a b:Lg}(h:R6 E b.log)(k:a.le b):R6 E a.log:=fun e he=>h e (k.subset he)
variable [Ora]
abbrev Sat(lg:Lg):Prop:=R6 Ora.env lg.log
omit [Ora] in
def QA{u:U}(h:G2 u<10):∃ v,toV u=some v/\ofV (some v)=u/\G4 v=G2 u:=by
 cases u with
 | none=>simp[G2]at h
 | seq _ _ _=>simp only[G2]at h;omega
 | int k n=>exact⟨_,rfl,rfl,rfl⟩
 | bool b=>exact⟨_,rfl,rfl,rfl⟩
 | str s=>exact⟨_,rfl,rfl,rfl⟩
def FF(h:G2 (ofV o)<10):∃ v,o=some v/\toV (ofV o)=some v:=by
 unfold ofV at h;split at h
 .exact⟨_,rfl,rfl⟩
 .exact⟨_,rfl,rfl⟩
 .rename_i s;refine⟨_,rfl,?_⟩;simp[ofV,toV]
 .simp[G2]at h
def L6(k:IntKind):iD k<8:=by cases k<;>decide
theorem aB{ρ:Ren}{v v':Value}(h:VR ρ v v')(f:G4 v<10):toV (D5 Ora.env v)=some v'/\G2 (D5 Ora.env v)=G4 v:=by
 cases h with
 | pure hp =>
   cases v<;>simp only[G4]at f<;>first
    | exact⟨rfl,rfl⟩
    | (exfalso;omega)
    | (simp[I4]at hp)
 | hole h j=>exact⟨h,j⟩
 | junk=>simp[G4]at f
 | ixp _ _ _ _ _=>simp[G4,ixp]at f
 | dat _ _ _ _ _=>simp[G4,Go.Sx.dat]at f
 | clp _ _ _ _ _ _=>simp[G4,Go.Sx.clp]at f
 | own _ _ _=>simp[G4,Go.Sx.own]at f
 | dpt _ _ _=>simp[G4,Go.Sx.dpt]at f
 | opt _ _ _=>simp[G4,Go.Sx.opt]at f
 | yv _=>simp[G4,Go.Sx.yv]at f
 | sdt _=>simp[G4,Go.Sx.sdt]at f
 | _=>simp[G4]at f
def M6{ρ:Ren}(h:VR ρ v v')(j:G4 v<8):∃ k n,v'=.int k n/\D5 Ora.env v=.int k n/\G4 v=iD k:=by
 obtain⟨h1,f⟩:=aB h A2;cases hu:D5 Ora.env v with
 | int k n=>rw[hu]at h1 f;cases h1;exact⟨k,n,rfl,rfl,f.symm⟩
 | bool b=>rw[hu]at f;simp only[G2]at f;omega
 | str s=>rw[hu]at f;simp only[G2]at f;omega
 | none=>rw[hu]at h1;cases h1
 | seq _ _ _=>rw[hu]at h1;cases h1
def hH{ρ:Ren}(h:VR ρ v v')(j:G4 v=8):∃ b,v'=.bool b/\D5 Ora.env v=.bool b:=by
 obtain⟨h1,f⟩:=aB h A2;cases hu:D5 Ora.env v with
 | int k n=>rw[hu]at f;simp only[G2]at f;have:=L6 k;omega
 | bool b=>rw[hu]at h1;cases h1;exact⟨b,rfl,rfl⟩
 | str s=>rw[hu]at f;simp only[G2]at f;omega
 | none=>rw[hu]at h1;cases h1
 | seq _ _ _=>rw[hu]at h1;cases h1
def o7{ρ:Ren}(h:VR ρ v v')(j:G4 v=9):∃ s,v'=.string ⟨⟨s⟩⟩/\D5 Ora.env v=.str s:=by
 obtain⟨h1,f⟩:=aB h A2;cases hu:D5 Ora.env v with
 | int k n=>rw[hu]at f;simp only[G2]at f;have:=L6 k;omega
 | bool b=>rw[hu]at f;simp only[G2]at f;omega
 | str s=>rw[hu]at h1;cases h1;exact⟨s,rfl,rfl⟩
 | none=>rw[hu]at h1;cases h1
 | seq _ _ _=>rw[hu]at h1;cases h1
def jB{m m':Mem}{t:Nat}{op:LOp}(h:T9 m t op xs=some (v,m')):v=hole m.lg.nx t/\m'=m.wLg ⟨m.lg.nx+1,m.lg.pi,.lt m.lg.nx t op xs::m.lg.log⟩:=by
 obtain⟨H,n,W,hi,⟨nx,pi,log⟩⟩:=m;simp only[T9,E5,I1]at h;cases h;exact⟨rfl,rfl⟩
def M4{m m':Mem}{t:Nat}{op:LOp}(h:T9 m t op xs=some (v,m'))(n:Sat m'.lg):∃ u,evU op (xs.map (D5 Ora.env))=u/\G2 u=t/\∃ r,toV u=some r/\(∀ ρ,VR ρ v r)/\t<10:=by
 obtain⟨rfl,rfl⟩:=jB h;obtain⟨h1,f,h3⟩:=n (.lt m.lg.nx t op xs) (by cases m;exact B4);refine⟨_,rfl,h1▸f,?_⟩;obtain⟨r,j,_⟩:=QA (u:=Ora.env m.lg.nx) A2;exact⟨r,h1▸j,fun ρ=>.hole j f,h3⟩
section
variable {P:Program} {base:Nat} {ρ:Ren} {m m':Mem} {w:World}
def St.wLg(h:HR P base ρ m.H w)(lg:Lg):St P base ρ ρ m (m.wLg lg) w w:=by
 obtain⟨H,n,W,hi,l⟩:=m;have r:=St.refl (m:=⟨H,n,W,hi,l⟩) h;exact⟨r.ext,r.new,r.nle,r.hle,r.nhi,r.hr,r.wsub,r.wrw,r.keep,r.size,r.os,r.blk,r.same,r.tch⟩
def bW:∀ {l:List n7} {i:Nat} {b:Bool},zF l i=some b->n7.br i b ∈ l
 | [],_,_,h=>by cases h
 | .br j c::r,i,b,h=>by
   rw[zF]at h;cases f:Nat.beq j i with
   | true=>rw[f]at h;cases h;rw[A0 f];exact B4
   | false=>rw[f]at h;exact C4 _ (bW h)
 | .lt _ _ _ _::r,i,b,h=>C4 _ (bW (l:=r) h)
 | .dt _ _ _ _::r,i,b,h=>C4 _ (bW (l:=r) h)
 | .as _ _::r,i,b,h=>C4 _ (bW (l:=r) h)
 | .con _ _ _ _ _::r,i,b,h=>C4 _ (bW (l:=r) h)
def fE{lg f:Lg}{b:Bool}(h:brL lg c=some (b,f)):lg.le f:=by
 unfold brL at h;split at h
 .cases h;exact .refl _
 .obtain⟨nx,pi,log⟩:=lg;simp only at h;split at h
  .cases h;exact .refl _
  .split at h
   .cases h;exact⟨[_],rfl⟩
   .cases h;exact⟨[_],rfl⟩
   .cases h
 .cases h
def mH{lg f:Lg}{b:Bool}(h:brL lg c=some (b,f))(q:VR ρ c c')(n:Sat f):c'=.bool b:=by
 unfold brL at h;split at h
 .cases h;exact cP q
 .rename_i i;have B:Ora.env i=.bool b:=by
   obtain⟨nx,pi,log⟩:=lg;simp only at h;split at h
   .rename_i b' A;cases h;exact n _ (bW A)
   .split at h
    .cases h;exact n (.br i true) B4
    .cases h;exact n (.br i false) B4
    .cases h
  obtain⟨b',h1,j⟩:=hH q rfl;have j:Ora.env i=.bool b':=j;rw[B]at j;cases j;exact h1
 .cases h
def vC:∀ {a b:List U} {z:Bool},a.length%2=0->mE (a++b)=some z->∃ x y,mE a=some x/\mE b=some y/\z=(x && y)
 | [],b,z,_,h=>⟨true,z,rfl,h,rfl⟩
 | [_],_,_,hl,_=>by simp at hl
 | p::q::r,b,z,hl,h=>by
   simp only[S2]at h;unfold mE at h;split at h
   .rename_i u v f j;cases h;obtain⟨x,y,h1,n,rfl⟩:=vC (by simp only[E4]at hl;omega) j;exact⟨u && x,y,by simp only[mE,f,h1],n,by simp[Bool.and_assoc]⟩
   .cases h
def UF(h:eY P t x y=true)(hx:VR ρ x x')(C:VR ρ y y'){b:Bool}(j:eqU (D5 Ora.env x) (D5 Ora.env y)=some b)(n:Nat)(w:World):(Op.equalIn (n+1) t x' y').run P w=.ok b w:=by
 unfold eY at h;split at h
 .rename_i hu;obtain⟨h1,f⟩:=B6 h;obtain⟨p,rfl,B⟩:=hH hx (A0 h1);obtain⟨q,rfl,A⟩:=hH C (A0 f);rw[B,A]at j;cases j;simp[Op.equalIn,A4,C9 hu,Result.andThen]
 .rename_i k hu;obtain⟨h1,f⟩:=B6 h;have h1:=A0 h1;have f:=A0 f;obtain⟨E,p,rfl,B,f1⟩:=M6 hx (by have:=L6 k;omega);obtain⟨D,q,rfl,A,f2⟩:=M6 C (by have:=L6 k;omega);have g1:E=k:=by cases E<;>cases k<;>first|rfl|(simp only[iD]at f1 h1;omega)
  have g2:D=k:=by cases D<;>cases k<;>first|rfl|(simp only[iD]at f2 f;omega)
  subst g1;subst g2;rw[B,A]at j;simp[eqU]at j;subst j;simp[Op.equalIn,A4,C9 hu,Result.andThen]
 .rename_i hu;obtain⟨h1,f⟩:=B6 h;obtain⟨p,rfl,B⟩:=o7 hx (A0 h1);obtain⟨q,rfl,A⟩:=o7 C (A0 f);rw[B,A]at j;cases j
  have:=run_equalIn_string (P:=P) w n t ⟨⟨p⟩⟩ ⟨⟨q⟩⟩ hu;rw[this];simp[ByteArray.toList_eq]
 .cases h
mutual
def SY:∀ (d:Nat) (t:TypeId) (x y:Value) (l:List Value),eqS P d t x y=some l->l.length%2=0
 | 0,_,_,_,_,h=>by simp[eqS]at h
 | d+1,t,x,y,l,h=>by
   unfold eqS at h;cases hs:eY P t x y with
   | true=>rw[hs]at h;cases h;simp
   | false =>
     rw[hs]at h;simp only[D6]at h;split at h
     .rename_i fs xs ys hu;cases hst:P.stoodInHeld t with
      | true=>rw[hst]at h;cases h
      | false=>rw[hst]at h;exact zM d _ _ _ l h
     .split at h
      .exact zM d _ _ _ l h
      .cases h
     .cases h
def zM:∀ (d:Nat) (fs:List Field) (xs ys:List Value) (l:List Value),zN P d fs xs ys=some l->l.length%2=0
 | 0,_,_,_,_,h=>by simp[zN]at h
 | d+1,[],_,_,_,h=>by simp only[zN,D2]at h;subst h;rfl
 | d+1,f::fs,xs,ys,l,h=>by
   unfold zN at h;cases hnm:f.name == "_" with
   | true=>rw[hnm]at h;cases h
   | false =>
     rw[hnm]at h;simp only[D6]at h;split at h
     .split at h
      .rename_i a b ha hb;cases h
       have:=SY d _ _ _ a ha
       have:=zM d _ _ _ b hb;simp only[E1];omega
      .cases h
     .cases h
end
mutual
def OY:∀ (d:Nat) (t:TypeId) (x y x' y':Value) (l:List Value) (b:Bool),eqS P d t x y=some l->mE (l.map (D5 Ora.env))=some b->VR ρ x x'->VR ρ y y'->∀ (n:Nat),d<=n->∀ w:World,(Op.equalIn n t x' y').run P w=.ok b w
 | 0,_,_,_,_,_,_,_,h,_,_,_,_,_,_=>by simp[eqS]at h
 | d+1,t,x,y,x',y',l,b,h,hl,hx,hy,n,hn,w=>by
   obtain⟨n,rfl⟩:∃ k,n=k+1:=⟨n-1,A2⟩;have hn':d<=n:=A2;unfold eqS at h;cases hs:eY P t x y with
   | true =>
     rw[hs]at h;cases h;simp only[C3,F9,mE]at hl;split at hl
     .rename_i u v e1 e2;cases e2;cases hl;rw[oI];exact UF hs hx hy e1 n w
     .cases hl
   | false =>
     rw[hs]at h;simp only[D6]at h;split at h
     .rename_i fs xs ys hu;cases hst:P.stoodInHeld t with
      | true=>rw[hst]at h;cases h
      | false =>
        rw[hst]at h;obtain⟨xs',rfl,hx1⟩:=V5 hx;obtain⟨ys',rfl,hy1⟩:=V5 hy;have hf:P.fieldsOf t=fs:=by simp[Program.fieldsOf,hu]
        rw[run_equalIn_struct (P:=P) w n t _ _ (by rw[hf];exact hu) hst,hf];exact GN d fs.toList xs.toList ys.toList xs' ys' l b h hl hx1 hy1 n hn' w
     .rename_i k e xs ys hu;split at h
      .rename_i s hz;obtain⟨xs',rfl,hx1⟩:=V5 hx;obtain⟨ys',rfl,hy1⟩:=V5 hy;obtain⟨i,hi,rfl⟩:=BU hz;rw[run_equalIn_array (P:=P) (w:=w) n _ _ hu hi,show P.cellsOf e=i.size by simp[Program.cellsOf,hi],fC];exact GN d _ xs.toList ys.toList xs' ys' l b h hl hx1 hy1 n hn' w
      .cases h
     .cases h
def GN:∀ (d:Nat) (fs:List Field) (xs ys xs' ys':List Value) (l:List Value) (b:Bool),zN P d fs xs ys=some l->mE (l.map (D5 Ora.env))=some b->LR ρ xs xs'->LR ρ ys ys'->∀ (n:Nat),d<=n->∀ w:World,(Op.eqFields n ⟨xs'⟩ ⟨ys'⟩ fs).run P w=.ok b w
 | 0,_,_,_,_,_,_,_,h,_,_,_,_,_,_=>by simp[zN]at h
 | d+1,[],_,_,_,_,_,b,h,hl,_,_,_,_,_=>by
   simp only[zN,D2]at h;subst h;simp only[F9,mE,D2]at hl;subst hl;simp[Op.eqFields]
 | d+1,f::fs,xs,ys,xs',ys',l,b,h,hl,hx,hy,n,hn,w=>by
   unfold zN at h;cases hnm:f.name == "_" with
   | true=>rw[hnm]at h;cases h
   | false =>
     rw[hnm]at h;simp only[D6]at h;have hn':f.name ≠ "_":=by simpa using hnm
     split at h
     .rename_i x y h1 h2;obtain⟨x',g1,g2⟩:=hZ h1 hx w;obtain⟨y',g3,g4⟩:=hZ h2 hy w;split at h
      .rename_i a c ha hc;cases h;rw[M1]at hl;obtain⟨p,q,e1,e2,rfl⟩:=vC (by have:=SY d _ _ _ a ha;simpa using this) hl;have ih:=OY d f.type x y x' y' a p ha e1 g2 g4 n A2 w;have ih2:=GN d fs xs ys xs' ys' c q hc e2 hx hy n A2 w;unfold Op.eqFields;rw[A9 hn'];cases p<;>simp[A4,g1,g3,Result.andThen,ih,ih2]
      .cases h
     .cases h
end
end
end
section
open Go
variable [Ora]
section
variable {P:Program} {base:Nat} {ρ:Ren} {m m':Mem} {w w':World}
def St.new0{ab:AB}(h:HR P base ρ m.H w)(R:Z4 m ab k=some (v,m'))(O:K2 ρ m.n m'.hi)(K:BR P (upd ρ m.n l') ab l' w)(F:l'.on=false)
  (M:∀ q,Tc ab l' q->Fp ρ m.H q/\∀ id,id<=H7->∀ a l,Hp.get m.H id=some a->ρ id=some l->a.rw=true->l.on=true->l.blk≠q):v=k m.n/\upd ρ m.n l' m.n=some l'/\St P base ρ (upd ρ m.n l') m m' w w:=by
 obtain⟨hle,hv,rfl⟩:=L5 R;have E:ρ m.n=none:=O m.n (A6 _) (K9 _ _).2;have A:=W7 (l:=l') E;refine⟨hv,L7 _ _ _,A,fun b q h1 j=>?_,by simp,(K9 _ _).1,fun _=>Y7 (K9 _ _).2,⟨fun b q N=>?_,fun id hid a f=>?_⟩,fun b K=>K,fun b h1 j=>absurd h1 j,fun q N _=>rfl,A6 _,⟨rfl,rfl,rfl⟩,fun b q h1 j B=>?_,fun id hid h1 j=>?_,fun q ⟨id,a,l,hid,f,D,L⟩=>.inr ?_⟩
 .obtain⟨rfl,rfl⟩:=U3 h1 j;exact⟨A6 _,J3 _⟩
 .cases h0:ρ b with
  | some Q=>exact h.dom b Q h0
  | none=>obtain⟨rfl,rfl⟩:=U3 N h0;exact hle
 .rw[F0 _ _ _ _ hle hid]at f;by_cases e:id=m.n
  .rw[A9 e]at f;have f:=A8 f;subst f;subst e;exact⟨l',L7 _ _ _,K,fun _ B=>(by rw[F]at B;cases B)⟩
  .rw[A7 e]at f;obtain⟨l0,h1,j,h3⟩:=h.at_ id hid a f;refine⟨l0,A _ _ h1,j.mono A (fun _ _=>rfl),fun hr B=>⟨(h3 hr B).1,fun G C I l2 g1 g2 g3=>?_⟩⟩;rw[F0 _ _ _ _ hle C]at g1;by_cases J:G=m.n
   .subst J;rw[L7]at g2
    have:=A8 g2;subst this;rw[A9 rfl]at g1;have g1:=A8 g1;subst g1;exact absurd rfl ((M _ g3).2 id hid a l0 f h1 hr B)
   .rw[A7 J]at g1;unfold upd at g2;rw[A7 J]at g2;exact(h3 hr B).2 G C I l2 g1 g2 g3
 .obtain⟨rfl,rfl⟩:=U3 h1 j;rw[F]at B;cases B
 .rw[F0 _ _ _ _ hle hid,A7];intro e;subst e;rcases j with j|j
  .omega
  .have j:upN m.hi m.n<=m.n:=j
   have:=(K9 m.hi m.n).2;omega
 .have f:Hp.get (m.H.set m.n (some ab)) id=some a:=f;rw[F0 _ _ _ _ hle hid]at f;by_cases e:id=m.n
  .subst e;rw[A9 rfl]at f;have f:=A8 f;subst f;rw[L7]at D;have D:=A8 D;subst D;exact(M q L.2).1
  .rw[A7 e]at f;unfold upd at D;rw[A7 e]at D;exact⟨id,a,l,hid,f,D,L⟩
def St.same0{ab:AB}{id:Nat}(h:HR P base ρ m.H w)(T:cK m id ab'=some m')(L:Hp.get m.H id=some ab)(D:ab.rw=true)(G:ρ id=some l)(N:BR P ρ ab' l w)(Q:∀ q,Tc ab' l q->Tc ab l q):St P base ρ ρ m m' w w:=by
 obtain⟨hle,rfl⟩:=U4 T;obtain⟨E,h3⟩:=h.atl G L;refine⟨fun _ _ h=>h,fun b k h1 E=>(by rw[h1]at E;cases E),A6 _,A6 _,fun h=>h,⟨h.dom,fun n f a A=>?_⟩,fun b N=>C4 _ N,fun b h1 E k J=>?_,fun k J R=>rfl,A6 _,⟨rfl,rfl,rfl⟩,fun b k h1 E=>(by rw[h1]at E;cases E),fun n f S U=>?_,fun k ⟨n,a,q,f,A,K,O⟩=>.inr ?_⟩
 .rw[F0 _ _ _ _ hle f]at A;by_cases e:n=id
  .rw[A9 e]at A;have A:=A8 A;subst A;subst e;refine⟨l,G,N,fun _ B=>⟨(h3 D B).1,fun C j F M g1 g2 g3=>?_⟩⟩;rw[F0 _ _ _ _ hle j]at g1;by_cases I:C=n
   .exact I
   .rw[A7 I]at g1;exact(h3 D B).2 C j F M g1 g2 g3
  .rw[A7 e]at A;obtain⟨l2,g1,g2,g3⟩:=h.at_ n f a A;refine⟨l2,g1,g2.mono (fun _ _ h=>h) (fun k J=>rfl),fun hr B=>⟨(g3 hr B).1,fun C j F M f1 f2 f3=>?_⟩⟩;rw[F0 _ _ _ _ hle j]at f1;by_cases I:C=id
   .subst I;rw[G]at f2
    have:=A8 f2;subst this;have f1:=A8 (by simpa using f1);subst f1;exact(g3 hr B).2 C j ab l L G (Q _ f3)
   .rw[A7 I]at f1;exact(g3 hr B).2 C j F M f1 f2 f3
 .rcases B5.1 h1 with rfl|h1
  .exact⟨ab,L,D⟩
  .exact absurd h1 E
 .rw[F0 _ _ _ _ hle f,A7];intro e;subst e;exact S B4
 .have A:Hp.get (m.H.set id (some ab')) n=some a:=A;rw[F0 _ _ _ _ hle f]at A;by_cases e:n=id
  .subst e;rw[A9 rfl]at A;have A:=A8 A;subst A;rw[G]at K;have K:=A8 K;subst K;exact⟨n,ab,l,f,L,G,AB.rw_fr D,Q _ O.2⟩
  .rw[A7 e]at A;exact⟨n,a,q,f,A,K,O⟩
def St.move{ab:AB}{id:Nat}(h:HR P base ρ m.H w)(hle:id<=H7)(hg:Hp.get m.H id=some ab)(E:ab.rw=true)(R:ρ id=some l)
  (hn:Z4 (jZ m id) ab' k=some (v,m')) (hf:K2 ρ m.n m'.hi) (N:l'.on=true->l.on=true/\l'.blk=l.blk)
  (ho:w'.os=w.os/\w'.tape=w.tape/\w'.output=w.output) (Z:w'.heap.size=w.heap.size) (Y:∀ k,(l.on=true->k≠l.blk)->w'.heap[k]? = w.heap[k]?) (W:BR P (upd ρ m.n l') ab' l' w') (aw:ab'≠.frz) :
  v=k m.n/\upd ρ m.n l' m.n=some l'/\St P base ρ (upd ρ m.n l') m m' w w':=by
 rw[m6]at hn;obtain⟨U,hv,rfl⟩:=L5 hn;have B:ρ m.n=none:=hf m.n (A6 _) (K9 _ _).2;have G:=W7 (l:=l') B;obtain⟨Q,h3⟩:=h.atl R hg;have X:∀ k,Tc ab' l' k->l.on=true/\k=l.blk:=fun k Y=>by
  rcases Y with⟨_,h1,rfl⟩|⟨rfl,_⟩
  .exact N h1
  .exact absurd rfl aw
 have au:id≠m.n:=fun e=>by subst e;rw[R]at B;cases B
 have A:∀ i,i<=H7->Hp.get ((m.H.set id none).set m.n (some ab')) i=if i=m.n then some ab' else if i=id then none else Hp.get m.H i:=fun i hi=>by
  rw[F0 _ _ _ _ U hi,F0 _ _ _ _ hle hi]
 refine⟨hv,L7 _ _ _,G,fun b q h1 Q=>?_,W6 _,(K9 _ _).1,fun _=>Y7 (K9 _ _).2,⟨fun b q F=>?_,fun i hi a f=>?_⟩,fun b W=>C4 _ W,fun b h1 Q q F=>?_,fun q F ay=>Y q ?_,by rw[Z];exact A6 _,ho,fun b q h1 Q C=>?_,fun i hi h4 S=>?_,fun k ⟨i,a,q,hi,f,F,ht⟩=>.inr ?_⟩
 .obtain⟨rfl,rfl⟩:=U3 h1 Q;exact⟨A6 _,J3 _⟩
 .cases h0:ρ b with
  | some q0=>exact h.dom b q0 h0
  | none=>obtain⟨rfl,rfl⟩:=U3 F h0;exact U
 .have f:Hp.get ((m.H.set id none).set m.n (some ab')) i=some a:=f;rw[A i hi]at f;by_cases e:i=m.n
  .rw[A9 e]at f;have f:=A8 f;subst f;subst e;refine⟨l',L7 _ _ _,W,fun av C=>?_⟩;obtain⟨j,D⟩:=N C;refine⟨by rw[D];exact(h3 E j).1,fun K M ax l2 g1 g2 g3=>?_⟩;rw[A K M]at g1;by_cases e2:K=m.n
   .exact e2
   .rw[A7 e2]at g1;unfold upd at g2;rw[A7 e2]at g2;by_cases J:K=id
    .rw[A9 J]at g1;cases g1
    .rw[A7 J]at g1;exact absurd ((h3 E j).2 K M ax l2 g1 g2 (D▸g3)) J
  .rw[A7 e]at f;by_cases J:i=id
   .rw[A9 J]at f;cases f
   .rw[A7 J]at f;obtain⟨l2,g1,g2,g3⟩:=h.at_ i hi a f;have V:∀ k,Tc a l2 k->l.on=true->k≠l.blk:=fun k O j hh=>J ((h3 E j).2 i hi a l2 f g1 (hh▸O))
    refine⟨l2,G _ _ g1,g2.mono G (fun k O=>Y _ (V k O)),fun hr C=>⟨(g3 hr C).1,fun I L T l3 f1 f2 f3=>?_⟩⟩;have f1:Hp.get ((m.H.set id none).set m.n (some ab')) I=some T:=f1;rw[A I L]at f1;by_cases e4:I=m.n
    .subst e4;rw[L7]at f2
     have:=A8 f2;subst this;rw[A9 rfl]at f1;have f1:=A8 f1;subst f1;obtain⟨j,F⟩:=X _ f3;exact absurd F (V _ (.inl ⟨AB.rw_on hr,C,rfl⟩) j)
    .rw[A7 e4]at f1;unfold upd at f2;rw[A7 e4]at f2;by_cases e5:I=id
     .rw[A9 e5]at f1;cases f1
     .rw[A7 e5]at f1;exact(g3 hr C).2 I L T l3 f1 f2 f3
 .rcases B5.1 h1 with rfl|h1
  .exact⟨ab,hg,E⟩
  .exact absurd h1 Q
 .exact fun j e=>ay id B4 l R j e.symm
 .obtain⟨rfl,rfl⟩:=U3 h1 Q;obtain⟨j,D⟩:=N C;exact .inr ⟨id,B4,l,R,j,D.symm⟩
 .have az:=A i hi;show Hp.get ((m.H.set id none).set m.n (some ab')) i=_;rw[az,A7,A7]
  .intro e;subst e;exact h4 B4
  .intro e;subst e;rcases S with S|S
   .omega
   .have S:upN m.hi m.n<=m.n:=S
    have:=(K9 m.hi m.n).2;omega
 .have f:Hp.get ((m.H.set id none).set m.n (some ab')) i=some a:=f;rw[A i hi]at f;by_cases e:i=m.n
  .rw[A9 e]at f;have f:=A8 f;subst f;subst e;rw[L7]at F;have F:=A8 F;subst F;obtain⟨j,W⟩:=X k ht.2;exact⟨id,ab,l,hle,hg,R,AB.rw_fr E,.inl ⟨AB.rw_on E,j,W.symm⟩⟩
  .rw[A7 e]at f;unfold upd at F;rw[A7 e]at F;by_cases J:i=id
   .rw[A9 J]at f;cases f
   .rw[A7 J]at f;exact⟨i,a,q,hi,f,F,ht⟩
end
end
section
open Go
variable [Ora]
def aM{m m':Mem}{ab:AB}(h:Z4 m ab k=some (v,m')):m'.lg=m.lg:=by
 obtain⟨_,_,rfl⟩:=L5 h;rfl
def dW{m m':Mem}{id:Nat}{ab:AB}(h:cK m id ab=some m'):m'.lg=m.lg:=by
 obtain⟨_,rfl⟩:=U4 h;rfl
def sT{m m':Mem}(h:oJ m a vs=some m'):m'.lg=m.lg:=by
 unfold oJ at h;split at h
 .obtain⟨_,h⟩:=A3 h;rw[I1]at h;exact dW h
 .cases h
def TX{P:Program}{m m':Mem}(h:xB P m t a v=some m'):m'.lg=m.lg:=by
 unfold xB at h;split at h
 .obtain⟨_,h⟩:=A3 h;exact sT h
 .cases h
def p9{m m':Mem}(h:noM o m=some (v,m')):m'.lg=m.lg:=by
 obtain⟨_,rfl⟩:=l7 h;rfl
def AC{P:Program}{m m':Mem}{n:Nat}{ps:List (Nat×Value)}(h:cW P m t n ps=some (v,m')):m'.lg=m.lg:=by
 unfold cW at h;split at h
 .split at h
  .obtain⟨_,h⟩:=A3 h;split at h
   .exact aM h
   .cases h
  .cases h
 .cases h
def BB{P:Program}{m m':Mem}{l:Value}(h:eS P m t l c=some (v,m')):m'.lg=m.lg:=by
 unfold eS at h;split at h
 .split at h
  .obtain⟨_,h⟩:=A3 h;split at h
   .rw[I1]at h;exact aM h
   .cases h
  .cases h
 .cases h
def A1x{P:Program}{m m':Mem}(h:DK P m s t x=some (v,m')):m'.lg=m.lg:=by
 unfold DK at h;split at h
 .cases h;rfl
 .cases h;rfl
 .cases h;rfl
 .split at h
  .split at h
   .rw[I1]at h;exact aM h
   .cases h
  .cases h
 .split at h<;>cases h;rfl
 .split at h
  .split at h
   .split at h<;>cases h;rfl
   .cases h
  .cases h
 .cases h
def PN{P:Program}{m m':Mem}(h:sQ P m t t2 x y=some (v,m')):m'.lg=m.lg:=by
 unfold sQ at h;split at h
 .rename_i B d2 _ _;cases A:dE d2 with
  | false=>rw[A]at h;cases h
  | true =>
  rw[A]at h;simp only[P9,D6]at h;split at h
  .rename_i i a n c _;split at h
   .rename_i k new z _ _;obtain⟨_,h⟩:=A3 h;cases f:Nat.beq k 0 with
    | true =>
      rw[f]at h;simp only[E3]at h;split at h
      .obtain⟨_,h⟩:=A3 h;cases h;rfl
      .obtain⟨_,h⟩:=A3 h;cases h;rfl
    | false =>
      rw[f]at h;simp only[D6]at h;split at h
      .obtain⟨_,h⟩:=A3 h;rw[I1]at h;exact aM h
      .cases j:Nat.blt c M9 with
       | true =>
         rw[j]at h;simp only[E3]at h;cases q:Nat.ble (n+k) c with
         | true =>
           rw[q]at h;simp only[E3]at h;split at h
           .rename_i m1 _ hw;cases h;exact sT hw
           .cases h
         | false =>
           rw[q]at h;simp only[D6]at h;split at h
           .rw[I1]at h;exact aM h
           .cases h
       | false =>
         rw[j]at h;simp only[D6]at h;obtain⟨_,h⟩:=A3 h;split at h
         .obtain⟨_,h⟩:=A3 h;rw[I1]at h;rw[aM h,m6]
         .cases h
   .cases h
  .cases h
 .cases h
def A1u{P:Program}{m m':Mem}(h:LO P m t x y=some (v,m')):m'.lg=m.lg:=by
 unfold LO at h;split at h
 .split at h
  .split at h
   .split at h
    .obtain⟨_,h⟩:=A3 h;cases h;rfl
    .rename_i k cs j _ n;cases f:Nat.beq cs.length 0 with
     | true=>rw[f]at h;cases h;rfl
     | false =>
       rw[f]at h;simp only[D6]at h;obtain⟨_,h⟩:=A3 h;split at h
       .rename_i hw;cases h;exact sT hw
       .cases h
   .cases h
  .cases h
 .cases h
def AM{P:Program}{m m':Mem}{l:Value}(h:eJ P m pt p l=some (v,m')):m'.lg=m.lg:=by
 unfold eJ at h;split at h
 .cases h;rfl
 .split at h
  .split at h
   .obtain⟨_,h⟩:=A3 h;split at h
    .split at h
     .rename_i X8;cases h;exact dW X8
     .cases h
    .cases h
   .cases h
  .cases h
 .cases h
def MC{P:Program}{m m':Mem}(h:iJ P m b vs tys=some (v,m')):m'.lg=m.lg:=by
 unfold iJ at h;split at h
 .exact p9 h
 .exact p9 h
 .exact PN h
 .exact A1u h
 .exact p9 h
 .exact p9 h
 .unfold iS at h;split at h
  .cases h;rfl
  .rename_i a n c;cases f:Nat.beq n 0 || Nat.beq c 0 || Nat.beq c (M9+2)with
   | true=>rw[f]at h;cases h
   | false=>rw[f]at h;cases h;rfl
  .cases h
 .exact AM h
 .cases h
def A7V{P:Program}{fr:Fr}{m m':Mem}{o:Op}(h:opM P fr m o=some (v,m')):m'.lg=m.lg:=by
 unfold opM at h;split at h
 .cases h;rfl
 .cases h;rfl
 .unfold RE at h;split at h<;>cases h<;>rfl
 .unfold FI at h;split at h
  .exact aM h
  .cases h
 .unfold ZZ at h;obtain⟨_,h⟩:=A3 h;exact aM h
 .exact p9 h
 .exact AC h
 .unfold RF at h;split at h
  .exact p9 h
  .cases h
 .unfold FG at h;split at h
  .obtain⟨h,_⟩:=nI h;exact TX h
  .cases h
 .unfold ZY at h;split at h<;>cases h<;>rfl
 .unfold A29 at h;rename_i op t x y j;cases f:yY op with
  | true=>rw[f]at h;simp only[E3]at h;obtain⟨_,h⟩:=A3 h;exact p9 h
  | false=>rw[f]at h;exact p9 h
 .exact p9 h
 .exact A1x h
 .unfold FH at h;split at h
  .split at h
   .cases h
   .obtain⟨_,h⟩:=A3 h;cases h;rfl
  .cases h
 .cases h;rfl
 .exact BB h
 .exact p9 h
 .exact p9 h
 .exact p9 h
 .exact p9 h
 .exact p9 h
 .unfold lL at h;split at h
  .exact p9 h
  .cases h
 .exact MC h
 .cases h
def H8{m m':Mem}{t:Nat}{op:LOp}(h:T9 m t op xs=some (v,m')):m.lg.le m'.lg:=by
 obtain⟨_,rfl⟩:=jB h;obtain⟨H,n,W,hi,l⟩:=m;exact⟨[_],rfl⟩
def J9(m m':Mem):Prop:=∃ lg,m'=m.wLg lg
def J9.refl(m:Mem):J9 m m:=⟨m.lg,by cases m;rfl⟩
def J9.trans{a b c:Mem}(h:J9 a b)(k:J9 b c):J9 a c:=by
 obtain⟨l,rfl⟩:=h;obtain⟨l2,rfl⟩:=k;exact⟨l2,by cases a;rfl⟩
def H5{m m':Mem}{t:Nat}{op:LOp}(h:T9 m t op xs=some (v,m')):J9 m m':=⟨_,(jB h).2⟩
section
variable {P:Program} {base:Nat} {ρ:Ren} {m m':Mem} {w:World}
def MW{a b:Value}(h:wC m c a b=some (v,m')):m.lg.le m'.lg/\J9 m m':=by
 obtain⟨H,n,W,hi,lg⟩:=m;unfold wC at h;simp only at h;split at h
 .rename_i f j;cases h;exact⟨fE j,⟨_,rfl⟩⟩
 .rename_i f j;cases h;exact⟨fE j,⟨_,rfl⟩⟩
 .cases h
def TV{a b:Value}(h:oM P m op t a b=some (v,m')):m.lg.le m'.lg/\J9 m m':=by
 unfold oM at h;simp only at h;cases h1:(Nat.blt (G4 a) 8 && Nat.blt (G4 b) 8) || (Nat.beq (G4 a) 9 && Nat.beq (G4 b) 9)with
 | true=>rw[h1]at h;exact⟨H8 h,H5 h⟩
 | false =>
   rw[h1]at h;simp only[D6]at h;obtain⟨_,h⟩:=A3 h;exact⟨H8 h,H5 h⟩
def WT{x y:Operand}{a b:Value}(h:IH P m op t x y a b=some (v,m')):m.lg.le m'.lg/\J9 m m':=by
 unfold IH at h;obtain⟨_,h⟩:=A3 h;split at h
 .exact⟨H8 h,H5 h⟩
 .split at h
  .rename_i m1 h1;exact⟨(H8 h1).trans (H8 h),(H5 h1).trans (H5 h)⟩
  .cases h
 .cases h
def IG{i:Value}(h:l5 P m t x i=some (v,m')):m.lg.le m'.lg/\J9 m m':=by
 unfold l5 at h;cases f:!(Nat.blt (G4 i) 8)with
 | true=>rw[f]at h;cases h
 | false =>
   rw[f]at h;simp only[D6]at h;split at h
   .obtain⟨_,h⟩:=A3 h;exact⟨H8 h,H5 h⟩
   .split at h
    .obtain⟨_,h⟩:=A3 h;exact⟨H8 h,H5 h⟩
    .obtain⟨_,h⟩:=A3 h;exact⟨H8 h,H5 h⟩
    .cases h
   .cases h
def IE(h:kY P m t x lo hi mx=some (v,m')):m.lg.le m'.lg/\J9 m m':=by
 unfold kY at h;split at h
 .obtain⟨_,h⟩:=A3 h;split at h
  .cases h;exact⟨.refl _,.refl _⟩
  .obtain⟨_,h⟩:=A3 h;exact⟨H8 h,H5 h⟩
  .obtain⟨_,h⟩:=A3 h;exact⟨H8 h,H5 h⟩
  .obtain⟨_,h⟩:=A3 h;exact⟨H8 h,H5 h⟩
 .cases h
def WQ{op:UnOp}(h:IC m op x=some (v,m')):m.lg.le m'.lg/\J9 m m':=by
 unfold IC at h;simp only at h;split at h
 .obtain⟨_,h⟩:=A3 h;exact⟨H8 h,H5 h⟩
 .obtain⟨_,h⟩:=A3 h;exact⟨H8 h,H5 h⟩
def NA(h:qD P m s t x=some (v,m')):m.lg.le m'.lg/\J9 m m':=by
 unfold qD at h;split at h
 .obtain⟨_,h⟩:=A3 h;exact⟨H8 h,H5 h⟩
 .obtain⟨_,h⟩:=A3 h;cases h;exact⟨.refl _,.refl _⟩
 .cases h
def AV(h:eM P m b vs tys=some (v,m')):m.lg.le m'.lg/\J9 m m':=by
 unfold eM at h;split at h
 .split at h
  .obtain⟨_,h⟩:=A3 h;exact⟨H8 h,H5 h⟩
  .cases h
 .obtain⟨_,h⟩:=A3 h;exact⟨H8 h,H5 h⟩
 .obtain⟨_,h⟩:=A3 h;exact⟨H8 h,H5 h⟩
 .cases h
def SI{s n:Nat}{i:Value}(h:VE m a s n i=some (v,m')):m.lg.le m'.lg/\J9 m m':=by
 unfold VE at h;cases q:!(Nat.blt (G4 i) 8)with
 | true=>rw[q]at h;cases h
 | false =>
   rw[q]at h;simp only[D6]at h;split at h
   .rename_i b H k W hi lg j;split at h
    .rename_i f B;cases h;have h1:=H8 j;obtain⟨l1,A⟩:=H5 j;refine⟨h1.trans (fE B),f,?_⟩;obtain⟨H0,n0,D,C,l0⟩:=m;cases A;rfl
    .cases h
   .cases h
def AR{i:Value}(h:eK P m t x i=some (v,m')):m.lg.le m'.lg/\J9 m m':=by
 unfold eK at h;split at h
 .split at h
  .exact SI h
  .cases h
 .split at h
  .generalize f:Nat.beq _ (M9+2)=q at h;cases q with
   | true=>cases h
   | false=>exact SI h
  .cases h
 .cases h
def AT(h:eL P m s x i=some (v,m')):m.lg.le m'.lg/\J9 m m':=by
 unfold eL at h;split at h
 .split at h
  .split at h
   .split at h
    .cases h;exact⟨.refl _,.refl _⟩
    .cases h
   .cases h
  .cases h
 .cases h
def fT{cs:D0}{s n:Nat}{i:Value}:∀ {k o:Nat} {m m':Mem} {r:D0},cL m cs s n i o k=some (r,m')->m.lg.le m'.lg/\J9 m m'
 | 0,o,m,m',r,h=>by cases h;exact⟨.refl _,.refl _⟩
 | k+1,o,m,m',r,h=>by
   unfold cL at h;split at h
   .obtain⟨_,h⟩:=A3 h;split at h
    .rename_i m1 h1;split at h
     .rename_i f;cases h
      have:=fT f;exact⟨(H8 h1).trans this.1,(H5 h1).trans this.2⟩
     .cases h
    .cases h
   .cases h
def MY(h:qC P m t x=some (v,m')):m.lg.le m'.lg/\J9 m m':=by
 unfold qC at h;split at h
 .split at h
  .split at h
   .split at h
    .rename_i h1;cases h;exact fT h1
    .cases h
   .cases h
  .split at h
   .split at h
    .rename_i h1;cases h;exact fT h1
    .cases h
   .cases h
  .cases h
 .cases h
def QB{fr:Fr}{o:Op}(h:WR P fr m o=some (v,m')):m.lg.le m'.lg/\J9 m m':=by
 unfold WR at h;split at h
 .exact MW h
 .split at h
  .rename_i r hr;cases h;exact TV hr
  .exact WT h
 .exact WQ h
 .exact NA h
 .exact IE h
 .exact IG h
 .exact AR h
 .exact AT h
 .exact MY h
 .exact AV h
 .cases h
def rK{j k:IntKind}(h:iD j=iD k):j=k:=by cases j<;>cases k<;>first|rfl|(simp only[iD]at h;omega)
def TU{x y:Operand}{a b:Value}(h:oM P m op t a b=some (v,m'))(F:VR ρ a a')(G:VR ρ b b')(I:Sat m'.lg)(w:World) :
  ∃ r,(do eqGuard op t x y a' b';binOp op t a' b':Sem Value).run P w=.ok r w/\VR ρ v r:=by
 have fin:∀ {r:Value} {p q:Value},xJ p=true->xJ q=true->sO P op t p q=some r->a'=p->b'=q->(do eqGuard op t x y a' b';binOp op t a' b':Sem Value).run P w=.ok r w:=fun{r p q} hp M hr f C=>by
  subst f;subst C;have v1:VR ρ a' a':=.pure (by cases a'<;>simp[xJ]at hp<;>rfl);have v2:VR ρ b' b':=.pure (by cases b'<;>simp[xJ]at M<;>rfl);have g:lZ P t x y a' b'=true:=by
   cases a'<;>simp[xJ]at hp<;>cases b'<;>simp[xJ]at M<;>rfl
  have N:=rW (op:=op) (fun _=>g) v1 v2 w;obtain⟨A,_⟩:=wP hr v1 v2 w;simp[A4,N,A,Result.andThen]
 unfold oM at h;simp only at h;cases h1:(Nat.blt (G4 a) 8 && Nat.blt (G4 b) 8) || (Nat.beq (G4 a) 9 && Nat.beq (G4 b) 9)with
 | true =>
   rw[h1]at h;obtain⟨u,f,C,r,B,H,Q⟩:=M4 h I;have K:G2 u<10:=by rw[C];exact Q
   refine⟨r,?_,H ρ⟩;rcases J0 _ _▸h1 with h1|h1
   .obtain⟨E,D⟩:=B6 h1;obtain⟨k,n,rfl,f1,_⟩:=M6 F (A1 E);obtain⟨j,R,rfl,f2,_⟩:=M6 G (A1 D);simp only[C3,F9,f1,f2,evU,evB]at f;subst f;obtain⟨O,g1,g2⟩:=FF K;rw[B]at g2;cases g2;exact fin rfl rfl (by unfold sO;exact g1) rfl rfl
   .obtain⟨E,D⟩:=B6 h1;obtain⟨s1,rfl,f1⟩:=o7 F (A0 E);obtain⟨s2,rfl,f2⟩:=o7 G (A0 D);simp only[C3,F9,f1,f2,evU,evB]at f;subst f;obtain⟨O,g1,g2⟩:=FF K;rw[B]at g2;cases g2;exact fin rfl rfl (by unfold sO;exact g1) rfl rfl
 | false =>
   rw[h1]at h;simp only[D6]at h;obtain⟨A,h⟩:=A3 h;obtain⟨A,J⟩:=B6 A;obtain⟨A,L⟩:=B6 A;obtain⟨A,h3⟩:=B6 A;have hu:P.underlying t=some .bool:=by
    split at J
    .assumption
    .cases J
   obtain⟨u,f,C,r,B,H,_⟩:=M4 h I;refine⟨r,?_,H ρ⟩;obtain⟨p,rfl,f1⟩:=hH F (A0 A);obtain⟨q,rfl,f2⟩:=hH G (A0 h3);simp only[C3,F9,f1,f2,evU,evB]at f;cases op<;>simp only[yY]at L<;>first
    | cases L
    | skip
   .subst f;cases B;exact fin rfl rfl (by simp[sO,CD,eqM,hu]) rfl rfl
   .subst f;cases B;exact fin rfl rfl (by simp[sO,CD,eqM,hu]) rfl rfl
def vI(e:Bool)(f:∃ cs,a'=.agg cs):binOp (bif e then .eql else .neq) t a' b'=(do let r <- Op.equal t a' b';pure (.bool (bif e then r else !r))):=by
 obtain⟨cs,rfl⟩:=f;cases e<;>cases b'<;>rfl
def WS{x y:Operand}{a b:Value}(h:IH P m op t x y a b=some (v,m'))(D:VR ρ a a')(N:VR ρ b b')(q:oM P m op t a b=none)(J:Sat m'.lg)(w:World) :
  ∃ r,(do eqGuard op t x y a' b';binOp op t a' b':Sem Value).run P w=.ok r w/\VR ρ v r:=by
 unfold IH at h;obtain⟨U,h⟩:=A3 h;have C:=rW (op:=op) (fun _=>U) D N w;have j:∀ {l},eqS P 20 t a b=some l->(op=.eql∨op=.neq)->∃ cs,a'=.agg cs:=fun{l} f L=>by
  unfold eqS at f;cases A:eY P t a b with
  | true =>
    unfold eY at A;unfold oM at q;simp only at q;split at A
    .rename_i hu;obtain⟨F,E⟩:=B6 A;rw[A0 F,A0 E,hu]at q;obtain⟨H,n,W,hi,⟨nx,pi,log⟩⟩:=m;rcases L with rfl|rfl<;>simp[yY,T9,E5,I1]at q
    .rename_i k hu;obtain⟨F,E⟩:=B6 A;have R:=L6 k;have T:Nat.blt (iD k) 8=true:=C5 R;rw[A0 F,A0 E,T]at q;obtain⟨H,n,W,hi,⟨nx,pi,log⟩⟩:=m;simp[T9,E5,I1]at q
    .obtain⟨F,E⟩:=B6 A;rw[A0 F,A0 E]at q;obtain⟨H,n,W,hi,⟨nx,pi,log⟩⟩:=m;simp[T9,E5,I1]at q
    .cases A
  | false =>
    rw[A]at f;simp only[D6]at f;split at f
    .obtain⟨cs',rfl,_⟩:=V5 D;exact⟨_,rfl⟩
    .obtain⟨cs',rfl,_⟩:=V5 D;exact⟨_,rfl⟩
    .cases f
 split at h
 .rename_i l f _;obtain⟨u,B,S,r,I,O,_⟩:=M4 h J;refine⟨r,?_,O ρ⟩;simp only[evU]at B;split at B
  .rename_i z K;subst B;cases I;have he:(Op.equal t a' b').run P w=.ok z w:=OY 20 t a b a' b' l z f K D N _ E7 w;have G:=vI (t:=t) (b':=b') true (j f (.inl rfl));simp only[E3]at G;rw[G];simp[A4,C,he,Result.andThen]
  .subst B;cases I
 .rename_i l f _;split at h
  .rename_i hh m1 h1;have M:Sat m1.lg:=R6.le J (H8 h);obtain⟨V,f1,f2,r1,f3,f4,_⟩:=M4 h1 M;obtain⟨u,B,S,r,I,O,_⟩:=M4 h J;refine⟨r,?_,O ρ⟩;simp only[evU]at f1;split at f1
   .rename_i z K;subst f1;cases f3;have hv:=aB (ρ:=ρ) (f4 ρ) (by obtain⟨e,_⟩:=jB h1;rw[e];show 8<10;omega);have:D5 Ora.env hh=.bool z:=by
     cases hu:D5 Ora.env hh<;>rw[hu]at hv<;>first|(cases hv.1;done)|skip
     all_goals (obtain⟨Q,_⟩:=hv;cases Q;rfl)
    simp only[C3,F9,this,evU,ev1,unM,ofV]at B;subst B;cases I;have he:(Op.equal t a' b').run P w=.ok z w:=OY 20 t a b a' b' l z f K D N _ E7 w;have G:=vI (t:=t) (b':=b') false (j f (.inr rfl));simp only[D6]at G;rw[G];simp[A4,C,he,Result.andThen]
   .subst f1;cases f3
  .cases h
 .cases h
end
end
end Go.Sx
