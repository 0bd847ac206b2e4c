import Derived.Test.YtbbicpheoakeeaaGreatDoorX1
import Derived.Laws.BytesString
set_option linter.all false
set_option maxRecDepth 100000
set_option maxHeartbeats 4000000
namespace Go.Sx
variable {e pt s t t2 ty:TypeId}{k:Nat->Value}{a' b' c c' p p' u v v' x x' y y' z:Value}{new new' old' vs vs' xs:D3}{d d2:TypeDesc}{a:Addr}{inf:TypeInfo}{ab':AB}{l l':Loc}{r:X1}{i:Nat}{op:BinOp}{tys:List TypeId}{b:Builtin}{hi lo mx o:R3}{g:Operand->Value}
section
open Go
variable [Ora]
def PH(a b:Nat)(h:b<a):Builtin.nextslicecap a b<=3*a+4000:=by
 have grow:∀ r c,Builtin.growBy a r c<=max (c) (2*a+800):=by
  intro r;induction r with
  | zero=>intro c;simp only[Builtin.growBy];exact Nat.le_max_left _ _
  | succ r f =>
    intro c;simp only[Builtin.growBy];split
    .exact Nat.le_max_left _ _
    .have:=f (c+(c+768) / 4);refine C6 this ?_;rw[Nat.max_le];constructor
     .refine C6 ?_ (Nat.le_max_right _ _);omega
     .exact Nat.le_max_right _ _
 unfold Builtin.nextslicecap;split
 .omega
 .split
  .omega
  .have:=grow 4 b;refine C6 this ?_;rw[Nat.max_le];omega
section
variable {P:Program} {base:Nat} {ρ:Ren} {m m':Mem} {w:World}
def cE{w wd:World}(h:wd.heap=w.heap)(a:Addr):wd.cell? a=w.cell? a:=by simp[World.cell?,h]
def xL(ρ:Ren):∀ l:List UInt8,LR ρ (Q1 l) (Q1 l)
 | []=>.nil
 | b::r=>.cons (.pure rfl) (xL ρ r)
def vM{s k:Nat}(h:HR P base ρ m.H w)(f:eV m s y=some (k,new))(C:VR ρ y y') :
  (∀ wd,(Builtin.lenOf y').run P wd=.ok k wd)/\∃ new',LR ρ new new'/\∀ wd:World,wd.heap=w.heap->(Builtin.firstCells s k y').run P wd=.ok ⟨new'⟩ wd:=by
 unfold eV at f;split at f
 .rename_i n c;obtain⟨h1,q⟩:=A3 f;have h1:=A0 h1;subst h1;cases q;cases Q3 C;exact⟨fun _=>rfl,[],.nil,fun _ _=>rfl⟩
 .rename_i a n c;split at f
  .rename_i cs hr;cases f;rcases P8 C with⟨l,A,_,_,rfl⟩|⟨l,c',A,_,_,_,_,rfl⟩|⟨a',c',_,rfl,_,rfl⟩
   .obtain⟨B,h1,q,h3⟩:=d8 h hr A;exact⟨fun _=>rfl,B,h1,fun wd hw=>K8 q fun j v D=>by rw[cE hw];exact h3 j v D⟩
   .obtain⟨B,h1,q,h3⟩:=d8 h hr A;exact⟨fun _=>rfl,B,h1,fun wd hw=>K8 q fun j v D=>by rw[cE hw];exact h3 j v D⟩
   .have:new=[]:=by
     unfold u6 at hr;split at hr
     .have:=(jM hr).2;simp at this;exact this
     .cases hr
    subst this;refine⟨fun _=>rfl,[],.nil,fun wd _=>?_⟩;simp[Builtin.firstCells,loadCells,loadCellsFrom]
  .cases f
 .rename_i b;obtain⟨_,f⟩:=A3 f;cases f;cases V1 C;refine⟨fun _=>rfl,Q1 b.data.toList,?_,fun wd _=>?_⟩
  .exact xL _ _
  .have e:((b.extract 0 b.size).data.map fun b=>Value.int .u8 b.toNat)=⟨Q1 b.data.toList⟩:=by
    apply J3;simp[Q1]
   show(pure ((b.extract 0 b.size).data.map fun b=>Value.int .u8 b.toNat):Sem X1).run P wd=_;rw[e];rfl
 .cases f
def A8L(h:dI d=true):(∃ e,d=.slice e)∨d=.string:=by cases d<;>first|cases h;done|exact .inl ⟨_,rfl⟩|exact .inr rfl
def iC{n k c:Nat}{a:Option Addr}(hu:P.underlying t=some (.slice e))(D:P.underlying t2=some d2)(F:dI d2=true)
  (hi:P.info? e=some inf) (H:∀ w,(zeroValue e).run P w=.ok z w) (hlen:∀ wd,(Builtin.lenOf x').run P wd=.ok k wd)
  (hold:∀ wd:World,wd.heap=w.heap->(Builtin.firstCells inf.size n (.slice a n c)).run P wd=.ok ⟨old'⟩ wd) (h:∀ wd:World,wd.heap=w.heap->(Builtin.firstCells inf.size k x').run P wd=.ok ⟨new'⟩ wd)
  (B:¬ n+k<=c) (J:(3*(n+k)+4000)*inf.bytes<=281474976710656) (hm:n+k<=1000000000) :
  ∃ nc,n+k<=nc/\(Builtin.append_ #[t,t2] ty #[.slice a n c,x']).run P w=.ok (.slice (some ⟨w.heap.size,0,none⟩) (n+k) nc) { w.drew with heap:=w.heap.push (.cells (⟨old'⟩++⟨new'⟩++Builtin.zeroCells z.cells (nc-(n+k))) e (0,0)) }:=by
 have I:H4 P e=some inf.size:=by simp[H4,hi]
 have A:Builtin.nextslicecap (n+k) c*inf.bytes<=281474976710656:=by
  have:=G0 inf.bytes (PH (n+k) c A2);omega
 let q:Question:=.appendCap (n+k) c e
 let nc:=q.cut (w.tape w.drawn q)
 have C:n+k<=nc:=by show n+k<=(n+k)+_;omega
 refine⟨nc,C,?_⟩;have E:(choose q).run P w=.ok nc w.drew:=by
  simp only[choose,Sem.run];rw[A7 (by simp[q,Question.forced])];rfl
 have f:∀ k w,(askRoom k).run P w=.ok () w:=fun k w=>by unfold askRoom;split<;>rfl
 unfold Builtin.append_;rcases A8L F with⟨K,rfl⟩|rfl
 all_goals simp only[J0,R8,R9,A4,D2 hu,D2 D,Result.andThen,L4 I,Sem.run_pure,K0,if_false,hlen]
 all_goals
  have j:¬ (((n+k:Nat):Int)>IntKind.i64.max):=by simp[IntKind.max,IntKind.bits,IntKind.signed];omega
  simp only[A7 B,j,false_and,if_false,A4,Result.andThen,V6 hi];rw[A7 (show ¬ (Builtin.nextslicecap (n+k) c*inf.bytes>2 ^ 48) by simpa using A)];have G:w.drew.heap=w.heap:=rfl;simp only[A4,Sem.run_pure,Result.andThen,show(choose (.appendCap (n+k) c e)).run P w=.ok nc w.drew from E,f,hold _ G,h _ G,H,V6 hi,Bool.not_false,if_true];rfl
def nJ{n k c:Nat}{w':World}(hu:P.underlying t=some (.slice e))(q:P.underlying t2=some d2)(h:dI d2=true)
  (hi:P.info? e=some inf) (hlen:∀ wd,(Builtin.lenOf x').run P wd=.ok k wd) (f:(Builtin.firstCells inf.size k x').run P w=.ok ⟨new'⟩ w)
  (hle:n+k<=c) (j:(storeCells (a.add (n*inf.size)) new').run P w=.ok () w') :
  (Builtin.append_ #[t,t2] ty #[.slice (some a) n c,x']).run P w=.ok (.slice (some a) (n+k) c) w':=by
 have A:H4 P e=some inf.size:=by simp[H4,hi]
 unfold Builtin.append_;rcases A8L h with⟨B,rfl⟩|rfl
 all_goals simp only[J0,R8,R9,A4,D2 hu,D2 q,Result.andThen,L4 A,Sem.run_pure,K0,if_false,hlen]
 all_goals simp[A9 hle,A4,f,Result.andThen,j]
def uY(hu:P.underlying t=some (.slice e))(j:P.underlying t2=some d2)(n:dI d2=true)
  (hi:P.info? e=some inf) (hlen:∀ wd,(Builtin.lenOf x').run P wd=.ok 0 wd) (f:(Builtin.firstCells inf.size 0 x').run P w=.ok #[] w) :
  (Builtin.append_ #[t,t2] ty #[.slice none 0 0,x']).run P w=.ok (.slice none 0 0) w:=by
 have q:H4 P e=some inf.size:=by simp[H4,hi]
 unfold Builtin.append_;rcases A8L n with⟨h,rfl⟩|rfl
 all_goals simp only[J0,R8,R9,A4,D2 hu,D2 j,Result.andThen,L4 q,Sem.run_pure,K0,if_false,hlen]
 all_goals simp[A4,f,Result.andThen]
def St.kill{ab:AB}{id:Nat}(h:HR P base ρ m.H w)(hle:id<=H8)(F:Hp.get m.H id=some ab)(B:ab.rw=true):St P base ρ ρ m (kF m id) w w:=by
 rw[m7];refine⟨fun _ _ h=>h,fun b k h1 A=>(by rw[h1]at A;cases A),A6 _,A6 _,fun h=>h,h.sub fun n f a j=>?_,fun b I=>C5 _ I,fun b h1 A k C=>?_,fun k C E=>rfl,A6 _,⟨rfl,rfl,rfl⟩,fun b k h1 A=>(by rw[h1]at A;cases A),fun n f G K=>?_,fun k ⟨n,a,q,f,j,J,D⟩=>.inr ⟨n,a,q,f,?_,J,D⟩⟩
 .rw[F1 _ _ _ _ hle f]at j;by_cases e:n=id
  .rw[A9 e]at j;cases j
  .rw[A7 e]at j;exact j
 .rcases B6.1 h1 with rfl|h1
  .exact⟨ab,F,B⟩
  .exact absurd h1 A
 .rw[F1 _ _ _ _ hle f,A7];intro e;subst e;exact G B5
 .have j:Hp.get (m.H.set id none) n=some a:=j;rw[F1 _ _ _ _ hle f]at j;by_cases e:n=id
  .rw[A9 e]at j;cases j
  .rw[A7 e]at j;exact j
def St.grow{ab:AB}{id:Nat}{w':World}(h:HR P base ρ m.H w)(hle:id<=H8)(Z:Hp.get m.H id=some ab)(E:ab.rw=true)(R:ρ id=some l)(D:l.on=true)
  (hn:Z9 (kF m id) ab' k=some (v,m')) (hf:K7 ρ m.n m'.hi)
  (ho:w'.os=w.os/\w'.tape=w.tape/\w'.output=w.output) (az:w'.heap.size=w.heap.size) (X:∀ k,k≠l.blk->w'.heap[k]? = w.heap[k]?) (hb:BR P (upd ρ m.n l) ab' l w') (ax:ab'≠.frz:=by intro h;cases h) :
  v=k m.n/\St P base ρ (upd ρ m.n l) m m' w w':=by
 rw[m7]at hn;obtain⟨V,hv,rfl⟩:=M2 hn;have B:ρ m.n=none:=hf m.n (A6 _) (L5 _ _).2;have C:=X8 (l:=l) B;obtain⟨O,h3⟩:=h.atl R Z;have S:∀ k,Tc ab' l k->k=l.blk:=fun k X=>by
  rcases X with⟨_,_,rfl⟩|⟨rfl,_⟩
  .rfl
  .exact absurd rfl ax
 have aw:id≠m.n:=fun e=>by subst e;rw[R]at B;cases B
 have A:∀ i,i<=H8->Hp.get ((m.H.set id none).set m.n (some ab')) i=if i=m.n then some ab' else if i=id then none else Hp.get m.H i:=fun i hi=>by
  rw[F1 _ _ _ _ V hi,F1 _ _ _ _ hle hi]
 refine⟨hv,C,fun b q h1 O=>?_,X7 _,(L5 _ _).1,fun _=>Z3 (L5 _ _).2,⟨fun b q F=>?_,fun i hi a f=>?_⟩,fun b hb=>C5 _ hb,fun b h1 O q F=>?_,fun q F Y=>X q ?_,by rw[az];exact A6 _,ho,fun b q h1 O _=>?_,fun i hi h4 T=>?_,fun k ⟨i,a,q,hi,f,F,ht⟩=>.inr ?_⟩
 .obtain⟨rfl,rfl⟩:=U9 h1 O;exact⟨A6 _,J5 _⟩
 .cases h0:ρ b with
  | some q0 =>
    rw[C b q0 h0]at F
    have:=A8 F;subst this;exact h.dom b q0 h0
  | none=>obtain⟨rfl,rfl⟩:=U9 F h0;exact V
 .have f:Hp.get ((m.H.set id none).set m.n (some ab')) i=some a:=f;rw[A i hi]at f;have Q:∀ j,j<=H8->∀ J l2,Hp.get ((m.H.set id none).set m.n (some ab')) j=some J->upd ρ m.n l j=some l2->Tc J l2 l.blk->j=m.n:=fun j K J l2 g1 g2 g3=>by
   rw[A j K]at g1;by_cases e2:j=m.n
   .exact e2
   .rw[A7 e2]at g1;unfold upd at g2;rw[A7 e2]at g2;by_cases I:j=id
    .rw[A9 I]at g1;cases g1
    .rw[A7 I]at g1;exact absurd ((h3 E D).2 j K J l2 g1 g2 g3) I
  by_cases e:i=m.n
  .rw[A9 e]at f;have f:=A8 f;subst f;subst e;exact⟨l,M4 _ _ _,hb,fun _ _=>⟨(h3 E D).1,Q⟩⟩
  .rw[A7 e]at f;by_cases I:i=id
   .rw[A9 I]at f;cases f
   .rw[A7 I]at f;obtain⟨l2,g1,g2,g3⟩:=h.at_ i hi a f;have U:∀ k,Tc a l2 k->k≠l.blk:=fun k N hh=>I ((h3 E D).2 i hi a l2 f g1 (hh▸N))
    refine⟨l2,C _ _ g1,g2.mono C (fun k N=>X _ (U k N)),fun hr M=>⟨(g3 hr M).1,fun G L W l3 f1 f2 f3=>?_⟩⟩;have f1:Hp.get ((m.H.set id none).set m.n (some ab')) G=some W:=f1;rw[A G L]at f1;by_cases e4:G=m.n
    .subst e4;rw[M4]at f2
     have:=A8 f2;subst this;rw[A9 rfl]at f1;have f1:=A8 f1;subst f1;exact absurd (S _ f3) (U _ (.inl ⟨AB.rw_on hr,M,rfl⟩))
    .rw[A7 e4]at f1;unfold upd at f2;rw[A7 e4]at f2;by_cases e5:G=id
     .rw[A9 e5]at f1;cases f1
     .rw[A7 e5]at f1;exact(g3 hr M).2 G L W l3 f1 f2 f3
 .rcases B6.1 h1 with rfl|h1
  .exact⟨ab,Z,E⟩
  .exact absurd h1 O
 .exact fun e=>Y id B5 l R D e.symm
 .obtain⟨rfl,rfl⟩:=U9 h1 O;exact .inr ⟨id,B5,q,R,D,rfl⟩
 .have ay:=A i hi;show Hp.get ((m.H.set id none).set m.n (some ab')) i=_;rw[ay,A7,A7]
  .intro e;subst e;exact h4 B5
  .intro e;subst e;rcases T with T|T
   .omega
   .have T:upN m.hi m.n<=m.n:=T
    have:=(L5 m.hi m.n).2;omega
 .have f:Hp.get ((m.H.set id none).set m.n (some ab')) i=some a:=f;rw[A i hi]at f;by_cases e:i=m.n
  .rw[A9 e]at f;have f:=A8 f;subst f;subst e;rw[M4]at F;have F:=A8 F;subst F;exact⟨id,ab,l,hle,Z,R,AB.rw_fr E,.inl ⟨AB.rw_on E,D,(S k ht.2).symm⟩⟩
  .rw[A7 e]at f;unfold upd at F;rw[A7 e]at F;by_cases I:i=id
   .rw[A9 I]at f;cases f
   .rw[A7 I]at f;exact⟨i,a,q,hi,f,F,ht⟩
def GM{s k:Nat}(h:HR P base ρ m.H w)(f:eV m s y=some (k,new))(n:z.cells.size=s):new.length=k*s:=by
 unfold eV at f;split at f
 .obtain⟨_,q⟩:=A3 f;cases q;simp
 .split at f
  .rename_i cs hr;cases f;unfold u6 at hr;split at hr
   .exact(jM hr).2
   .cases hr
  .cases f
 .rename_i b;obtain⟨j,f⟩:=A3 f;have j:=A0 j;subst j;cases f;simp[Q1]
 .cases f
def LZ(h:new'[i]? = some u):(({ toList:=[] }:Array Value)++⟨new'⟩++r)[i]? = some u:=by
 have f:=(B1.1 h).1;rw[T8 (by simp;exact f)]
 simpa using h
def eH(h:(old'++new')[i]? = some u):(({ toList:=old' }:Array Value)++⟨new'⟩++r)[i]? = some u:=by
 have f:=(B1.1 h).1;rw[T8 (by simpa using f)]
 simpa using h
def eG{s k n nc:Nat}(h1:new'.length=k*s)(f:n+k<=nc)(j:z.cells.size=s)(q:old'.length=n*s) :
  nc*s<=(({ toList:=old' }:Array Value)++⟨new'⟩++Builtin.zeroCells z.cells (nc-(n+k))).size:=by
 simp[Builtin.zeroCells,q,h1,j];rw[<- H7,<- H7];exact G0 _ A2
def QP(h:HR P base ρ m.H w)(hb:base<=w.heap.size)(f:tC P m t t2 x y=some (v,m'))(hf:K7 ρ m.n m'.hi)(hx:VR ρ x x')(hy:VR ρ y y') :
  VOk P base ρ m w (Builtin.append_ #[t,t2] ty #[x',y']) v m':=by
 unfold tC at f;split at f
 .rename_i e d2 hu F;cases D:dI d2 with
  | false=>rw[D]at f;cases f
  | true =>
  rw[D]at f;simp only[R0,E3]at f;split at f
  .rename_i inf a n c hi;split at f
   .rename_i k new z V hz;obtain⟨g1,f⟩:=A3 f;obtain⟨g1,g4⟩:=B7 g1;obtain⟨g1,g3⟩:=B7 g1;obtain⟨g1,g2⟩:=B7 g1;have g1:=A1 g1;have g2:=A1 g2;have g3:=A0 g3;obtain⟨hlen,new',I,J⟩:=vM h V hy;have X:∀ w,(zeroValue e).run P w=.ok z w:=fun w=>aO hz w
    have Q:new'.length=k*inf.size:=by rw[<- I.1];exact GM h V g3
    have ar:N6=9223372036854775808:=rfl;cases hk:Nat.beq k 0 with
    | true =>
      have hk:=A0 hk;subst hk;have au:Nat.beq 0 0=true:=rfl;simp only[au,E6]at f;have an:new'=[]:=G2.1 (by rw[Q];simp);subst an;cases a with
      | none =>
        simp only at f;obtain⟨E,f⟩:=A3 f;obtain⟨E,G⟩:=B7 E;have E:=A0 E;have G:=A0 G;subst E;subst G;cases f;cases Q3 hx;exact VOk.same h (uY hu F D hi hlen (J w rfl)) (.pure rfl)
      | some S =>
        simp only at f;obtain⟨E,f⟩:=A3 f;obtain⟨E,G⟩:=B7 E;have E:=A1 E;have G:=A1 G;cases f;rcases P8 hx with⟨l,U,O,hc,rfl⟩|⟨l,c',U,O,hc,hn,B,rfl⟩|⟨a',c',_,_,he,_⟩
        .exact VOk.same h (nJ hu F D hi hlen (J w rfl) A2 rfl) (by simpa using hx)
        .exact VOk.same h (nJ hu F D hi hlen (J w rfl) A2 rfl) (by simpa using hx)
        .omega
    | false =>
      have ai:k≠0:=fun e=>by subst e;cases hk
      simp only[hk,E3]at f;cases a with
      | none =>
        simp only at f;obtain⟨E,f⟩:=A3 f;obtain⟨E,G⟩:=B7 E;have E:=A0 E;have G:=A0 G;subst E;subst G;rw[I1]at f;cases Q3 hx;obtain⟨nc,K,hr⟩:=iC (ty:=ty) (c:=0) (a:=none) (old':=[]) hu F D hi X hlen (fun _ _=>rfl) J A2 g1 g2;have av:∀ A,P.info? e=some A->nc*A.size<=(({ toList:=[] }:Array Value)++⟨new'⟩++Builtin.zeroCells z.cells (nc-(0+k))).size:=fun A N=>by
         rw[hi]at N;cases N;exact eG Q K g3 (by simp)
        obtain⟨Z,e2,Y⟩:=eF (wd:=w.drew) (fz:=(0,0)) (cap:=nc) h hb f hf I (fun i u hi=>by
         show(({ toList:=[] }:Array Value)++⟨new'⟩++Builtin.zeroCells z.cells (nc-(0+k)))[i]? = some u;exact LZ hi) NF.zero av ⟨rfl,rfl,rfl⟩ rfl
        refine⟨_,_,_,hr,?_,Y⟩;rw[Z,F7]
        have:=VR.op (ρ:=upd ρ m.n (lc w.heap.size 0 nc)) (b:=m.n) (o:=0) (n:=k) (m:=N6) (m':=nc) e2 (A6 _) A2 (fun _ _=>rfl)
        simpa using this
      | some S =>
        simp only at f;cases W:Nat.blt c N6 with
        | true =>
          have aj:c<N6:=A1 W;simp only[W,E6]at f;rcases P8 hx with⟨l,U,O,hc,rfl⟩|⟨l,c',U,O,hc,hn,B,rfl⟩|⟨a',c',_,_,he,_⟩
          .cases q:Nat.ble (n+k) c with
           | true =>
             have L:=A1 q;simp only[q,E6]at f;split at f
             .rename_i m2 hw;cases f;rw[dY]at hw;obtain⟨w',h1,N⟩:=qA h hw U I;refine⟨_,ρ,w',nJ hu F D hi hlen (J w rfl) L ?_,?_,N⟩
              .rw[Y7,show S.off+l.sh+n*inf.size=S.off+n*inf.size+l.sh by omega];exact h1
              .obtain⟨ab,ao,ah⟩:=S;simp only at O;subst O;exact .sl U hc
             .cases f
           | false =>
             have L:¬ n+k<=c:=fun hle=>by rw[show Nat.ble (n+k) c=true from C7 hle]at q;cases q
             simp only[q,E3]at f;split at f
             .rename_i old hold;rw[I1]at f;obtain⟨old',o1,o2,o3⟩:=d8 h hold U;have M:∀ wd:World,wd.heap=w.heap->(Builtin.firstCells inf.size n (.slice (some ⟨l.blk,S.off+l.sh,none⟩) n c)).run P wd=.ok ⟨old'⟩ wd:=fun wd hw=>K8 o2 fun j u hj=>by rw[cE hw];exact o3 j u hj
              obtain⟨nc,K,hr⟩:=iC (ty:=ty) hu F D hi X hlen M J L g1 g2;obtain⟨Z,e2,Y⟩:=eF (wd:=w.drew) (fz:=(0,0)) (cap:=nc) (C:=⟨old'⟩++⟨new'⟩++Builtin.zeroCells z.cells (nc-(n+k))) h hb f hf (o1.append I) (fun i u hi=>eH hi) NF.zero
               (fun A N=>by rw[hi]at N;cases N;exact eG Q K g3 o2) ⟨rfl,rfl,rfl⟩ rfl
              refine⟨_,_,_,hr,?_,Y⟩;rw[Z]
              have:=VR.op (ρ:=upd ρ m.n (lc w.heap.size 0 nc)) (b:=m.n) (o:=0) (n:=n+k) (m:=N6) (m':=nc) e2 (A6 _) K (fun _ _=>rfl)
              simpa using this
             .cases f
          .omega
          .omega
        | false =>
          simp only[W,E3]at f;obtain⟨q0,aw⟩:=A3 f;clear f;have f:=aw;clear aw;obtain⟨E,G⟩:=B7 q0;replace E:=A0 E;replace G:=A0 G;clear q0;split at f
          .rename_i cs T O hg;obtain⟨p1,f⟩:=A3 f;rw[G9,G9,G9]at p1;obtain⟨⟨⟨p1,p2⟩,p3⟩,p4⟩:=p1;have p1:=A0 p1;have p2:=A0 p2;have p3:=A1 p3;have p4:S.block<m.n:=A1 p4;subst p2;rw[I1]at f;rcases P8 hx with⟨_,_,_,hc,_⟩|⟨l,c',U,_,_,hn,B,rfl⟩|⟨a',c',_,_,he,_⟩
           .omega
           .have B:=B E G;obtain⟨⟨ay,C,fz,T',z2,z3,z4⟩,z5⟩:=h.atl U hg;obtain⟨rfl,z6,z7⟩:=z4 rfl;have z8:=(z7 inf hi).2;have z7:=(z7 inf hi).1;by_cases q:n+k<=c'
            ·
             have ax:(n+k)*inf.size<=c'*inf.size:=G0 _ q;rw[H7]at ax;obtain⟨w',r1,r2,r3,r4,r5⟩:=Z7 (P:=P) (b:=l.blk) (o:=n*inf.size+l.sh) (fz:=fz) new' 0 C w z2 (HK I g4) (by rw[Q];subst B;omega) z6;obtain⟨Z,Y⟩:=St.grow (w':=w') (l:=l) h p3 hg rfl U ay f hf r2 r3 r5 (by
              have R:ρ m.n=none:=by
               rw[m7]at f;obtain⟨_,_,rfl⟩:=M2 f;exact hf m.n (A6 _) (L5 _ _).2
              refine⟨ay,_,fz,_,r4,fun i u hi=>?_,fun _=>⟨rfl,z6.sz (by simp[Z8]),fun A N=>⟨by simpa [Z8]using(by rw[hi]at N;cases N;exact z7:l.sh+l.cap*A.size<=C.size),by rw[hi]at N;cases N;exact z8⟩⟩⟩;show ∃ u',(Array.mk (cT C.toList (n*inf.size+l.sh+0) new'))[l.sh+i]? = some u'/\_;have af:C.toList.length=C.size:=by simp
              rw[J0,lO _ _ _ _ (by rw[Q];subst B;omega)];by_cases al:i<cs.length
              .rw[F4 al]at hi;rw[A7 A2];obtain⟨u',y1,y2⟩:=z3 i u hi;exact⟨u',by simpa using y1,y2.mono (X8 R)⟩
              .rw[E4 A2]at hi;have ag:=(B1.1 hi).1;have ak:=I.1;rw[A9 A2];obtain⟨u',y1,y2⟩:=I.get hi;exact⟨u',by rw[show l.sh+i-(n*inf.size+l.sh+0)=i-cs.length by omega];exact y1,y2.mono (X8 R)⟩)
             refine⟨_,_,w',nJ (ty:=ty) hu F D hi hlen (J w rfl) q ?_,?_,Y⟩
             .rw[Y7,G,show 0+l.sh+n*inf.size=n*inf.size+l.sh by omega];exact r1
             .rw[Z,G];exact .op (M4 _ _ _) (A6 _) q (fun _ _=>B)
            ·
             have az:=St.kill h p3 hg rfl;have aq:K7 ρ (kF m S.block).n m'.hi:=by rw[m7];exact hf
             obtain⟨old',o1,o2⟩:=eE (ρ:=ρ) (C:=C) (cs:=cs) (s:=l.sh) z3;have oL:old'.length=n*inf.size:=by rw[<- o1.1];exact p1
             have M:∀ wd:World,wd.heap=w.heap->(Builtin.firstCells inf.size n (.slice (some ⟨l.blk,S.off+l.sh,none⟩) n c')).run P wd=.ok ⟨old'⟩ wd:=fun wd hw=>K8 oL fun j u hj=>by
              rw[cE hw,G]
              have:=o2 j u hj;simp[World.cell?,z2,this]
             obtain⟨nc,K,hr⟩:=iC (ty:=ty) hu F D hi X hlen M J q g1 g2;obtain⟨Z,e2,Y⟩:=eF (wd:=w.drew) (fz:=(0,0)) (cap:=nc) (C:=⟨old'⟩++⟨new'⟩++Builtin.zeroCells z.cells (nc-(n+k))) az.hr hb f aq (o1.append I) (fun i u hi=>eH hi) NF.zero
              (fun A N=>by rw[hi]at N;cases N;exact eG Q K g3 oL) ⟨rfl,rfl,rfl⟩ rfl
             refine⟨_,_,_,hr,?_,St.trans hf az Y⟩;rw[Z]
             have:=VR.op (ρ:=upd ρ (kF m S.block).n (lc w.heap.size 0 nc)) (b:=(kF m S.block).n) (o:=0) (n:=n+k) (m:=N6) (m':=nc) e2 (A6 _) K (fun _ _=>rfl)
             simpa using this
           .omega
          .cases f
   .cases f
  .cases f
 .cases f
end
end
section
open Go
variable [Ora]
section
variable {P:Program} {base:Nat} {ρ:Ren} {m m':Mem} {w:World}
def NV{op:UnOp}(h:unM op x=some v)(hx:VR ρ x x')(w:World):(Op.unary op x').run P w=.ok v w/\I8 v=true:=by
 unfold unM at h;split at h
 .cases J6 hx;cases h;exact⟨by simp[Op.unary,Op.intArith,aU],by simp[aU,I8]⟩
 .cases J6 hx;obtain⟨h1,f⟩:=bD (P:=P) h w;exact⟨by simpa [Op.unary]using h1,f⟩
 .cases cW hx;cases h;exact⟨rfl,rfl⟩
 .cases h
def A41(f:A9V P t x=some v)(hx:VR ρ x x')(w:World):(Builtin.cap_ ⟨t::tys⟩ ty #[x']).run P w=.ok v w/\I8 v=true:=by
 unfold A9V at f;split at f
 .rename_i hu;cases Q3 hx;cases f;exact⟨by simp[Builtin.cap_,A4,D2 hu,Result.andThen,goInt],rfl⟩
 .rename_i hu;obtain⟨j,f⟩:=A3 f;have j:_<N6:=A1 j;cases f;rcases P8 hx with⟨l,_,_,_,rfl⟩|⟨l,c',_,_,_,_,_,rfl⟩|⟨a',c',_,_,he,_⟩
  .exact⟨by simp[Builtin.cap_,A4,D2 hu,Result.andThen,goInt],rfl⟩
  .omega
  .omega
 .cases f
def SZ(h:HR P base ρ m.H w)(f:A1N P m t x=some v)(hx:VR ρ x x'):(Builtin.len_ ⟨t::tys⟩ ty #[x']).run P w=.ok v w/\I8 v=true:=by
 unfold A1N at f;split at f
 .rename_i hu;cases V1 hx;cases f;refine⟨?_,rfl⟩;simp[Builtin.len_,A4,D2 hu,Result.andThen,goInt]
 .rename_i hu;cases f;refine⟨?_,rfl⟩;simp[Builtin.len_,A4,D2 hu,Result.andThen,goInt]
 .rename_i n c hu;cases f;refine⟨?_,rfl⟩;have j:∃ a' c',x'=.slice a' n c':=by
   cases hx with
   | pure _=>exact⟨_,_,rfl⟩
   | sl _ _=>exact⟨_,_,rfl⟩
   | op _ _ _ _=>exact⟨_,_,rfl⟩
   | opE _=>exact⟨_,_,rfl⟩
  obtain⟨a',c',rfl⟩:=j;simp[Builtin.len_,A4,D2 hu,Result.andThen,goInt]
 .rename_i hu;cases hx with|pure _=>?_
  cases f;refine⟨?_,rfl⟩;simp[Builtin.len_,A4,D2 hu,Result.andThen,goInt]
 .cases f
def ST{tys:Array TypeId}(f:A8i vs=some v)(hx:LR ρ vs vs')(w:World):(Builtin.max_ tys ty ⟨vs'⟩).run P w=.ok v w/\I8 v=true:=by
 unfold A8i at f;split at f
 .obtain⟨a',r1,rfl,h1,j⟩:=hx.tail;obtain⟨b',A,rfl,h3,n⟩:=j.tail;cases n.nil_inv;cases J6 h1;cases J6 h3;cases f;exact⟨by simp[Builtin.max_,Builtin.max2],rfl⟩
 .obtain⟨a',r1,rfl,h1,j⟩:=hx.tail;obtain⟨b',A,rfl,h3,n⟩:=j.tail;obtain⟨c',B,rfl,q,h⟩:=n.tail;cases h.nil_inv;rw[uE]at f;cases J6 h1;cases J6 h3;cases J6 q;cases f;exact⟨by simp[Builtin.max_,Builtin.max2],rfl⟩
 .cases f
def SR{tys:Array TypeId}(f:A8h vs=some v)(hx:LR ρ vs vs')(w:World):(Builtin.min_ tys ty ⟨vs'⟩).run P w=.ok v w/\I8 v=true:=by
 unfold A8h at f;split at f
 .obtain⟨a',r1,rfl,h1,j⟩:=hx.tail;obtain⟨b',A,rfl,h3,n⟩:=j.tail;cases n.nil_inv;cases J6 h1;cases J6 h3;cases f;exact⟨by simp[Builtin.min_,Builtin.min2],rfl⟩
 .obtain⟨a',r1,rfl,h1,j⟩:=hx.tail;obtain⟨b',A,rfl,h3,n⟩:=j.tail;obtain⟨c',B,rfl,q,h⟩:=n.tail;cases h.nil_inv;rw[uE]at f;cases J6 h1;cases J6 h3;cases J6 q;cases f;exact⟨by simp[Builtin.min_,Builtin.min2],rfl⟩
 .cases f
def CA{tys:Array TypeId}(h:HR P base ρ m.H w)(q:iV m x=some (v,m'))(hx:VR ρ x x'):VOk P base ρ m w (Builtin.unsafeSliceData_ tys ty #[x']) v m':=by
 unfold iV at q;split at q
 .cases q;cases Q3 hx;exact VOk.same h rfl (.pure rfl)
 .rename_i a n c;cases A:Nat.beq n 0 || Nat.beq c 0 || Nat.beq c (N6+2)with
  | true=>rw[A]at q;cases q
  | false =>
    rw[A]at q;simp only[E3,D5,L9]at q;obtain⟨rfl,rfl⟩:=q;simp only[c9]at A;obtain⟨⟨E,D⟩,J⟩:=A;have E:n≠0:=fun e=>by subst e;cases E
    have D:c≠0:=fun e=>by subst e;cases D
    rcases P8 hx with⟨l,B,j,I,rfl⟩|⟨l,c',B,j,I,K,F,rfl⟩|⟨a',c',_,he,_,_⟩
    .refine VOk.same (v':=.pointer (some ⟨l.blk,a.off+l.sh,none⟩)) h ?_ ?_
     .have f:Builtin.unsafeSliceData_ tys ty #[.slice (some ⟨l.blk,a.off+l.sh,none⟩) n c]=(do
        if c≠0 then pure (.pointer (some ⟨l.blk,a.off+l.sh,none⟩))
        else if(<- viewAt l.blk).isSome then pure (.pointer (some ⟨l.blk,a.off+l.sh,none⟩))
        else pure (.pointer (some ⟨<- newObj (.view ⟨l.blk,a.off+l.sh,none⟩ (<- elemOf ty)),0,none⟩))):=rfl
      rw[f,A9 D];rfl
     .obtain⟨ab,G,C⟩:=a;simp only at j;subst j;exact .ptr B
    .refine VOk.same (v':=.pointer (some ⟨l.blk,a.off+l.sh,none⟩)) h ?_ ?_
     .have:c'≠0:=A2;have f:Builtin.unsafeSliceData_ tys ty #[.slice (some ⟨l.blk,a.off+l.sh,none⟩) n c']=(do
        if c'≠0 then pure (.pointer (some ⟨l.blk,a.off+l.sh,none⟩))
        else if(<- viewAt l.blk).isSome then pure (.pointer (some ⟨l.blk,a.off+l.sh,none⟩))
        else pure (.pointer (some ⟨<- newObj (.view ⟨l.blk,a.off+l.sh,none⟩ (<- elemOf ty)),0,none⟩))):=rfl
      rw[f,A9 this];rfl
     .obtain⟨ab,G,C⟩:=a;simp only at j;subst j;exact .ptr B
    .omega
 .cases q
def WA(h:HR P base ρ m.H w)(f:GK P m t x=some (v,m'))(hx:VR ρ x x'):VOk P base ρ m w (Instr.makeInterface t x') v m':=by
 unfold GK at f;split at f
 .rename_i d q;have n:(∀ ms,d≠.interface ms)->(Instr.makeInterface t x').run P w=.ok (.iface t x') w:=fun j=>by
   simp only[Instr.makeInterface,A4,D2 q,Result.andThen];cases d<;>first|rfl|exact absurd rfl (j _)
  split at f
  .cases f
  .rename_i j;obtain⟨_,f⟩:=A3 f;cases f;exact VOk.same h (n fun ms e=>j ms e) (.iface hx)
 .cases f
def A3z(j:A02 m x=some (v,m'))(hx:VR ρ x x'):m'=m/\VR ρ v x'/\((∃ a,x'=.pointer (some a))∨∃ f a b,x'=.func (.func f) a b):=by
 unfold A02 at j;split at j
 .cases j;obtain⟨l,_,_,rfl⟩:=P5 hx;exact⟨rfl,hx,.inl ⟨_,rfl⟩⟩
 .cases j;cases hx with
  | pure hp=>simp[I8]at hp
  | func _ _ _ _=>exact⟨rfl,by constructor<;>assumption,.inr ⟨_,_,_,rfl⟩⟩
 .cases j
def A2a(h:HR P base ρ m.H w)(j:MS P m t x y=some (v,m'))(hx:VR ρ x x')(N:VR ρ y y'):VOk P base ρ m w (Builtin.copy_ ⟨t::tys⟩ ty #[x',y']) v m':=by
 unfold MS at j;split at j
 .rename_i e a n c hu;split at j
  .rename_i s S;split at j
   .rename_i k cs f;have M:∃ a' c',x'=.slice a' n c':=by
     cases hx with
     | pure _=>exact⟨_,_,rfl⟩
     | sl _ _=>exact⟨_,_,rfl⟩
     | op _ _ _ _=>exact⟨_,_,rfl⟩
     | opE _=>exact⟨_,_,rfl⟩
    obtain⟨a',c',rfl⟩:=M;have D:∃ L cs',(Builtin.lenOf y').run P w=.ok L w/\Nat.min L n=k/\LR ρ cs cs'/\(Builtin.firstCells s k y').run P w=.ok ⟨cs'⟩ w:=by
     split at f
     .rename_i G _;obtain⟨q,f⟩:=A3 f;have q:=A0 q;subst q;cases f;cases Q3 N;exact⟨0,[],rfl,by simp,.nil,rfl⟩
     .rename_i b G Y;split at f
      .rename_i r hr;cases f;rcases P8 N with⟨l,B,_,_,rfl⟩|⟨l,c',B,_,_,_,_,rfl⟩|⟨a',c',_,rfl,_,rfl⟩
       .obtain⟨K,h1,C,h3⟩:=d8 h hr B;exact⟨G,K,rfl,rfl,h1,K8 C h3⟩
       .obtain⟨K,h1,C,h3⟩:=d8 h hr B;exact⟨G,K,rfl,rfl,h1,K8 C h3⟩
       .have:cs=[]:=by
         unfold u6 at hr;split at hr
         .have:=(jM hr).2;simp at this;exact this
         .cases hr
        subst this;exact⟨0,[],rfl,rfl,.nil,by simp[Builtin.firstCells,loadCells,loadCellsFrom]⟩
      .cases f
     .rename_i b;cases f;cases V1 N;refine⟨b.size,Q1 (b.data.toList.take (Nat.min b.size n)),rfl,rfl,xL _ _,?_⟩;have e:((b.extract 0 (Nat.min b.size n)).data.map fun b=>Value.int .u8 b.toNat)=⟨Q1 (b.data.toList.take (Nat.min b.size n))⟩:=by
       apply J3;simp[Q1,gV]
      show(pure ((b.extract 0 (Nat.min b.size n)).data.map fun b=>Value.int .u8 b.toNat):Sem X1).run P w=_;rw[e];rfl
     .cases f
    obtain⟨L,cs',r1,U,J,R⟩:=D;have A:(Builtin.copy_ ⟨t::tys⟩ ty #[.slice a' n c',y']).run P w=(match a' with|some a=>(do storeCells a cs';pure (goInt k):Sem Value)|none=>pure (goInt k)).run P w:=by
     unfold Builtin.copy_;simp only[J0,R8,R9,A4,D2 hu,L4 S,r1,U,R,Result.andThen];cases a' with
     | none=>rfl
     | some a=>rfl
    cases a with
    | none =>
      cases Q3 hx;simp only at j;obtain⟨q,j⟩:=A3 j;have q:=A0 q;cases j;exact VOk.same h (by rw[A,q];rfl) (.pure rfl)
    | some Z =>
      simp only at j;cases E:Nat.beq cs.length 0 with
      | true =>
        rw[E]at j;cases j;have E:=A0 E;have:cs'=[]:=G2.1 (by rw[<- J.1];exact E);subst this;refine VOk.same h (v':=.int .i64 k) ?_ (.pure rfl);rw[A];cases a'<;>rfl
      | false =>
        rw[E]at j;simp only[E3]at j;obtain⟨F,j⟩:=A3 j;have F:=A1 F;split at j
        .rename_i m2 hw;cases j;rcases P8 hx with⟨l,B,I,T,he⟩|⟨l,c',B,I,T,W,Q,he⟩|⟨a2,X,_,W,V,he⟩
         .cases he;obtain⟨w',h1,C⟩:=qA h hw B J;exact⟨.int .i64 k,ρ,w',by rw[A];simp[A4,h1,Result.andThen,goInt],.pure rfl,C⟩
         .cases he;obtain⟨w',h1,C⟩:=qA h hw B J;exact⟨.int .i64 k,ρ,w',by rw[A];simp[A4,h1,Result.andThen,goInt],.pure rfl,C⟩
         .have O:N6=9223372036854775808:=rfl;omega
        .cases j
   .cases j
  .cases j
 .cases j
def pT:∀ {cs:D3} {l:List UInt8},bytesOf cs=some l->∃ f:List Int,cs=f.map (Value.int .u8)/\l=f.map fun n=>UInt8.ofNat n.toNat
 | [],l,h=>by simp only[bytesOf,D5]at h;subst h;exact⟨[],rfl,rfl⟩
 | v::r,l,h=>by
   unfold bytesOf at h;split at h
   .rename_i he;cases he
   .rename_i n q he;cases he;split at h
    .rename_i l0 h0;cases h;obtain⟨f,h1,j⟩:=pT h0;exact⟨n::f,by rw[h1];rfl,by rw[j];rfl⟩
    .cases h
   .cases h
def sG:∀ {f:List Int} {cs':D3},LR ρ (f.map (Value.int .u8)) cs'->cs'=f.map (Value.int .u8)
 | [],cs',h=>h.nil_inv
 | n::r,cs',h=>by
   obtain⟨v',q,rfl,h1,j⟩:=h.tail;cases J6 h1;rw[sG j];rfl
def pI:∀ (f:List Int) (acc:List UInt8),(f.foldl (fun r n=>r.push (UInt8.ofNat n.toNat)) (ByteArray.mk ⟨acc⟩))=⟨⟨acc++f.map fun n=>UInt8.ofNat n.toNat⟩⟩
 | [],acc=>by simp
 | n::r,acc=>by
   rw[List.foldl_cons];have:(ByteArray.mk ⟨acc⟩).push (UInt8.ofNat n.toNat)=⟨⟨acc++[UInt8.ofNat n.toNat]⟩⟩:=by
    show ByteArray.mk (Array.push ⟨acc⟩ _)=_;simp
   rw[this,pI r];simp
def A2d(h:HR P base ρ m.H w)(V:base<=w.heap.size)(f:EQ P m s t x=some (v,m'))(X:K7 ρ m.n m'.hi)(hx:VR ρ x x'):VOk P base ρ m w (convert s t x') v m':=by
 unfold EQ at f;split at f
 .rename_i G k j n D A;cases J6 hx;simp only[D5,L9]at f;obtain⟨rfl,rfl⟩:=f;refine VOk.same (v':=.int k (k.wrap n)) h ?_ (by rw[aU,kY];exact .pure rfl);cases G<;>simp[convert,A4,D2 D,D2 A,Result.andThen,Conv.intToInt]
 .rename_i G b D A;cases V1 hx;cases f;refine VOk.same h ?_ (.pure rfl);cases G<;>simp[convert,A4,D2 D,D2 A,Result.andThen]
 .rename_i G j n D A;cases J6 hx;cases f;refine VOk.same (v':=.string (Utf8.encode n)) h ?_ (.pure rfl);cases G<;>simp[convert,A4,D2 D,D2 A,Result.andThen,Conv.intToString]
 .rename_i G e b D A;cases V1 hx;split at f
  .rename_i he;split at f
   .rename_i F;rw[I1]at f;let q:Question:=.appendCap b.size 0 e
    let cap:=q.cut (w.tape w.drawn q)
    have K:b.size<=cap:=by show b.size<=b.size+_;omega
    have T:(choose q).run P w=.ok cap w.drew:=by
     simp only[choose,Sem.run];rw[A7 (by simp[q,Question.forced])];rfl
    let C:X1:=(b.data.map fun b=>Value.int .u8 b.toNat)++Array.replicate (cap-b.size) (.int .u8 0)
    have hC:C.size=cap:=by
     have:b.data.size=b.size:=rfl;simp[C,this];omega
    obtain⟨U,N,Y⟩:=eF (wd:=w.drew) (fz:=(C.size,C.size+1)) (cap:=cap) (C:=C) h V f X (xL ρ b.data.toList) (fun i u hi=>by
      have M:=(B1.1 hi).1;simp[Q1]at M;have Q:i<(b.data.map fun b=>Value.int .u8 b.toNat).size:=by simpa using M
      show((b.data.map fun b=>Value.int .u8 b.toNat)++Array.replicate (cap-b.size) (.int .u8 0))[i]? = some u;rw[T8 Q]
      simpa [Q1]using hi) NF.end
     (fun inf L=>by
       have:inf.size=1:=by unfold H4 at F;rw[L]at F;exact A8 F
       rw[this,hC];omega) ⟨rfl,rfl,rfl⟩ rfl
    refine⟨.slice (some ⟨w.heap.size,0,none⟩) b.size cap,_,_,?_,?_,Y⟩
    .have S:∀ w2:World,w2.heap[w.heap.size]? = some (.cells C e (0,0))->(markStringish ⟨w.heap.size,0,none⟩).run P w2=.ok () (w2.freeze { block:=w.heap.size,off:=C.size } 1):=fun w2 L=>by
      simp[markStringish,shape,freeze,Sem.run,World.shape?,L]
     have O:({ w.drew with heap:=w.heap.push (.cells C e (0,0)) }:World).freeze { block:=w.heap.size,off:=C.size } 1={ w.drew with heap:=w.heap.push (.cells C e (C.size,C.size+1)) }:=by
      unfold World.freeze;rw[A7 F3];congr 1;apply Array.ext_getElem?;intro i;rw[H3];by_cases hi:w.heap.size=i
      .subst hi;simp
      .rw[A7 hi];simp only[l5];rw[A7 (fun h=>hi h.symm),A7 (fun h=>hi h.symm)]
     have I:(convert s t (.string b)).run P w=(Conv.stringToBytes e b).run P w:=by
      cases G<;>simp[convert,A4,D2 D,D2 A,D2 he,Result.andThen]
     rw[I];unfold Conv.stringToBytes;simp only[A4,show(choose (.appendCap b.size 0 e)).run P w=.ok cap w.drew from T,Result.andThen];have R:(newRow e C).run P w.drew=.ok ⟨w.heap.size,0,none⟩ { w.drew with heap:=w.heap.push (.cells C e (0,0)) }:=rfl;rw[show(newRow e ((b.data.map fun b=>Value.int .u8 b.toNat)++Array.replicate (cap-b.size) (.int .u8 0))).run P w.drew=_ from R];simp only[Result.andThen];rw[S _ (by simp),O];rfl
    .rw[U];exact VR.op (o:=0) (m':=cap) N (A6 _) K (fun _ _=>rfl)
   .cases f
  .cases f
 .rename_i e n c D A;cases Q3 hx;split at f
  .rename_i he;cases f;refine VOk.same h (v':=.string ByteArray.empty) ?_ (.pure rfl);simp[convert,A4,D2 D,D2 A,D2 he,Result.andThen,Conv.bytesToString]
  .cases f
 .rename_i e a n c D A;split at f
  .rename_i he;split at f
   .rename_i cs hr;split at f
    .rename_i l M;cases f;obtain⟨J,h1,L⟩:=pT M;have E:∀ a' c',(loadCells a' n).run P w=.ok (J.map (Value.int .u8)).toArray w->(convert s t (.slice (some a') n c')).run P w=.ok (.string ⟨⟨l⟩⟩) w:=fun a' c' B=>by
      have:=run_bytesToString w a' n c' J B;have N:=pI J [];simp only[H1]at N;simp only[convert,A4,D2 D,D2 A,D2 he,Result.andThen];rw[this,show ByteArray.empty=ByteArray.mk ⟨[]⟩from rfl,N,L]
     rcases P8 hx with⟨lc,B,_,_,rfl⟩|⟨lc,c',B,_,_,_,_,rfl⟩|⟨a',c',_,rfl,_,rfl⟩
     .obtain⟨W,g1,g2,g3⟩:=d8 h hr B;rw[h1]at g1
      have:=sG g1;subst this;exact VOk.same h (E _ _ (K8 g2 g3)) (.pure rfl)
     .obtain⟨W,g1,g2,g3⟩:=d8 h hr B;rw[h1]at g1
      have:=sG g1;subst this;exact VOk.same h (E _ _ (K8 g2 g3)) (.pure rfl)
     .have:cs=[]:=by
       unfold u6 at hr;split at hr
       .have:=(jM hr).2;simpa using this
       .cases hr
      subst this;have:J=[]:=by cases J with|nil=>rfl|cons _ _=>cases h1
      subst this;exact VOk.same h (E _ _ (by simp[loadCells,loadCellsFrom])) (.pure rfl)
    .cases f
   .cases f
  .cases f
 .cases f
end
end
section
open Go
variable [Ora]
section
variable {P:Program} {base:Nat} {ρ:Ren} {m m':Mem} {w:World}
def zM(q:P.cellsOf e=1)(count off n:Nat)(j:off+n<=count):liesAt P P.depth e count off e n=true:=by
 have f:P.depth=(2*(P.types.size+Made.depth)+1)+1:=rfl;rw[f];simp only[liesAt,J2];left;rw[f];simp[rowAt,q,j,sameLayout,Nat.mod_one]
def eR:∀ (f:List Int) (b o:Nat) (acc:ByteArray),(∀ (j:Nat) (v:Value),(f.map (Value.int .u8))[j]? = some v->w.cell? ⟨b,o+j,none⟩=some v) ->
  (loadBytes ⟨b,o,none⟩ acc f.length).run P w=.ok ⟨acc.data++(f.map fun n=>UInt8.ofNat n.toNat).toArray⟩ w
 | [],b,o,acc,_=>by simp[loadBytes]
 | n::f,b,o,acc,h=>by
   have h0:w.cell? ⟨b,o,none⟩=some (.int .u8 n):=by simpa using h 0 _ rfl
   have q:=eR f b (o+1) (acc.push n.toNat.toUInt8) (fun j v A=>by
    have:=h (j+1) v (by simpa using A);rw[show o+1+j=o+(j+1) by omega];exact this)
   simp only[C8,loadBytes,A4,run_load,h0,Result.andThen,Y7];rw[q];have:(acc.push n.toNat.toUInt8).data=acc.data.push n.toNat.toUInt8:=rfl;rw[this];congr 2;apply J3;simp
def BO{l l':Value}(h:HR P base ρ m.H w)(f:eM P m pt p l=some (v,m'))(hp:VR ρ p p')(hl:VR ρ l l') :
  VOk P base ρ m w (Builtin.unsafeString_ ⟨pt::tys⟩ ty #[p',l']) v m':=by
 have F:IntKind.i64.max=9223372036854775807:=rfl;unfold eM at f;split at f
 .cases hp with|pure _=>?_
  cases J6 hl;cases f;refine VOk.same h (v':=.string ByteArray.empty) ?_ (.pure rfl);rename_i k _;have D:Builtin.unsafeString_ ⟨pt::tys⟩ ty #[.pointer none,.int k (.ofNat 0)] =
    (do
      let n <- asInt (.int k (.ofNat 0))
      if n<0 then runtimePanic (.error "unsafe.String: len out of range")
      if n>IntKind.i64.max then unsupported (.unsafePointer "String: a length above the largest int")
      if n=0 then pure (.string .empty)
      else runtimePanic (.error "unsafe.String: ptr is nil and len is not zero")):=rfl
  rw[D];simp[asInt,asIntOf,F]
 .rename_i a k n;cases J6 hl;obtain⟨lc,I,ay,rfl⟩:=P5 hp;split at f
  .rename_i cs T J S;split at f
   .rename_i e U R;obtain⟨q,f⟩:=A3 f;obtain⟨q,X⟩:=B7 q;obtain⟨q1,q2⟩:=B7 q;have q1:0<n:=A1 q1;have q2:=A1 q2;have X:=A0 X;subst X;split at f
    .rename_i r hr;split at f
     .rename_i bs m2 Z Y5;cases f;obtain⟨V,h1,h2⟩:=pT Z;have K:u6 m a n=some r:=by
       unfold u6;rw[J,S];exact hr
      obtain⟨r',g1,g2,g3⟩:=d8 h K I;rw[h1]at g1;have W:=sG g1;subst W;obtain⟨⟨L,C,fz,T',z2,z3,z4⟩,z5⟩:=h.atl I S;have z2:w.heap[lc.blk]? = some (.cells C e fz):=by rw[z2,(z4 rfl).1]
      have N:V.length=n:=by simpa using g2
      have B:P.cellsOf e=1:=by
       unfold H4 at R;unfold Program.cellsOf;cases hi:P.info? e with
       | none=>rw[hi]at R;cases R
       | some i=>rw[hi]at R;have:=A8 R;simp[this]
      have Y:a.off+lc.sh+n<=C.size:=by
       have E:=g3 (n-1) (.int .u8 V[n-1]) (by simp[N]);simp only[World.cell?,z2]at E
       have:=(D0.1 (by simpa using E)).1;omega
      have O:=eR (P:=P) (w:=w) V lc.blk (a.off+lc.sh) .empty g3;rw[N]at O;have az:w.shape? lc.blk=some (e,C.size):=by simp[World.shape?,z2]
      have G:=zM (P:=P) B (C.size / P.cellsOf e) (a.off+lc.sh) n (by rw[B];simpa using Y);have D:Builtin.unsafeString_ ⟨pt::tys⟩ ty #[.pointer (some ⟨lc.blk,a.off+lc.sh,none⟩),.int k (.ofNat n)] =
       (do
         let n <- asInt (.int k (.ofNat n))
         if n<0 then runtimePanic (.error "unsafe.String: len out of range")
         if n>IntKind.i64.max then unsupported (.unsafePointer "String: a length above the largest int")
         if n=0 then pure (.string .empty)
         else if <- variablesAt ⟨lc.blk,a.off+lc.sh,none⟩ (<- elemOf pt) n.toNat then do
          let s <- loadBytes ⟨lc.blk,a.off+lc.sh,none⟩ .empty n.toNat
          freeze ⟨lc.blk,a.off+lc.sh,none⟩ n.toNat
          pure (.string s)
         else unsupported (.unsafePointer "String: not so many bytes at ptr")):=rfl
      have e1:Int.ofNat n=(n:Int):=rfl;have Q:¬ (n:Int)<0:=A2;have M:¬ (9223372036854775807:Int)<(n:Int):=A2;have hz:¬ (n:Int)=0:=A2;have A:n≠0:=A2;refine⟨.string ⟨⟨bs⟩⟩,ρ,w.freeze ⟨lc.blk,a.off+lc.sh,none⟩ n,?_,.pure rfl,St.write h Y5 S rfl I L ?_ ?_ ?_ ?_⟩
      .rw[D];simp[asInt,asIntOf,F,e1,Q,M,hz,A,variablesAt,az,elemOf,D2 U,G,O,freeze,Sem.run,A4,Result.andThen,h2]
      .simp[World.freeze,A]
      .simp[World.freeze,A]
      .intro j hj;simp only[World.freeze,A,if_false,H3];rw[A7 (fun e=>hj e.symm)]
      .refine⟨L,C,(if fz.1 == fz.2 then(a.off+lc.sh,a.off+lc.sh+n)else(min fz.1 (a.off+lc.sh),max fz.2 (a.off+lc.sh+n))),e,?_,z3,fun hc=>by cases hc⟩;simp only[World.freeze,A,if_false,H3,if_true,z2,L6]
     .cases f
    .cases f
   .cases f
  .cases f
 .cases f
def ND{ks:Array Bool}(h:HR P base ρ m.H w)(B:base<=w.heap.size)(f:iO P m b vs tys=some (v,m'))(C:K7 ρ m.n m'.hi)(hx:LR ρ vs vs') :
  ∃ s:Sem Value,builtin b ⟨tys⟩ ty ks ⟨vs'⟩=(do pure (.value (<- s)))/\VOk P base ρ m w s v m':=by
 unfold iO at f;split at f
 .obtain⟨x',r1,rfl,h1,j⟩:=hx.tail;cases j.nil_inv;unfold noM at f;split at f
  .rename_i u hu;cases f;obtain⟨g1,g2⟩:=SZ h hu h1;exact⟨_,rfl,VOk.same h g1 (.pure g2)⟩
  .cases f
 .obtain⟨x',r1,rfl,h1,j⟩:=hx.tail;cases j.nil_inv;unfold noM at f;split at f
  .rename_i u hu;cases f;obtain⟨g1,g2⟩:=A41 hu h1 w;exact⟨_,rfl,VOk.same h g1 (.pure g2)⟩
  .cases f
 .obtain⟨x',r1,rfl,h1,j⟩:=hx.tail;obtain⟨y',A,rfl,h3,q⟩:=j.tail;cases q.nil_inv;rename_i t t2 rest;refine⟨Builtin.append_ ⟨t::t2::rest⟩ ty #[x',y'],rfl,?_⟩
  have:=QP (ty:=ty) h B f C h1 h3;have e:Builtin.append_ ⟨t::t2::rest⟩ ty #[x',y']=Builtin.append_ #[t,t2] ty #[x',y']:=rfl;rw[e];exact this
 .obtain⟨x',r1,rfl,h1,j⟩:=hx.tail;obtain⟨y',A,rfl,h3,q⟩:=j.tail;cases q.nil_inv;exact⟨_,rfl,A2a h f h1 h3⟩
 .unfold noM at f;split at f
  .rename_i u hu;cases f;obtain⟨g1,g2⟩:=ST (P:=P) (ty:=ty) (tys:=⟨tys⟩) hu hx w;exact⟨_,rfl,VOk.same h g1 (.pure g2)⟩
  .cases f
 .unfold noM at f;split at f
  .rename_i u hu;cases f;obtain⟨g1,g2⟩:=SR (P:=P) (ty:=ty) (tys:=⟨tys⟩) hu hx w;exact⟨_,rfl,VOk.same h g1 (.pure g2)⟩
  .cases f
 .obtain⟨x',r1,rfl,h1,j⟩:=hx.tail;cases j.nil_inv;exact⟨_,rfl,CA h f h1⟩
 .obtain⟨x',r1,rfl,h1,j⟩:=hx.tail;obtain⟨y',A,rfl,h3,q⟩:=j.tail;cases q.nil_inv;exact⟨_,rfl,BO h f h1 h3⟩
 .cases f
def NOk(P:Program)(base:Nat)(ρ:Ren)(m:Mem)(w:World)(s:Sem Next)(v:Value)(m':Mem):Prop :=
 ∃ v' f w',(s.run P w=.ok (.value v') w'∨(s.run P w=.ok .skip w'/\v'=undef))/\VR f v v'/\St P base ρ f m m' w w'
def NOk.of{s:Sem Value}(h:VOk P base ρ m w s v m'):NOk P base ρ m w (do pure (.value (<- s))) v m':=by
 obtain⟨v',f,w',h1,j,h3⟩:=h;exact⟨v',f,w',.inl (by simp[A4,h1,Result.andThen]),j,h3⟩
def qG(ρ:Ren):VR ρ undef undef:=.tuple (a:=[]) (a':=[]) rfl (fun i v v' h=>by simp at h)
def NOk.ofU{s:Sem Unit}(h:UOk P base ρ m w s m'):NOk P base ρ m w (do s;pure .skip) undef m':=by
 obtain⟨f,w',h1,h3⟩:=h;exact⟨undef,f,w',.inr ⟨by simp[A4,h1,Result.andThen],rfl⟩,qG _,h3⟩
def NOk.same{s:Sem Value}(h:HR P base ρ m.H w)(hr:s.run P w=.ok v' w)(hv:VR ρ v v'):NOk P base ρ m w (do pure (.value (<- s))) v m:=NOk.of (VOk.same h hr hv)
def FR(ρ:Ren)(fr:Fr)(g:Operand->Value)(o:Op):Prop:=∀ x ∈ o.operands.toList,VR ρ (ev fr x) (g x)
def m6(h:noM o m=some (v,m')):o=some v/\m'=m:=by
 unfold noM at h;split at h
 .cases h;exact⟨rfl,rfl⟩
 .cases h
def nQ{o:Option Mem}(h:PK o=some (v,m')):o=some m'/\v=undef:=by
 unfold PK at h;split at h
 .cases h;exact⟨rfl,rfl⟩
 .cases h
def dJ{fr:Fr}{g:Operand->Value}:∀ {xs:List Operand},(∀ x ∈ xs,VR ρ (ev fr x) (g x))->LR ρ (evL fr xs) (xs.map g)
 | [],_=>.nil
 | x::r,h=>.cons (h x B5) (dJ fun y f=>h y (C5 _ f))
def QD{fr:Fr}{g:Operand->Value}:∀ {xs:List (Nat×Operand)},(∀ x ∈ xs.map (·.2),VR ρ (ev fr x) (g x))->PR ρ (evP fr xs) (xs.map fun x=>(x.1,g x.2))
 | [],_=>trivial
 | (i,x)::r,h=>⟨rfl,h x (by simp),QD fun y f=>h y (by simp at f ⊢;exact .inr f)⟩
def jJ{fr:Fr}{x:Option Operand}(h:∀ y ∈ x.toList,VR ρ (ev fr y) (g y)):OR ρ (evO fr x) (x.map g):=by
 cases x with
 | none=>trivial
 | some y=>exact h y (by simp)
set_option maxHeartbeats 1000000 in
def A8a{fr:Fr}{o:Oper}(h:HR P base ρ m.H w)(I:base<=w.heap.size)(q:opM P fr m o.op=some (v,m'))(J:K7 ρ m.n m'.hi)(S:FR ρ fr g o.op) :
  NOk P base ρ m w (execOp g o) v m':=by
 obtain⟨dst,op,ty,pos,V,U⟩:=o;simp only at q S;have j:∀ {x},x ∈ op.operands.toList->VR ρ (ev fr x) (g x):=fun hx=>S _ hx
 unfold opM at q;split at q
 .cases q;exact⟨_,ρ,w,.inl rfl,j (by simp[Op.operands]),.refl h⟩
 .cases q;exact⟨_,ρ,w,.inl rfl,j (by simp[Op.operands]),.refl h⟩
 .rename_i c a b;have K:=j (x:=c) (by simp[Op.operands]);unfold SJ at q;split at q
  .rename_i F;rw[F]at K;cases q;exact⟨g a,ρ,w,.inl (by simp[execOp,cW K,asBool]),j (by simp[Op.operands]),.refl h⟩
  .rename_i F;rw[F]at K;cases q;exact⟨g b,ρ,w,.inl (by simp[execOp,cW K,asBool]),j (by simp[Op.operands]),.refl h⟩
  .cases q
 .exact NOk.of (WB h I q J)
 .exact NOk.of (A30 h I q J (j (by simp[Op.operands])))
 .rename_i t ps;obtain⟨h1,rfl⟩:=m6 q;obtain⟨v',A,h3⟩:=WW h1 (QD (g:=g) (fun x hx=>j (by simpa [Op.operands]using hx))) w;have e:(ps.map fun(i,x)=>(i,g x))=⟨ps.toList.map fun x=>(x.1,g x.2)⟩:=by apply J3;simp
  exact NOk.same (s:=Instr.build t (ps.map fun(i,x)=>(i,g x))) h (by rw[e];exact A) h3
 .rename_i t n ps
  have:=BE h I q J (QD (g:=g) (fun x hx=>j (by simpa [Op.operands]using hx)));have e:(ps.map fun(i,x)=>(i,g x))=⟨ps.toList.map fun x=>(x.1,g x.2)⟩:=by apply J3;simp
  refine NOk.of (s:=Instr.buildSlice t n (ps.map fun(i,x)=>(i,g x))) ?_;rw[e];exact this
 .rename_i t x;have hx:=j (x:=x) (by simp[Op.operands]);unfold SK at q;split at q
  .rename_i a G;rw[G]at hx;obtain⟨l,M,R,D⟩:=P5 hx;obtain⟨h1,rfl⟩:=m6 q;obtain⟨v',A,h3⟩:=LE h h1 M;refine NOk.same (s:=Instr.loadAt t (g x)) h ?_ h3;rw[D]
   simpa [Instr.loadAt,Instr.sureAddr]using A
  .cases q
 .rename_i t x y;have hx:=j (x:=x) (by simp[Op.operands]);have B:=j (x:=y) (by simp[Op.operands]);unfold GJ at q;split at q
  .rename_i a G;rw[G]at hx;obtain⟨l,M,R,D⟩:=P5 hx;obtain⟨h1,rfl⟩:=nQ q
   have:=VC h h1 M B;refine NOk.ofU (s:=Instr.storeAt t (g x) (g y)) ?_;rw[D];obtain⟨L,w',r1,r2⟩:=this;exact⟨L,w',by simpa [Instr.storeAt,Instr.sureAddr]using r1,r2⟩
  .cases q
 .rename_i x;have hx:=j (x:=x) (by simp[Op.operands]);obtain⟨hm,h1,A⟩:=A3z q hx;subst hm;refine⟨g x,ρ,w,.inl ?_,h1,.refl h⟩;rcases A with⟨a,T⟩|⟨f,a,b,T⟩<;>simp[execOp,T]
 .rename_i op t x y Y;have hx:=j (x:=x) (by simp[Op.operands]);have B:=j (x:=y) (by simp[Op.operands]);unfold A31 at q;have C:(AA op=true->mE P t x y (ev fr x) (ev fr y)=true)->noM (sZ P op t (ev fr x) (ev fr y)) m=some (v,m')->NOk P base ρ m w (execOp g ⟨dst,.binOp op t x y Y,ty,pos,V,U⟩) v m':=fun Q hn=>by
   obtain⟨h1,rfl⟩:=m6 hn;obtain⟨A,h3⟩:=xS h1 hx B w;have W:=sL Q hx B w;refine NOk.same (s:=do eqGuard op t x y (g x) (g y);binOp op t (g x) (g y)) h ?_ (.pure h3);simp[A4,W,A,Result.andThen]
  cases E:AA op with
  | true =>
    rw[E]at q;simp only[E6]at q;obtain⟨h1,A⟩:=A3 q;exact C (fun _=>h1) A
  | false =>
    rw[E]at q;simp only[E3]at q;exact C (fun h=>by rw[E]at h;cases h) q
 .rename_i op t x;obtain⟨h1,rfl⟩:=m6 q;obtain⟨A,h3⟩:=NV (P:=P) h1 (j (x:=x) (by simp[Op.operands])) w;exact NOk.same (s:=Op.unary op (g x)) h A (.pure h3)
 .exact NOk.of (A2d h I q J (j (by simp[Op.operands])))
 .exact NOk.of (WA h q (j (by simp[Op.operands])))
 .rename_i f first cap
  cases q;have l1:=dJ (ρ:=ρ) (fr:=fr) (g:=g) (xs:=first.toList) fun x hx=>j (by simp[Op.operands];exact .inl (by simpa using hx))
  have l2:=dJ (ρ:=ρ) (fr:=fr) (g:=g) (xs:=cap.toList) fun x hx=>j (by simp[Op.operands];exact .inr (by simpa using hx))
  refine⟨.func (.func f) ⟨first.toList.map g⟩ ⟨cap.toList.map g⟩,ρ,w,.inl ?_,.func l1.1 l2.1 l1.2 l2.2,.refl h⟩;have N:first.map g=⟨first.toList.map g⟩:=by apply J3;simp
  have O:cap.map g=⟨cap.toList.map g⟩:=by apply J3;simp
  simp[execOp,Instr.makeFunc,N,O]
 .exact NOk.of (CD h I q J (j (by simp[Op.operands])) (j (by simp[Op.operands])))
 .rename_i t x lo hi mx;obtain⟨h1,rfl⟩:=m6 q;obtain⟨v',A,h3⟩:=hZ h1 (j (x:=x) (by simp[Op.operands])) (jJ (g:=g) fun y B=>j (by simp[Op.operands]at B ⊢;exact .inr (.inl B))) (jJ (g:=g) fun y B=>j (by simp[Op.operands]at B ⊢;exact .inr (.inr (.inl B)))) (jJ (g:=g) fun y B=>j (by simp[Op.operands]at B ⊢;exact .inr (.inr (.inr B)))) w;exact NOk.same (s:=Instr.sliceAt t (g x) (lo.map g) (hi.map g) (mx.map g)) h A h3
 .obtain⟨h1,rfl⟩:=m6 q;obtain⟨v',A,h3⟩:=mG h1 (j (by simp[Op.operands])) w;exact NOk.same h A h3
 .obtain⟨h1,rfl⟩:=m6 q;obtain⟨v',A,h3⟩:=WN h1 (j (by simp[Op.operands])) w;exact NOk.same h A h3
 .obtain⟨h1,rfl⟩:=m6 q;obtain⟨v',A,h3⟩:=cX h1 (j (by simp[Op.operands])) (j (by simp[Op.operands])) w;exact NOk.same h A h3
 .obtain⟨h1,rfl⟩:=m6 q;obtain⟨v',A,h3⟩:=tY h1 (j (by simp[Op.operands])) (j (by simp[Op.operands])) w;exact NOk.same h A h3
 .obtain⟨hm,v',A,h3⟩:=KS (P:=P) q (j (by simp[Op.operands])) w;subst hm;exact NOk.same h A h3
 .rename_i b xs tys;have l1:=dJ (ρ:=ρ) (fr:=fr) (g:=g) (xs:=xs.toList) fun x hx=>j (by show x ∈ (#[]++xs:Array Operand).toList;simpa using hx)
  obtain⟨ks,O⟩:∃ ks,execOp g ⟨dst,.call ⟨.builtin b,xs,tys⟩,ty,pos,V,U⟩=builtin b tys ty ks (xs.map g):=⟨_,rfl⟩;obtain⟨s,e,X⟩:=ND (ty:=ty) (ks:=ks) h I q J l1;have N:xs.map g=⟨xs.toList.map g⟩:=by apply J3;simp
  rw[O,N];have Z:tys=⟨tys.toList⟩:=rfl;rw[Z,e];exact NOk.of X
 .cases q
end
end
section
open Go
def ofV:R3->U
 | some (.int k n)=>.int k n
 | some (.bool b)=>.bool b
 | some (.string s)=>.str s.data.toList
 | _=>.none
def E0(E:Nat->U):Value->U
 | .complex .f64 i _=>E i
 | .int k n=>.int k n
 | .bool b=>.bool b
 | .string s=>.str s.data.toList
 | _=>.none
def evB(op:BinOp):U->U->U
 | .int k a,.int j b=>ofV (aY op k j a b)
 | .str a,.str b=>ofV (YD op ⟨⟨a⟩⟩ ⟨⟨b⟩⟩)
 | .bool a,.bool b=>match op with
   | .eql=>.bool (a == b)
   | .neq=>.bool (!(a == b))
   | _=>.none
 | _,_=>.none
def ev1(op:UnOp):U->U
 | .int k n=>ofV (unM op (.int k n))
 | .bool b=>ofV (unM op (.bool b))
 | _=>.none
def eqU:U->U->Option Bool
 | .int k a,.int j b=>if k=j then some (a == b)else none
 | .bool a,.bool b=>some (a == b)
 | .str a,.str b=>some (a == b)
 | _,_=>none
def mK:List U->Option Bool
 | []=>some true
 | a::b::r=>match eqU a b,mK r with
   | some x,some y=>some (x && y)
   | _,_=>none
 | _=>none
def JK(s:List UInt8)(l h:Int):U :=
 match l,h with
 | .ofNat l,.ofNat h=>if l<=h/\h<=s.length then .str ((s.drop l).take (h-l))else .none
 | _,_=>.none
def uL:List U->Option (List UInt8)
 | []=>some []
 | .int .u8 (.ofNat n)::r=>if n<256 then match uL r with
   | some l=>some (UInt8.ofNat n::l)
   | none=>none else none
 | _::_=>none
def uM:List (List U)->Option (List UInt8)
 | []=>some []
 | [.int .u8 (.ofNat n)]::r=>if n<256 then match uM r with
   | some l=>some (UInt8.ofNat n::l)
   | none=>none else none
 | _::_=>none
def jY(s:List UInt8):List (List U):=s.map fun b=>[.int .u8 b.toNat]
def j8(w:Nat):Nat->List U->Option (List (List U))
 | 0,[]=>some []
 | 0,_::_=>none
 | n+1,l=>if w<=l.length then match j8 w n (l.drop w)with
   | some r=>some (l.take w::r)
   | none=>none else none
def yX(row:List U)(o:Nat)(cells:List U):List U:=row.take o++cells++row.drop (o+cells.length)
def tB:Nat:=1000000000
def mN(f:Bool)(w:Nat)(rows r:List (List U)):U:=if rows.length+r.length<=tB then(match r with|[]=>.seq f w rows|r=>.seq false w (rows++r))else .none
def isU(a b:U):Bool :=
 match eqU a b with
 | some c=>c
 | none=>false
def U3:List U->List U->Bool
 | [],_=>true
 | a::k,b::r=>isU a b && U3 k r
 | _::_,[]=>false
def KJ(kw:Nat)(c:List U):List (List U)->List (List U)
 | []=>[c]
 | r::rs=>if U3 (c.take kw) r then c::rs else r::KJ kw c rs
def evU:LOp->List U->U
 | .mhas w kw,.seq _ v rows::k=>if v=w/\k.length=kw then .bool (rows.any (U3 k))else .none
 | .mget w kw o,.seq _ v rows::z::k=>if v=w/\k.length=kw then(match rows.find? (U3 k)with
   | some r=>r.getD o .none
   | none=>z)else .none
 | .mput w kw,.seq nul v rows::c=>if v=w/\c.length=w then .seq nul w (KJ kw c rows)else .none
 | .len,[.seq _ _ rows]=>.int .i64 rows.length
 | .mks,l=>match uL l with
   | some s=>.str s
   | none=>.none
 | .inbs w,[.int _ i,.seq _ v rows]=>if v=w then .bool (decide (0<=i) && decide (i<rows.length))else .none
 | .get w o,[.seq false v rows,.int _ (.ofNat k)]=>if v=w then(rows.getD k []).getD o .none else .none
 | .mk w,l=>if w=0 then .none else match j8 w (l.length / w) l with
   | some r=>.seq false w r
   | none=>.none
 | .nilw w,[]=>.seq true w []
 | .nilp,[.seq nul _ _]=>.bool nul
 | .snoc w,.seq nul v rows::l=>if v=w/\w≠0 then match j8 w (l.length / w) l with
   | some r=>mN nul w rows r
   | none=>.none else .none
 | .cat w,[.seq nul v rows,.seq _ v2 r]=>if v=w/\v2=w then mN nul w rows r else .none
 | .cats,[.seq nul v rows,.str s]=>if v=1 then mN nul 1 rows (jY s)else .none
 | .set w o,.seq false v rows::.int _ (.ofNat k)::l=>if v=w/\k<rows.length/\o+l.length<=w then .seq false w (rows.set k (yX (rows.getD k []) o l))else .none
 | .subs w,[.seq nul v rows,.int _ (.ofNat l),.int _ (.ofNat h)]=>if v=w/\l<=h/\h<=rows.length then .seq nul w ((rows.drop l).take (h-l))else .none
 | .str,[.seq _ v rows]=>if v=1 then match uM rows with
   | some s=>.str s
   | none=>.none else .none
 | .byt,[.str s]=>.seq false 1 (jY s)
 | .ustr,[.seq _ v rows,.int _ (.ofNat n)]=>if v=1/\n<=rows.length/\n<=tB then match uM (rows.take n)with
   | some s=>.str s
   | none=>.none else .none
 | .rep w,.int _ (.ofNat n)::l=>if l.length=w/\n<=tB then .seq false w (List.replicate n l)else .none
 | .bin op,[a,b]=>evB op a b
 | .un op,[a]=>ev1 op a
 | .conv k,[.int _ n]=>.int k (k.wrap n)
 | .len,[.str s]=>.int .i64 s.length
 | .rune,[.str s,.int _ (.ofNat k)]=>.int .i32 (Utf8.decode ⟨⟨s⟩⟩ k).1
 | .rpos,[.str s,.int _ (.ofNat k)]=>.int .i64 (k+(Utf8.decode ⟨⟨s⟩⟩ k).2:Nat)
 | .idx,[.str s,.int _ (.ofNat k)]=>match s[k]? with
   | some b=>.int .u8 b.toNat
   | none=>.none
 | .sub,[.str s,.int _ l,.int _ h]=>JK s l h
 | .sub1,[.str s,.int _ l]=>JK s l s.length
 | .sel,.int _ (.ofNat k)::cs=>cs.getD k .none
 | .inb,[.int _ i,.int _ n]=>.bool (decide (0<=i) && decide (i<n))
 | .eqs,l=>match mK l with
   | some b=>.bool b
   | none=>.none
 | .max,[.int k a,.int _ b]=>.int k (if b>a then b else a)
 | .min,[.int k a,.int _ b]=>.int k (if b<a then b else a)
 | _,_=>.none
def n7.ok(E:Nat->U):n7->Prop
 | .lt i t op xs=>E i=evU op (xs.map (E0 E))/\G4 (E i)=t/\t<10
 | .dt i t op xs=>E i=evU op (xs.map (E0 E))/\G4 (E i)=t/\∃ f w rows,E i=.seq f w rows
 | .br i b=>E i=.bool b
 | .as op xs=>evU op (xs.map (E0 E))=.bool true
 | .con spec xs i d n=>∃ outs,spec (xs.map (E0 E))=some (d,outs)/\outs.length=n/\∀ j u,outs[j]? = some u->E (i+j)=u
def S4(E:Nat->U)(l:List n7):Prop:=∀ e ∈ l,e.ok E
def Lg.le(a b:Lg):Prop:=a.log <:+ b.log
def Lg.le.refl(a:Lg):a.le a:=List.suffix_refl _
def Lg.le.trans{a b c:Lg}(h:a.le b)(k:b.le c):a.le c:=List.IsSuffix.trans h k
def S4.le{E:Nat->U}{a b:Lg}(h:S4 E b.log)(k:a.le b):S4 E a.log:=fun e he=>h e (k.subset he)
variable [Ora]
abbrev Sat(lg:Lg):Prop:=S4 Ora.env lg.log
omit [Ora] in
def RB{u:U}(h:G4 u<10):∃ v,toV u=some v/\ofV (some v)=u/\G8 v=G4 u:=by
 cases u with
 | none=>simp[G4]at h
 | seq _ _ _=>simp only[G4]at h;omega
 | int k n=>exact⟨_,rfl,rfl,rfl⟩
 | bool b=>exact⟨_,rfl,rfl,rfl⟩
 | str s=>exact⟨_,rfl,rfl,rfl⟩
def GI(h:G4 (ofV o)<10):∃ v,o=some v/\toV (ofV o)=some v:=by
 unfold ofV at h;split at h
 .exact⟨_,rfl,rfl⟩
 .exact⟨_,rfl,rfl⟩
 .rename_i s;refine⟨_,rfl,?_⟩;simp[ofV,toV]
 .simp[G4]at h
def M3(k:IntKind):iH k<8:=by cases k<;>decide
theorem aJ{ρ:Ren}{v v':Value}(h:VR ρ v v')(f:G8 v<10):toV (E0 Ora.env v)=some v'/\G4 (E0 Ora.env v)=G8 v:=by
 cases h with
 | pure hp =>
   cases v<;>simp only[G8]at f<;>first
    | exact⟨rfl,rfl⟩
    | (exfalso;omega)
    | (simp[I8]at hp)
 | hole h j=>exact⟨h,j⟩
 | junk=>simp[G8]at f
 | ixp _ _ _ _ _=>simp[G8,ixp]at f
 | dat _ _ _ _ _=>simp[G8,Go.Sx.dat]at f
 | clp _ _ _ _ _ _=>simp[G8,Go.Sx.clp]at f
 | own _ _ _=>simp[G8,Go.Sx.own]at f
 | dpt _ _ _=>simp[G8,Go.Sx.dpt]at f
 | opt _ _ _=>simp[G8,Go.Sx.opt]at f
 | yv _=>simp[G8,Go.Sx.yv]at f
 | sdt _=>simp[G8,Go.Sx.sdt]at f
 | _=>simp[G8]at f
def N4{ρ:Ren}(h:VR ρ v v')(j:G8 v<8):∃ k n,v'=.int k n/\E0 Ora.env v=.int k n/\G8 v=iH k:=by
 obtain⟨h1,f⟩:=aJ h A2;cases hu:E0 Ora.env v with
 | int k n=>rw[hu]at h1 f;cases h1;exact⟨k,n,rfl,rfl,f.symm⟩
 | bool b=>rw[hu]at f;simp only[G4]at f;omega
 | str s=>rw[hu]at f;simp only[G4]at f;omega
 | none=>rw[hu]at h1;cases h1
 | seq _ _ _=>rw[hu]at h1;cases h1
def hY{ρ:Ren}(h:VR ρ v v')(j:G8 v=8):∃ b,v'=.bool b/\E0 Ora.env v=.bool b:=by
 obtain⟨h1,f⟩:=aJ h A2;cases hu:E0 Ora.env v with
 | int k n=>rw[hu]at f;simp only[G4]at f;have:=M3 k;omega
 | bool b=>rw[hu]at h1;cases h1;exact⟨b,rfl,rfl⟩
 | str s=>rw[hu]at f;simp only[G4]at f;omega
 | none=>rw[hu]at h1;cases h1
 | seq _ _ _=>rw[hu]at h1;cases h1
def o7{ρ:Ren}(h:VR ρ v v')(j:G8 v=9):∃ s,v'=.string ⟨⟨s⟩⟩/\E0 Ora.env v=.str s:=by
 obtain⟨h1,f⟩:=aJ h A2;cases hu:E0 Ora.env v with
 | int k n=>rw[hu]at f;simp only[G4]at f;have:=M3 k;omega
 | bool b=>rw[hu]at f;simp only[G4]at f;omega
 | str s=>rw[hu]at h1;cases h1;exact⟨s,rfl,rfl⟩
 | none=>rw[hu]at h1;cases h1
 | seq _ _ _=>rw[hu]at h1;cases h1
def jF{m m':Mem}{t:Nat}{op:LOp}(h:U5 m t op xs=some (v,m')):v=hole m.lg.nx t/\m'=m.wLg ⟨m.lg.nx+1,m.lg.pi,.lt m.lg.nx t op xs::m.lg.log⟩:=by
 obtain⟨H,n,W,hi,⟨nx,pi,log⟩⟩:=m;simp only[U5,F0,I1]at h;cases h;exact⟨rfl,rfl⟩
def N2{m m':Mem}{t:Nat}{op:LOp}(h:U5 m t op xs=some (v,m'))(n:Sat m'.lg):∃ u,evU op (xs.map (E0 Ora.env))=u/\G4 u=t/\∃ r,toV u=some r/\(∀ ρ,VR ρ v r)/\t<10:=by
 obtain⟨rfl,rfl⟩:=jF h;obtain⟨h1,f,h3⟩:=n (.lt m.lg.nx t op xs) (by cases m;exact B5);refine⟨_,rfl,h1▸f,?_⟩;obtain⟨r,j,_⟩:=RB (u:=Ora.env m.lg.nx) A2;exact⟨r,h1▸j,fun ρ=>.hole j f,h3⟩
section
variable {P:Program} {base:Nat} {ρ:Ren} {m m':Mem} {w:World}
def St.wLg(h:HR P base ρ m.H w)(lg:Lg):St P base ρ ρ m (m.wLg lg) w w:=by
 obtain⟨H,n,W,hi,l⟩:=m;have r:=St.refl (m:=⟨H,n,W,hi,l⟩) h;exact⟨r.ext,r.new,r.nle,r.hle,r.nhi,r.hr,r.wsub,r.wrw,r.keep,r.size,r.os,r.blk,r.same,r.tch⟩
def cD:∀ {l:List n7} {i:Nat} {b:Bool},AI l i=some b->n7.br i b ∈ l
 | [],_,_,h=>by cases h
 | .br j c::r,i,b,h=>by
   rw[AI]at h;cases f:Nat.beq j i with
   | true=>rw[f]at h;cases h;rw[A0 f];exact B5
   | false=>rw[f]at h;exact C5 _ (cD h)
 | .lt _ _ _ _::r,i,b,h=>C5 _ (cD (l:=r) h)
 | .dt _ _ _ _::r,i,b,h=>C5 _ (cD (l:=r) h)
 | .as _ _::r,i,b,h=>C5 _ (cD (l:=r) h)
 | .con _ _ _ _ _::r,i,b,h=>C5 _ (cD (l:=r) h)
def fI{lg f:Lg}{b:Bool}(h:brL lg c=some (b,f)):lg.le f:=by
 unfold brL at h;split at h
 .cases h;exact .refl _
 .obtain⟨nx,pi,log⟩:=lg;simp only at h;split at h
  .cases h;exact .refl _
  .split at h
   .cases h;exact⟨[_],rfl⟩
   .cases h;exact⟨[_],rfl⟩
   .cases h
 .cases h
def mO{lg f:Lg}{b:Bool}(h:brL lg c=some (b,f))(q:VR ρ c c')(n:Sat f):c'=.bool b:=by
 unfold brL at h;split at h
 .cases h;exact cW q
 .rename_i i;have A:Ora.env i=.bool b:=by
   obtain⟨nx,pi,log⟩:=lg;simp only at h;split at h
   .rename_i b' B;cases h;exact n _ (cD B)
   .split at h
    .cases h;exact n (.br i true) B5
    .cases h;exact n (.br i false) B5
    .cases h
  obtain⟨b',h1,j⟩:=hY q rfl;have j:Ora.env i=.bool b':=j;rw[A]at j;cases j;exact h1
 .cases h
def vS:∀ {a b:List U} {z:Bool},a.length%2=0->mK (a++b)=some z->∃ x y,mK a=some x/\mK b=some y/\z=(x && y)
 | [],b,z,_,h=>⟨true,z,rfl,h,rfl⟩
 | [_],_,_,hl,_=>by simp at hl
 | p::q::r,b,z,hl,h=>by
   simp only[T4]at h;unfold mK at h;split at h
   .rename_i u v f n;cases h;obtain⟨x,y,h1,j,rfl⟩:=vS (by simp only[C8]at hl;omega) n;exact⟨u && x,y,by simp only[mK,f,h1],j,by simp[Bool.and_assoc]⟩
   .cases h
def VL(h:fB P t x y=true)(hx:VR ρ x x')(C:VR ρ y y'){b:Bool}(f:eqU (E0 Ora.env x) (E0 Ora.env y)=some b)(n:Nat)(w:World):(Op.equalIn (n+1) t x' y').run P w=.ok b w:=by
 unfold fB at h;split at h
 .rename_i hu;obtain⟨h1,j⟩:=B7 h;obtain⟨p,rfl,A⟩:=hY hx (A0 h1);obtain⟨q,rfl,B⟩:=hY C (A0 j);rw[A,B]at f;cases f;simp[Op.equalIn,A4,D2 hu,Result.andThen]
 .rename_i k hu;obtain⟨h1,j⟩:=B7 h;have h1:=A0 h1;have j:=A0 j;obtain⟨D,p,rfl,A,f1⟩:=N4 hx (by have:=M3 k;omega);obtain⟨E,q,rfl,B,f2⟩:=N4 C (by have:=M3 k;omega);have g1:D=k:=by cases D<;>cases k<;>first|rfl|(simp only[iH]at f1 h1;omega)
  have g2:E=k:=by cases E<;>cases k<;>first|rfl|(simp only[iH]at f2 j;omega)
  subst g1;subst g2;rw[A,B]at f;simp[eqU]at f;subst f;simp[Op.equalIn,A4,D2 hu,Result.andThen]
 .rename_i hu;obtain⟨h1,j⟩:=B7 h;obtain⟨p,rfl,A⟩:=o7 hx (A0 h1);obtain⟨q,rfl,B⟩:=o7 C (A0 j);rw[A,B]at f;cases f
  have:=run_equalIn_string (P:=P) w n t ⟨⟨p⟩⟩ ⟨⟨q⟩⟩ hu;rw[this];simp[ByteArray.toList_eq]
 .cases h
mutual
def UD:∀ (d:Nat) (t:TypeId) (x y:Value) (l:List Value),eqS P d t x y=some l->l.length%2=0
 | 0,_,_,_,_,h=>by simp[eqS]at h
 | d+1,t,x,y,l,h=>by
   unfold eqS at h;cases hs:fB P t x y with
   | true=>rw[hs]at h;cases h;simp
   | false =>
     rw[hs]at h;simp only[E3]at h;split at h
     .rename_i fs xs ys hu;cases hst:P.stoodInHeld t with
      | true=>rw[hst]at h;cases h
      | false=>rw[hst]at h;exact AN d _ _ _ l h
     .split at h
      .exact AN d _ _ _ l h
      .cases h
     .cases h
def AN:∀ (d:Nat) (fs:List Field) (xs ys:List Value) (l:List Value),AO P d fs xs ys=some l->l.length%2=0
 | 0,_,_,_,_,h=>by simp[AO]at h
 | d+1,[],_,_,_,h=>by simp only[AO,D5]at h;subst h;rfl
 | d+1,f::fs,xs,ys,l,h=>by
   unfold AO at h;cases hnm:f.name == "_" with
   | true=>rw[hnm]at h;cases h
   | false =>
     rw[hnm]at h;simp only[E3]at h;split at h
     .split at h
      .rename_i a b ha hb;cases h
       have:=UD d _ _ _ a ha
       have:=AN d _ _ _ b hb;simp only[B4];omega
      .cases h
     .cases h
end
mutual
def QE:∀ (d:Nat) (t:TypeId) (x y x' y':Value) (l:List Value) (b:Bool),eqS P d t x y=some l->mK (l.map (E0 Ora.env))=some b->VR ρ x x'->VR ρ y y'->∀ (n:Nat),d<=n->∀ w:World,(Op.equalIn n t x' y').run P w=.ok b w
 | 0,_,_,_,_,_,_,_,h,_,_,_,_,_,_=>by simp[eqS]at h
 | d+1,t,x,y,x',y',l,b,h,hl,hx,hy,n,hn,w=>by
   obtain⟨n,rfl⟩:∃ k,n=k+1:=⟨n-1,A2⟩;have hn':d<=n:=A2;unfold eqS at h;cases hs:fB P t x y with
   | true =>
     rw[hs]at h;cases h;simp only[C3,F8,mK]at hl;split at hl
     .rename_i u v e1 e2;cases e2;cases hl;rw[oS];exact VL hs hx hy e1 n w
     .cases hl
   | false =>
     rw[hs]at h;simp only[E3]at h;split at h
     .rename_i fs xs ys hu;cases hst:P.stoodInHeld t with
      | true=>rw[hst]at h;cases h
      | false =>
        rw[hst]at h;obtain⟨xs',rfl,hx1⟩:=W1 hx;obtain⟨ys',rfl,hy1⟩:=W1 hy;have hf:P.fieldsOf t=fs:=by simp[Program.fieldsOf,hu]
        rw[run_equalIn_struct (P:=P) w n t _ _ (by rw[hf];exact hu) hst,hf];exact HS d fs.toList xs.toList ys.toList xs' ys' l b h hl hx1 hy1 n hn' w
     .rename_i k e xs ys hu;split at h
      .rename_i s hz;obtain⟨xs',rfl,hx1⟩:=W1 hx;obtain⟨ys',rfl,hy1⟩:=W1 hy;obtain⟨i,hi,rfl⟩:=CW hz;rw[run_equalIn_array (P:=P) (w:=w) n _ _ hu hi,show P.cellsOf e=i.size by simp[Program.cellsOf,hi],fF];exact HS d _ xs.toList ys.toList xs' ys' l b h hl hx1 hy1 n hn' w
      .cases h
     .cases h
def HS:∀ (d:Nat) (fs:List Field) (xs ys xs' ys':List Value) (l:List Value) (b:Bool),AO P d fs xs ys=some l->mK (l.map (E0 Ora.env))=some b->LR ρ xs xs'->LR ρ ys ys'->∀ (n:Nat),d<=n->∀ w:World,(Op.eqFields n ⟨xs'⟩ ⟨ys'⟩ fs).run P w=.ok b w
 | 0,_,_,_,_,_,_,_,h,_,_,_,_,_,_=>by simp[AO]at h
 | d+1,[],_,_,_,_,_,b,h,hl,_,_,_,_,_=>by
   simp only[AO,D5]at h;subst h;simp only[F8,mK,D5]at hl;subst hl;simp[Op.eqFields]
 | d+1,f::fs,xs,ys,xs',ys',l,b,h,hl,hx,hy,n,hn,w=>by
   unfold AO at h;cases hnm:f.name == "_" with
   | true=>rw[hnm]at h;cases h
   | false =>
     rw[hnm]at h;simp only[E3]at h;have hn':f.name ≠ "_":=by simpa using hnm
     split at h
     .rename_i x y h1 h2;obtain⟨x',g1,g2⟩:=iE h1 hx w;obtain⟨y',g3,g4⟩:=iE h2 hy w;split at h
      .rename_i a c ha hc;cases h;rw[M8]at hl;obtain⟨p,q,e1,e2,rfl⟩:=vS (by have:=UD d _ _ _ a ha;simpa using this) hl;have ih:=QE d f.type x y x' y' a p ha e1 g2 g4 n A2 w;have ih2:=HS d fs xs ys xs' ys' c q hc e2 hx hy n A2 w;unfold Op.eqFields;rw[A9 hn'];cases p<;>simp[A4,g1,g3,Result.andThen,ih,ih2]
      .cases h
     .cases h
end
end
end
section
open Go
variable [Ora]
section
variable {P:Program} {base:Nat} {ρ:Ren} {m m':Mem} {w w':World}
def St.new0{ab:AB}(h:HR P base ρ m.H w)(R:Z9 m ab k=some (v,m'))(Q:K7 ρ m.n m'.hi)(I:BR P (upd ρ m.n l') ab l' w)(F:l'.on=false)
  (N:∀ q,Tc ab l' q->Fp ρ m.H q/\∀ id,id<=H8->∀ a l,Hp.get m.H id=some a->ρ id=some l->a.rw=true->l.on=true->l.blk≠q):v=k m.n/\upd ρ m.n l' m.n=some l'/\St P base ρ (upd ρ m.n l') m m' w w:=by
 obtain⟨hle,hv,rfl⟩:=M2 R;have E:ρ m.n=none:=Q m.n (A6 _) (L5 _ _).2;have A:=X8 (l:=l') E;refine⟨hv,M4 _ _ _,A,fun b q h1 j=>?_,by simp,(L5 _ _).1,fun _=>Z3 (L5 _ _).2,⟨fun b q M=>?_,fun id hid a f=>?_⟩,fun b I=>I,fun b h1 j=>absurd h1 j,fun q M _=>rfl,A6 _,⟨rfl,rfl,rfl⟩,fun b q h1 j B=>?_,fun id hid h1 j=>?_,fun q ⟨id,a,l,hid,f,D,L⟩=>.inr ?_⟩
 .obtain⟨rfl,rfl⟩:=U9 h1 j;exact⟨A6 _,J5 _⟩
 .cases h0:ρ b with
  | some O=>exact h.dom b O h0
  | none=>obtain⟨rfl,rfl⟩:=U9 M h0;exact hle
 .rw[F1 _ _ _ _ hle hid]at f;by_cases e:id=m.n
  .rw[A9 e]at f;have f:=A8 f;subst f;subst e;exact⟨l',M4 _ _ _,I,fun _ B=>(by rw[F]at B;cases B)⟩
  .rw[A7 e]at f;obtain⟨l0,h1,j,h3⟩:=h.at_ id hid a f;refine⟨l0,A _ _ h1,j.mono A (fun _ _=>rfl),fun hr B=>⟨(h3 hr B).1,fun G C K l2 g1 g2 g3=>?_⟩⟩;rw[F1 _ _ _ _ hle C]at g1;by_cases J:G=m.n
   .subst J;rw[M4]at g2
    have:=A8 g2;subst this;rw[A9 rfl]at g1;have g1:=A8 g1;subst g1;exact absurd rfl ((N _ g3).2 id hid a l0 f h1 hr B)
   .rw[A7 J]at g1;unfold upd at g2;rw[A7 J]at g2;exact(h3 hr B).2 G C K l2 g1 g2 g3
 .obtain⟨rfl,rfl⟩:=U9 h1 j;rw[F]at B;cases B
 .rw[F1 _ _ _ _ hle hid,A7];intro e;subst e;rcases j with j|j
  .omega
  .have j:upN m.hi m.n<=m.n:=j
   have:=(L5 m.hi m.n).2;omega
 .have f:Hp.get (m.H.set m.n (some ab)) id=some a:=f;rw[F1 _ _ _ _ hle hid]at f;by_cases e:id=m.n
  .subst e;rw[A9 rfl]at f;have f:=A8 f;subst f;rw[M4]at D;have D:=A8 D;subst D;exact(N q L.2).1
  .rw[A7 e]at f;unfold upd at D;rw[A7 e]at D;exact⟨id,a,l,hid,f,D,L⟩
def St.same0{ab:AB}{id:Nat}(h:HR P base ρ m.H w)(T:cQ m id ab'=some m')(L:Hp.get m.H id=some ab)(D:ab.rw=true)(G:ρ id=some l)(M:BR P ρ ab' l w)(Q:∀ q,Tc ab' l q->Tc ab l q):St P base ρ ρ m m' w w:=by
 obtain⟨hle,rfl⟩:=V0 T;obtain⟨E,h3⟩:=h.atl G L;refine⟨fun _ _ h=>h,fun b k h1 E=>(by rw[h1]at E;cases E),A6 _,A6 _,fun h=>h,⟨h.dom,fun n f a A=>?_⟩,fun b M=>C5 _ M,fun b h1 E k J=>?_,fun k J R=>rfl,A6 _,⟨rfl,rfl,rfl⟩,fun b k h1 E=>(by rw[h1]at E;cases E),fun n f S U=>?_,fun k ⟨n,a,q,f,A,I,O⟩=>.inr ?_⟩
 .rw[F1 _ _ _ _ hle f]at A;by_cases e:n=id
  .rw[A9 e]at A;have A:=A8 A;subst A;subst e;refine⟨l,G,M,fun _ C=>⟨(h3 D C).1,fun B j F N g1 g2 g3=>?_⟩⟩;rw[F1 _ _ _ _ hle j]at g1;by_cases K:B=n
   .exact K
   .rw[A7 K]at g1;exact(h3 D C).2 B j F N g1 g2 g3
  .rw[A7 e]at A;obtain⟨l2,g1,g2,g3⟩:=h.at_ n f a A;refine⟨l2,g1,g2.mono (fun _ _ h=>h) (fun k J=>rfl),fun hr C=>⟨(g3 hr C).1,fun B j F N f1 f2 f3=>?_⟩⟩;rw[F1 _ _ _ _ hle j]at f1;by_cases K:B=id
   .subst K;rw[G]at f2
    have:=A8 f2;subst this;have f1:=A8 (by simpa using f1);subst f1;exact(g3 hr C).2 B j ab l L G (Q _ f3)
   .rw[A7 K]at f1;exact(g3 hr C).2 B j F N f1 f2 f3
 .rcases B6.1 h1 with rfl|h1
  .exact⟨ab,L,D⟩
  .exact absurd h1 E
 .rw[F1 _ _ _ _ hle f,A7];intro e;subst e;exact S B5
 .have A:Hp.get (m.H.set id (some ab')) n=some a:=A;rw[F1 _ _ _ _ hle f]at A;by_cases e:n=id
  .subst e;rw[A9 rfl]at A;have A:=A8 A;subst A;rw[G]at I;have I:=A8 I;subst I;exact⟨n,ab,l,f,L,G,AB.rw_fr D,Q _ O.2⟩
  .rw[A7 e]at A;exact⟨n,a,q,f,A,I,O⟩
def St.move{ab:AB}{id:Nat}(h:HR P base ρ m.H w)(hle:id<=H8)(hg:Hp.get m.H id=some ab)(E:ab.rw=true)(R:ρ id=some l)
  (hn:Z9 (kF m id) ab' k=some (v,m')) (hf:K7 ρ m.n m'.hi) (O:l'.on=true->l.on=true/\l'.blk=l.blk)
  (ho:w'.os=w.os/\w'.tape=w.tape/\w'.output=w.output) (az:w'.heap.size=w.heap.size) (Y:∀ k,(l.on=true->k≠l.blk)->w'.heap[k]? = w.heap[k]?) (T:BR P (upd ρ m.n l') ab' l' w') (ax:ab'≠.frz) :
  v=k m.n/\upd ρ m.n l' m.n=some l'/\St P base ρ (upd ρ m.n l') m m' w w':=by
 rw[m7]at hn;obtain⟨W,hv,rfl⟩:=M2 hn;have C:ρ m.n=none:=hf m.n (A6 _) (L5 _ _).2;have I:=X8 (l:=l') C;obtain⟨Q,h3⟩:=h.atl R hg;have S:∀ k,Tc ab' l' k->l.on=true/\k=l.blk:=fun k Y=>by
  rcases Y with⟨_,h1,rfl⟩|⟨rfl,_⟩
  .exact O h1
  .exact absurd rfl ax
 have au:id≠m.n:=fun e=>by subst e;rw[R]at C;cases C
 have A:∀ i,i<=H8->Hp.get ((m.H.set id none).set m.n (some ab')) i=if i=m.n then some ab' else if i=id then none else Hp.get m.H i:=fun i hi=>by
  rw[F1 _ _ _ _ W hi,F1 _ _ _ _ hle hi]
 refine⟨hv,M4 _ _ _,I,fun b q h1 Q=>?_,X7 _,(L5 _ _).1,fun _=>Z3 (L5 _ _).2,⟨fun b q F=>?_,fun i hi a f=>?_⟩,fun b T=>C5 _ T,fun b h1 Q q F=>?_,fun q F Z=>Y q ?_,by rw[az];exact A6 _,ho,fun b q h1 Q B=>?_,fun i hi h4 U=>?_,fun k ⟨i,a,q,hi,f,F,ht⟩=>.inr ?_⟩
 .obtain⟨rfl,rfl⟩:=U9 h1 Q;exact⟨A6 _,J5 _⟩
 .cases h0:ρ b with
  | some q0=>exact h.dom b q0 h0
  | none=>obtain⟨rfl,rfl⟩:=U9 F h0;exact W
 .have f:Hp.get ((m.H.set id none).set m.n (some ab')) i=some a:=f;rw[A i hi]at f;by_cases e:i=m.n
  .rw[A9 e]at f;have f:=A8 f;subst f;subst e;refine⟨l',M4 _ _ _,T,fun av B=>?_⟩;obtain⟨j,D⟩:=O B;refine⟨by rw[D];exact(h3 E j).1,fun K L aw l2 g1 g2 g3=>?_⟩;rw[A K L]at g1;by_cases e2:K=m.n
   .exact e2
   .rw[A7 e2]at g1;unfold upd at g2;rw[A7 e2]at g2;by_cases J:K=id
    .rw[A9 J]at g1;cases g1
    .rw[A7 J]at g1;exact absurd ((h3 E j).2 K L aw l2 g1 g2 (D▸g3)) J
  .rw[A7 e]at f;by_cases J:i=id
   .rw[A9 J]at f;cases f
   .rw[A7 J]at f;obtain⟨l2,g1,g2,g3⟩:=h.at_ i hi a f;have V:∀ k,Tc a l2 k->l.on=true->k≠l.blk:=fun k N j hh=>J ((h3 E j).2 i hi a l2 f g1 (hh▸N))
    refine⟨l2,I _ _ g1,g2.mono I (fun k N=>Y _ (V k N)),fun hr B=>⟨(g3 hr B).1,fun G M X l3 f1 f2 f3=>?_⟩⟩;have f1:Hp.get ((m.H.set id none).set m.n (some ab')) G=some X:=f1;rw[A G M]at f1;by_cases e4:G=m.n
    .subst e4;rw[M4]at f2
     have:=A8 f2;subst this;rw[A9 rfl]at f1;have f1:=A8 f1;subst f1;obtain⟨j,F⟩:=S _ f3;exact absurd F (V _ (.inl ⟨AB.rw_on hr,B,rfl⟩) j)
    .rw[A7 e4]at f1;unfold upd at f2;rw[A7 e4]at f2;by_cases e5:G=id
     .rw[A9 e5]at f1;cases f1
     .rw[A7 e5]at f1;exact(g3 hr B).2 G M X l3 f1 f2 f3
 .rcases B6.1 h1 with rfl|h1
  .exact⟨ab,hg,E⟩
  .exact absurd h1 Q
 .exact fun j e=>Z id B5 l R j e.symm
 .obtain⟨rfl,rfl⟩:=U9 h1 Q;obtain⟨j,D⟩:=O B;exact .inr ⟨id,B5,l,R,j,D.symm⟩
 .have ay:=A i hi;show Hp.get ((m.H.set id none).set m.n (some ab')) i=_;rw[ay,A7,A7]
  .intro e;subst e;exact h4 B5
  .intro e;subst e;rcases U with U|U
   .omega
   .have U:upN m.hi m.n<=m.n:=U
    have:=(L5 m.hi m.n).2;omega
 .have f:Hp.get ((m.H.set id none).set m.n (some ab')) i=some a:=f;rw[A i hi]at f;by_cases e:i=m.n
  .rw[A9 e]at f;have f:=A8 f;subst f;subst e;rw[M4]at F;have F:=A8 F;subst F;obtain⟨j,T⟩:=S k ht.2;exact⟨id,ab,l,hle,hg,R,AB.rw_fr E,.inl ⟨AB.rw_on E,j,T.symm⟩⟩
  .rw[A7 e]at f;unfold upd at F;rw[A7 e]at F;by_cases J:i=id
   .rw[A9 J]at f;cases f
   .rw[A7 J]at f;exact⟨i,a,q,hi,f,F,ht⟩
end
end
section
open Go
variable [Ora]
def aR{m m':Mem}{ab:AB}(h:Z9 m ab k=some (v,m')):m'.lg=m.lg:=by
 obtain⟨_,_,rfl⟩:=M2 h;rfl
def dX{m m':Mem}{id:Nat}{ab:AB}(h:cQ m id ab=some m'):m'.lg=m.lg:=by
 obtain⟨_,rfl⟩:=V0 h;rfl
def tG{m m':Mem}(h:oT m a vs=some m'):m'.lg=m.lg:=by
 unfold oT at h;split at h
 .obtain⟨_,h⟩:=A3 h;rw[I1]at h;exact dX h
 .cases h
def VD{P:Program}{m m':Mem}(h:yE P m t a v=some m'):m'.lg=m.lg:=by
 unfold yE at h;split at h
 .obtain⟨_,h⟩:=A3 h;exact tG h
 .cases h
def q9{m m':Mem}(h:noM o m=some (v,m')):m'.lg=m.lg:=by
 obtain⟨_,rfl⟩:=m6 h;rfl
def BF{P:Program}{m m':Mem}{n:Nat}{ps:List (Nat×Value)}(h:dA P m t n ps=some (v,m')):m'.lg=m.lg:=by
 unfold dA at h;split at h
 .split at h
  .obtain⟨_,h⟩:=A3 h;split at h
   .exact aR h
   .cases h
  .cases h
 .cases h
def CE{P:Program}{m m':Mem}{l:Value}(h:eW P m t l c=some (v,m')):m'.lg=m.lg:=by
 unfold eW at h;split at h
 .split at h
  .obtain⟨_,h⟩:=A3 h;split at h
   .rw[I1]at h;exact aR h
   .cases h
  .cases h
 .cases h
def A2e{P:Program}{m m':Mem}(h:EQ P m s t x=some (v,m')):m'.lg=m.lg:=by
 unfold EQ at h;split at h
 .cases h;rfl
 .cases h;rfl
 .cases h;rfl
 .split at h
  .split at h
   .rw[I1]at h;exact aR h
   .cases h
  .cases h
 .split at h<;>cases h;rfl
 .split at h
  .split at h
   .split at h<;>cases h;rfl
   .cases h
  .cases h
 .cases h
def QQ{P:Program}{m m':Mem}(h:tC P m t t2 x y=some (v,m')):m'.lg=m.lg:=by
 unfold tC at h;split at h
 .rename_i B d2 _ _;cases j:dI d2 with
  | false=>rw[j]at h;cases h
  | true =>
  rw[j]at h;simp only[R0,E3]at h;split at h
  .rename_i i a n c _;split at h
   .rename_i k new z _ _;obtain⟨_,h⟩:=A3 h;cases f:Nat.beq k 0 with
    | true =>
      rw[f]at h;simp only[E6]at h;split at h
      .obtain⟨_,h⟩:=A3 h;cases h;rfl
      .obtain⟨_,h⟩:=A3 h;cases h;rfl
    | false =>
      rw[f]at h;simp only[E3]at h;split at h
      .obtain⟨_,h⟩:=A3 h;rw[I1]at h;exact aR h
      .cases q:Nat.blt c N6 with
       | true =>
         rw[q]at h;simp only[E6]at h;cases A:Nat.ble (n+k) c with
         | true =>
           rw[A]at h;simp only[E6]at h;split at h
           .rename_i m1 _ hw;cases h;exact tG hw
           .cases h
         | false =>
           rw[A]at h;simp only[E3]at h;split at h
           .rw[I1]at h;exact aR h
           .cases h
       | false =>
         rw[q]at h;simp only[E3]at h;obtain⟨_,h⟩:=A3 h;split at h
         .obtain⟨_,h⟩:=A3 h;rw[I1]at h;rw[aR h,m7]
         .cases h
   .cases h
  .cases h
 .cases h
def A2b{P:Program}{m m':Mem}(h:MS P m t x y=some (v,m')):m'.lg=m.lg:=by
 unfold MS at h;split at h
 .split at h
  .split at h
   .split at h
    .obtain⟨_,h⟩:=A3 h;cases h;rfl
    .rename_i k cs j _ n;cases f:Nat.beq cs.length 0 with
     | true=>rw[f]at h;cases h;rfl
     | false =>
       rw[f]at h;simp only[E3]at h;obtain⟨_,h⟩:=A3 h;split at h
       .rename_i hw;cases h;exact tG hw
       .cases h
   .cases h
  .cases h
 .cases h
def BP{P:Program}{m m':Mem}{l:Value}(h:eM P m pt p l=some (v,m')):m'.lg=m.lg:=by
 unfold eM at h;split at h
 .cases h;rfl
 .split at h
  .split at h
   .obtain⟨_,h⟩:=A3 h;split at h
    .split at h
     .rename_i Y5;cases h;exact dX Y5
     .cases h
    .cases h
   .cases h
  .cases h
 .cases h
def NE{P:Program}{m m':Mem}(h:iO P m b vs tys=some (v,m')):m'.lg=m.lg:=by
 unfold iO at h;split at h
 .exact q9 h
 .exact q9 h
 .exact QQ h
 .exact A2b h
 .exact q9 h
 .exact q9 h
 .unfold iV at h;split at h
  .cases h;rfl
  .rename_i a n c;cases f:Nat.beq n 0 || Nat.beq c 0 || Nat.beq c (N6+2)with
   | true=>rw[f]at h;cases h
   | false=>rw[f]at h;cases h;rfl
  .cases h
 .exact BP h
 .cases h
def A8b{P:Program}{fr:Fr}{m m':Mem}{o:Op}(h:opM P fr m o=some (v,m')):m'.lg=m.lg:=by
 unfold opM at h;split at h
 .cases h;rfl
 .cases h;rfl
 .unfold SJ at h;split at h<;>cases h<;>rfl
 .unfold GL at h;split at h
  .exact aR h
  .cases h
 .unfold A03 at h;obtain⟨_,h⟩:=A3 h;exact aR h
 .exact q9 h
 .exact BF h
 .unfold SK at h;split at h
  .exact q9 h
  .cases h
 .unfold GJ at h;split at h
  .obtain⟨h,_⟩:=nQ h;exact VD h
  .cases h
 .unfold A02 at h;split at h<;>cases h<;>rfl
 .unfold A31 at h;rename_i op t x y j;cases f:AA op with
  | true=>rw[f]at h;simp only[E6]at h;obtain⟨_,h⟩:=A3 h;exact q9 h
  | false=>rw[f]at h;exact q9 h
 .exact q9 h
 .exact A2e h
 .unfold GK at h;split at h
  .split at h
   .cases h
   .obtain⟨_,h⟩:=A3 h;cases h;rfl
  .cases h
 .cases h;rfl
 .exact CE h
 .exact q9 h
 .exact q9 h
 .exact q9 h
 .exact q9 h
 .exact q9 h
 .unfold lQ at h;split at h
  .exact q9 h
  .cases h
 .exact NE h
 .cases h
def H9{m m':Mem}{t:Nat}{op:LOp}(h:U5 m t op xs=some (v,m')):m.lg.le m'.lg:=by
 obtain⟨_,rfl⟩:=jF h;obtain⟨H,n,W,hi,l⟩:=m;exact⟨[_],rfl⟩
def K2(m m':Mem):Prop:=∃ lg,m'=m.wLg lg
def K2.refl(m:Mem):K2 m m:=⟨m.lg,by cases m;rfl⟩
def K2.trans{a b c:Mem}(h:K2 a b)(k:K2 b c):K2 a c:=by
 obtain⟨l,rfl⟩:=h;obtain⟨l2,rfl⟩:=k;exact⟨l2,by cases a;rfl⟩
def H6{m m':Mem}{t:Nat}{op:LOp}(h:U5 m t op xs=some (v,m')):K2 m m':=⟨_,(jF h).2⟩
section
variable {P:Program} {base:Nat} {ρ:Ren} {m m':Mem} {w:World}
def NZ{a b:Value}(h:wZ m c a b=some (v,m')):m.lg.le m'.lg/\K2 m m':=by
 obtain⟨H,n,W,hi,lg⟩:=m;unfold wZ at h;simp only at h;split at h
 .rename_i j f;cases h;exact⟨fI f,⟨_,rfl⟩⟩
 .rename_i j f;cases h;exact⟨fI f,⟨_,rfl⟩⟩
 .cases h
def VB{a b:Value}(h:oV P m op t a b=some (v,m')):m.lg.le m'.lg/\K2 m m':=by
 unfold oV at h;simp only at h;cases h1:(Nat.blt (G8 a) 8 && Nat.blt (G8 b) 8) || (Nat.beq (G8 a) 9 && Nat.beq (G8 b) 9)with
 | true=>rw[h1]at h;exact⟨H9 h,H6 h⟩
 | false =>
   rw[h1]at h;simp only[E3]at h;obtain⟨_,h⟩:=A3 h;exact⟨H9 h,H6 h⟩
def YB{x y:Operand}{a b:Value}(h:JJ P m op t x y a b=some (v,m')):m.lg.le m'.lg/\K2 m m':=by
 unfold JJ at h;obtain⟨_,h⟩:=A3 h;split at h
 .exact⟨H9 h,H6 h⟩
 .split at h
  .rename_i m1 h1;exact⟨(H9 h1).trans (H9 h),(H6 h1).trans (H6 h)⟩
  .cases h
 .cases h
def JI{i:Value}(h:l6 P m t x i=some (v,m')):m.lg.le m'.lg/\K2 m m':=by
 unfold l6 at h;cases f:!(Nat.blt (G8 i) 8)with
 | true=>rw[f]at h;cases h
 | false =>
   rw[f]at h;simp only[E3]at h;split at h
   .obtain⟨_,h⟩:=A3 h;exact⟨H9 h,H6 h⟩
   .split at h
    .obtain⟨_,h⟩:=A3 h;exact⟨H9 h,H6 h⟩
    .obtain⟨_,h⟩:=A3 h;exact⟨H9 h,H6 h⟩
    .cases h
   .cases h
def JG(h:lF P m t x lo hi mx=some (v,m')):m.lg.le m'.lg/\K2 m m':=by
 unfold lF at h;split at h
 .obtain⟨_,h⟩:=A3 h;split at h
  .cases h;exact⟨.refl _,.refl _⟩
  .obtain⟨_,h⟩:=A3 h;exact⟨H9 h,H6 h⟩
  .obtain⟨_,h⟩:=A3 h;exact⟨H9 h,H6 h⟩
  .obtain⟨_,h⟩:=A3 h;exact⟨H9 h,H6 h⟩
 .cases h
def XY{op:UnOp}(h:JE m op x=some (v,m')):m.lg.le m'.lg/\K2 m m':=by
 unfold JE at h;simp only at h;split at h
 .obtain⟨_,h⟩:=A3 h;exact⟨H9 h,H6 h⟩
 .obtain⟨_,h⟩:=A3 h;exact⟨H9 h,H6 h⟩
def OD(h:qN P m s t x=some (v,m')):m.lg.le m'.lg/\K2 m m':=by
 unfold qN at h;split at h
 .obtain⟨_,h⟩:=A3 h;exact⟨H9 h,H6 h⟩
 .obtain⟨_,h⟩:=A3 h;cases h;exact⟨.refl _,.refl _⟩
 .cases h
def BY(h:eQ P m b vs tys=some (v,m')):m.lg.le m'.lg/\K2 m m':=by
 unfold eQ at h;split at h
 .split at h
  .obtain⟨_,h⟩:=A3 h;exact⟨H9 h,H6 h⟩
  .cases h
 .obtain⟨_,h⟩:=A3 h;exact⟨H9 h,H6 h⟩
 .obtain⟨_,h⟩:=A3 h;exact⟨H9 h,H6 h⟩
 .cases h
def TM{s n:Nat}{i:Value}(h:WL m a s n i=some (v,m')):m.lg.le m'.lg/\K2 m m':=by
 unfold WL at h;cases q:!(Nat.blt (G8 i) 8)with
 | true=>rw[q]at h;cases h
 | false =>
   rw[q]at h;simp only[E3]at h;split at h
   .rename_i b H k W hi lg j;split at h
    .rename_i f A;cases h;have h1:=H9 j;obtain⟨l1,C⟩:=H6 j;refine⟨h1.trans (fI A),f,?_⟩;obtain⟨H0,n0,D,B,l0⟩:=m;cases C;rfl
    .cases h
   .cases h
def BU{i:Value}(h:eO P m t x i=some (v,m')):m.lg.le m'.lg/\K2 m m':=by
 unfold eO at h;split at h
 .split at h
  .exact TM h
  .cases h
 .split at h
  .generalize f:Nat.beq _ (N6+2)=q at h;cases q with
   | true=>cases h
   | false=>exact TM h
  .cases h
 .cases h
def BW(h:eP P m s x i=some (v,m')):m.lg.le m'.lg/\K2 m m':=by
 unfold eP at h;split at h
 .split at h
  .split at h
   .split at h
    .cases h;exact⟨.refl _,.refl _⟩
    .cases h
   .cases h
  .cases h
 .cases h
def fW{cs:D3}{s n:Nat}{i:Value}:∀ {k o:Nat} {m m':Mem} {r:D3},cS m cs s n i o k=some (r,m')->m.lg.le m'.lg/\K2 m m'
 | 0,o,m,m',r,h=>by cases h;exact⟨.refl _,.refl _⟩
 | k+1,o,m,m',r,h=>by
   unfold cS at h;split at h
   .obtain⟨_,h⟩:=A3 h;split at h
    .rename_i m1 h1;split at h
     .rename_i f;cases h
      have:=fW f;exact⟨(H9 h1).trans this.1,(H6 h1).trans this.2⟩
     .cases h
    .cases h
   .cases h
def OB(h:qM P m t x=some (v,m')):m.lg.le m'.lg/\K2 m m':=by
 unfold qM at h;split at h
 .split at h
  .split at h
   .split at h
    .rename_i h1;cases h;exact fW h1
    .cases h
   .cases h
  .split at h
   .split at h
    .rename_i h1;cases h;exact fW h1
    .cases h
   .cases h
  .cases h
 .cases h
def RC{fr:Fr}{o:Op}(h:XZ P fr m o=some (v,m')):m.lg.le m'.lg/\K2 m m':=by
 unfold XZ at h;split at h
 .exact NZ h
 .split at h
  .rename_i r hr;cases h;exact VB hr
  .exact YB h
 .exact XY h
 .exact OD h
 .exact JG h
 .exact JI h
 .exact BU h
 .exact BW h
 .exact OB h
 .exact BY h
 .cases h
def sA{j k:IntKind}(h:iH j=iH k):j=k:=by cases j<;>cases k<;>first|rfl|(simp only[iH]at h;omega)
def VA{x y:Operand}{a b:Value}(h:oV P m op t a b=some (v,m'))(G:VR ρ a a')(F:VR ρ b b')(K:Sat m'.lg)(w:World) :
  ∃ r,(do eqGuard op t x y a' b';binOp op t a' b':Sem Value).run P w=.ok r w/\VR ρ v r:=by
 have fin:∀ {r:Value} {p q:Value},yN p=true->yN q=true->sZ P op t p q=some r->a'=p->b'=q->(do eqGuard op t x y a' b';binOp op t a' b':Sem Value).run P w=.ok r w:=fun{r p q} hp L hr f C=>by
  subst f;subst C;have v1:VR ρ a' a':=.pure (by cases a'<;>simp[yN]at hp<;>rfl);have v2:VR ρ b' b':=.pure (by cases b'<;>simp[yN]at L<;>rfl);have g:mE P t x y a' b'=true:=by
   cases a'<;>simp[yN]at hp<;>cases b'<;>simp[yN]at L<;>rfl
  have N:=sL (op:=op) (fun _=>g) v1 v2 w;obtain⟨A,_⟩:=xS hr v1 v2 w;simp[A4,N,A,Result.andThen]
 unfold oV at h;simp only at h;cases h1:(Nat.blt (G8 a) 8 && Nat.blt (G8 b) 8) || (Nat.beq (G8 a) 9 && Nat.beq (G8 b) 9)with
 | true =>
   rw[h1]at h;obtain⟨u,f,C,r,B,H,Q⟩:=N2 h K;have I:G4 u<10:=by rw[C];exact Q
   refine⟨r,?_,H ρ⟩;rcases J2 _ _▸h1 with h1|h1
   .obtain⟨D,E⟩:=B7 h1;obtain⟨k,n,rfl,f1,_⟩:=N4 G (A1 D);obtain⟨j,R,rfl,f2,_⟩:=N4 F (A1 E);simp only[C3,F8,f1,f2,evU,evB]at f;subst f;obtain⟨O,g1,g2⟩:=GI I;rw[B]at g2;cases g2;exact fin rfl rfl (by unfold sZ;exact g1) rfl rfl
   .obtain⟨D,E⟩:=B7 h1;obtain⟨s1,rfl,f1⟩:=o7 G (A0 D);obtain⟨s2,rfl,f2⟩:=o7 F (A0 E);simp only[C3,F8,f1,f2,evU,evB]at f;subst f;obtain⟨O,g1,g2⟩:=GI I;rw[B]at g2;cases g2;exact fin rfl rfl (by unfold sZ;exact g1) rfl rfl
 | false =>
   rw[h1]at h;simp only[E3]at h;obtain⟨A,h⟩:=A3 h;obtain⟨A,M⟩:=B7 A;obtain⟨A,J⟩:=B7 A;obtain⟨A,h3⟩:=B7 A;have hu:P.underlying t=some .bool:=by
    split at M
    .assumption
    .cases M
   obtain⟨u,f,C,r,B,H,_⟩:=N2 h K;refine⟨r,?_,H ρ⟩;obtain⟨p,rfl,f1⟩:=hY G (A0 A);obtain⟨q,rfl,f2⟩:=hY F (A0 h3);simp only[C3,F8,f1,f2,evU,evB]at f;cases op<;>simp only[AA]at J<;>first
    | cases J
    | skip
   .subst f;cases B;exact fin rfl rfl (by simp[sZ,DH,eqM,hu]) rfl rfl
   .subst f;cases B;exact fin rfl rfl (by simp[sZ,DH,eqM,hu]) rfl rfl
def vY(e:Bool)(f:∃ cs,a'=.agg cs):binOp (bif e then .eql else .neq) t a' b'=(do let r <- Op.equal t a' b';pure (.bool (bif e then r else !r))):=by
 obtain⟨cs,rfl⟩:=f;cases e<;>cases b'<;>rfl
def YA{x y:Operand}{a b:Value}(h:JJ P m op t x y a b=some (v,m'))(C:VR ρ a a')(M:VR ρ b b')(j:oV P m op t a b=none)(N:Sat m'.lg)(w:World) :
  ∃ r,(do eqGuard op t x y a' b';binOp op t a' b':Sem Value).run P w=.ok r w/\VR ρ v r:=by
 unfold JJ at h;obtain⟨R,h⟩:=A3 h;have F:=sL (op:=op) (fun _=>R) C M w;have q:∀ {l},eqS P 20 t a b=some l->(op=.eql∨op=.neq)->∃ cs,a'=.agg cs:=fun{l} f L=>by
  unfold eqS at f;cases B:fB P t a b with
  | true =>
    unfold fB at B;unfold oV at j;simp only at j;split at B
    .rename_i hu;obtain⟨E,G⟩:=B7 B;rw[A0 E,A0 G,hu]at j;obtain⟨H,n,W,hi,⟨nx,pi,log⟩⟩:=m;rcases L with rfl|rfl<;>simp[AA,U5,F0,I1]at j
    .rename_i k hu;obtain⟨E,G⟩:=B7 B;have S:=M3 k;have U:Nat.blt (iH k) 8=true:=C7 S;rw[A0 E,A0 G,U]at j;obtain⟨H,n,W,hi,⟨nx,pi,log⟩⟩:=m;simp[U5,F0,I1]at j
    .obtain⟨E,G⟩:=B7 B;rw[A0 E,A0 G]at j;obtain⟨H,n,W,hi,⟨nx,pi,log⟩⟩:=m;simp[U5,F0,I1]at j
    .cases B
  | false =>
    rw[B]at f;simp only[E3]at f;split at f
    .obtain⟨cs',rfl,_⟩:=W1 C;exact⟨_,rfl⟩
    .obtain⟨cs',rfl,_⟩:=W1 C;exact⟨_,rfl⟩
    .cases f
 split at h
 .rename_i l f _;obtain⟨u,A,T,r,I,O,_⟩:=N2 h N;refine⟨r,?_,O ρ⟩;simp only[evU]at A;split at A
  .rename_i z J;subst A;cases I;have he:(Op.equal t a' b').run P w=.ok z w:=QE 20 t a b a' b' l z f J C M _ F3 w;have D:=vY (t:=t) (b':=b') true (q f (.inl rfl));simp only[E6]at D;rw[D];simp[A4,F,he,Result.andThen]
  .subst A;cases I
 .rename_i l f _;split at h
  .rename_i hh m1 h1;have K:Sat m1.lg:=S4.le N (H9 h);obtain⟨V,f1,f2,r1,f3,f4,_⟩:=N2 h1 K;obtain⟨u,A,T,r,I,O,_⟩:=N2 h N;refine⟨r,?_,O ρ⟩;simp only[evU]at f1;split at f1
   .rename_i z J;subst f1;cases f3;have hv:=aJ (ρ:=ρ) (f4 ρ) (by obtain⟨e,_⟩:=jF h1;rw[e];show 8<10;omega);have:E0 Ora.env hh=.bool z:=by
     cases hu:E0 Ora.env hh<;>rw[hu]at hv<;>first|(cases hv.1;done)|skip
     all_goals (obtain⟨Q,_⟩:=hv;cases Q;rfl)
    simp only[C3,F8,this,evU,ev1,unM,ofV]at A;subst A;cases I;have he:(Op.equal t a' b').run P w=.ok z w:=QE 20 t a b a' b' l z f J C M _ F3 w;have D:=vY (t:=t) (b':=b') false (q f (.inr rfl));simp only[E3]at D;rw[D];simp[A4,F,he,Result.andThen]
   .subst f1;cases f3
  .cases h
 .cases h
end
end
end Go.Sx
