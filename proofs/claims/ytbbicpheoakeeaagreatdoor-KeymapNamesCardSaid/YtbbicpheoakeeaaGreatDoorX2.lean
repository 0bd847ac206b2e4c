import Derived.Test.YtbbicpheoakeeaaGreatDoorX1
import Derived.Laws.BytesString
set_option linter.all false
set_option maxRecDepth 100000
set_option maxHeartbeats 4000000
namespace Go.Sx
variable {e pt s t t2 ty:TypeId}{k:Nat->Value}{a' b' c c' p p' u v v' x x' y y' z:Value}{new new' old' vs vs' xs:C9}{d d2:TypeDesc}{a:Addr}{inf:TypeInfo}{ab':AB}{l l':Loc}{r:V9}{i:Nat}{op:BinOp}{tys:List TypeId}{b:Builtin}{hi lo mx o:Q0}{g:Operand->Value}
section
open Go
variable [Ora]
def MV(a b:Nat)(h:b<a):Builtin.nextslicecap a b<=3*a+4000:=by
 have grow:∀ r c,Builtin.growBy a r c<=max (c) (2*a+800):=by
  intro r;induction r with
  | zero=>intro c;simp only[Builtin.growBy];exact Nat.le_max_left _ _
  | succ r f =>
    intro c;simp only[Builtin.growBy];split
    .exact Nat.le_max_left _ _
    .have:=f (c+(c+768) / 4);refine B8 this ?_;rw[Nat.max_le];constructor
     .refine B8 ?_ (Nat.le_max_right _ _);omega
     .exact Nat.le_max_right _ _
 unfold Builtin.nextslicecap;split
 .omega
 .split
  .omega
  .have:=grow 4 b;refine B8 this ?_;rw[Nat.max_le];omega
section
variable {P:Program} {base:Nat} {ρ:Ren} {m m':Mem} {w:World}
def bM{w wd:World}(h:wd.heap=w.heap)(a:Addr):wd.cell? a=w.cell? a:=by simp[World.cell?,h]
def vM(ρ:Ren):∀ l:List UInt8,LR ρ (O8 l) (O8 l)
 | []=>.nil
 | b::r=>.cons (.pure rfl) (vM ρ r)
def tX{s k:Nat}(h:HR P base ρ m.H w)(f:eF m s y=some (k,new))(A:VR ρ y y') :
  (∀ wd,(Builtin.lenOf y').run P wd=.ok k wd)/\∃ new',LR ρ new new'/\∀ wd:World,wd.heap=w.heap->(Builtin.firstCells s k y').run P wd=.ok ⟨new'⟩ wd:=by
 unfold eF at f;split at f
 .rename_i n c;obtain⟨h1,q⟩:=A3 f;have h1:=A0 h1;subst h1;cases q;cases P1 A;exact⟨fun _=>rfl,[],.nil,fun _ _=>rfl⟩
 .rename_i a n c;split at f
  .rename_i cs hr;cases f;rcases O5 A with⟨l,D,_,_,rfl⟩|⟨l,c',D,_,_,_,_,rfl⟩|⟨a',c',_,rfl,_,rfl⟩
   .obtain⟨B,h1,q,h3⟩:=Z2 h hr D;exact⟨fun _=>rfl,B,h1,fun wd hw=>K0 q fun j v C=>by rw[bM hw];exact h3 j v C⟩
   .obtain⟨B,h1,q,h3⟩:=Z2 h hr D;exact⟨fun _=>rfl,B,h1,fun wd hw=>K0 q fun j v C=>by rw[bM hw];exact h3 j v C⟩
   .have:new=[]:=by
     unfold s8 at hr;split at hr
     .have:=(iZ hr).2;simp at this;exact this
     .cases hr
    subst this;refine⟨fun _=>rfl,[],.nil,fun wd _=>?_⟩;simp[Builtin.firstCells,loadCells,loadCellsFrom]
  .cases f
 .rename_i b;obtain⟨_,f⟩:=A3 f;cases f;cases U5 A;refine⟨fun _=>rfl,O8 b.data.toList,?_,fun wd _=>?_⟩
  .exact vM _ _
  .have e:((b.extract 0 b.size).data.map fun b=>Value.int .u8 b.toNat)=⟨O8 b.data.toList⟩:=by
    apply I7;simp[O8]
   show(pure ((b.extract 0 b.size).data.map fun b=>Value.int .u8 b.toNat):Sem V9).run P wd=_;rw[e];rfl
 .cases f
def A51(h:cQ d=true):(∃ e,d=.slice e)∨d=.string:=by cases d<;>first|cases h;done|exact .inl ⟨_,rfl⟩|exact .inr rfl
def gU{n k c:Nat}{a:Option Addr}(hu:P.underlying t=some (.slice e))(C:P.underlying t2=some d2)(E:cQ d2=true)
  (hi:P.info? e=some inf) (I:∀ w,(zeroValue e).run P w=.ok z w) (hlen:∀ wd,(Builtin.lenOf x').run P wd=.ok k wd)
  (hold:∀ wd:World,wd.heap=w.heap->(Builtin.firstCells inf.size n (.slice a n c)).run P wd=.ok ⟨old'⟩ wd) (A:∀ wd:World,wd.heap=w.heap->(Builtin.firstCells inf.size k x').run P wd=.ok ⟨new'⟩ wd)
  (F:¬ n+k<=c) (K:(3*(n+k)+4000)*inf.bytes<=281474976710656) (hm:n+k<=1000000000) :
  ∃ nc,n+k<=nc/\(Builtin.append_ #[t,t2] ty #[.slice a n c,x']).run P w=.ok (.slice (some ⟨w.heap.size,0,none⟩) (n+k) nc) { w.drew with heap:=w.heap.push (.cells (⟨old'⟩++⟨new'⟩++Builtin.zeroCells z.cells (nc-(n+k))) e (0,0)) }:=by
 have H:G5 P e=some inf.size:=by simp[G5,hi]
 have f:Builtin.nextslicecap (n+k) c*inf.bytes<=281474976710656:=by
  have:=F4 inf.bytes (MV (n+k) c A2);omega
 let q:Question:=.appendCap (n+k) c e
 let nc:=q.cut (w.tape w.drawn q)
 have B:n+k<=nc:=by show n+k<=(n+k)+_;omega
 refine⟨nc,B,?_⟩;have D:(choose q).run P w=.ok nc w.drew:=by
  simp only[choose,Sem.run];rw[A6 (by simp[q,Question.forced])];rfl
 have h:∀ k w,(askRoom k).run P w=.ok () w:=fun k w=>by unfold askRoom;split<;>rfl
 unfold Builtin.append_;rcases A51 E with⟨J,rfl⟩|rfl
 all_goals simp only[I3,Q2,Q3,A4,C8 hu,C8 C,Result.andThen,K4 H,Sem.run_pure,J3,if_false,hlen]
 all_goals
  have j:¬ (((n+k:Nat):Int)>IntKind.i64.max):=by simp[IntKind.max,IntKind.bits,IntKind.signed];omega
  simp only[A6 F,j,false_and,if_false,A4,Result.andThen,V0 hi];rw[A6 (show ¬ (Builtin.nextslicecap (n+k) c*inf.bytes>2 ^ 48) by simpa using f)];have G:w.drew.heap=w.heap:=rfl;simp only[A4,Sem.run_pure,Result.andThen,show(choose (.appendCap (n+k) c e)).run P w=.ok nc w.drew from D,h,hold _ G,A _ G,I,V0 hi,Bool.not_false,if_true];rfl
def mJ{n k c:Nat}{w':World}(hu:P.underlying t=some (.slice e))(q:P.underlying t2=some d2)(h:cQ d2=true)
  (hi:P.info? e=some inf) (hlen:∀ wd,(Builtin.lenOf x').run P wd=.ok k wd) (f:(Builtin.firstCells inf.size k x').run P w=.ok ⟨new'⟩ w)
  (hle:n+k<=c) (j:(storeCells (a.add (n*inf.size)) new').run P w=.ok () w') :
  (Builtin.append_ #[t,t2] ty #[.slice (some a) n c,x']).run P w=.ok (.slice (some a) (n+k) c) w':=by
 have A:G5 P e=some inf.size:=by simp[G5,hi]
 unfold Builtin.append_;rcases A51 h with⟨B,rfl⟩|rfl
 all_goals simp only[I3,Q2,Q3,A4,C8 hu,C8 q,Result.andThen,K4 A,Sem.run_pure,J3,if_false,hlen]
 all_goals simp[A9 hle,A4,f,Result.andThen,j]
def tL(hu:P.underlying t=some (.slice e))(j:P.underlying t2=some d2)(n:cQ d2=true)
  (hi:P.info? e=some inf) (hlen:∀ wd,(Builtin.lenOf x').run P wd=.ok 0 wd) (f:(Builtin.firstCells inf.size 0 x').run P w=.ok #[] w) :
  (Builtin.append_ #[t,t2] ty #[.slice none 0 0,x']).run P w=.ok (.slice none 0 0) w:=by
 have q:G5 P e=some inf.size:=by simp[G5,hi]
 unfold Builtin.append_;rcases A51 n with⟨h,rfl⟩|rfl
 all_goals simp only[I3,Q2,Q3,A4,C8 hu,C8 j,Result.andThen,K4 q,Sem.run_pure,J3,if_false,hlen]
 all_goals simp[A4,f,Result.andThen]
def St.kill{ab:AB}{id:Nat}(h:HR P base ρ m.H w)(hle:id<=H5)(I:Hp.get m.H id=some ab)(B:ab.rw=true):St P base ρ ρ m (jQ m id) w w:=by
 rw[g8];refine⟨fun _ _ h=>h,fun b k h1 A=>(by rw[h1]at A;cases A),A7 _,A7 _,fun h=>h,h.sub fun j f a n=>?_,fun b J=>C3 _ J,fun b h1 A k C=>?_,fun k C E=>rfl,A7 _,⟨rfl,rfl,rfl⟩,fun b k h1 A=>(by rw[h1]at A;cases A),fun j f D K=>?_,fun k ⟨j,a,q,f,n,G,F⟩=>.inr ⟨j,a,q,f,?_,G,F⟩⟩
 .rw[E8 _ _ _ _ hle f]at n;by_cases e:j=id
  .rw[A9 e]at n;cases n
  .rw[A6 e]at n;exact n
 .rcases B3.1 h1 with rfl|h1
  .exact⟨ab,I,B⟩
  .exact absurd h1 A
 .rw[E8 _ _ _ _ hle f,A6];intro e;subst e;exact D B2
 .have n:Hp.get (m.H.set id none) j=some a:=n;rw[E8 _ _ _ _ hle f]at n;by_cases e:j=id
  .rw[A9 e]at n;cases n
  .rw[A6 e]at n;exact n
def St.grow{ab:AB}{id:Nat}{w':World}(h:HR P base ρ m.H w)(hle:id<=H5)(hg:Hp.get m.H id=some ab)(D:ab.rw=true)(W:ρ id=some l)(E:l.on=true)
  (hn:Y6 (jQ m id) ab' k=some (v,m')) (hf:J9 ρ m.n m'.hi)
  (ho:w'.os=w.os/\w'.tape=w.tape/\w'.output=w.output) (Z:w'.heap.size=w.heap.size) (X:∀ k,k≠l.blk->w'.heap[k]? = w.heap[k]?) (hb:BR P (upd ρ m.n l) ab' l w') (ay:ab'≠.frz:=by intro h;cases h) :
  v=k m.n/\St P base ρ (upd ρ m.n l) m m' w w':=by
 rw[g8]at hn;obtain⟨T,hv,rfl⟩:=L3 hn;have B:ρ m.n=none:=hf m.n (A7 _) (K7 _ _).2;have C:=W5 (l:=l) B;obtain⟨O,h3⟩:=h.atl W hg;have Q:∀ k,Tc ab' l k->k=l.blk:=fun k X=>by
  rcases X with⟨_,_,rfl⟩|⟨rfl,_⟩
  .rfl
  .exact absurd rfl ay
 have ax:id≠m.n:=fun e=>by subst e;rw[W]at B;cases B
 have A:∀ i,i<=H5->Hp.get ((m.H.set id none).set m.n (some ab')) i=if i=m.n then some ab' else if i=id then none else Hp.get m.H i:=fun i hi=>by
  rw[E8 _ _ _ _ T hi,E8 _ _ _ _ hle hi]
 refine⟨hv,C,fun b q h1 O=>?_,Y9 _,(K7 _ _).1,fun _=>Y0 (K7 _ _).2,⟨fun b q F=>?_,fun i hi a f=>?_⟩,fun b hb=>C3 _ hb,fun b h1 O q F=>?_,fun q F Y=>X q ?_,by rw[Z];exact A7 _,ho,fun b q h1 O _=>?_,fun i hi h4 U=>?_,fun k ⟨i,a,q,hi,f,F,ht⟩=>.inr ?_⟩
 .obtain⟨rfl,rfl⟩:=U3 h1 O;exact⟨A7 _,I9 _⟩
 .cases h0:ρ b with
  | some q0 =>
    rw[C b q0 h0]at F
    have:=A8 F;subst this;exact h.dom b q0 h0
  | none=>obtain⟨rfl,rfl⟩:=U3 F h0;exact T
 .have f:Hp.get ((m.H.set id none).set m.n (some ab')) i=some a:=f;rw[A i hi]at f;have V:∀ j,j<=H5->∀ J l2,Hp.get ((m.H.set id none).set m.n (some ab')) j=some J->upd ρ m.n l j=some l2->Tc J l2 l.blk->j=m.n:=fun j K J l2 g1 g2 g3=>by
   rw[A j K]at g1;by_cases e2:j=m.n
   .exact e2
   .rw[A6 e2]at g1;unfold upd at g2;rw[A6 e2]at g2;by_cases I:j=id
    .rw[A9 I]at g1;cases g1
    .rw[A6 I]at g1;exact absurd ((h3 D E).2 j K J l2 g1 g2 g3) I
  by_cases e:i=m.n
  .rw[A9 e]at f;have f:=A8 f;subst f;subst e;exact⟨l,L5 _ _ _,hb,fun _ _=>⟨(h3 D E).1,V⟩⟩
  .rw[A6 e]at f;by_cases I:i=id
   .rw[A9 I]at f;cases f
   .rw[A6 I]at f;obtain⟨l2,g1,g2,g3⟩:=h.at_ i hi a f;have R:∀ k,Tc a l2 k->k≠l.blk:=fun k M hh=>I ((h3 D E).2 i hi a l2 f g1 (hh▸M))
    refine⟨l2,C _ _ g1,g2.mono C (fun k M=>X _ (R k M)),fun hr N=>⟨(g3 hr N).1,fun G L S l3 f1 f2 f3=>?_⟩⟩;have f1:Hp.get ((m.H.set id none).set m.n (some ab')) G=some S:=f1;rw[A G L]at f1;by_cases e4:G=m.n
    .subst e4;rw[L5]at f2
     have:=A8 f2;subst this;rw[A9 rfl]at f1;have f1:=A8 f1;subst f1;exact absurd (Q _ f3) (R _ (.inl ⟨AB.rw_on hr,N,rfl⟩))
    .rw[A6 e4]at f1;unfold upd at f2;rw[A6 e4]at f2;by_cases e5:G=id
     .rw[A9 e5]at f1;cases f1
     .rw[A6 e5]at f1;exact(g3 hr N).2 G L S l3 f1 f2 f3
 .rcases B3.1 h1 with rfl|h1
  .exact⟨ab,hg,D⟩
  .exact absurd h1 O
 .exact fun e=>Y id B2 l W E e.symm
 .obtain⟨rfl,rfl⟩:=U3 h1 O;exact .inr ⟨id,B2,q,W,E,rfl⟩
 .have az:=A i hi;show Hp.get ((m.H.set id none).set m.n (some ab')) i=_;rw[az,A6,A6]
  .intro e;subst e;exact h4 B2
  .intro e;subst e;rcases U with U|U
   .omega
   .have U:upN m.hi m.n<=m.n:=U
    have:=(K7 m.hi m.n).2;omega
 .have f:Hp.get ((m.H.set id none).set m.n (some ab')) i=some a:=f;rw[A i hi]at f;by_cases e:i=m.n
  .rw[A9 e]at f;have f:=A8 f;subst f;subst e;rw[L5]at F;have F:=A8 F;subst F;exact⟨id,ab,l,hle,hg,W,AB.rw_fr D,.inl ⟨AB.rw_on D,E,(Q k ht.2).symm⟩⟩
  .rw[A6 e]at f;unfold upd at F;rw[A6 e]at F;by_cases I:i=id
   .rw[A9 I]at f;cases f
   .rw[A6 I]at f;exact⟨i,a,q,hi,f,F,ht⟩
def ED{s k:Nat}(h:HR P base ρ m.H w)(f:eF m s y=some (k,new))(n:z.cells.size=s):new.length=k*s:=by
 unfold eF at f;split at f
 .obtain⟨_,q⟩:=A3 f;cases q;simp
 .split at f
  .rename_i cs hr;cases f;unfold s8 at hr;split at hr
   .exact(iZ hr).2
   .cases hr
  .cases f
 .rename_i b;obtain⟨j,f⟩:=A3 f;have j:=A0 j;subst j;cases f;simp[O8]
 .cases f
def JO(h:new'[i]? = some u):(({ toList:=[] }:Array Value)++⟨new'⟩++r)[i]? = some u:=by
 have f:=(B0.1 h).1;rw[S4 (by simp;exact f)]
 simpa using h
def dP(h:(old'++new')[i]? = some u):(({ toList:=old' }:Array Value)++⟨new'⟩++r)[i]? = some u:=by
 have f:=(B0.1 h).1;rw[S4 (by simpa using f)]
 simpa using h
def dO{s k n nc:Nat}(h1:new'.length=k*s)(f:n+k<=nc)(j:z.cells.size=s)(q:old'.length=n*s) :
  nc*s<=(({ toList:=old' }:Array Value)++⟨new'⟩++Builtin.zeroCells z.cells (nc-(n+k))).size:=by
 simp[Builtin.zeroCells,q,h1,j];rw[<- H4,<- H4];exact F4 _ A2
def OG(h:HR P base ρ m.H w)(hb:base<=w.heap.size)(f:rQ P m t t2 x y=some (v,m'))(hf:J9 ρ m.n m'.hi)(hx:VR ρ x x')(hy:VR ρ y y') :
  VOk P base ρ m w (Builtin.append_ #[t,t2] ty #[x',y']) v m':=by
 unfold rQ at f;split at f
 .rename_i e d2 hu J;cases D:cQ d2 with
  | false=>rw[D]at f;cases f
  | true =>
  rw[D]at f;simp only[P7,D7]at f;split at f
  .rename_i inf a n c hi;split at f
   .rename_i k new z V hz;obtain⟨g1,f⟩:=A3 f;obtain⟨g1,g4⟩:=B4 g1;obtain⟨g1,g3⟩:=B4 g1;obtain⟨g1,g2⟩:=B4 g1;have g1:=A1 g1;have g2:=A1 g2;have g3:=A0 g3;obtain⟨hlen,new',G,I⟩:=tX h V hy;have W:∀ w,(zeroValue e).run P w=.ok z w:=fun w=>y4 hz w
    have O:new'.length=k*inf.size:=by rw[<- G.1];exact ED h V g3
    have aq:M5=9223372036854775808:=rfl;cases hk:Nat.beq k 0 with
    | true =>
      have hk:=A0 hk;subst hk;have ar:Nat.beq 0 0=true:=rfl;simp only[ar,E1]at f;have av:new'=[]:=G1.1 (by rw[O];simp);subst av;cases a with
      | none =>
        simp only at f;obtain⟨E,f⟩:=A3 f;obtain⟨E,F⟩:=B4 E;have E:=A0 E;have F:=A0 F;subst E;subst F;cases f;cases P1 hx;exact VOk.same h (tL hu J D hi hlen (I w rfl)) (.pure rfl)
      | some S =>
        simp only at f;obtain⟨E,f⟩:=A3 f;obtain⟨E,F⟩:=B4 E;have E:=A1 E;have F:=A1 F;cases f;rcases O5 hx with⟨l,U,Q,hc,rfl⟩|⟨l,c',U,Q,hc,hn,B,rfl⟩|⟨a',c',_,_,he,_⟩
        .exact VOk.same h (mJ hu J D hi hlen (I w rfl) A2 rfl) (by simpa using hx)
        .exact VOk.same h (mJ hu J D hi hlen (I w rfl) A2 rfl) (by simpa using hx)
        .omega
    | false =>
      have ah:k≠0:=fun e=>by subst e;cases hk
      simp only[hk,D7]at f;cases a with
      | none =>
        simp only at f;obtain⟨E,f⟩:=A3 f;obtain⟨E,F⟩:=B4 E;have E:=A0 E;have F:=A0 F;subst E;subst F;rw[H8]at f;cases P1 hx;obtain⟨nc,N,hr⟩:=gU (ty:=ty) (c:=0) (a:=none) (old':=[]) hu J D hi W hlen (fun _ _=>rfl) I A2 g1 g2;have al:∀ A,P.info? e=some A->nc*A.size<=(({ toList:=[] }:Array Value)++⟨new'⟩++Builtin.zeroCells z.cells (nc-(0+k))).size:=fun A M=>by
         rw[hi]at M;cases M;exact dO O N g3 (by simp)
        obtain⟨Z,e2,Y⟩:=dN (wd:=w.drew) (fz:=(0,0)) (cap:=nc) h hb f hf G (fun i u hi=>by
         show(({ toList:=[] }:Array Value)++⟨new'⟩++Builtin.zeroCells z.cells (nc-(0+k)))[i]? = some u;exact JO hi) NF.zero al ⟨rfl,rfl,rfl⟩ rfl
        refine⟨_,_,_,hr,?_,Y⟩;rw[Z,F1]
        have:=VR.op (ρ:=upd ρ m.n (lc w.heap.size 0 nc)) (b:=m.n) (o:=0) (n:=k) (m:=M5) (m':=nc) e2 (A7 _) A2 (fun _ _=>rfl)
        simpa using this
      | some S =>
        simp only at f;cases X:Nat.blt c M5 with
        | true =>
          have ak:c<M5:=A1 X;simp only[X,E1]at f;rcases O5 hx with⟨l,U,Q,hc,rfl⟩|⟨l,c',U,Q,hc,hn,B,rfl⟩|⟨a',c',_,_,he,_⟩
          .cases q:Nat.ble (n+k) c with
           | true =>
             have K:=A1 q;simp only[q,E1]at f;split at f
             .rename_i m2 hw;cases f;rw[dG]at hw;obtain⟨w',h1,M⟩:=oQ h hw U G;refine⟨_,ρ,w',mJ hu J D hi hlen (I w rfl) K ?_,?_,M⟩
              .rw[X5,show S.off+l.sh+n*inf.size=S.off+n*inf.size+l.sh by omega];exact h1
              .obtain⟨ab,ao,ai⟩:=S;simp only at Q;subst Q;exact .sl U hc
             .cases f
           | false =>
             have K:¬ n+k<=c:=fun hle=>by rw[show Nat.ble (n+k) c=true from C4 hle]at q;cases q
             simp only[q,D7]at f;split at f
             .rename_i old hold;rw[H8]at f;obtain⟨old',o1,o2,o3⟩:=Z2 h hold U;have L:∀ wd:World,wd.heap=w.heap->(Builtin.firstCells inf.size n (.slice (some ⟨l.blk,S.off+l.sh,none⟩) n c)).run P wd=.ok ⟨old'⟩ wd:=fun wd hw=>K0 o2 fun j u hj=>by rw[bM hw];exact o3 j u hj
              obtain⟨nc,N,hr⟩:=gU (ty:=ty) hu J D hi W hlen L I K g1 g2;obtain⟨Z,e2,Y⟩:=dN (wd:=w.drew) (fz:=(0,0)) (cap:=nc) (C:=⟨old'⟩++⟨new'⟩++Builtin.zeroCells z.cells (nc-(n+k))) h hb f hf (o1.append G) (fun i u hi=>dP hi) NF.zero
               (fun A M=>by rw[hi]at M;cases M;exact dO O N g3 o2) ⟨rfl,rfl,rfl⟩ rfl
              refine⟨_,_,_,hr,?_,Y⟩;rw[Z]
              have:=VR.op (ρ:=upd ρ m.n (lc w.heap.size 0 nc)) (b:=m.n) (o:=0) (n:=n+k) (m:=M5) (m':=nc) e2 (A7 _) N (fun _ _=>rfl)
              simpa using this
             .cases f
          .omega
          .omega
        | false =>
          simp only[X,D7]at f;obtain⟨q0,aw⟩:=A3 f;clear f;have f:=aw;clear aw;obtain⟨E,F⟩:=B4 q0;replace E:=A0 E;replace F:=A0 F;clear q0;split at f
          .rename_i cs T Q hg;obtain⟨p1,f⟩:=A3 f;rw[G8,G8,G8]at p1;obtain⟨⟨⟨p1,p2⟩,p3⟩,p4⟩:=p1;have p1:=A0 p1;have p2:=A0 p2;have p3:=A1 p3;have p4:S.block<m.n:=A1 p4;subst p2;rw[H8]at f;rcases O5 hx with⟨_,_,_,hc,_⟩|⟨l,c',U,_,_,hn,B,rfl⟩|⟨a',c',_,_,he,_⟩
           .omega
           .have B:=B E F;obtain⟨⟨ay,C,fz,T',z2,z3,z4⟩,z5⟩:=h.atl U hg;obtain⟨rfl,z6,z7⟩:=z4 rfl;have z8:=(z7 inf hi).2;have z7:=(z7 inf hi).1;by_cases q:n+k<=c'
            ·
             have ax:(n+k)*inf.size<=c'*inf.size:=F4 _ q;rw[H4]at ax;obtain⟨w',r1,r2,r3,r4,r5⟩:=Y4 (P:=P) (b:=l.blk) (o:=n*inf.size+l.sh) (fz:=fz) new' 0 C w z2 (EZ G g4) (by rw[O];subst B;omega) z6;obtain⟨Z,Y⟩:=St.grow (w':=w') (l:=l) h p3 hg rfl U ay f hf r2 r3 r5 (by
              have R:ρ m.n=none:=by
               rw[g8]at f;obtain⟨_,_,rfl⟩:=L3 f;exact hf m.n (A7 _) (K7 _ _).2
              refine⟨ay,_,fz,_,r4,fun i u hi=>?_,fun _=>⟨rfl,z6.sz (by simp[Y5]),fun A M=>⟨by simpa [Y5]using(by rw[hi]at M;cases M;exact z7:l.sh+l.cap*A.size<=C.size),by rw[hi]at M;cases M;exact z8⟩⟩⟩;show ∃ u',(Array.mk (cC C.toList (n*inf.size+l.sh+0) new'))[l.sh+i]? = some u'/\_;have ag:C.toList.length=C.size:=by simp
              rw[I3,kU _ _ _ _ (by rw[O];subst B;omega)];by_cases an:i<cs.length
              .rw[E9 an]at hi;rw[A6 A2];obtain⟨u',y1,y2⟩:=z3 i u hi;exact⟨u',by simpa using y1,y2.mono (W5 R)⟩
              .rw[E0 A2]at hi;have af:=(B0.1 hi).1;have aj:=G.1;rw[A9 A2];obtain⟨u',y1,y2⟩:=G.get hi;exact⟨u',by rw[show l.sh+i-(n*inf.size+l.sh+0)=i-cs.length by omega];exact y1,y2.mono (W5 R)⟩)
             refine⟨_,_,w',mJ (ty:=ty) hu J D hi hlen (I w rfl) q ?_,?_,Y⟩
             .rw[X5,F,show 0+l.sh+n*inf.size=n*inf.size+l.sh by omega];exact r1
             .rw[Z,F];exact .op (L5 _ _ _) (A7 _) q (fun _ _=>B)
            ·
             have az:=St.kill h p3 hg rfl;have au:J9 ρ (jQ m S.block).n m'.hi:=by rw[g8];exact hf
             obtain⟨old',o1,o2⟩:=dL (ρ:=ρ) (C:=C) (cs:=cs) (s:=l.sh) z3;have oL:old'.length=n*inf.size:=by rw[<- o1.1];exact p1
             have L:∀ wd:World,wd.heap=w.heap->(Builtin.firstCells inf.size n (.slice (some ⟨l.blk,S.off+l.sh,none⟩) n c')).run P wd=.ok ⟨old'⟩ wd:=fun wd hw=>K0 oL fun j u hj=>by
              rw[bM hw,F]
              have:=o2 j u hj;simp[World.cell?,z2,this]
             obtain⟨nc,N,hr⟩:=gU (ty:=ty) hu J D hi W hlen L I q g1 g2;obtain⟨Z,e2,Y⟩:=dN (wd:=w.drew) (fz:=(0,0)) (cap:=nc) (C:=⟨old'⟩++⟨new'⟩++Builtin.zeroCells z.cells (nc-(n+k))) az.hr hb f au (o1.append G) (fun i u hi=>dP hi) NF.zero
              (fun A M=>by rw[hi]at M;cases M;exact dO O N g3 oL) ⟨rfl,rfl,rfl⟩ rfl
             refine⟨_,_,_,hr,?_,St.trans hf az Y⟩;rw[Z]
             have:=VR.op (ρ:=upd ρ (jQ m S.block).n (lc w.heap.size 0 nc)) (b:=(jQ m S.block).n) (o:=0) (n:=n+k) (m:=M5) (m':=nc) e2 (A7 _) N (fun _ _=>rfl)
             simpa using this
           .omega
          .cases f
   .cases f
  .cases f
 .cases f
end
end
section
open Go
variable [Ora]
section
variable {P:Program} {base:Nat} {ρ:Ren} {m m':Mem} {w:World}
def LN{op:UnOp}(h:unM op x=some v)(hx:VR ρ x x')(w:World):(Op.unary op x').run P w=.ok v w/\I1 v=true:=by
 unfold unM at h;split at h
 .cases J1 hx;cases h;exact⟨by simp[Op.unary,Op.intArith,y8],by simp[y8,I1]⟩
 .cases J1 hx;obtain⟨h1,f⟩:=aJ (P:=P) h w;exact⟨by simpa [Op.unary]using h1,f⟩
 .cases cF hx;cases h;exact⟨rfl,rfl⟩
 .cases h
def A3G(f:A7B P t x=some v)(hx:VR ρ x x')(w:World):(Builtin.cap_ ⟨t::tys⟩ ty #[x']).run P w=.ok v w/\I1 v=true:=by
 unfold A7B at f;split at f
 .rename_i hu;cases P1 hx;cases f;exact⟨by simp[Builtin.cap_,A4,C8 hu,Result.andThen,goInt],rfl⟩
 .rename_i hu;obtain⟨j,f⟩:=A3 f;have j:_<M5:=A1 j;cases f;rcases O5 hx with⟨l,_,_,_,rfl⟩|⟨l,c',_,_,_,_,_,rfl⟩|⟨a',c',_,_,he,_⟩
  .exact⟨by simp[Builtin.cap_,A4,C8 hu,Result.andThen,goInt],rfl⟩
  .omega
  .omega
 .cases f
def QQ(h:HR P base ρ m.H w)(f:ZF P m t x=some v)(hx:VR ρ x x'):(Builtin.len_ ⟨t::tys⟩ ty #[x']).run P w=.ok v w/\I1 v=true:=by
 unfold ZF at f;split at f
 .rename_i hu;cases U5 hx;cases f;refine⟨?_,rfl⟩;simp[Builtin.len_,A4,C8 hu,Result.andThen,goInt]
 .rename_i hu;cases f;refine⟨?_,rfl⟩;simp[Builtin.len_,A4,C8 hu,Result.andThen,goInt]
 .rename_i n c hu;cases f;refine⟨?_,rfl⟩;have j:∃ a' c',x'=.slice a' n c':=by
   cases hx with
   | pure _=>exact⟨_,_,rfl⟩
   | sl _ _=>exact⟨_,_,rfl⟩
   | op _ _ _ _=>exact⟨_,_,rfl⟩
   | opE _=>exact⟨_,_,rfl⟩
  obtain⟨a',c',rfl⟩:=j;simp[Builtin.len_,A4,C8 hu,Result.andThen,goInt]
 .rename_i hu;cases hx with|pure _=>?_
  cases f;refine⟨?_,rfl⟩;simp[Builtin.len_,A4,C8 hu,Result.andThen,goInt]
 .cases f
def QL{tys:Array TypeId}(f:A6Q vs=some v)(hx:LR ρ vs vs')(w:World):(Builtin.max_ tys ty ⟨vs'⟩).run P w=.ok v w/\I1 v=true:=by
 unfold A6Q at f;split at f
 .obtain⟨a',r1,rfl,h1,j⟩:=hx.tail;obtain⟨b',h,rfl,h3,n⟩:=j.tail;cases n.nil_inv;cases J1 h1;cases J1 h3;cases f;exact⟨by simp[Builtin.max_,Builtin.max2],rfl⟩
 .obtain⟨a',r1,rfl,h1,j⟩:=hx.tail;obtain⟨b',h,rfl,h3,n⟩:=j.tail;obtain⟨c',B,rfl,q,A⟩:=n.tail;cases A.nil_inv;rw[sR]at f;cases J1 h1;cases J1 h3;cases J1 q;cases f;exact⟨by simp[Builtin.max_,Builtin.max2],rfl⟩
 .cases f
def QJ{tys:Array TypeId}(f:A6P vs=some v)(hx:LR ρ vs vs')(w:World):(Builtin.min_ tys ty ⟨vs'⟩).run P w=.ok v w/\I1 v=true:=by
 unfold A6P at f;split at f
 .obtain⟨a',r1,rfl,h1,j⟩:=hx.tail;obtain⟨b',h,rfl,h3,n⟩:=j.tail;cases n.nil_inv;cases J1 h1;cases J1 h3;cases f;exact⟨by simp[Builtin.min_,Builtin.min2],rfl⟩
 .obtain⟨a',r1,rfl,h1,j⟩:=hx.tail;obtain⟨b',h,rfl,h3,n⟩:=j.tail;obtain⟨c',B,rfl,q,A⟩:=n.tail;cases A.nil_inv;rw[sR]at f;cases J1 h1;cases J1 h3;cases J1 q;cases f;exact⟨by simp[Builtin.min_,Builtin.min2],rfl⟩
 .cases f
def zX{tys:Array TypeId}(h:HR P base ρ m.H w)(q:iL m x=some (v,m'))(hx:VR ρ x x'):VOk P base ρ m w (Builtin.unsafeSliceData_ tys ty #[x']) v m':=by
 unfold iL at q;split at q
 .cases q;cases P1 hx;exact VOk.same h rfl (.pure rfl)
 .rename_i a n c;cases A:Nat.beq n 0 || Nat.beq c 0 || Nat.beq c (M5+2)with
  | true=>rw[A]at q;cases q
  | false =>
    rw[A]at q;simp only[D7,D2,L8]at q;obtain⟨rfl,rfl⟩:=q;simp only[Z0]at A;obtain⟨⟨E,B⟩,K⟩:=A;have E:n≠0:=fun e=>by subst e;cases E
    have B:c≠0:=fun e=>by subst e;cases B
    rcases O5 hx with⟨l,D,j,G,rfl⟩|⟨l,c',D,j,G,J,F,rfl⟩|⟨a',c',_,he,_,_⟩
    .refine VOk.same (v':=.pointer (some ⟨l.blk,a.off+l.sh,none⟩)) h ?_ ?_
     .have f:Builtin.unsafeSliceData_ tys ty #[.slice (some ⟨l.blk,a.off+l.sh,none⟩) n c]=(do
        if c≠0 then pure (.pointer (some ⟨l.blk,a.off+l.sh,none⟩))
        else if(<- viewAt l.blk).isSome then pure (.pointer (some ⟨l.blk,a.off+l.sh,none⟩))
        else pure (.pointer (some ⟨<- newObj (.view ⟨l.blk,a.off+l.sh,none⟩ (<- elemOf ty)),0,none⟩))):=rfl
      rw[f,A9 B];rfl
     .obtain⟨ab,I,C⟩:=a;simp only at j;subst j;exact .ptr D
    .refine VOk.same (v':=.pointer (some ⟨l.blk,a.off+l.sh,none⟩)) h ?_ ?_
     .have:c'≠0:=A2;have f:Builtin.unsafeSliceData_ tys ty #[.slice (some ⟨l.blk,a.off+l.sh,none⟩) n c']=(do
        if c'≠0 then pure (.pointer (some ⟨l.blk,a.off+l.sh,none⟩))
        else if(<- viewAt l.blk).isSome then pure (.pointer (some ⟨l.blk,a.off+l.sh,none⟩))
        else pure (.pointer (some ⟨<- newObj (.view ⟨l.blk,a.off+l.sh,none⟩ (<- elemOf ty)),0,none⟩))):=rfl
      rw[f,A9 this];rfl
     .obtain⟨ab,I,C⟩:=a;simp only at j;subst j;exact .ptr D
    .omega
 .cases q
def TR(h:HR P base ρ m.H w)(f:EB P m t x=some (v,m'))(hx:VR ρ x x'):VOk P base ρ m w (Instr.makeInterface t x') v m':=by
 unfold EB at f;split at f
 .rename_i d q;have n:(∀ ms,d≠.interface ms)->(Instr.makeInterface t x').run P w=.ok (.iface t x') w:=fun j=>by
   simp only[Instr.makeInterface,A4,C8 q,Result.andThen];cases d<;>first|rfl|exact absurd rfl (j _)
  split at f
  .cases f
  .rename_i j;obtain⟨_,f⟩:=A3 f;cases f;exact VOk.same h (n fun ms e=>j ms e) (.iface hx)
 .cases f
def A2J(j:YG m x=some (v,m'))(hx:VR ρ x x'):m'=m/\VR ρ v x'/\((∃ a,x'=.pointer (some a))∨∃ f a b,x'=.func (.func f) a b):=by
 unfold YG at j;split at j
 .cases j;obtain⟨l,_,_,rfl⟩:=O0 hx;exact⟨rfl,hx,.inl ⟨_,rfl⟩⟩
 .cases j;cases hx with
  | pure hp=>simp[I1]at hp
  | func _ _ _ _=>exact⟨rfl,by constructor<;>assumption,.inr ⟨_,_,_,rfl⟩⟩
 .cases j
def A03(h:HR P base ρ m.H w)(j:KI P m t x y=some (v,m'))(hx:VR ρ x x')(I:VR ρ y y'):VOk P base ρ m w (Builtin.copy_ ⟨t::tys⟩ ty #[x',y']) v m':=by
 unfold KI at j;split at j
 .rename_i e a n c hu;split at j
  .rename_i s U;split at j
   .rename_i k cs f;have O:∃ a' c',x'=.slice a' n c':=by
     cases hx with
     | pure _=>exact⟨_,_,rfl⟩
     | sl _ _=>exact⟨_,_,rfl⟩
     | op _ _ _ _=>exact⟨_,_,rfl⟩
     | opE _=>exact⟨_,_,rfl⟩
    obtain⟨a',c',rfl⟩:=O;have B:∃ L cs',(Builtin.lenOf y').run P w=.ok L w/\Nat.min L n=k/\LR ρ cs cs'/\(Builtin.firstCells s k y').run P w=.ok ⟨cs'⟩ w:=by
     split at f
     .rename_i N _;obtain⟨q,f⟩:=A3 f;have q:=A0 q;subst q;cases f;cases P1 I;exact⟨0,[],rfl,by simp,.nil,rfl⟩
     .rename_i b N Y;split at f
      .rename_i r hr;cases f;rcases O5 I with⟨l,D,_,_,rfl⟩|⟨l,c',D,_,_,_,_,rfl⟩|⟨a',c',_,rfl,_,rfl⟩
       .obtain⟨M,h1,C,h3⟩:=Z2 h hr D;exact⟨N,M,rfl,rfl,h1,K0 C h3⟩
       .obtain⟨M,h1,C,h3⟩:=Z2 h hr D;exact⟨N,M,rfl,rfl,h1,K0 C h3⟩
       .have:cs=[]:=by
         unfold s8 at hr;split at hr
         .have:=(iZ hr).2;simp at this;exact this
         .cases hr
        subst this;exact⟨0,[],rfl,rfl,.nil,by simp[Builtin.firstCells,loadCells,loadCellsFrom]⟩
      .cases f
     .rename_i b;cases f;cases U5 I;refine⟨b.size,O8 (b.data.toList.take (Nat.min b.size n)),rfl,rfl,vM _ _,?_⟩;have e:((b.extract 0 (Nat.min b.size n)).data.map fun b=>Value.int .u8 b.toNat)=⟨O8 (b.data.toList.take (Nat.min b.size n))⟩:=by
       apply I7;simp[O8,gD]
      show(pure ((b.extract 0 (Nat.min b.size n)).data.map fun b=>Value.int .u8 b.toNat):Sem V9).run P w=_;rw[e];rfl
     .cases f
    obtain⟨L,cs',r1,V,K,T⟩:=B;have A:(Builtin.copy_ ⟨t::tys⟩ ty #[.slice a' n c',y']).run P w=(match a' with|some a=>(do storeCells a cs';pure (goInt k):Sem Value)|none=>pure (goInt k)).run P w:=by
     unfold Builtin.copy_;simp only[I3,Q2,Q3,A4,C8 hu,K4 U,r1,V,T,Result.andThen];cases a' with
     | none=>rfl
     | some a=>rfl
    cases a with
    | none =>
      cases P1 hx;simp only at j;obtain⟨q,j⟩:=A3 j;have q:=A0 q;cases j;exact VOk.same h (by rw[A,q];rfl) (.pure rfl)
    | some X =>
      simp only at j;cases F:Nat.beq cs.length 0 with
      | true =>
        rw[F]at j;cases j;have F:=A0 F;have:cs'=[]:=G1.1 (by rw[<- K.1];exact F);subst this;refine VOk.same h (v':=.int .i64 k) ?_ (.pure rfl);rw[A];cases a'<;>rfl
      | false =>
        rw[F]at j;simp only[D7]at j;obtain⟨E,j⟩:=A3 j;have E:=A1 E;split at j
        .rename_i m2 hw;cases j;rcases O5 hx with⟨l,D,J,S,he⟩|⟨l,c',D,J,S,R,Q,he⟩|⟨a2,Z,_,R,W,he⟩
         .cases he;obtain⟨w',h1,C⟩:=oQ h hw D K;exact⟨.int .i64 k,ρ,w',by rw[A];simp[A4,h1,Result.andThen,goInt],.pure rfl,C⟩
         .cases he;obtain⟨w',h1,C⟩:=oQ h hw D K;exact⟨.int .i64 k,ρ,w',by rw[A];simp[A4,h1,Result.andThen,goInt],.pure rfl,C⟩
         .have G:M5=9223372036854775808:=rfl;omega
        .cases j
   .cases j
  .cases j
 .cases j
def oJ:∀ {cs:C9} {l:List UInt8},bytesOf cs=some l->∃ f:List Int,cs=f.map (Value.int .u8)/\l=f.map fun n=>UInt8.ofNat n.toNat
 | [],l,h=>by simp only[bytesOf,D2]at h;subst h;exact⟨[],rfl,rfl⟩
 | v::r,l,h=>by
   unfold bytesOf at h;split at h
   .rename_i he;cases he
   .rename_i n q he;cases he;split at h
    .rename_i l0 h0;cases h;obtain⟨f,h1,j⟩:=oJ h0;exact⟨n::f,by rw[h1];rfl,by rw[j];rfl⟩
    .cases h
   .cases h
def qO:∀ {f:List Int} {cs':C9},LR ρ (f.map (Value.int .u8)) cs'->cs'=f.map (Value.int .u8)
 | [],cs',h=>h.nil_inv
 | n::r,cs',h=>by
   obtain⟨v',q,rfl,h1,j⟩:=h.tail;cases J1 h1;rw[qO j];rfl
def oB:∀ (f:List Int) (acc:List UInt8),(f.foldl (fun r n=>r.push (UInt8.ofNat n.toNat)) (ByteArray.mk ⟨acc⟩))=⟨⟨acc++f.map fun n=>UInt8.ofNat n.toNat⟩⟩
 | [],acc=>by simp
 | n::r,acc=>by
   rw[List.foldl_cons];have:(ByteArray.mk ⟨acc⟩).push (UInt8.ofNat n.toNat)=⟨⟨acc++[UInt8.ofNat n.toNat]⟩⟩:=by
    show ByteArray.mk (Array.push ⟨acc⟩ _)=_;simp
   rw[this,oB r];simp
def A06(h:HR P base ρ m.H w)(Y:base<=w.heap.size)(f:CK P m s t x=some (v,m'))(X:J9 ρ m.n m'.hi)(hx:VR ρ x x'):VOk P base ρ m w (convert s t x') v m':=by
 unfold CK at f;split at f
 .rename_i F k j n E B;cases J1 hx;simp only[D2,L8]at f;obtain⟨rfl,rfl⟩:=f;refine VOk.same (v':=.int k (k.wrap n)) h ?_ (by rw[y8,kE];exact .pure rfl);cases F<;>simp[convert,A4,C8 E,C8 B,Result.andThen,Conv.intToInt]
 .rename_i F b E B;cases U5 hx;cases f;refine VOk.same h ?_ (.pure rfl);cases F<;>simp[convert,A4,C8 E,C8 B,Result.andThen]
 .rename_i F j n E B;cases J1 hx;cases f;refine VOk.same (v':=.string (Utf8.encode n)) h ?_ (.pure rfl);cases F<;>simp[convert,A4,C8 E,C8 B,Result.andThen,Conv.intToString]
 .rename_i F e b E B;cases U5 hx;split at f
  .rename_i he;split at f
   .rename_i I;rw[H8]at f;let q:Question:=.appendCap b.size 0 e
    let cap:=q.cut (w.tape w.drawn q)
    have J:b.size<=cap:=by show b.size<=b.size+_;omega
    have R:(choose q).run P w=.ok cap w.drew:=by
     simp only[choose,Sem.run];rw[A6 (by simp[q,Question.forced])];rfl
    let C:V9:=(b.data.map fun b=>Value.int .u8 b.toNat)++Array.replicate (cap-b.size) (.int .u8 0)
    have hC:C.size=cap:=by
     have:b.data.size=b.size:=rfl;simp[C,this];omega
    obtain⟨V,M,U⟩:=dN (wd:=w.drew) (fz:=(C.size,C.size+1)) (cap:=cap) (C:=C) h Y f X (vM ρ b.data.toList) (fun i u hi=>by
      have N:=(B0.1 hi).1;simp[O8]at N;have S:i<(b.data.map fun b=>Value.int .u8 b.toNat).size:=by simpa using N
      show((b.data.map fun b=>Value.int .u8 b.toNat)++Array.replicate (cap-b.size) (.int .u8 0))[i]? = some u;rw[S4 S]
      simpa [O8]using hi) NF.end
     (fun inf L=>by
       have:inf.size=1:=by unfold G5 at I;rw[L]at I;exact A8 I
       rw[this,hC];omega) ⟨rfl,rfl,rfl⟩ rfl
    refine⟨.slice (some ⟨w.heap.size,0,none⟩) b.size cap,_,_,?_,?_,U⟩
    .have Q:∀ w2:World,w2.heap[w.heap.size]? = some (.cells C e (0,0))->(markStringish ⟨w.heap.size,0,none⟩).run P w2=.ok () (w2.freeze { block:=w.heap.size,off:=C.size } 1):=fun w2 L=>by
      simp[markStringish,shape,freeze,Sem.run,World.shape?,L]
     have T:({ w.drew with heap:=w.heap.push (.cells C e (0,0)) }:World).freeze { block:=w.heap.size,off:=C.size } 1={ w.drew with heap:=w.heap.push (.cells C e (C.size,C.size+1)) }:=by
      unfold World.freeze;rw[A6 F5];congr 1;apply Array.ext_getElem?;intro i;rw[G4];by_cases hi:w.heap.size=i
      .subst hi;simp
      .rw[A6 hi];simp only[d7];rw[A6 (fun h=>hi h.symm),A6 (fun h=>hi h.symm)]
     have G:(convert s t (.string b)).run P w=(Conv.stringToBytes e b).run P w:=by
      cases F<;>simp[convert,A4,C8 E,C8 B,C8 he,Result.andThen]
     rw[G];unfold Conv.stringToBytes;simp only[A4,show(choose (.appendCap b.size 0 e)).run P w=.ok cap w.drew from R,Result.andThen];have O:(newRow e C).run P w.drew=.ok ⟨w.heap.size,0,none⟩ { w.drew with heap:=w.heap.push (.cells C e (0,0)) }:=rfl;rw[show(newRow e ((b.data.map fun b=>Value.int .u8 b.toNat)++Array.replicate (cap-b.size) (.int .u8 0))).run P w.drew=_ from O];simp only[Result.andThen];rw[Q _ (by simp),T];rfl
    .rw[V];exact VR.op (o:=0) (m':=cap) M (A7 _) J (fun _ _=>rfl)
   .cases f
  .cases f
 .rename_i e n c E B;cases P1 hx;split at f
  .rename_i he;cases f;refine VOk.same h (v':=.string ByteArray.empty) ?_ (.pure rfl);simp[convert,A4,C8 E,C8 B,C8 he,Result.andThen,Conv.bytesToString]
  .cases f
 .rename_i e a n c E B;split at f
  .rename_i he;split at f
   .rename_i cs hr;split at f
    .rename_i l N;cases f;obtain⟨K,h1,L⟩:=oJ N;have D:∀ a' c',(loadCells a' n).run P w=.ok (K.map (Value.int .u8)).toArray w->(convert s t (.slice (some a') n c')).run P w=.ok (.string ⟨⟨l⟩⟩) w:=fun a' c' A=>by
      have:=run_bytesToString w a' n c' K A;have M:=oB K [];simp only[G3]at M;simp only[convert,A4,C8 E,C8 B,C8 he,Result.andThen];rw[this,show ByteArray.empty=ByteArray.mk ⟨[]⟩from rfl,M,L]
     rcases O5 hx with⟨lc,A,_,_,rfl⟩|⟨lc,c',A,_,_,_,_,rfl⟩|⟨a',c',_,rfl,_,rfl⟩
     .obtain⟨W,g1,g2,g3⟩:=Z2 h hr A;rw[h1]at g1
      have:=qO g1;subst this;exact VOk.same h (D _ _ (K0 g2 g3)) (.pure rfl)
     .obtain⟨W,g1,g2,g3⟩:=Z2 h hr A;rw[h1]at g1
      have:=qO g1;subst this;exact VOk.same h (D _ _ (K0 g2 g3)) (.pure rfl)
     .have:cs=[]:=by
       unfold s8 at hr;split at hr
       .have:=(iZ hr).2;simpa using this
       .cases hr
      subst this;have:K=[]:=by cases K with|nil=>rfl|cons _ _=>cases h1
      subst this;exact VOk.same h (D _ _ (by simp[loadCells,loadCellsFrom])) (.pure rfl)
    .cases f
   .cases f
  .cases f
 .cases f
end
end
section
open Go
variable [Ora]
section
variable {P:Program} {base:Nat} {ρ:Ren} {m m':Mem} {w:World}
def xR(j:P.cellsOf e=1)(count off n:Nat)(q:off+n<=count):liesAt P P.depth e count off e n=true:=by
 have f:P.depth=(2*(P.types.size+Made.depth)+1)+1:=rfl;rw[f];simp only[liesAt,I5];left;rw[f];simp[rowAt,j,q,sameLayout,Nat.mod_one]
def eB:∀ (f:List Int) (b o:Nat) (acc:ByteArray),(∀ (j:Nat) (v:Value),(f.map (Value.int .u8))[j]? = some v->w.cell? ⟨b,o+j,none⟩=some v) ->
  (loadBytes ⟨b,o,none⟩ acc f.length).run P w=.ok ⟨acc.data++(f.map fun n=>UInt8.ofNat n.toNat).toArray⟩ w
 | [],b,o,acc,_=>by simp[loadBytes]
 | n::f,b,o,acc,h=>by
   have h0:w.cell? ⟨b,o,none⟩=some (.int .u8 n):=by simpa using h 0 _ rfl
   have q:=eB f b (o+1) (acc.push n.toNat.toUInt8) (fun j v A=>by
    have:=h (j+1) v (by simpa using A);rw[show o+1+j=o+(j+1) by omega];exact this)
   simp only[D8,loadBytes,A4,run_load,h0,Result.andThen,X5];rw[q];have:(acc.push n.toNat.toUInt8).data=acc.data.push n.toNat.toUInt8:=rfl;rw[this];congr 2;apply I7;simp
def zL{l l':Value}(h:HR P base ρ m.H w)(f:dW P m pt p l=some (v,m'))(hp:VR ρ p p')(hl:VR ρ l l') :
  VOk P base ρ m w (Builtin.unsafeString_ ⟨pt::tys⟩ ty #[p',l']) v m':=by
 have F:IntKind.i64.max=9223372036854775807:=rfl;unfold dW at f;split at f
 .cases hp with|pure _=>?_
  cases J1 hl;cases f;refine VOk.same h (v':=.string ByteArray.empty) ?_ (.pure rfl);rename_i k _;have A:Builtin.unsafeString_ ⟨pt::tys⟩ ty #[.pointer none,.int k (.ofNat 0)] =
    (do
      let n <- asInt (.int k (.ofNat 0))
      if n<0 then runtimePanic (.error "unsafe.String: len out of range")
      if n>IntKind.i64.max then unsupported (.unsafePointer "String: a length above the largest int")
      if n=0 then pure (.string .empty)
      else runtimePanic (.error "unsafe.String: ptr is nil and len is not zero")):=rfl
  rw[A];simp[asInt,asIntOf,F]
 .rename_i a k n;cases J1 hl;obtain⟨lc,G,ay,rfl⟩:=O0 hp;split at f
  .rename_i cs T I X;split at f
   .rename_i e W Q;obtain⟨q,f⟩:=A3 f;obtain⟨q,Z⟩:=B4 q;obtain⟨q1,q2⟩:=B4 q;have q1:0<n:=A1 q1;have q2:=A1 q2;have Z:=A0 Z;subst Z;split at f
    .rename_i r hr;split at f
     .rename_i bs m2 az X3;cases f;obtain⟨Y,h1,h2⟩:=oJ az;have J:s8 m a n=some r:=by
       unfold s8;rw[I,X];exact hr
      obtain⟨r',g1,g2,g3⟩:=Z2 h J G;rw[h1]at g1;have V:=qO g1;subst V;obtain⟨⟨M,C,fz,T',z2,z3,z4⟩,z5⟩:=h.atl G X;have z2:w.heap[lc.blk]? = some (.cells C e fz):=by rw[z2,(z4 rfl).1]
      have L:Y.length=n:=by simpa using g2
      have B:P.cellsOf e=1:=by
       unfold G5 at Q;unfold Program.cellsOf;cases hi:P.info? e with
       | none=>rw[hi]at Q;cases Q
       | some i=>rw[hi]at Q;have:=A8 Q;simp[this]
      have U:a.off+lc.sh+n<=C.size:=by
       have D:=g3 (n-1) (.int .u8 Y[n-1]) (by simp[L]);simp only[World.cell?,z2]at D
       have:=(C6.1 (by simpa using D)).1;omega
      have O:=eB (P:=P) (w:=w) Y lc.blk (a.off+lc.sh) .empty g3;rw[L]at O;have S:w.shape? lc.blk=some (e,C.size):=by simp[World.shape?,z2]
      have K:=xR (P:=P) B (C.size / P.cellsOf e) (a.off+lc.sh) n (by rw[B];simpa using U);have A:Builtin.unsafeString_ ⟨pt::tys⟩ ty #[.pointer (some ⟨lc.blk,a.off+lc.sh,none⟩),.int k (.ofNat n)] =
       (do
         let n <- asInt (.int k (.ofNat n))
         if n<0 then runtimePanic (.error "unsafe.String: len out of range")
         if n>IntKind.i64.max then unsupported (.unsafePointer "String: a length above the largest int")
         if n=0 then pure (.string .empty)
         else if <- variablesAt ⟨lc.blk,a.off+lc.sh,none⟩ (<- elemOf pt) n.toNat then do
          let s <- loadBytes ⟨lc.blk,a.off+lc.sh,none⟩ .empty n.toNat
          freeze ⟨lc.blk,a.off+lc.sh,none⟩ n.toNat
          pure (.string s)
         else unsupported (.unsafePointer "String: not so many bytes at ptr")):=rfl
      have e1:Int.ofNat n=(n:Int):=rfl;have N:¬ (n:Int)<0:=A2;have R:¬ (9223372036854775807:Int)<(n:Int):=A2;have hz:¬ (n:Int)=0:=A2;have E:n≠0:=A2;refine⟨.string ⟨⟨bs⟩⟩,ρ,w.freeze ⟨lc.blk,a.off+lc.sh,none⟩ n,?_,.pure rfl,St.write h X3 X rfl G M ?_ ?_ ?_ ?_⟩
      .rw[A];simp[asInt,asIntOf,F,e1,N,R,hz,E,variablesAt,S,elemOf,C8 W,K,O,freeze,Sem.run,A4,Result.andThen,h2]
      .simp[World.freeze,E]
      .simp[World.freeze,E]
      .intro j hj;simp only[World.freeze,E,if_false,G4];rw[A6 (fun e=>hj e.symm)]
      .refine⟨M,C,(if fz.1 == fz.2 then(a.off+lc.sh,a.off+lc.sh+n)else(min fz.1 (a.off+lc.sh),max fz.2 (a.off+lc.sh+n))),e,?_,z3,fun hc=>by cases hc⟩;simp only[World.freeze,E,if_false,G4,if_true,z2,K9]
     .cases f
    .cases f
   .cases f
  .cases f
 .cases f
def KV{ks:Array Bool}(h:HR P base ρ m.H w)(C:base<=w.heap.size)(f:iA P m b vs tys=some (v,m'))(B:J9 ρ m.n m'.hi)(hx:LR ρ vs vs') :
  ∃ s:Sem Value,builtin b ⟨tys⟩ ty ks ⟨vs'⟩=(do pure (.value (<- s)))/\VOk P base ρ m w s v m':=by
 unfold iA at f;split at f
 .obtain⟨x',r1,rfl,h1,j⟩:=hx.tail;cases j.nil_inv;unfold noM at f;split at f
  .rename_i u hu;cases f;obtain⟨g1,g2⟩:=QQ h hu h1;exact⟨_,rfl,VOk.same h g1 (.pure g2)⟩
  .cases f
 .obtain⟨x',r1,rfl,h1,j⟩:=hx.tail;cases j.nil_inv;unfold noM at f;split at f
  .rename_i u hu;cases f;obtain⟨g1,g2⟩:=A3G hu h1 w;exact⟨_,rfl,VOk.same h g1 (.pure g2)⟩
  .cases f
 .obtain⟨x',r1,rfl,h1,j⟩:=hx.tail;obtain⟨y',A,rfl,h3,q⟩:=j.tail;cases q.nil_inv;rename_i t t2 rest;refine⟨Builtin.append_ ⟨t::t2::rest⟩ ty #[x',y'],rfl,?_⟩
  have:=OG (ty:=ty) h C f B h1 h3;have e:Builtin.append_ ⟨t::t2::rest⟩ ty #[x',y']=Builtin.append_ #[t,t2] ty #[x',y']:=rfl;rw[e];exact this
 .obtain⟨x',r1,rfl,h1,j⟩:=hx.tail;obtain⟨y',A,rfl,h3,q⟩:=j.tail;cases q.nil_inv;exact⟨_,rfl,A03 h f h1 h3⟩
 .unfold noM at f;split at f
  .rename_i u hu;cases f;obtain⟨g1,g2⟩:=QL (P:=P) (ty:=ty) (tys:=⟨tys⟩) hu hx w;exact⟨_,rfl,VOk.same h g1 (.pure g2)⟩
  .cases f
 .unfold noM at f;split at f
  .rename_i u hu;cases f;obtain⟨g1,g2⟩:=QJ (P:=P) (ty:=ty) (tys:=⟨tys⟩) hu hx w;exact⟨_,rfl,VOk.same h g1 (.pure g2)⟩
  .cases f
 .obtain⟨x',r1,rfl,h1,j⟩:=hx.tail;cases j.nil_inv;exact⟨_,rfl,zX h f h1⟩
 .obtain⟨x',r1,rfl,h1,j⟩:=hx.tail;obtain⟨y',A,rfl,h3,q⟩:=j.tail;cases q.nil_inv;exact⟨_,rfl,zL h f h1 h3⟩
 .cases f
def NOk(P:Program)(base:Nat)(ρ:Ren)(m:Mem)(w:World)(s:Sem Next)(v:Value)(m':Mem):Prop :=
 ∃ v' f w',(s.run P w=.ok (.value v') w'∨(s.run P w=.ok .skip w'/\v'=undef))/\VR f v v'/\St P base ρ f m m' w w'
def NOk.of{s:Sem Value}(h:VOk P base ρ m w s v m'):NOk P base ρ m w (do pure (.value (<- s))) v m':=by
 obtain⟨v',f,w',h1,j,h3⟩:=h;exact⟨v',f,w',.inl (by simp[A4,h1,Result.andThen]),j,h3⟩
def oW(ρ:Ren):VR ρ undef undef:=.tuple (a:=[]) (a':=[]) rfl (fun i v v' h=>by simp at h)
def NOk.ofU{s:Sem Unit}(h:UOk P base ρ m w s m'):NOk P base ρ m w (do s;pure .skip) undef m':=by
 obtain⟨f,w',h1,h3⟩:=h;exact⟨undef,f,w',.inr ⟨by simp[A4,h1,Result.andThen],rfl⟩,oW _,h3⟩
def NOk.same{s:Sem Value}(h:HR P base ρ m.H w)(hr:s.run P w=.ok v' w)(hv:VR ρ v v'):NOk P base ρ m w (do pure (.value (<- s))) v m:=NOk.of (VOk.same h hr hv)
def FR(ρ:Ren)(fr:Fr)(g:Operand->Value)(o:Op):Prop:=∀ x ∈ o.operands.toList,VR ρ (ev fr x) (g x)
def g7(h:noM o m=some (v,m')):o=some v/\m'=m:=by
 unfold noM at h;split at h
 .cases h;exact⟨rfl,rfl⟩
 .cases h
def mQ{o:Option Mem}(h:MY o=some (v,m')):o=some m'/\v=undef:=by
 unfold MY at h;split at h
 .cases h;exact⟨rfl,rfl⟩
 .cases h
def cS{fr:Fr}{g:Operand->Value}:∀ {xs:List Operand},(∀ x ∈ xs,VR ρ (ev fr x) (g x))->LR ρ (evL fr xs) (xs.map g)
 | [],_=>.nil
 | x::r,h=>.cons (h x B2) (cS fun y f=>h y (C3 _ f))
def NR{fr:Fr}{g:Operand->Value}:∀ {xs:List (Nat×Operand)},(∀ x ∈ xs.map (·.2),VR ρ (ev fr x) (g x))->PR ρ (evP fr xs) (xs.map fun x=>(x.1,g x.2))
 | [],_=>trivial
 | (i,x)::r,h=>⟨rfl,h x (by simp),NR fun y f=>h y (by simp at f ⊢;exact .inr f)⟩
def iX{fr:Fr}{x:Option Operand}(h:∀ y ∈ x.toList,VR ρ (ev fr y) (g y)):OR ρ (evO fr x) (x.map g):=by
 cases x with
 | none=>trivial
 | some y=>exact h y (by simp)
set_option maxHeartbeats 1000000 in
def A6I{fr:Fr}{o:Oper}(h:HR P base ρ m.H w)(J:base<=w.heap.size)(q:opM P fr m o.op=some (v,m'))(I:J9 ρ m.n m'.hi)(S:FR ρ fr g o.op) :
  NOk P base ρ m w (execOp g o) v m':=by
 obtain⟨dst,op,ty,pos,T,U⟩:=o;simp only at q S;have j:∀ {x},x ∈ op.operands.toList->VR ρ (ev fr x) (g x):=fun hx=>S _ hx
 unfold opM at q;split at q
 .cases q;exact⟨_,ρ,w,.inl rfl,j (by simp[Op.operands]),.refl h⟩
 .cases q;exact⟨_,ρ,w,.inl rfl,j (by simp[Op.operands]),.refl h⟩
 .rename_i c a b;have K:=j (x:=c) (by simp[Op.operands]);unfold QB at q;split at q
  .rename_i F;rw[F]at K;cases q;exact⟨g a,ρ,w,.inl (by simp[execOp,cF K,asBool]),j (by simp[Op.operands]),.refl h⟩
  .rename_i F;rw[F]at K;cases q;exact⟨g b,ρ,w,.inl (by simp[execOp,cF K,asBool]),j (by simp[Op.operands]),.refl h⟩
  .cases q
 .exact NOk.of (TS h J q I)
 .exact NOk.of (A2K h J q I (j (by simp[Op.operands])))
 .rename_i t ps;obtain⟨h1,rfl⟩:=g7 q;obtain⟨v',A,h3⟩:=UM h1 (NR (g:=g) (fun x hx=>j (by simpa [Op.operands]using hx))) w;have e:(ps.map fun(i,x)=>(i,g x))=⟨ps.toList.map fun x=>(x.1,g x.2)⟩:=by apply I7;simp
  exact NOk.same (s:=Instr.build t (ps.map fun(i,x)=>(i,g x))) h (by rw[e];exact A) h3
 .rename_i t n ps
  have:=zA h J q I (NR (g:=g) (fun x hx=>j (by simpa [Op.operands]using hx)));have e:(ps.map fun(i,x)=>(i,g x))=⟨ps.toList.map fun x=>(x.1,g x.2)⟩:=by apply I7;simp
  refine NOk.of (s:=Instr.buildSlice t n (ps.map fun(i,x)=>(i,g x))) ?_;rw[e];exact this
 .rename_i t x;have hx:=j (x:=x) (by simp[Op.operands]);unfold QC at q;split at q
  .rename_i a G;rw[G]at hx;obtain⟨l,R,M,E⟩:=O0 hx;obtain⟨h1,rfl⟩:=g7 q;obtain⟨v',A,h3⟩:=IV h h1 R;refine NOk.same (s:=Instr.loadAt t (g x)) h ?_ h3;rw[E]
   simpa [Instr.loadAt,Instr.sureAddr]using A
  .cases q
 .rename_i t x y;have hx:=j (x:=x) (by simp[Op.operands]);have B:=j (x:=y) (by simp[Op.operands]);unfold EA at q;split at q
  .rename_i a G;rw[G]at hx;obtain⟨l,R,M,E⟩:=O0 hx;obtain⟨h1,rfl⟩:=mQ q
   have:=ST h h1 R B;refine NOk.ofU (s:=Instr.storeAt t (g x) (g y)) ?_;rw[E];obtain⟨L,w',r1,r2⟩:=this;exact⟨L,w',by simpa [Instr.storeAt,Instr.sureAddr]using r1,r2⟩
  .cases q
 .rename_i x;have hx:=j (x:=x) (by simp[Op.operands]);obtain⟨hm,h1,A⟩:=A2J q hx;subst hm;refine⟨g x,ρ,w,.inl ?_,h1,.refl h⟩;rcases A with⟨a,V⟩|⟨f,a,b,V⟩<;>simp[execOp,V]
 .rename_i op t x y X;have hx:=j (x:=x) (by simp[Op.operands]);have B:=j (x:=y) (by simp[Op.operands]);unfold A2L at q;have C:(yB op=true->lL P t x y (ev fr x) (ev fr y)=true)->noM (rN P op t (ev fr x) (ev fr y)) m=some (v,m')->NOk P base ρ m w (execOp g ⟨dst,.binOp op t x y X,ty,pos,T,U⟩) v m':=fun Q W=>by
   obtain⟨h1,rfl⟩:=g7 W;obtain⟨A,h3⟩:=vR h1 hx B w;have Y:=qV Q hx B w;refine NOk.same (s:=do eqGuard op t x y (g x) (g y);binOp op t (g x) (g y)) h ?_ (.pure h3);simp[A4,Y,A,Result.andThen]
  cases D:yB op with
  | true =>
    rw[D]at q;simp only[E1]at q;obtain⟨h1,A⟩:=A3 q;exact C (fun _=>h1) A
  | false =>
    rw[D]at q;simp only[D7]at q;exact C (fun h=>by rw[D]at h;cases h) q
 .rename_i op t x;obtain⟨h1,rfl⟩:=g7 q;obtain⟨A,h3⟩:=LN (P:=P) h1 (j (x:=x) (by simp[Op.operands])) w;exact NOk.same (s:=Op.unary op (g x)) h A (.pure h3)
 .exact NOk.of (A06 h J q I (j (by simp[Op.operands])))
 .exact NOk.of (TR h q (j (by simp[Op.operands])))
 .rename_i f first cap
  cases q;have l1:=cS (ρ:=ρ) (fr:=fr) (g:=g) (xs:=first.toList) fun x hx=>j (by simp[Op.operands];exact .inl (by simpa using hx))
  have l2:=cS (ρ:=ρ) (fr:=fr) (g:=g) (xs:=cap.toList) fun x hx=>j (by simp[Op.operands];exact .inr (by simpa using hx))
  refine⟨.func (.func f) ⟨first.toList.map g⟩ ⟨cap.toList.map g⟩,ρ,w,.inl ?_,.func l1.1 l2.1 l1.2 l2.2,.refl h⟩;have N:first.map g=⟨first.toList.map g⟩:=by apply I7;simp
  have O:cap.map g=⟨cap.toList.map g⟩:=by apply I7;simp
  simp[execOp,Instr.makeFunc,N,O]
 .exact NOk.of (AA h J q I (j (by simp[Op.operands])) (j (by simp[Op.operands])))
 .rename_i t x lo hi mx;obtain⟨h1,rfl⟩:=g7 q;obtain⟨v',A,h3⟩:=gS h1 (j (x:=x) (by simp[Op.operands])) (iX (g:=g) fun y B=>j (by simp[Op.operands]at B ⊢;exact .inr (.inl B))) (iX (g:=g) fun y B=>j (by simp[Op.operands]at B ⊢;exact .inr (.inr (.inl B)))) (iX (g:=g) fun y B=>j (by simp[Op.operands]at B ⊢;exact .inr (.inr (.inr B)))) w;exact NOk.same (s:=Instr.sliceAt t (g x) (lo.map g) (hi.map g) (mx.map g)) h A h3
 .obtain⟨h1,rfl⟩:=g7 q;obtain⟨v',A,h3⟩:=lN h1 (j (by simp[Op.operands])) w;exact NOk.same h A h3
 .obtain⟨h1,rfl⟩:=g7 q;obtain⟨v',A,h3⟩:=UD h1 (j (by simp[Op.operands])) w;exact NOk.same h A h3
 .obtain⟨h1,rfl⟩:=g7 q;obtain⟨v',A,h3⟩:=cG h1 (j (by simp[Op.operands])) (j (by simp[Op.operands])) w;exact NOk.same h A h3
 .obtain⟨h1,rfl⟩:=g7 q;obtain⟨v',A,h3⟩:=sL h1 (j (by simp[Op.operands])) (j (by simp[Op.operands])) w;exact NOk.same h A h3
 .obtain⟨hm,v',A,h3⟩:=IK (P:=P) q (j (by simp[Op.operands])) w;subst hm;exact NOk.same h A h3
 .rename_i b xs tys;have l1:=cS (ρ:=ρ) (fr:=fr) (g:=g) (xs:=xs.toList) fun x hx=>j (by show x ∈ (#[]++xs:Array Operand).toList;simpa using hx)
  obtain⟨ks,O⟩:∃ ks,execOp g ⟨dst,.call ⟨.builtin b,xs,tys⟩,ty,pos,T,U⟩=builtin b tys ty ks (xs.map g):=⟨_,rfl⟩;obtain⟨s,e,hs⟩:=KV (ty:=ty) (ks:=ks) h J q I l1;have N:xs.map g=⟨xs.toList.map g⟩:=by apply I7;simp
  rw[O,N];have Z:tys=⟨tys.toList⟩:=rfl;rw[Z,e];exact NOk.of hs
 .cases q
end
end
section
open Go
def ofV:Q0->U
 | some (.int k n)=>.int k n
 | some (.bool b)=>.bool b
 | some (.string s)=>.str s.data.toList
 | _=>.none
def D6(E:Nat->U):Value->U
 | .complex .f64 i _=>E i
 | .int k n=>.int k n
 | .bool b=>.bool b
 | .string s=>.str s.data.toList
 | _=>.none
def evB(op:BinOp):U->U->U
 | .int k a,.int j b=>ofV (aB op k j a b)
 | .str a,.str b=>ofV (VO op ⟨⟨a⟩⟩ ⟨⟨b⟩⟩)
 | .bool a,.bool b=>match op with
   | .eql=>.bool (a == b)
   | .neq=>.bool (!(a == b))
   | _=>.none
 | _,_=>.none
def ev1(op:UnOp):U->U
 | .int k n=>ofV (unM op (.int k n))
 | .bool b=>ofV (unM op (.bool b))
 | _=>.none
def eqU:U->U->Option Bool
 | .int k a,.int j b=>if k=j then some (a == b)else none
 | .bool a,.bool b=>some (a == b)
 | .str a,.str b=>some (a == b)
 | _,_=>none
def lQ:List U->Option Bool
 | []=>some true
 | a::b::r=>match eqU a b,lQ r with
   | some x,some y=>some (x && y)
   | _,_=>none
 | _=>none
def HA(s:List UInt8)(l h:Int):U :=
 match l,h with
 | .ofNat l,.ofNat h=>if l<=h/\h<=s.length then .str ((s.drop l).take (h-l))else .none
 | _,_=>.none
def sZ:List U->Option (List UInt8)
 | []=>some []
 | .int .u8 (.ofNat n)::r=>if n<256 then match sZ r with
   | some l=>some (UInt8.ofNat n::l)
   | none=>none else none
 | _::_=>none
def uX:List (List U)->Option (List UInt8)
 | []=>some []
 | [.int .u8 (.ofNat n)]::r=>if n<256 then match uX r with
   | some l=>some (UInt8.ofNat n::l)
   | none=>none else none
 | _::_=>none
def jM(s:List UInt8):List (List U):=s.map fun b=>[.int .u8 b.toNat]
def c8(w:Nat):Nat->List U->Option (List (List U))
 | 0,[]=>some []
 | 0,_::_=>none
 | n+1,l=>if w<=l.length then match c8 w n (l.drop w)with
   | some r=>some (l.take w::r)
   | none=>none else none
def wZ(row:List U)(o:Nat)(cells:List U):List U:=row.take o++cells++row.drop (o+cells.length)
def uY:Nat:=1000000000
def rM(f:Bool)(w:Nat)(rows r:List (List U)):U:=if rows.length+r.length<=uY then(match r with|[]=>.seq f w rows|r=>.seq false w (rows++r))else .none
def isU(a b:U):Bool :=
 match eqU a b with
 | some c=>c
 | none=>false
def T6:List U->List U->Bool
 | [],_=>true
 | a::k,b::r=>isU a b && T6 k r
 | _::_,[]=>false
def IA(kw:Nat)(c:List U):List (List U)->List (List U)
 | []=>[c]
 | r::rs=>if T6 (c.take kw) r then c::rs else r::IA kw c rs
def evU:LOp->List U->U
 | .mhas w kw,.seq _ v rows::k=>if v=w/\k.length=kw then .bool (rows.any (T6 k))else .none
 | .mget w kw o,.seq _ v rows::z::k=>if v=w/\k.length=kw then(match rows.find? (T6 k)with
   | some r=>r.getD o .none
   | none=>z)else .none
 | .mput w kw,.seq nul v rows::c=>if v=w/\c.length=w then .seq nul w (IA kw c rows)else .none
 | .len,[.seq _ _ rows]=>.int .i64 rows.length
 | .mks,l=>match sZ l with
   | some s=>.str s
   | none=>.none
 | .inbs w,[.int _ i,.seq _ v rows]=>if v=w then .bool (decide (0<=i) && decide (i<rows.length))else .none
 | .get w o,[.seq false v rows,.int _ (.ofNat k)]=>if v=w then(rows.getD k []).getD o .none else .none
 | .mk w,l=>if w=0 then .none else match c8 w (l.length / w) l with
   | some r=>.seq false w r
   | none=>.none
 | .nilw w,[]=>.seq true w []
 | .nilp,[.seq nul _ _]=>.bool nul
 | .snoc w,.seq nul v rows::l=>if v=w/\w≠0 then match c8 w (l.length / w) l with
   | some r=>rM nul w rows r
   | none=>.none else .none
 | .cat w,[.seq nul v rows,.seq _ v2 r]=>if v=w/\v2=w then rM nul w rows r else .none
 | .cats,[.seq nul v rows,.str s]=>if v=1 then rM nul 1 rows (jM s)else .none
 | .set w o,.seq false v rows::.int _ (.ofNat k)::l=>if v=w/\k<rows.length/\o+l.length<=w then .seq false w (rows.set k (wZ (rows.getD k []) o l))else .none
 | .subs w,[.seq nul v rows,.int _ (.ofNat l),.int _ (.ofNat h)]=>if v=w/\l<=h/\h<=rows.length then .seq nul w ((rows.drop l).take (h-l))else .none
 | .str,[.seq _ v rows]=>if v=1 then match uX rows with
   | some s=>.str s
   | none=>.none else .none
 | .byt,[.str s]=>.seq false 1 (jM s)
 | .ustr,[.seq _ v rows,.int _ (.ofNat n)]=>if v=1/\n<=rows.length/\n<=uY then match uX (rows.take n)with
   | some s=>.str s
   | none=>.none else .none
 | .rep w,.int _ (.ofNat n)::l=>if l.length=w/\n<=uY then .seq false w (List.replicate n l)else .none
 | .bin op,[a,b]=>evB op a b
 | .un op,[a]=>ev1 op a
 | .conv k,[.int _ n]=>.int k (k.wrap n)
 | .len,[.str s]=>.int .i64 s.length
 | .rune,[.str s,.int _ (.ofNat k)]=>.int .i32 (Utf8.decode ⟨⟨s⟩⟩ k).1
 | .rpos,[.str s,.int _ (.ofNat k)]=>.int .i64 (k+(Utf8.decode ⟨⟨s⟩⟩ k).2:Nat)
 | .idx,[.str s,.int _ (.ofNat k)]=>match s[k]? with
   | some b=>.int .u8 b.toNat
   | none=>.none
 | .sub,[.str s,.int _ l,.int _ h]=>HA s l h
 | .sub1,[.str s,.int _ l]=>HA s l s.length
 | .sel,.int _ (.ofNat k)::cs=>cs.getD k .none
 | .inb,[.int _ i,.int _ n]=>.bool (decide (0<=i) && decide (i<n))
 | .eqs,l=>match lQ l with
   | some b=>.bool b
   | none=>.none
 | .max,[.int k a,.int _ b]=>.int k (if b>a then b else a)
 | .min,[.int k a,.int _ b]=>.int k (if b<a then b else a)
 | _,_=>.none
def i7.ok(E:Nat->U):i7->Prop
 | .lt i t op xs=>E i=evU op (xs.map (D6 E))/\F9 (E i)=t/\t<10
 | .dt i t op xs=>E i=evU op (xs.map (D6 E))/\F9 (E i)=t/\∃ f w rows,E i=.seq f w rows
 | .br i b=>E i=.bool b
 | .as op xs=>evU op (xs.map (D6 E))=.bool true
 | .con spec xs i d n=>∃ outs,spec (xs.map (D6 E))=some (d,outs)/\outs.length=n/\∀ j u,outs[j]? = some u->E (i+j)=u
def R2(E:Nat->U)(l:List i7):Prop:=∀ e ∈ l,e.ok E
def Lg.le(a b:Lg):Prop:=a.log <:+ b.log
def Lg.le.refl(a:Lg):a.le a:=List.suffix_refl _
def Lg.le.trans{a b c:Lg}(h:a.le b)(k:b.le c):a.le c:=List.IsSuffix.trans h k
def R2.le{E:Nat->U}{a b:Lg}(h:R2 E b.log)(k:a.le b):R2 E a.log:=fun e he=>h e (k.subset he)
variable [Ora]
abbrev Sat(lg:Lg):Prop:=R2 Ora.env lg.log
omit [Ora] in
def OT{u:U}(h:F9 u<10):∃ v,toV u=some v/\ofV (some v)=u/\G2 v=F9 u:=by
 cases u with
 | none=>simp[F9]at h
 | seq _ _ _=>simp only[F9]at h;omega
 | int k n=>exact⟨_,rfl,rfl,rfl⟩
 | bool b=>exact⟨_,rfl,rfl,rfl⟩
 | str s=>exact⟨_,rfl,rfl,rfl⟩
def DZ(h:F9 (ofV o)<10):∃ v,o=some v/\toV (ofV o)=some v:=by
 unfold ofV at h;split at h
 .exact⟨_,rfl,rfl⟩
 .exact⟨_,rfl,rfl⟩
 .rename_i s;refine⟨_,rfl,?_⟩;simp[ofV,toV]
 .simp[F9]at h
def L4(k:IntKind):hH k<8:=by cases k<;>decide
theorem w9{ρ:Ren}{v v':Value}(h:VR ρ v v')(f:G2 v<10):toV (D6 Ora.env v)=some v'/\F9 (D6 Ora.env v)=G2 v:=by
 cases h with
 | pure hp =>
   cases v<;>simp only[G2]at f<;>first
    | exact⟨rfl,rfl⟩
    | (exfalso;omega)
    | (simp[I1]at hp)
 | hole h j=>exact⟨h,j⟩
 | junk=>simp[G2]at f
 | ixp _ _ _ _ _=>simp[G2,ixp]at f
 | dat _ _ _ _ _=>simp[G2,Go.Sx.dat]at f
 | clp _ _ _ _ _ _=>simp[G2,Go.Sx.clp]at f
 | own _ _ _=>simp[G2,Go.Sx.own]at f
 | dpt _ _ _=>simp[G2,Go.Sx.dpt]at f
 | opt _ _ _=>simp[G2,Go.Sx.opt]at f
 | yv _=>simp[G2,Go.Sx.yv]at f
 | sdt _=>simp[G2,Go.Sx.sdt]at f
 | _=>simp[G2]at f
def M2{ρ:Ren}(h:VR ρ v v')(j:G2 v<8):∃ k n,v'=.int k n/\D6 Ora.env v=.int k n/\G2 v=hH k:=by
 obtain⟨h1,f⟩:=w9 h A2;cases hu:D6 Ora.env v with
 | int k n=>rw[hu]at h1 f;cases h1;exact⟨k,n,rfl,rfl,f.symm⟩
 | bool b=>rw[hu]at f;simp only[F9]at f;omega
 | str s=>rw[hu]at f;simp only[F9]at f;omega
 | none=>rw[hu]at h1;cases h1
 | seq _ _ _=>rw[hu]at h1;cases h1
def gN{ρ:Ren}(h:VR ρ v v')(j:G2 v=8):∃ b,v'=.bool b/\D6 Ora.env v=.bool b:=by
 obtain⟨h1,f⟩:=w9 h A2;cases hu:D6 Ora.env v with
 | int k n=>rw[hu]at f;simp only[F9]at f;have:=L4 k;omega
 | bool b=>rw[hu]at h1;cases h1;exact⟨b,rfl,rfl⟩
 | str s=>rw[hu]at f;simp only[F9]at f;omega
 | none=>rw[hu]at h1;cases h1
 | seq _ _ _=>rw[hu]at h1;cases h1
def l5{ρ:Ren}(h:VR ρ v v')(j:G2 v=9):∃ s,v'=.string ⟨⟨s⟩⟩/\D6 Ora.env v=.str s:=by
 obtain⟨h1,f⟩:=w9 h A2;cases hu:D6 Ora.env v with
 | int k n=>rw[hu]at f;simp only[F9]at f;have:=L4 k;omega
 | bool b=>rw[hu]at f;simp only[F9]at f;omega
 | str s=>rw[hu]at h1;cases h1;exact⟨s,rfl,rfl⟩
 | none=>rw[hu]at h1;cases h1
 | seq _ _ _=>rw[hu]at h1;cases h1
def iU{m m':Mem}{t:Nat}{op:LOp}(h:T9 m t op xs=some (v,m')):v=hole m.lg.nx t/\m'=m.wLg ⟨m.lg.nx+1,m.lg.pi,.lt m.lg.nx t op xs::m.lg.log⟩:=by
 obtain⟨H,n,W,hi,⟨nx,pi,log⟩⟩:=m;simp only[T9,E5,H8]at h;cases h;exact⟨rfl,rfl⟩
def M1{m m':Mem}{t:Nat}{op:LOp}(h:T9 m t op xs=some (v,m'))(n:Sat m'.lg):∃ u,evU op (xs.map (D6 Ora.env))=u/\F9 u=t/\∃ r,toV u=some r/\(∀ ρ,VR ρ v r)/\t<10:=by
 obtain⟨rfl,rfl⟩:=iU h;obtain⟨h1,f,h3⟩:=n (.lt m.lg.nx t op xs) (by cases m;exact B2);refine⟨_,rfl,h1▸f,?_⟩;obtain⟨r,j,_⟩:=OT (u:=Ora.env m.lg.nx) A2;exact⟨r,h1▸j,fun ρ=>.hole j f,h3⟩
section
variable {P:Program} {base:Nat} {ρ:Ren} {m m':Mem} {w:World}
def St.wLg(h:HR P base ρ m.H w)(lg:Lg):St P base ρ ρ m (m.wLg lg) w w:=by
 obtain⟨H,n,W,hi,l⟩:=m;have r:=St.refl (m:=⟨H,n,W,hi,l⟩) h;exact⟨r.ext,r.new,r.nle,r.hle,r.nhi,r.hr,r.wsub,r.wrw,r.keep,r.size,r.os,r.blk,r.same,r.tch⟩
def bL:∀ {l:List i7} {i:Nat} {b:Bool},yJ l i=some b->i7.br i b ∈ l
 | [],_,_,h=>by cases h
 | .br j c::r,i,b,h=>by
   rw[yJ]at h;cases f:Nat.beq j i with
   | true=>rw[f]at h;cases h;rw[A0 f];exact B2
   | false=>rw[f]at h;exact C3 _ (bL h)
 | .lt _ _ _ _::r,i,b,h=>C3 _ (bL (l:=r) h)
 | .dt _ _ _ _::r,i,b,h=>C3 _ (bL (l:=r) h)
 | .as _ _::r,i,b,h=>C3 _ (bL (l:=r) h)
 | .con _ _ _ _ _::r,i,b,h=>C3 _ (bL (l:=r) h)
def eS{lg f:Lg}{b:Bool}(h:brL lg c=some (b,f)):lg.le f:=by
 unfold brL at h;split at h
 .cases h;exact .refl _
 .obtain⟨nx,pi,log⟩:=lg;simp only at h;split at h
  .cases h;exact .refl _
  .split at h
   .cases h;exact⟨[_],rfl⟩
   .cases h;exact⟨[_],rfl⟩
   .cases h
 .cases h
def lT{lg f:Lg}{b:Bool}(h:brL lg c=some (b,f))(q:VR ρ c c')(n:Sat f):c'=.bool b:=by
 unfold brL at h;split at h
 .cases h;exact cF q
 .rename_i i;have B:Ora.env i=.bool b:=by
   obtain⟨nx,pi,log⟩:=lg;simp only at h;split at h
   .rename_i b' A;cases h;exact n _ (bL A)
   .split at h
    .cases h;exact n (.br i true) B2
    .cases h;exact n (.br i false) B2
    .cases h
  obtain⟨b',h1,j⟩:=gN q rfl;have j:Ora.env i=.bool b':=j;rw[B]at j;cases j;exact h1
 .cases h
def uC:∀ {a b:List U} {z:Bool},a.length%2=0->lQ (a++b)=some z->∃ x y,lQ a=some x/\lQ b=some y/\z=(x && y)
 | [],b,z,_,h=>⟨true,z,rfl,h,rfl⟩
 | [_],_,_,hl,_=>by simp at hl
 | p::q::r,b,z,hl,h=>by
   simp only[R7]at h;unfold lQ at h;split at h
   .rename_i u v j n;cases h;obtain⟨x,y,h1,f,rfl⟩:=uC (by simp only[D8]at hl;omega) n;exact⟨u && x,y,by simp only[lQ,j,h1],f,by simp[Bool.and_assoc]⟩
   .cases h
def TC(h:eN P t x y=true)(hx:VR ρ x x')(C:VR ρ y y'){b:Bool}(j:eqU (D6 Ora.env x) (D6 Ora.env y)=some b)(n:Nat)(w:World):(Op.equalIn (n+1) t x' y').run P w=.ok b w:=by
 unfold eN at h;split at h
 .rename_i hu;obtain⟨h1,f⟩:=B4 h;obtain⟨p,rfl,A⟩:=gN hx (A0 h1);obtain⟨q,rfl,B⟩:=gN C (A0 f);rw[A,B]at j;cases j;simp[Op.equalIn,A4,C8 hu,Result.andThen]
 .rename_i k hu;obtain⟨h1,f⟩:=B4 h;have h1:=A0 h1;have f:=A0 f;obtain⟨E,p,rfl,A,f1⟩:=M2 hx (by have:=L4 k;omega);obtain⟨D,q,rfl,B,f2⟩:=M2 C (by have:=L4 k;omega);have g1:E=k:=by cases E<;>cases k<;>first|rfl|(simp only[hH]at f1 h1;omega)
  have g2:D=k:=by cases D<;>cases k<;>first|rfl|(simp only[hH]at f2 f;omega)
  subst g1;subst g2;rw[A,B]at j;simp[eqU]at j;subst j;simp[Op.equalIn,A4,C8 hu,Result.andThen]
 .rename_i hu;obtain⟨h1,f⟩:=B4 h;obtain⟨p,rfl,A⟩:=l5 hx (A0 h1);obtain⟨q,rfl,B⟩:=l5 C (A0 f);rw[A,B]at j;cases j
  have:=run_equalIn_string (P:=P) w n t ⟨⟨p⟩⟩ ⟨⟨q⟩⟩ hu;rw[this];simp[ByteArray.toList_eq]
 .cases h
mutual
def RW:∀ (d:Nat) (t:TypeId) (x y:Value) (l:List Value),eqS P d t x y=some l->l.length%2=0
 | 0,_,_,_,_,h=>by simp[eqS]at h
 | d+1,t,x,y,l,h=>by
   unfold eqS at h;cases hs:eN P t x y with
   | true=>rw[hs]at h;cases h;simp
   | false =>
     rw[hs]at h;simp only[D7]at h;split at h
     .rename_i fs xs ys hu;cases hst:P.stoodInHeld t with
      | true=>rw[hst]at h;cases h
      | false=>rw[hst]at h;exact yN d _ _ _ l h
     .split at h
      .exact yN d _ _ _ l h
      .cases h
     .cases h
def yN:∀ (d:Nat) (fs:List Field) (xs ys:List Value) (l:List Value),yO P d fs xs ys=some l->l.length%2=0
 | 0,_,_,_,_,h=>by simp[yO]at h
 | d+1,[],_,_,_,h=>by simp only[yO,D2]at h;subst h;rfl
 | d+1,f::fs,xs,ys,l,h=>by
   unfold yO at h;cases hnm:f.name == "_" with
   | true=>rw[hnm]at h;cases h
   | false =>
     rw[hnm]at h;simp only[D7]at h;split at h
     .split at h
      .rename_i a b ha hb;cases h
       have:=RW d _ _ _ a ha
       have:=yN d _ _ _ b hb;simp only[D0];omega
      .cases h
     .cases h
end
mutual
def NS:∀ (d:Nat) (t:TypeId) (x y x' y':Value) (l:List Value) (b:Bool),eqS P d t x y=some l->lQ (l.map (D6 Ora.env))=some b->VR ρ x x'->VR ρ y y'->∀ (n:Nat),d<=n->∀ w:World,(Op.equalIn n t x' y').run P w=.ok b w
 | 0,_,_,_,_,_,_,_,h,_,_,_,_,_,_=>by simp[eqS]at h
 | d+1,t,x,y,x',y',l,b,h,hl,hx,hy,n,hn,w=>by
   obtain⟨n,rfl⟩:∃ k,n=k+1:=⟨n-1,A2⟩;have hn':d<=n:=A2;unfold eqS at h;cases hs:eN P t x y with
   | true =>
     rw[hs]at h;cases h;simp only[B9,F7,lQ]at hl;split at hl
     .rename_i u v e1 e2;cases e2;cases hl;rw[nQ];exact TC hs hx hy e1 n w
     .cases hl
   | false =>
     rw[hs]at h;simp only[D7]at h;split at h
     .rename_i fs xs ys hu;cases hst:P.stoodInHeld t with
      | true=>rw[hst]at h;cases h
      | false =>
        rw[hst]at h;obtain⟨xs',rfl,hx1⟩:=V4 hx;obtain⟨ys',rfl,hy1⟩:=V4 hy;have hf:P.fieldsOf t=fs:=by simp[Program.fieldsOf,hu]
        rw[run_equalIn_struct (P:=P) w n t _ _ (by rw[hf];exact hu) hst,hf];exact FG d fs.toList xs.toList ys.toList xs' ys' l b h hl hx1 hy1 n hn' w
     .rename_i k e xs ys hu;split at h
      .rename_i s hz;obtain⟨xs',rfl,hx1⟩:=V4 hx;obtain⟨ys',rfl,hy1⟩:=V4 hy;obtain⟨i,hi,rfl⟩:=AS hz;rw[run_equalIn_array (P:=P) (w:=w) n _ _ hu hi,show P.cellsOf e=i.size by simp[Program.cellsOf,hi],eQ];exact FG d _ xs.toList ys.toList xs' ys' l b h hl hx1 hy1 n hn' w
      .cases h
     .cases h
def FG:∀ (d:Nat) (fs:List Field) (xs ys xs' ys':List Value) (l:List Value) (b:Bool),yO P d fs xs ys=some l->lQ (l.map (D6 Ora.env))=some b->LR ρ xs xs'->LR ρ ys ys'->∀ (n:Nat),d<=n->∀ w:World,(Op.eqFields n ⟨xs'⟩ ⟨ys'⟩ fs).run P w=.ok b w
 | 0,_,_,_,_,_,_,_,h,_,_,_,_,_,_=>by simp[yO]at h
 | d+1,[],_,_,_,_,_,b,h,hl,_,_,_,_,_=>by
   simp only[yO,D2]at h;subst h;simp only[F7,lQ,D2]at hl;subst hl;simp[Op.eqFields]
 | d+1,f::fs,xs,ys,xs',ys',l,b,h,hl,hx,hy,n,hn,w=>by
   unfold yO at h;cases hnm:f.name == "_" with
   | true=>rw[hnm]at h;cases h
   | false =>
     rw[hnm]at h;simp only[D7]at h;have hn':f.name ≠ "_":=by simpa using hnm
     split at h
     .rename_i x y h1 h2;obtain⟨x',g1,g2⟩:=gW h1 hx w;obtain⟨y',g3,g4⟩:=gW h2 hy w;split at h
      .rename_i a c ha hc;cases h;rw[Q6]at hl;obtain⟨p,q,e1,e2,rfl⟩:=uC (by have:=RW d _ _ _ a ha;simpa using this) hl;have ih:=NS d f.type x y x' y' a p ha e1 g2 g4 n A2 w;have ih2:=FG d fs xs ys xs' ys' c q hc e2 hx hy n A2 w;unfold Op.eqFields;rw[A9 hn'];cases p<;>simp[A4,g1,g3,Result.andThen,ih,ih2]
      .cases h
     .cases h
end
end
end
section
open Go
variable [Ora]
section
variable {P:Program} {base:Nat} {ρ:Ren} {m m':Mem} {w w':World}
def St.new0{ab:AB}(h:HR P base ρ m.H w)(O:Y6 m ab k=some (v,m'))(R:J9 ρ m.n m'.hi)(K:BR P (upd ρ m.n l') ab l' w)(F:l'.on=false)
  (N:∀ q,Tc ab l' q->Fp ρ m.H q/\∀ id,id<=H5->∀ a l,Hp.get m.H id=some a->ρ id=some l->a.rw=true->l.on=true->l.blk≠q):v=k m.n/\upd ρ m.n l' m.n=some l'/\St P base ρ (upd ρ m.n l') m m' w w:=by
 obtain⟨hle,hv,rfl⟩:=L3 O;have D:ρ m.n=none:=R m.n (A7 _) (K7 _ _).2;have A:=W5 (l:=l') D;refine⟨hv,L5 _ _ _,A,fun b q h1 j=>?_,by simp,(K7 _ _).1,fun _=>Y0 (K7 _ _).2,⟨fun b q M=>?_,fun id hid a f=>?_⟩,fun b K=>K,fun b h1 j=>absurd h1 j,fun q M _=>rfl,A7 _,⟨rfl,rfl,rfl⟩,fun b q h1 j B=>?_,fun id hid h1 j=>?_,fun q ⟨id,a,l,hid,f,E,L⟩=>.inr ?_⟩
 .obtain⟨rfl,rfl⟩:=U3 h1 j;exact⟨A7 _,I9 _⟩
 .cases h0:ρ b with
  | some Q=>exact h.dom b Q h0
  | none=>obtain⟨rfl,rfl⟩:=U3 M h0;exact hle
 .rw[E8 _ _ _ _ hle hid]at f;by_cases e:id=m.n
  .rw[A9 e]at f;have f:=A8 f;subst f;subst e;exact⟨l',L5 _ _ _,K,fun _ B=>(by rw[F]at B;cases B)⟩
  .rw[A6 e]at f;obtain⟨l0,h1,j,h3⟩:=h.at_ id hid a f;refine⟨l0,A _ _ h1,j.mono A (fun _ _=>rfl),fun hr B=>⟨(h3 hr B).1,fun G C I l2 g1 g2 g3=>?_⟩⟩;rw[E8 _ _ _ _ hle C]at g1;by_cases J:G=m.n
   .subst J;rw[L5]at g2
    have:=A8 g2;subst this;rw[A9 rfl]at g1;have g1:=A8 g1;subst g1;exact absurd rfl ((N _ g3).2 id hid a l0 f h1 hr B)
   .rw[A6 J]at g1;unfold upd at g2;rw[A6 J]at g2;exact(h3 hr B).2 G C I l2 g1 g2 g3
 .obtain⟨rfl,rfl⟩:=U3 h1 j;rw[F]at B;cases B
 .rw[E8 _ _ _ _ hle hid,A6];intro e;subst e;rcases j with j|j
  .omega
  .have j:upN m.hi m.n<=m.n:=j
   have:=(K7 m.hi m.n).2;omega
 .have f:Hp.get (m.H.set m.n (some ab)) id=some a:=f;rw[E8 _ _ _ _ hle hid]at f;by_cases e:id=m.n
  .subst e;rw[A9 rfl]at f;have f:=A8 f;subst f;rw[L5]at E;have E:=A8 E;subst E;exact(N q L.2).1
  .rw[A6 e]at f;unfold upd at E;rw[A6 e]at E;exact⟨id,a,l,hid,f,E,L⟩
def St.same0{ab:AB}{id:Nat}(h:HR P base ρ m.H w)(T:cA m id ab'=some m')(L:Hp.get m.H id=some ab)(D:ab.rw=true)(G:ρ id=some l)(N:BR P ρ ab' l w)(Q:∀ q,Tc ab' l q->Tc ab l q):St P base ρ ρ m m' w w:=by
 obtain⟨hle,rfl⟩:=U4 T;obtain⟨E,h3⟩:=h.atl G L;refine⟨fun _ _ h=>h,fun b k h1 E=>(by rw[h1]at E;cases E),A7 _,A7 _,fun h=>h,⟨h.dom,fun n f a A=>?_⟩,fun b N=>C3 _ N,fun b h1 E k I=>?_,fun k I S=>rfl,A7 _,⟨rfl,rfl,rfl⟩,fun b k h1 E=>(by rw[h1]at E;cases E),fun n f R U=>?_,fun k ⟨n,a,q,f,A,J,O⟩=>.inr ?_⟩
 .rw[E8 _ _ _ _ hle f]at A;by_cases e:n=id
  .rw[A9 e]at A;have A:=A8 A;subst A;subst e;refine⟨l,G,N,fun _ B=>⟨(h3 D B).1,fun C j F M g1 g2 g3=>?_⟩⟩;rw[E8 _ _ _ _ hle j]at g1;by_cases K:C=n
   .exact K
   .rw[A6 K]at g1;exact(h3 D B).2 C j F M g1 g2 g3
  .rw[A6 e]at A;obtain⟨l2,g1,g2,g3⟩:=h.at_ n f a A;refine⟨l2,g1,g2.mono (fun _ _ h=>h) (fun k I=>rfl),fun hr B=>⟨(g3 hr B).1,fun C j F M f1 f2 f3=>?_⟩⟩;rw[E8 _ _ _ _ hle j]at f1;by_cases K:C=id
   .subst K;rw[G]at f2
    have:=A8 f2;subst this;have f1:=A8 (by simpa using f1);subst f1;exact(g3 hr B).2 C j ab l L G (Q _ f3)
   .rw[A6 K]at f1;exact(g3 hr B).2 C j F M f1 f2 f3
 .rcases B3.1 h1 with rfl|h1
  .exact⟨ab,L,D⟩
  .exact absurd h1 E
 .rw[E8 _ _ _ _ hle f,A6];intro e;subst e;exact R B2
 .have A:Hp.get (m.H.set id (some ab')) n=some a:=A;rw[E8 _ _ _ _ hle f]at A;by_cases e:n=id
  .subst e;rw[A9 rfl]at A;have A:=A8 A;subst A;rw[G]at J;have J:=A8 J;subst J;exact⟨n,ab,l,f,L,G,AB.rw_fr D,Q _ O.2⟩
  .rw[A6 e]at A;exact⟨n,a,q,f,A,J,O⟩
def St.move{ab:AB}{id:Nat}(h:HR P base ρ m.H w)(hle:id<=H5)(hg:Hp.get m.H id=some ab)(E:ab.rw=true)(W:ρ id=some l)
  (hn:Y6 (jQ m id) ab' k=some (v,m')) (hf:J9 ρ m.n m'.hi) (O:l'.on=true->l.on=true/\l'.blk=l.blk)
  (ho:w'.os=w.os/\w'.tape=w.tape/\w'.output=w.output) (ay:w'.heap.size=w.heap.size) (Y:∀ k,(l.on=true->k≠l.blk)->w'.heap[k]? = w.heap[k]?) (X:BR P (upd ρ m.n l') ab' l' w') (aw:ab'≠.frz) :
  v=k m.n/\upd ρ m.n l' m.n=some l'/\St P base ρ (upd ρ m.n l') m m' w w':=by
 rw[g8]at hn;obtain⟨U,hv,rfl⟩:=L3 hn;have C:ρ m.n=none:=hf m.n (A7 _) (K7 _ _).2;have G:=W5 (l:=l') C;obtain⟨Q,h3⟩:=h.atl W hg;have R:∀ k,Tc ab' l' k->l.on=true/\k=l.blk:=fun k Y=>by
  rcases Y with⟨_,h1,rfl⟩|⟨rfl,_⟩
  .exact O h1
  .exact absurd rfl aw
 have av:id≠m.n:=fun e=>by subst e;rw[W]at C;cases C
 have A:∀ i,i<=H5->Hp.get ((m.H.set id none).set m.n (some ab')) i=if i=m.n then some ab' else if i=id then none else Hp.get m.H i:=fun i hi=>by
  rw[E8 _ _ _ _ U hi,E8 _ _ _ _ hle hi]
 refine⟨hv,L5 _ _ _,G,fun b q h1 Q=>?_,Y9 _,(K7 _ _).1,fun _=>Y0 (K7 _ _).2,⟨fun b q F=>?_,fun i hi a f=>?_⟩,fun b X=>C3 _ X,fun b h1 Q q F=>?_,fun q F az=>Y q ?_,by rw[ay];exact A7 _,ho,fun b q h1 Q B=>?_,fun i hi h4 V=>?_,fun k ⟨i,a,q,hi,f,F,ht⟩=>.inr ?_⟩
 .obtain⟨rfl,rfl⟩:=U3 h1 Q;exact⟨A7 _,I9 _⟩
 .cases h0:ρ b with
  | some q0=>exact h.dom b q0 h0
  | none=>obtain⟨rfl,rfl⟩:=U3 F h0;exact U
 .have f:Hp.get ((m.H.set id none).set m.n (some ab')) i=some a:=f;rw[A i hi]at f;by_cases e:i=m.n
  .rw[A9 e]at f;have f:=A8 f;subst f;subst e;refine⟨l',L5 _ _ _,X,fun au B=>?_⟩;obtain⟨j,D⟩:=O B;refine⟨by rw[D];exact(h3 E j).1,fun K L Z l2 g1 g2 g3=>?_⟩;rw[A K L]at g1;by_cases e2:K=m.n
   .exact e2
   .rw[A6 e2]at g1;unfold upd at g2;rw[A6 e2]at g2;by_cases J:K=id
    .rw[A9 J]at g1;cases g1
    .rw[A6 J]at g1;exact absurd ((h3 E j).2 K L Z l2 g1 g2 (D▸g3)) J
  .rw[A6 e]at f;by_cases J:i=id
   .rw[A9 J]at f;cases f
   .rw[A6 J]at f;obtain⟨l2,g1,g2,g3⟩:=h.at_ i hi a f;have S:∀ k,Tc a l2 k->l.on=true->k≠l.blk:=fun k N j hh=>J ((h3 E j).2 i hi a l2 f g1 (hh▸N))
    refine⟨l2,G _ _ g1,g2.mono G (fun k N=>Y _ (S k N)),fun hr B=>⟨(g3 hr B).1,fun I M T l3 f1 f2 f3=>?_⟩⟩;have f1:Hp.get ((m.H.set id none).set m.n (some ab')) I=some T:=f1;rw[A I M]at f1;by_cases e4:I=m.n
    .subst e4;rw[L5]at f2
     have:=A8 f2;subst this;rw[A9 rfl]at f1;have f1:=A8 f1;subst f1;obtain⟨j,F⟩:=R _ f3;exact absurd F (S _ (.inl ⟨AB.rw_on hr,B,rfl⟩) j)
    .rw[A6 e4]at f1;unfold upd at f2;rw[A6 e4]at f2;by_cases e5:I=id
     .rw[A9 e5]at f1;cases f1
     .rw[A6 e5]at f1;exact(g3 hr B).2 I M T l3 f1 f2 f3
 .rcases B3.1 h1 with rfl|h1
  .exact⟨ab,hg,E⟩
  .exact absurd h1 Q
 .exact fun j e=>az id B2 l W j e.symm
 .obtain⟨rfl,rfl⟩:=U3 h1 Q;obtain⟨j,D⟩:=O B;exact .inr ⟨id,B2,l,W,j,D.symm⟩
 .have ax:=A i hi;show Hp.get ((m.H.set id none).set m.n (some ab')) i=_;rw[ax,A6,A6]
  .intro e;subst e;exact h4 B2
  .intro e;subst e;rcases V with V|V
   .omega
   .have V:upN m.hi m.n<=m.n:=V
    have:=(K7 m.hi m.n).2;omega
 .have f:Hp.get ((m.H.set id none).set m.n (some ab')) i=some a:=f;rw[A i hi]at f;by_cases e:i=m.n
  .rw[A9 e]at f;have f:=A8 f;subst f;subst e;rw[L5]at F;have F:=A8 F;subst F;obtain⟨j,X⟩:=R k ht.2;exact⟨id,ab,l,hle,hg,W,AB.rw_fr E,.inl ⟨AB.rw_on E,j,X.symm⟩⟩
  .rw[A6 e]at f;unfold upd at F;rw[A6 e]at F;by_cases J:i=id
   .rw[A9 J]at f;cases f
   .rw[A6 J]at f;exact⟨i,a,q,hi,f,F,ht⟩
end
end
section
open Go
variable [Ora]
def y6{m m':Mem}{ab:AB}(h:Y6 m ab k=some (v,m')):m'.lg=m.lg:=by
 obtain⟨_,_,rfl⟩:=L3 h;rfl
def dF{m m':Mem}{id:Nat}{ab:AB}(h:cA m id ab=some m'):m'.lg=m.lg:=by
 obtain⟨_,rfl⟩:=U4 h;rfl
def rU{m m':Mem}(h:nR m a vs=some m'):m'.lg=m.lg:=by
 unfold nR at h;split at h
 .obtain⟨_,h⟩:=A3 h;rw[H8]at h;exact dF h
 .cases h
def SU{P:Program}{m m':Mem}(h:wF P m t a v=some m'):m'.lg=m.lg:=by
 unfold wF at h;split at h
 .obtain⟨_,h⟩:=A3 h;exact rU h
 .cases h
def n7{m m':Mem}(h:noM o m=some (v,m')):m'.lg=m.lg:=by
 obtain⟨_,rfl⟩:=g7 h;rfl
def zB{P:Program}{m m':Mem}{n:Nat}{ps:List (Nat×Value)}(h:cJ P m t n ps=some (v,m')):m'.lg=m.lg:=by
 unfold cJ at h;split at h
 .split at h
  .obtain⟨_,h⟩:=A3 h;split at h
   .exact y6 h
   .cases h
  .cases h
 .cases h
def AC{P:Program}{m m':Mem}{l:Value}(h:eH P m t l c=some (v,m')):m'.lg=m.lg:=by
 unfold eH at h;split at h
 .split at h
  .obtain⟨_,h⟩:=A3 h;split at h
   .rw[H8]at h;exact y6 h
   .cases h
  .cases h
 .cases h
def A07{P:Program}{m m':Mem}(h:CK P m s t x=some (v,m')):m'.lg=m.lg:=by
 unfold CK at h;split at h
 .cases h;rfl
 .cases h;rfl
 .cases h;rfl
 .split at h
  .split at h
   .rw[H8]at h;exact y6 h
   .cases h
  .cases h
 .split at h<;>cases h;rfl
 .split at h
  .split at h
   .split at h<;>cases h;rfl
   .cases h
  .cases h
 .cases h
def OH{P:Program}{m m':Mem}(h:rQ P m t t2 x y=some (v,m')):m'.lg=m.lg:=by
 unfold rQ at h;split at h
 .rename_i B d2 _ _;cases j:cQ d2 with
  | false=>rw[j]at h;cases h
  | true =>
  rw[j]at h;simp only[P7,D7]at h;split at h
  .rename_i i a n c _;split at h
   .rename_i k new z _ _;obtain⟨_,h⟩:=A3 h;cases A:Nat.beq k 0 with
    | true =>
      rw[A]at h;simp only[E1]at h;split at h
      .obtain⟨_,h⟩:=A3 h;cases h;rfl
      .obtain⟨_,h⟩:=A3 h;cases h;rfl
    | false =>
      rw[A]at h;simp only[D7]at h;split at h
      .obtain⟨_,h⟩:=A3 h;rw[H8]at h;exact y6 h
      .cases q:Nat.blt c M5 with
       | true =>
         rw[q]at h;simp only[E1]at h;cases f:Nat.ble (n+k) c with
         | true =>
           rw[f]at h;simp only[E1]at h;split at h
           .rename_i m1 _ hw;cases h;exact rU hw
           .cases h
         | false =>
           rw[f]at h;simp only[D7]at h;split at h
           .rw[H8]at h;exact y6 h
           .cases h
       | false =>
         rw[q]at h;simp only[D7]at h;obtain⟨_,h⟩:=A3 h;split at h
         .obtain⟨_,h⟩:=A3 h;rw[H8]at h;rw[y6 h,g8]
         .cases h
   .cases h
  .cases h
 .cases h
def A04{P:Program}{m m':Mem}(h:KI P m t x y=some (v,m')):m'.lg=m.lg:=by
 unfold KI at h;split at h
 .split at h
  .split at h
   .split at h
    .obtain⟨_,h⟩:=A3 h;cases h;rfl
    .rename_i k cs j _ n;cases f:Nat.beq cs.length 0 with
     | true=>rw[f]at h;cases h;rfl
     | false =>
       rw[f]at h;simp only[D7]at h;obtain⟨_,h⟩:=A3 h;split at h
       .rename_i hw;cases h;exact rU hw
       .cases h
   .cases h
  .cases h
 .cases h
def zM{P:Program}{m m':Mem}{l:Value}(h:dW P m pt p l=some (v,m')):m'.lg=m.lg:=by
 unfold dW at h;split at h
 .cases h;rfl
 .split at h
  .split at h
   .obtain⟨_,h⟩:=A3 h;split at h
    .split at h
     .rename_i X3;cases h;exact dF X3
     .cases h
    .cases h
   .cases h
  .cases h
 .cases h
def KW{P:Program}{m m':Mem}(h:iA P m b vs tys=some (v,m')):m'.lg=m.lg:=by
 unfold iA at h;split at h
 .exact n7 h
 .exact n7 h
 .exact OH h
 .exact A04 h
 .exact n7 h
 .exact n7 h
 .unfold iL at h;split at h
  .cases h;rfl
  .rename_i a n c;cases f:Nat.beq n 0 || Nat.beq c 0 || Nat.beq c (M5+2)with
   | true=>rw[f]at h;cases h
   | false=>rw[f]at h;cases h;rfl
  .cases h
 .exact zM h
 .cases h
def A6J{P:Program}{fr:Fr}{m m':Mem}{o:Op}(h:opM P fr m o=some (v,m')):m'.lg=m.lg:=by
 unfold opM at h;split at h
 .cases h;rfl
 .cases h;rfl
 .unfold QB at h;split at h<;>cases h<;>rfl
 .unfold EC at h;split at h
  .exact y6 h
  .cases h
 .unfold YH at h;obtain⟨_,h⟩:=A3 h;exact y6 h
 .exact n7 h
 .exact zB h
 .unfold QC at h;split at h
  .exact n7 h
  .cases h
 .unfold EA at h;split at h
  .obtain⟨h,_⟩:=mQ h;exact SU h
  .cases h
 .unfold YG at h;split at h<;>cases h<;>rfl
 .unfold A2L at h;rename_i op t x y j;cases f:yB op with
  | true=>rw[f]at h;simp only[E1]at h;obtain⟨_,h⟩:=A3 h;exact n7 h
  | false=>rw[f]at h;exact n7 h
 .exact n7 h
 .exact A07 h
 .unfold EB at h;split at h
  .split at h
   .cases h
   .obtain⟨_,h⟩:=A3 h;cases h;rfl
  .cases h
 .cases h;rfl
 .exact AC h
 .exact n7 h
 .exact n7 h
 .exact n7 h
 .exact n7 h
 .exact n7 h
 .unfold kW at h;split at h
  .exact n7 h
  .cases h
 .exact KW h
 .cases h
def H6{m m':Mem}{t:Nat}{op:LOp}(h:T9 m t op xs=some (v,m')):m.lg.le m'.lg:=by
 obtain⟨_,rfl⟩:=iU h;obtain⟨H,n,W,hi,l⟩:=m;exact⟨[_],rfl⟩
def J5(m m':Mem):Prop:=∃ lg,m'=m.wLg lg
def J5.refl(m:Mem):J5 m m:=⟨m.lg,by cases m;rfl⟩
def J5.trans{a b c:Mem}(h:J5 a b)(k:J5 b c):J5 a c:=by
 obtain⟨l,rfl⟩:=h;obtain⟨l2,rfl⟩:=k;exact⟨l2,by cases a;rfl⟩
def H3{m m':Mem}{t:Nat}{op:LOp}(h:T9 m t op xs=some (v,m')):J5 m m':=⟨_,(iU h).2⟩
section
variable {P:Program} {base:Nat} {ρ:Ren} {m m':Mem} {w:World}
def LT{a b:Value}(h:vH m c a b=some (v,m')):m.lg.le m'.lg/\J5 m m':=by
 obtain⟨H,n,W,hi,lg⟩:=m;unfold vH at h;simp only at h;split at h
 .rename_i j f;cases h;exact⟨eS f,⟨_,rfl⟩⟩
 .rename_i j f;cases h;exact⟨eS f,⟨_,rfl⟩⟩
 .cases h
def SS{a b:Value}(h:nT P m op t a b=some (v,m')):m.lg.le m'.lg/\J5 m m':=by
 unfold nT at h;simp only at h;cases h1:(Nat.blt (G2 a) 8 && Nat.blt (G2 b) 8) || (Nat.beq (G2 a) 9 && Nat.beq (G2 b) 9)with
 | true=>rw[h1]at h;exact⟨H6 h,H3 h⟩
 | false =>
   rw[h1]at h;simp only[D7]at h;obtain⟨_,h⟩:=A3 h;exact⟨H6 h,H3 h⟩
def VM{x y:Operand}{a b:Value}(h:GZ P m op t x y a b=some (v,m')):m.lg.le m'.lg/\J5 m m':=by
 unfold GZ at h;obtain⟨_,h⟩:=A3 h;split at h
 .exact⟨H6 h,H3 h⟩
 .split at h
  .rename_i m1 h1;exact⟨(H6 h1).trans (H6 h),(H3 h1).trans (H3 h)⟩
  .cases h
 .cases h
def GY{i:Value}(h:d9 P m t x i=some (v,m')):m.lg.le m'.lg/\J5 m m':=by
 unfold d9 at h;cases f:!(Nat.blt (G2 i) 8)with
 | true=>rw[f]at h;cases h
 | false =>
   rw[f]at h;simp only[D7]at h;split at h
   .obtain⟨_,h⟩:=A3 h;exact⟨H6 h,H3 h⟩
   .split at h
    .obtain⟨_,h⟩:=A3 h;exact⟨H6 h,H3 h⟩
    .obtain⟨_,h⟩:=A3 h;exact⟨H6 h,H3 h⟩
    .cases h
   .cases h
def GW(h:kJ P m t x lo hi mx=some (v,m')):m.lg.le m'.lg/\J5 m m':=by
 unfold kJ at h;split at h
 .obtain⟨_,h⟩:=A3 h;split at h
  .cases h;exact⟨.refl _,.refl _⟩
  .obtain⟨_,h⟩:=A3 h;exact⟨H6 h,H3 h⟩
  .obtain⟨_,h⟩:=A3 h;exact⟨H6 h,H3 h⟩
  .obtain⟨_,h⟩:=A3 h;exact⟨H6 h,H3 h⟩
 .cases h
def VJ{op:UnOp}(h:GU m op x=some (v,m')):m.lg.le m'.lg/\J5 m m':=by
 unfold GU at h;simp only at h;split at h
 .obtain⟨_,h⟩:=A3 h;exact⟨H6 h,H3 h⟩
 .obtain⟨_,h⟩:=A3 h;exact⟨H6 h,H3 h⟩
def LX(h:pF P m s t x=some (v,m')):m.lg.le m'.lg/\J5 m m':=by
 unfold pF at h;split at h
 .obtain⟨_,h⟩:=A3 h;exact⟨H6 h,H3 h⟩
 .obtain⟨_,h⟩:=A3 h;cases h;exact⟨.refl _,.refl _⟩
 .cases h
def zV(h:eA P m b vs tys=some (v,m')):m.lg.le m'.lg/\J5 m m':=by
 unfold eA at h;split at h
 .split at h
  .obtain⟨_,h⟩:=A3 h;exact⟨H6 h,H3 h⟩
  .cases h
 .obtain⟨_,h⟩:=A3 h;exact⟨H6 h,H3 h⟩
 .obtain⟨_,h⟩:=A3 h;exact⟨H6 h,H3 h⟩
 .cases h
def RE{s n:Nat}{i:Value}(h:UB m a s n i=some (v,m')):m.lg.le m'.lg/\J5 m m':=by
 unfold UB at h;cases j:!(Nat.blt (G2 i) 8)with
 | true=>rw[j]at h;cases h
 | false =>
   rw[j]at h;simp only[D7]at h;split at h
   .rename_i b H k W hi lg q;split at h
    .rename_i f C;cases h;have h1:=H6 q;obtain⟨l1,B⟩:=H3 q;refine⟨h1.trans (eS C),f,?_⟩;obtain⟨H0,n0,D,A,l0⟩:=m;cases B;rfl
    .cases h
   .cases h
def zR{i:Value}(h:dY P m t x i=some (v,m')):m.lg.le m'.lg/\J5 m m':=by
 unfold dY at h;split at h
 .split at h
  .exact RE h
  .cases h
 .split at h
  .generalize f:Nat.beq _ (M5+2)=q at h;cases q with
   | true=>cases h
   | false=>exact RE h
  .cases h
 .cases h
def zT(h:dZ P m s x i=some (v,m')):m.lg.le m'.lg/\J5 m m':=by
 unfold dZ at h;split at h
 .split at h
  .split at h
   .split at h
    .cases h;exact⟨.refl _,.refl _⟩
    .cases h
   .cases h
  .cases h
 .cases h
def fI{cs:C9}{s n:Nat}{i:Value}:∀ {k o:Nat} {m m':Mem} {r:C9},cB m cs s n i o k=some (r,m')->m.lg.le m'.lg/\J5 m m'
 | 0,o,m,m',r,h=>by cases h;exact⟨.refl _,.refl _⟩
 | k+1,o,m,m',r,h=>by
   unfold cB at h;split at h
   .obtain⟨_,h⟩:=A3 h;split at h
    .rename_i m1 h1;split at h
     .rename_i f;cases h
      have:=fI f;exact⟨(H6 h1).trans this.1,(H3 h1).trans this.2⟩
     .cases h
    .cases h
   .cases h
def LV(h:pE P m t x=some (v,m')):m.lg.le m'.lg/\J5 m m':=by
 unfold pE at h;split at h
 .split at h
  .split at h
   .split at h
    .rename_i h1;cases h;exact fI h1
    .cases h
   .cases h
  .split at h
   .split at h
    .rename_i h1;cases h;exact fI h1
    .cases h
   .cases h
  .cases h
 .cases h
def OU{fr:Fr}{o:Op}(h:VK P fr m o=some (v,m')):m.lg.le m'.lg/\J5 m m':=by
 unfold VK at h;split at h
 .exact LT h
 .split at h
  .rename_i r hr;cases h;exact SS hr
  .exact VM h
 .exact VJ h
 .exact LX h
 .exact GW h
 .exact GY h
 .exact zR h
 .exact zT h
 .exact LV h
 .exact zV h
 .cases h
def qJ{j k:IntKind}(h:hH j=hH k):j=k:=by cases j<;>cases k<;>first|rfl|(simp only[hH]at h;omega)
def SR{x y:Operand}{a b:Value}(h:nT P m op t a b=some (v,m'))(H:VR ρ a a')(G:VR ρ b b')(J:Sat m'.lg)(w:World) :
  ∃ r,(do eqGuard op t x y a' b';binOp op t a' b':Sem Value).run P w=.ok r w/\VR ρ v r:=by
 have fin:∀ {r:Value} {p q:Value},wO p=true->wO q=true->rN P op t p q=some r->a'=p->b'=q->(do eqGuard op t x y a' b';binOp op t a' b':Sem Value).run P w=.ok r w:=fun{r p q} hp L hr f C=>by
  subst f;subst C;have v1:VR ρ a' a':=.pure (by cases a'<;>simp[wO]at hp<;>rfl);have v2:VR ρ b' b':=.pure (by cases b'<;>simp[wO]at L<;>rfl);have g:lL P t x y a' b'=true:=by
   cases a'<;>simp[wO]at hp<;>cases b'<;>simp[wO]at L<;>rfl
  have Q:=qV (op:=op) (fun _=>g) v1 v2 w;obtain⟨A,_⟩:=vR hr v1 v2 w;simp[A4,Q,A,Result.andThen]
 unfold nT at h;simp only at h;cases h1:(Nat.blt (G2 a) 8 && Nat.blt (G2 b) 8) || (Nat.beq (G2 a) 9 && Nat.beq (G2 b) 9)with
 | true =>
   rw[h1]at h;obtain⟨u,f,C,r,B,D,N⟩:=M1 h J;have K:F9 u<10:=by rw[C];exact N
   refine⟨r,?_,D ρ⟩;rcases I5 _ _▸h1 with h1|h1
   .obtain⟨E,F⟩:=B4 h1;obtain⟨k,n,rfl,f1,_⟩:=M2 H (A1 E);obtain⟨j,R,rfl,f2,_⟩:=M2 G (A1 F);simp only[B9,F7,f1,f2,evU,evB]at f;subst f;obtain⟨O,g1,g2⟩:=DZ K;rw[B]at g2;cases g2;exact fin rfl rfl (by unfold rN;exact g1) rfl rfl
   .obtain⟨E,F⟩:=B4 h1;obtain⟨s1,rfl,f1⟩:=l5 H (A0 E);obtain⟨s2,rfl,f2⟩:=l5 G (A0 F);simp only[B9,F7,f1,f2,evU,evB]at f;subst f;obtain⟨O,g1,g2⟩:=DZ K;rw[B]at g2;cases g2;exact fin rfl rfl (by unfold rN;exact g1) rfl rfl
 | false =>
   rw[h1]at h;simp only[D7]at h;obtain⟨A,h⟩:=A3 h;obtain⟨A,M⟩:=B4 A;obtain⟨A,I⟩:=B4 A;obtain⟨A,h3⟩:=B4 A;have hu:P.underlying t=some .bool:=by
    split at M
    .assumption
    .cases M
   obtain⟨u,f,C,r,B,D,_⟩:=M1 h J;refine⟨r,?_,D ρ⟩;obtain⟨p,rfl,f1⟩:=gN H (A0 A);obtain⟨q,rfl,f2⟩:=gN G (A0 h3);simp only[B9,F7,f1,f2,evU,evB]at f;cases op<;>simp only[yB]at I<;>first
    | cases I
    | skip
   .subst f;cases B;exact fin rfl rfl (by simp[rN,BB,eqM,hu]) rfl rfl
   .subst f;cases B;exact fin rfl rfl (by simp[rN,BB,eqM,hu]) rfl rfl
def uI(e:Bool)(f:∃ cs,a'=.agg cs):binOp (bif e then .eql else .neq) t a' b'=(do let r <- Op.equal t a' b';pure (.bool (bif e then r else !r))):=by
 obtain⟨cs,rfl⟩:=f;cases e<;>cases b'<;>rfl
def VL{x y:Operand}{a b:Value}(h:GZ P m op t x y a b=some (v,m'))(G:VR ρ a a')(Q:VR ρ b b')(j:nT P m op t a b=none)(K:Sat m'.lg)(w:World) :
  ∃ r,(do eqGuard op t x y a' b';binOp op t a' b':Sem Value).run P w=.ok r w/\VR ρ v r:=by
 unfold GZ at h;obtain⟨S,h⟩:=A3 h;have F:=qV (op:=op) (fun _=>S) G Q w;have q:∀ {l},eqS P 20 t a b=some l->(op=.eql∨op=.neq)->∃ cs,a'=.agg cs:=fun{l} f J=>by
  unfold eqS at f;cases B:eN P t a b with
  | true =>
    unfold eN at B;unfold nT at j;simp only at j;split at B
    .rename_i hu;obtain⟨D,E⟩:=B4 B;rw[A0 D,A0 E,hu]at j;obtain⟨H,n,W,hi,⟨nx,pi,log⟩⟩:=m;rcases J with rfl|rfl<;>simp[yB,T9,E5,H8]at j
    .rename_i k hu;obtain⟨D,E⟩:=B4 B;have U:=L4 k;have R:Nat.blt (hH k) 8=true:=C4 U;rw[A0 D,A0 E,R]at j;obtain⟨H,n,W,hi,⟨nx,pi,log⟩⟩:=m;simp[T9,E5,H8]at j
    .obtain⟨D,E⟩:=B4 B;rw[A0 D,A0 E]at j;obtain⟨H,n,W,hi,⟨nx,pi,log⟩⟩:=m;simp[T9,E5,H8]at j
    .cases B
  | false =>
    rw[B]at f;simp only[D7]at f;split at f
    .obtain⟨cs',rfl,_⟩:=V4 G;exact⟨_,rfl⟩
    .obtain⟨cs',rfl,_⟩:=V4 G;exact⟨_,rfl⟩
    .cases f
 split at h
 .rename_i l f _;obtain⟨u,A,T,r,I,M,_⟩:=M1 h K;refine⟨r,?_,M ρ⟩;simp only[evU]at A;split at A
  .rename_i z O;subst A;cases I;have he:(Op.equal t a' b').run P w=.ok z w:=NS 20 t a b a' b' l z f O G Q _ F5 w;have C:=uI (t:=t) (b':=b') true (q f (.inl rfl));simp only[E1]at C;rw[C];simp[A4,F,he,Result.andThen]
  .subst A;cases I
 .rename_i l f _;split at h
  .rename_i hh m1 h1;have L:Sat m1.lg:=R2.le K (H6 h);obtain⟨V,f1,f2,r1,f3,f4,_⟩:=M1 h1 L;obtain⟨u,A,T,r,I,M,_⟩:=M1 h K;refine⟨r,?_,M ρ⟩;simp only[evU]at f1;split at f1
   .rename_i z O;subst f1;cases f3;have hv:=w9 (ρ:=ρ) (f4 ρ) (by obtain⟨e,_⟩:=iU h1;rw[e];show 8<10;omega);have:D6 Ora.env hh=.bool z:=by
     cases hu:D6 Ora.env hh<;>rw[hu]at hv<;>first|(cases hv.1;done)|skip
     all_goals (obtain⟨N,_⟩:=hv;cases N;rfl)
    simp only[B9,F7,this,evU,ev1,unM,ofV]at A;subst A;cases I;have he:(Op.equal t a' b').run P w=.ok z w:=NS 20 t a b a' b' l z f O G Q _ F5 w;have C:=uI (t:=t) (b':=b') false (q f (.inr rfl));simp only[D7]at C;rw[C];simp[A4,F,he,Result.andThen]
   .subst f1;cases f3
  .cases h
 .cases h
end
end
end Go.Sx
