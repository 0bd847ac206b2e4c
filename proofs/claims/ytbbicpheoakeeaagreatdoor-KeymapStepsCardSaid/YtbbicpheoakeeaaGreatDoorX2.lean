import Derived.Test.YtbbicpheoakeeaaGreatDoorX1
import Derived.Laws.BytesString
set_option linter.all false
set_option maxRecDepth 100000
set_option maxHeartbeats 4000000
namespace Go.Sx
variable {e pt s t t2 ty:TypeId}{k:Nat->Value}{a' b' c c' p p' u v v' x x' y y' z:Value}{new new' old' vs vs' xs:D2}{d d2:TypeDesc}{a:Addr}{inf:TypeInfo}{ab':AB}{l l':Loc}{r:W4}{i:Nat}{op:BinOp}{tys:List TypeId}{b:Builtin}{hi lo mx o:R1}{g:Operand->Value}
section
open Go
variable [Ora]
def PJ(a b:Nat)(h:b<a):Builtin.nextslicecap a b<=3*a+4000:=by
 have grow:∀ r c,Builtin.growBy a r c<=max (c) (2*a+800):=by
  intro r;induction r with
  | zero=>intro c;simp only[Builtin.growBy];exact Nat.le_max_left _ _
  | succ r f =>
    intro c;simp only[Builtin.growBy];split
    .exact Nat.le_max_left _ _
    .have:=f (c+(c+768) / 4);refine C6 this ?_;rw[Nat.max_le];constructor
     .refine C6 ?_ (Nat.le_max_right _ _);omega
     .exact Nat.le_max_right _ _
 unfold Builtin.nextslicecap;split
 .omega
 .split
  .omega
  .have:=grow 4 b;refine C6 this ?_;rw[Nat.max_le];omega
section
variable {P:Program} {base:Nat} {ρ:Ren} {m m':Mem} {w:World}
def cC{w wd:World}(h:wd.heap=w.heap)(a:Addr):wd.cell? a=w.cell? a:=by simp[World.cell?,h]
def xG(ρ:Ren):∀ l:List UInt8,LR ρ (P8 l) (P8 l)
 | []=>.nil
 | b::r=>.cons (.pure rfl) (xG ρ r)
def vS{s k:Nat}(h:HR P base ρ m.H w)(f:eX m s y=some (k,new))(D:VR ρ y y') :
  (∀ wd,(Builtin.lenOf y').run P wd=.ok k wd)/\∃ new',LR ρ new new'/\∀ wd:World,wd.heap=w.heap->(Builtin.firstCells s k y').run P wd=.ok ⟨new'⟩ wd:=by
 unfold eX at f;split at f
 .rename_i n c;obtain⟨h1,q⟩:=A3 f;have h1:=A0 h1;subst h1;cases q;cases Q2 D;exact⟨fun _=>rfl,[],.nil,fun _ _=>rfl⟩
 .rename_i a n c;split at f
  .rename_i cs hr;cases f;rcases P4 D with⟨l,C,_,_,rfl⟩|⟨l,c',C,_,_,_,_,rfl⟩|⟨a',c',_,rfl,_,rfl⟩
   .obtain⟨A,h1,q,h3⟩:=c9 h hr C;exact⟨fun _=>rfl,A,h1,fun wd hw=>K6 q fun j v B=>by rw[cC hw];exact h3 j v B⟩
   .obtain⟨A,h1,q,h3⟩:=c9 h hr C;exact⟨fun _=>rfl,A,h1,fun wd hw=>K6 q fun j v B=>by rw[cC hw];exact h3 j v B⟩
   .have:new=[]:=by
     unfold v6 at hr;split at hr
     .have:=(jQ hr).2;simp at this;exact this
     .cases hr
    subst this;refine⟨fun _=>rfl,[],.nil,fun wd _=>?_⟩;simp[Builtin.firstCells,loadCells,loadCellsFrom]
  .cases f
 .rename_i b;obtain⟨_,f⟩:=A3 f;cases f;cases V0 D;refine⟨fun _=>rfl,P8 b.data.toList,?_,fun wd _=>?_⟩
  .exact xG _ _
  .have e:((b.extract 0 b.size).data.map fun b=>Value.int .u8 b.toNat)=⟨P8 b.data.toList⟩:=by
    apply J2;simp[P8]
   show(pure ((b.extract 0 b.size).data.map fun b=>Value.int .u8 b.toNat):Sem W4).run P wd=_;rw[e];rfl
 .cases f
def A8e(h:dJ d=true):(∃ e,d=.slice e)∨d=.string:=by cases d<;>first|cases h;done|exact .inl ⟨_,rfl⟩|exact .inr rfl
def iE{n k c:Nat}{a:Option Addr}(hu:P.underlying t=some (.slice e))(D:P.underlying t2=some d2)(C:dJ d2=true)
  (hi:P.info? e=some inf) (H:∀ w,(zeroValue e).run P w=.ok z w) (hlen:∀ wd,(Builtin.lenOf x').run P wd=.ok k wd)
  (hold:∀ wd:World,wd.heap=w.heap->(Builtin.firstCells inf.size n (.slice a n c)).run P wd=.ok ⟨old'⟩ wd) (j:∀ wd:World,wd.heap=w.heap->(Builtin.firstCells inf.size k x').run P wd=.ok ⟨new'⟩ wd)
  (F:¬ n+k<=c) (K:(3*(n+k)+4000)*inf.bytes<=281474976710656) (hm:n+k<=1000000000) :
  ∃ nc,n+k<=nc/\(Builtin.append_ #[t,t2] ty #[.slice a n c,x']).run P w=.ok (.slice (some ⟨w.heap.size,0,none⟩) (n+k) nc) { w.drew with heap:=w.heap.push (.cells (⟨old'⟩++⟨new'⟩++Builtin.zeroCells z.cells (nc-(n+k))) e (0,0)) }:=by
 have I:H4 P e=some inf.size:=by simp[H4,hi]
 have f:Builtin.nextslicecap (n+k) c*inf.bytes<=281474976710656:=by
  have:=F9 inf.bytes (PJ (n+k) c A2);omega
 let q:Question:=.appendCap (n+k) c e
 let nc:=q.cut (w.tape w.drawn q)
 have B:n+k<=nc:=by show n+k<=(n+k)+_;omega
 refine⟨nc,B,?_⟩;have E:(choose q).run P w=.ok nc w.drew:=by
  simp only[choose,Sem.run];rw[A8 (by simp[q,Question.forced])];rfl
 have h:∀ k w,(askRoom k).run P w=.ok () w:=fun k w=>by unfold askRoom;split<;>rfl
 unfold Builtin.append_;rcases A8e C with⟨J,rfl⟩|rfl
 all_goals simp only[J0,R5,R6,A4,D1 hu,D1 D,Result.andThen,L1 I,Sem.run_pure,J8,if_false,hlen]
 all_goals
  have A:¬ (((n+k:Nat):Int)>IntKind.i64.max):=by simp[IntKind.max,IntKind.bits,IntKind.signed];omega
  simp only[A8 F,A,false_and,if_false,A4,Result.andThen,V5 hi];rw[A8 (show ¬ (Builtin.nextslicecap (n+k) c*inf.bytes>2 ^ 48) by simpa using f)];have G:w.drew.heap=w.heap:=rfl;simp only[A4,Sem.run_pure,Result.andThen,show(choose (.appendCap (n+k) c e)).run P w=.ok nc w.drew from E,h,hold _ G,j _ G,H,V5 hi,Bool.not_false,if_true];rfl
def nM{n k c:Nat}{w':World}(hu:P.underlying t=some (.slice e))(h:P.underlying t2=some d2)(q:dJ d2=true)
  (hi:P.info? e=some inf) (hlen:∀ wd,(Builtin.lenOf x').run P wd=.ok k wd) (f:(Builtin.firstCells inf.size k x').run P w=.ok ⟨new'⟩ w)
  (hle:n+k<=c) (j:(storeCells (a.add (n*inf.size)) new').run P w=.ok () w') :
  (Builtin.append_ #[t,t2] ty #[.slice (some a) n c,x']).run P w=.ok (.slice (some a) (n+k) c) w':=by
 have A:H4 P e=some inf.size:=by simp[H4,hi]
 unfold Builtin.append_;rcases A8e q with⟨B,rfl⟩|rfl
 all_goals simp only[J0,R5,R6,A4,D1 hu,D1 h,Result.andThen,L1 A,Sem.run_pure,J8,if_false,hlen]
 all_goals simp[B0 hle,A4,f,Result.andThen,j]
def vG(hu:P.underlying t=some (.slice e))(n:P.underlying t2=some d2)(j:dJ d2=true)
  (hi:P.info? e=some inf) (hlen:∀ wd,(Builtin.lenOf x').run P wd=.ok 0 wd) (f:(Builtin.firstCells inf.size 0 x').run P w=.ok #[] w) :
  (Builtin.append_ #[t,t2] ty #[.slice none 0 0,x']).run P w=.ok (.slice none 0 0) w:=by
 have q:H4 P e=some inf.size:=by simp[H4,hi]
 unfold Builtin.append_;rcases A8e j with⟨h,rfl⟩|rfl
 all_goals simp only[J0,R5,R6,A4,D1 hu,D1 n,Result.andThen,L1 q,Sem.run_pure,J8,if_false,hlen]
 all_goals simp[A4,f,Result.andThen]
def St.kill{ab:AB}{id:Nat}(h:HR P base ρ m.H w)(hle:id<=I2)(J:Hp.get m.H id=some ab)(C:ab.rw=true):St P base ρ ρ m (kJ m id) w w:=by
 rw[l7];refine⟨fun _ _ h=>h,fun b k h1 A=>(by rw[h1]at A;cases A),A6 _,A6 _,fun h=>h,h.sub fun n f a j=>?_,fun b D=>C7 _ D,fun b h1 A k B=>?_,fun k B E=>rfl,A6 _,⟨rfl,rfl,rfl⟩,fun b k h1 A=>(by rw[h1]at A;cases A),fun n f I K=>?_,fun k ⟨n,a,q,f,j,G,F⟩=>.inr ⟨n,a,q,f,?_,G,F⟩⟩
 .rw[F1 _ _ _ _ hle f]at j;by_cases e:n=id
  .rw[B0 e]at j;cases j
  .rw[A8 e]at j;exact j
 .rcases B4.1 h1 with rfl|h1
  .exact⟨ab,J,C⟩
  .exact absurd h1 A
 .rw[F1 _ _ _ _ hle f,A8];intro e;subst e;exact I B5
 .have j:Hp.get (m.H.set id none) n=some a:=j;rw[F1 _ _ _ _ hle f]at j;by_cases e:n=id
  .rw[B0 e]at j;cases j
  .rw[A8 e]at j;exact j
def St.grow{ab:AB}{id:Nat}{w':World}(h:HR P base ρ m.H w)(hle:id<=I2)(hg:Hp.get m.H id=some ab)(F:ab.rw=true)(W:ρ id=some l)(E:l.on=true)
  (hn:Z4 (kJ m id) ab' k=some (v,m')) (hf:K4 ρ m.n m'.hi)
  (ho:w'.os=w.os/\w'.tape=w.tape/\w'.output=w.output) (az:w'.heap.size=w.heap.size) (X:∀ k,k≠l.blk->w'.heap[k]? = w.heap[k]?) (hb:BR P (upd ρ m.n l) ab' l w') (ay:ab'≠.frz:=by intro h;cases h) :
  v=k m.n/\St P base ρ (upd ρ m.n l) m m' w w':=by
 rw[l7]at hn;obtain⟨S,hv,rfl⟩:=M0 hn;have B:ρ m.n=none:=hf m.n (A6 _) (L3 _ _).2;have C:=X4 (l:=l) B;obtain⟨O,h3⟩:=h.atl W hg;have R:∀ k,Tc ab' l k->k=l.blk:=fun k X=>by
  rcases X with⟨_,_,rfl⟩|⟨rfl,_⟩
  .rfl
  .exact absurd rfl ay
 have aw:id≠m.n:=fun e=>by subst e;rw[W]at B;cases B
 have A:∀ i,i<=I2->Hp.get ((m.H.set id none).set m.n (some ab')) i=if i=m.n then some ab' else if i=id then none else Hp.get m.H i:=fun i hi=>by
  rw[F1 _ _ _ _ S hi,F1 _ _ _ _ hle hi]
 refine⟨hv,C,fun b q h1 O=>?_,X3 _,(L3 _ _).1,fun _=>Y8 (L3 _ _).2,⟨fun b q D=>?_,fun i hi a f=>?_⟩,fun b hb=>C7 _ hb,fun b h1 O q D=>?_,fun q D ax=>X q ?_,by rw[az];exact A6 _,ho,fun b q h1 O _=>?_,fun i hi h4 T=>?_,fun k ⟨i,a,q,hi,f,D,ht⟩=>.inr ?_⟩
 .obtain⟨rfl,rfl⟩:=U6 h1 O;exact⟨A6 _,J4 _⟩
 .cases h0:ρ b with
  | some q0 =>
    rw[C b q0 h0]at D
    have:=A9 D;subst this;exact h.dom b q0 h0
  | none=>obtain⟨rfl,rfl⟩:=U6 D h0;exact S
 .have f:Hp.get ((m.H.set id none).set m.n (some ab')) i=some a:=f;rw[A i hi]at f;have Q:∀ j,j<=I2->∀ J l2,Hp.get ((m.H.set id none).set m.n (some ab')) j=some J->upd ρ m.n l j=some l2->Tc J l2 l.blk->j=m.n:=fun j L J l2 g1 g2 g3=>by
   rw[A j L]at g1;by_cases Z:j=m.n
   .exact Z
   .rw[A8 Z]at g1;unfold upd at g2;rw[A8 Z]at g2;by_cases I:j=id
    .rw[B0 I]at g1;cases g1
    .rw[A8 I]at g1;exact absurd ((h3 F E).2 j L J l2 g1 g2 g3) I
  by_cases e:i=m.n
  .rw[B0 e]at f;have f:=A9 f;subst f;subst e;exact⟨l,M2 _ _ _,hb,fun _ _=>⟨(h3 F E).1,Q⟩⟩
  .rw[A8 e]at f;by_cases I:i=id
   .rw[B0 I]at f;cases f
   .rw[A8 I]at f;obtain⟨l2,g1,g2,g3⟩:=h.at_ i hi a f;have V:∀ k,Tc a l2 k->k≠l.blk:=fun k M hh=>I ((h3 F E).2 i hi a l2 f g1 (hh▸M))
    refine⟨l2,C _ _ g1,g2.mono C (fun k M=>X _ (V k M)),fun hr N=>⟨(g3 hr N).1,fun G K U l3 f1 f2 f3=>?_⟩⟩;have f1:Hp.get ((m.H.set id none).set m.n (some ab')) G=some U:=f1;rw[A G K]at f1;by_cases e4:G=m.n
    .subst e4;rw[M2]at f2
     have:=A9 f2;subst this;rw[B0 rfl]at f1;have f1:=A9 f1;subst f1;exact absurd (R _ f3) (V _ (.inl ⟨AB.rw_on hr,N,rfl⟩))
    .rw[A8 e4]at f1;unfold upd at f2;rw[A8 e4]at f2;by_cases e5:G=id
     .rw[B0 e5]at f1;cases f1
     .rw[A8 e5]at f1;exact(g3 hr N).2 G K U l3 f1 f2 f3
 .rcases B4.1 h1 with rfl|h1
  .exact⟨ab,hg,F⟩
  .exact absurd h1 O
 .exact fun e=>ax id B5 l W E e.symm
 .obtain⟨rfl,rfl⟩:=U6 h1 O;exact .inr ⟨id,B5,q,W,E,rfl⟩
 .have Y:=A i hi;show Hp.get ((m.H.set id none).set m.n (some ab')) i=_;rw[Y,A8,A8]
  .intro e;subst e;exact h4 B5
  .intro e;subst e;rcases T with T|T
   .omega
   .have T:upN m.hi m.n<=m.n:=T
    have:=(L3 m.hi m.n).2;omega
 .have f:Hp.get ((m.H.set id none).set m.n (some ab')) i=some a:=f;rw[A i hi]at f;by_cases e:i=m.n
  .rw[B0 e]at f;have f:=A9 f;subst f;subst e;rw[M2]at D;have D:=A9 D;subst D;exact⟨id,ab,l,hle,hg,W,AB.rw_fr F,.inl ⟨AB.rw_on F,E,(R k ht.2).symm⟩⟩
  .rw[A8 e]at f;unfold upd at D;rw[A8 e]at D;by_cases I:i=id
   .rw[B0 I]at f;cases f
   .rw[A8 I]at f;exact⟨i,a,q,hi,f,D,ht⟩
def GT{s k:Nat}(h:HR P base ρ m.H w)(f:eX m s y=some (k,new))(n:z.cells.size=s):new.length=k*s:=by
 unfold eX at f;split at f
 .obtain⟨_,q⟩:=A3 f;cases q;simp
 .split at f
  .rename_i cs hr;cases f;unfold v6 at hr;split at hr
   .exact(jQ hr).2
   .cases hr
  .cases f
 .rename_i b;obtain⟨j,f⟩:=A3 f;have j:=A0 j;subst j;cases f;simp[P8]
 .cases f
def MF(h:new'[i]? = some u):(({ toList:=[] }:Array Value)++⟨new'⟩++r)[i]? = some u:=by
 have f:=(B3.1 h).1;rw[T5 (by simp;exact f)]
 simpa using h
def eJ(h:(old'++new')[i]? = some u):(({ toList:=old' }:Array Value)++⟨new'⟩++r)[i]? = some u:=by
 have f:=(B3.1 h).1;rw[T5 (by simpa using f)]
 simpa using h
def eI{s k n nc:Nat}(h1:new'.length=k*s)(j:n+k<=nc)(f:z.cells.size=s)(q:old'.length=n*s) :
  nc*s<=(({ toList:=old' }:Array Value)++⟨new'⟩++Builtin.zeroCells z.cells (nc-(n+k))).size:=by
 simp[Builtin.zeroCells,q,h1,f];rw[<- I1,<- I1];exact F9 _ A2
def RJ(h:HR P base ρ m.H w)(hb:base<=w.heap.size)(f:tJ P m t t2 x y=some (v,m'))(hf:K4 ρ m.n m'.hi)(hx:VR ρ x x')(hy:VR ρ y y') :
  VOk P base ρ m w (Builtin.append_ #[t,t2] ty #[x',y']) v m':=by
 unfold tJ at f;split at f
 .rename_i e d2 hu G;cases D:dJ d2 with
  | false=>rw[D]at f;cases f
  | true =>
  rw[D]at f;simp only[Q8,E0]at f;split at f
  .rename_i inf a n c hi;split at f
   .rename_i k new z V hz;obtain⟨g1,f⟩:=A3 f;obtain⟨g1,g4⟩:=B6 g1;obtain⟨g1,g3⟩:=B6 g1;obtain⟨g1,g2⟩:=B6 g1;have g1:=A1 g1;have g2:=A1 g2;have g3:=A0 g3;obtain⟨hlen,new',I,F⟩:=vS h V hy;have Z:∀ w,(zeroValue e).run P w=.ok z w:=fun w=>aR hz w
    have O:new'.length=k*inf.size:=by rw[<- I.1];exact GT h V g3
    have av:N3=9223372036854775808:=rfl;cases hk:Nat.beq k 0 with
    | true =>
      have hk:=A0 hk;subst hk;have an:Nat.beq 0 0=true:=rfl;simp only[an,E5]at f;have au:new'=[]:=G4.1 (by rw[O];simp);subst au;cases a with
      | none =>
        simp only at f;obtain⟨E,f⟩:=A3 f;obtain⟨E,J⟩:=B6 E;have E:=A0 E;have J:=A0 J;subst E;subst J;cases f;cases Q2 hx;exact VOk.same h (vG hu G D hi hlen (F w rfl)) (.pure rfl)
      | some S =>
        simp only at f;obtain⟨E,f⟩:=A3 f;obtain⟨E,J⟩:=B6 E;have E:=A1 E;have J:=A1 J;cases f;rcases P4 hx with⟨l,U,Q,hc,rfl⟩|⟨l,c',U,Q,hc,hn,B,rfl⟩|⟨a',c',_,_,he,_⟩
        .exact VOk.same h (nM hu G D hi hlen (F w rfl) A2 rfl) (by simpa using hx)
        .exact VOk.same h (nM hu G D hi hlen (F w rfl) A2 rfl) (by simpa using hx)
        .omega
    | false =>
      have af:k≠0:=fun e=>by subst e;cases hk
      simp only[hk,E0]at f;cases a with
      | none =>
        simp only at f;obtain⟨E,f⟩:=A3 f;obtain⟨E,J⟩:=B6 E;have E:=A0 E;have J:=A0 J;subst E;subst J;rw[I5]at f;cases Q2 hx;obtain⟨nc,M,hr⟩:=iE (ty:=ty) (c:=0) (a:=none) (old':=[]) hu G D hi Z hlen (fun _ _=>rfl) F A2 g1 g2;have aq:∀ A,P.info? e=some A->nc*A.size<=(({ toList:=[] }:Array Value)++⟨new'⟩++Builtin.zeroCells z.cells (nc-(0+k))).size:=fun A N=>by
         rw[hi]at N;cases N;exact eI O M g3 (by simp)
        obtain⟨X,e2,W⟩:=eH (wd:=w.drew) (fz:=(0,0)) (cap:=nc) h hb f hf I (fun i u hi=>by
         show(({ toList:=[] }:Array Value)++⟨new'⟩++Builtin.zeroCells z.cells (nc-(0+k)))[i]? = some u;exact MF hi) NF.zero aq ⟨rfl,rfl,rfl⟩ rfl
        refine⟨_,_,_,hr,?_,W⟩;rw[X,F5]
        have:=VR.op (ρ:=upd ρ m.n (lc w.heap.size 0 nc)) (b:=m.n) (o:=0) (n:=k) (m:=N3) (m':=nc) e2 (A6 _) A2 (fun _ _=>rfl)
        simpa using this
      | some S =>
        simp only at f;cases Y:Nat.blt c N3 with
        | true =>
          have aj:c<N3:=A1 Y;simp only[Y,E5]at f;rcases P4 hx with⟨l,U,Q,hc,rfl⟩|⟨l,c',U,Q,hc,hn,B,rfl⟩|⟨a',c',_,_,he,_⟩
          .cases q:Nat.ble (n+k) c with
           | true =>
             have L:=A1 q;simp only[q,E5]at f;split at f
             .rename_i m2 hw;cases f;rw[eA]at hw;obtain⟨w',h1,N⟩:=pZ h hw U I;refine⟨_,ρ,w',nM hu G D hi hlen (F w rfl) L ?_,?_,N⟩
              .rw[Y4,show S.off+l.sh+n*inf.size=S.off+n*inf.size+l.sh by omega];exact h1
              .obtain⟨ab,ao,ag⟩:=S;simp only at Q;subst Q;exact .sl U hc
             .cases f
           | false =>
             have L:¬ n+k<=c:=fun hle=>by rw[show Nat.ble (n+k) c=true from C8 hle]at q;cases q
             simp only[q,E0]at f;split at f
             .rename_i old hold;rw[I5]at f;obtain⟨old',o1,o2,o3⟩:=c9 h hold U;have K:∀ wd:World,wd.heap=w.heap->(Builtin.firstCells inf.size n (.slice (some ⟨l.blk,S.off+l.sh,none⟩) n c)).run P wd=.ok ⟨old'⟩ wd:=fun wd hw=>K6 o2 fun j u hj=>by rw[cC hw];exact o3 j u hj
              obtain⟨nc,M,hr⟩:=iE (ty:=ty) hu G D hi Z hlen K F L g1 g2;obtain⟨X,e2,W⟩:=eH (wd:=w.drew) (fz:=(0,0)) (cap:=nc) (C:=⟨old'⟩++⟨new'⟩++Builtin.zeroCells z.cells (nc-(n+k))) h hb f hf (o1.append I) (fun i u hi=>eJ hi) NF.zero
               (fun A N=>by rw[hi]at N;cases N;exact eI O M g3 o2) ⟨rfl,rfl,rfl⟩ rfl
              refine⟨_,_,_,hr,?_,W⟩;rw[X]
              have:=VR.op (ρ:=upd ρ m.n (lc w.heap.size 0 nc)) (b:=m.n) (o:=0) (n:=n+k) (m:=N3) (m':=nc) e2 (A6 _) M (fun _ _=>rfl)
              simpa using this
             .cases f
          .omega
          .omega
        | false =>
          simp only[Y,E0]at f;obtain⟨q0,ay⟩:=A3 f;clear f;have f:=ay;clear ay;obtain⟨E,J⟩:=B6 q0;replace E:=A0 E;replace J:=A0 J;clear q0;split at f
          .rename_i cs T Q hg;obtain⟨p1,f⟩:=A3 f;rw[H1,H1,H1]at p1;obtain⟨⟨⟨p1,p2⟩,p3⟩,p4⟩:=p1;have p1:=A0 p1;have p2:=A0 p2;have p3:=A1 p3;have p4:S.block<m.n:=A1 p4;subst p2;rw[I5]at f;rcases P4 hx with⟨_,_,_,hc,_⟩|⟨l,c',U,_,_,hn,B,rfl⟩|⟨a',c',_,_,he,_⟩
           .omega
           .have B:=B E J;obtain⟨⟨ax,C,fz,T',z2,z3,z4⟩,z5⟩:=h.atl U hg;obtain⟨rfl,z6,z7⟩:=z4 rfl;have z8:=(z7 inf hi).2;have z7:=(z7 inf hi).1;by_cases q:n+k<=c'
            ·
             have az:(n+k)*inf.size<=c'*inf.size:=F9 _ q;rw[I1]at az;obtain⟨w',r1,r2,r3,r4,r5⟩:=Z2 (P:=P) (b:=l.blk) (o:=n*inf.size+l.sh) (fz:=fz) new' 0 C w z2 (HT I g4) (by rw[O];subst B;omega) z6;obtain⟨X,W⟩:=St.grow (w':=w') (l:=l) h p3 hg rfl U ax f hf r2 r3 r5 (by
              have R:ρ m.n=none:=by
               rw[l7]at f;obtain⟨_,_,rfl⟩:=M0 f;exact hf m.n (A6 _) (L3 _ _).2
              refine⟨ax,_,fz,_,r4,fun i u hi=>?_,fun _=>⟨rfl,z6.sz (by simp[Z3]),fun A N=>⟨by simpa [Z3]using(by rw[hi]at N;cases N;exact z7:l.sh+l.cap*A.size<=C.size),by rw[hi]at N;cases N;exact z8⟩⟩⟩;show ∃ u',(Array.mk (cT C.toList (n*inf.size+l.sh+0) new'))[l.sh+i]? = some u'/\_;have ai:C.toList.length=C.size:=by simp
              rw[J0,lP _ _ _ _ (by rw[O];subst B;omega)];by_cases al:i<cs.length
              .rw[F2 al]at hi;rw[A8 A2];obtain⟨u',y1,y2⟩:=z3 i u hi;exact⟨u',by simpa using y1,y2.mono (X4 R)⟩
              .rw[E1 A2]at hi;have ah:=(B3.1 hi).1;have ak:=I.1;rw[B0 A2];obtain⟨u',y1,y2⟩:=I.get hi;exact⟨u',by rw[show l.sh+i-(n*inf.size+l.sh+0)=i-cs.length by omega];exact y1,y2.mono (X4 R)⟩)
             refine⟨_,_,w',nM (ty:=ty) hu G D hi hlen (F w rfl) q ?_,?_,W⟩
             .rw[Y4,J,show 0+l.sh+n*inf.size=n*inf.size+l.sh by omega];exact r1
             .rw[X,J];exact .op (M2 _ _ _) (A6 _) q (fun _ _=>B)
            ·
             have aw:=St.kill h p3 hg rfl;have ar:K4 ρ (kJ m S.block).n m'.hi:=by rw[l7];exact hf
             obtain⟨old',o1,o2⟩:=eG (ρ:=ρ) (C:=C) (cs:=cs) (s:=l.sh) z3;have oL:old'.length=n*inf.size:=by rw[<- o1.1];exact p1
             have K:∀ wd:World,wd.heap=w.heap->(Builtin.firstCells inf.size n (.slice (some ⟨l.blk,S.off+l.sh,none⟩) n c')).run P wd=.ok ⟨old'⟩ wd:=fun wd hw=>K6 oL fun j u hj=>by
              rw[cC hw,J]
              have:=o2 j u hj;simp[World.cell?,z2,this]
             obtain⟨nc,M,hr⟩:=iE (ty:=ty) hu G D hi Z hlen K F q g1 g2;obtain⟨X,e2,W⟩:=eH (wd:=w.drew) (fz:=(0,0)) (cap:=nc) (C:=⟨old'⟩++⟨new'⟩++Builtin.zeroCells z.cells (nc-(n+k))) aw.hr hb f ar (o1.append I) (fun i u hi=>eJ hi) NF.zero
              (fun A N=>by rw[hi]at N;cases N;exact eI O M g3 oL) ⟨rfl,rfl,rfl⟩ rfl
             refine⟨_,_,_,hr,?_,St.trans hf aw W⟩;rw[X]
             have:=VR.op (ρ:=upd ρ (kJ m S.block).n (lc w.heap.size 0 nc)) (b:=(kJ m S.block).n) (o:=0) (n:=n+k) (m:=N3) (m':=nc) e2 (A6 _) M (fun _ _=>rfl)
             simpa using this
           .omega
          .cases f
   .cases f
  .cases f
 .cases f
end
end
section
open Go
variable [Ora]
section
variable {P:Program} {base:Nat} {ρ:Ren} {m m':Mem} {w:World}
def OA{op:UnOp}(h:unM op x=some v)(hx:VR ρ x x')(w:World):(Op.unary op x').run P w=.ok v w/\I8 v=true:=by
 unfold unM at h;split at h
 .cases J5 hx;cases h;exact⟨by simp[Op.unary,Op.intArith,aW],by simp[aW,I8]⟩
 .cases J5 hx;obtain⟨h1,f⟩:=bC (P:=P) h w;exact⟨by simpa [Op.unary]using h1,f⟩
 .cases cW hx;cases h;exact⟨rfl,rfl⟩
 .cases h
def A5X(f:A9s P t x=some v)(hx:VR ρ x x')(w:World):(Builtin.cap_ ⟨t::tys⟩ ty #[x']).run P w=.ok v w/\I8 v=true:=by
 unfold A9s at f;split at f
 .rename_i hu;cases Q2 hx;cases f;exact⟨by simp[Builtin.cap_,A4,D1 hu,Result.andThen,goInt],rfl⟩
 .rename_i hu;obtain⟨j,f⟩:=A3 f;have j:_<N3:=A1 j;cases f;rcases P4 hx with⟨l,_,_,_,rfl⟩|⟨l,c',_,_,_,_,_,rfl⟩|⟨a',c',_,_,he,_⟩
  .exact⟨by simp[Builtin.cap_,A4,D1 hu,Result.andThen,goInt],rfl⟩
  .omega
  .omega
 .cases f
def TN(h:HR P base ρ m.H w)(f:A1P P m t x=some v)(hx:VR ρ x x'):(Builtin.len_ ⟨t::tys⟩ ty #[x']).run P w=.ok v w/\I8 v=true:=by
 unfold A1P at f;split at f
 .rename_i hu;cases V0 hx;cases f;refine⟨?_,rfl⟩;simp[Builtin.len_,A4,D1 hu,Result.andThen,goInt]
 .rename_i hu;cases f;refine⟨?_,rfl⟩;simp[Builtin.len_,A4,D1 hu,Result.andThen,goInt]
 .rename_i n c hu;cases f;refine⟨?_,rfl⟩;have j:∃ a' c',x'=.slice a' n c':=by
   cases hx with
   | pure _=>exact⟨_,_,rfl⟩
   | sl _ _=>exact⟨_,_,rfl⟩
   | op _ _ _ _=>exact⟨_,_,rfl⟩
   | opE _=>exact⟨_,_,rfl⟩
  obtain⟨a',c',rfl⟩:=j;simp[Builtin.len_,A4,D1 hu,Result.andThen,goInt]
 .rename_i hu;cases hx with|pure _=>?_
  cases f;refine⟨?_,rfl⟩;simp[Builtin.len_,A4,D1 hu,Result.andThen,goInt]
 .cases f
def TI{tys:Array TypeId}(f:A85 vs=some v)(hx:LR ρ vs vs')(w:World):(Builtin.max_ tys ty ⟨vs'⟩).run P w=.ok v w/\I8 v=true:=by
 unfold A85 at f;split at f
 .obtain⟨a',r1,rfl,h1,j⟩:=hx.tail;obtain⟨b',q,rfl,h3,n⟩:=j.tail;cases n.nil_inv;cases J5 h1;cases J5 h3;cases f;exact⟨by simp[Builtin.max_,Builtin.max2],rfl⟩
 .obtain⟨a',r1,rfl,h1,j⟩:=hx.tail;obtain⟨b',q,rfl,h3,n⟩:=j.tail;obtain⟨c',B,rfl,A,h⟩:=n.tail;cases h.nil_inv;rw[uL]at f;cases J5 h1;cases J5 h3;cases J5 A;cases f;exact⟨by simp[Builtin.max_,Builtin.max2],rfl⟩
 .cases f
def TG{tys:Array TypeId}(f:A84 vs=some v)(hx:LR ρ vs vs')(w:World):(Builtin.min_ tys ty ⟨vs'⟩).run P w=.ok v w/\I8 v=true:=by
 unfold A84 at f;split at f
 .obtain⟨a',r1,rfl,h1,j⟩:=hx.tail;obtain⟨b',q,rfl,h3,n⟩:=j.tail;cases n.nil_inv;cases J5 h1;cases J5 h3;cases f;exact⟨by simp[Builtin.min_,Builtin.min2],rfl⟩
 .obtain⟨a',r1,rfl,h1,j⟩:=hx.tail;obtain⟨b',q,rfl,h3,n⟩:=j.tail;obtain⟨c',B,rfl,A,h⟩:=n.tail;cases h.nil_inv;rw[uL]at f;cases J5 h1;cases J5 h3;cases J5 A;cases f;exact⟨by simp[Builtin.min_,Builtin.min2],rfl⟩
 .cases f
def BW{tys:Array TypeId}(h:HR P base ρ m.H w)(q:iZ m x=some (v,m'))(hx:VR ρ x x'):VOk P base ρ m w (Builtin.unsafeSliceData_ tys ty #[x']) v m':=by
 unfold iZ at q;split at q
 .cases q;cases Q2 hx;exact VOk.same h rfl (.pure rfl)
 .rename_i a n c;cases A:Nat.beq n 0 || Nat.beq c 0 || Nat.beq c (N3+2)with
  | true=>rw[A]at q;cases q
  | false =>
    rw[A]at q;simp only[E0,D5,M4]at q;obtain⟨rfl,rfl⟩:=q;simp only[Z7]at A;obtain⟨⟨E,B⟩,K⟩:=A;have E:n≠0:=fun e=>by subst e;cases E
    have B:c≠0:=fun e=>by subst e;cases B
    rcases P4 hx with⟨l,C,f,I,rfl⟩|⟨l,c',C,f,I,J,F,rfl⟩|⟨a',c',_,he,_,_⟩
    .refine VOk.same (v':=.pointer (some ⟨l.blk,a.off+l.sh,none⟩)) h ?_ ?_
     .have j:Builtin.unsafeSliceData_ tys ty #[.slice (some ⟨l.blk,a.off+l.sh,none⟩) n c]=(do
        if c≠0 then pure (.pointer (some ⟨l.blk,a.off+l.sh,none⟩))
        else if(<- viewAt l.blk).isSome then pure (.pointer (some ⟨l.blk,a.off+l.sh,none⟩))
        else pure (.pointer (some ⟨<- newObj (.view ⟨l.blk,a.off+l.sh,none⟩ (<- elemOf ty)),0,none⟩))):=rfl
      rw[j,B0 B];rfl
     .obtain⟨ab,G,D⟩:=a;simp only at f;subst f;exact .ptr C
    .refine VOk.same (v':=.pointer (some ⟨l.blk,a.off+l.sh,none⟩)) h ?_ ?_
     .have:c'≠0:=A2;have j:Builtin.unsafeSliceData_ tys ty #[.slice (some ⟨l.blk,a.off+l.sh,none⟩) n c']=(do
        if c'≠0 then pure (.pointer (some ⟨l.blk,a.off+l.sh,none⟩))
        else if(<- viewAt l.blk).isSome then pure (.pointer (some ⟨l.blk,a.off+l.sh,none⟩))
        else pure (.pointer (some ⟨<- newObj (.view ⟨l.blk,a.off+l.sh,none⟩ (<- elemOf ty)),0,none⟩))):=rfl
      rw[j,B0 this];rfl
     .obtain⟨ab,G,D⟩:=a;simp only at f;subst f;exact .ptr C
    .omega
 .cases q
def WV(h:HR P base ρ m.H w)(f:GQ P m t x=some (v,m'))(hx:VR ρ x x'):VOk P base ρ m w (Instr.makeInterface t x') v m':=by
 unfold GQ at f;split at f
 .rename_i d q;have n:(∀ ms,d≠.interface ms)->(Instr.makeInterface t x').run P w=.ok (.iface t x') w:=fun j=>by
   simp only[Instr.makeInterface,A4,D1 q,Result.andThen];cases d<;>first|rfl|exact absurd rfl (j _)
  split at f
  .cases f
  .rename_i j;obtain⟨_,f⟩:=A3 f;cases f;exact VOk.same h (n fun ms e=>j ms e) (.iface hx)
 .cases f
def A4W(j:A05 m x=some (v,m'))(hx:VR ρ x x'):m'=m/\VR ρ v x'/\((∃ a,x'=.pointer (some a))∨∃ f a b,x'=.func (.func f) a b):=by
 unfold A05 at j;split at j
 .cases j;obtain⟨l,_,_,rfl⟩:=O9 hx;exact⟨rfl,hx,.inl ⟨_,rfl⟩⟩
 .cases j;cases hx with
  | pure hp=>simp[I8]at hp
  | func _ _ _ _=>exact⟨rfl,by constructor<;>assumption,.inr ⟨_,_,_,rfl⟩⟩
 .cases j
def A28(h:HR P base ρ m.H w)(j:MX P m t x y=some (v,m'))(hx:VR ρ x x')(N:VR ρ y y'):VOk P base ρ m w (Builtin.copy_ ⟨t::tys⟩ ty #[x',y']) v m':=by
 unfold MX at j;split at j
 .rename_i e a n c hu;split at j
  .rename_i s W;split at j
   .rename_i k cs f;have M:∃ a' c',x'=.slice a' n c':=by
     cases hx with
     | pure _=>exact⟨_,_,rfl⟩
     | sl _ _=>exact⟨_,_,rfl⟩
     | op _ _ _ _=>exact⟨_,_,rfl⟩
     | opE _=>exact⟨_,_,rfl⟩
    obtain⟨a',c',rfl⟩:=M;have D:∃ L cs',(Builtin.lenOf y').run P w=.ok L w/\Nat.min L n=k/\LR ρ cs cs'/\(Builtin.firstCells s k y').run P w=.ok ⟨cs'⟩ w:=by
     split at f
     .rename_i J _;obtain⟨q,f⟩:=A3 f;have q:=A0 q;subst q;cases f;cases Q2 N;exact⟨0,[],rfl,by simp,.nil,rfl⟩
     .rename_i b J Y;split at f
      .rename_i r hr;cases f;rcases P4 N with⟨l,C,_,_,rfl⟩|⟨l,c',C,_,_,_,_,rfl⟩|⟨a',c',_,rfl,_,rfl⟩
       .obtain⟨I,h1,B,h3⟩:=c9 h hr C;exact⟨J,I,rfl,rfl,h1,K6 B h3⟩
       .obtain⟨I,h1,B,h3⟩:=c9 h hr C;exact⟨J,I,rfl,rfl,h1,K6 B h3⟩
       .have:cs=[]:=by
         unfold v6 at hr;split at hr
         .have:=(jQ hr).2;simp at this;exact this
         .cases hr
        subst this;exact⟨0,[],rfl,rfl,.nil,by simp[Builtin.firstCells,loadCells,loadCellsFrom]⟩
      .cases f
     .rename_i b;cases f;cases V0 N;refine⟨b.size,P8 (b.data.toList.take (Nat.min b.size n)),rfl,rfl,xG _ _,?_⟩;have e:((b.extract 0 (Nat.min b.size n)).data.map fun b=>Value.int .u8 b.toNat)=⟨P8 (b.data.toList.take (Nat.min b.size n))⟩:=by
       apply J2;simp[P8,gX]
      show(pure ((b.extract 0 (Nat.min b.size n)).data.map fun b=>Value.int .u8 b.toNat):Sem W4).run P w=_;rw[e];rfl
     .cases f
    obtain⟨L,cs',r1,V,K,U⟩:=D;have A:(Builtin.copy_ ⟨t::tys⟩ ty #[.slice a' n c',y']).run P w=(match a' with|some a=>(do storeCells a cs';pure (goInt k):Sem Value)|none=>pure (goInt k)).run P w:=by
     unfold Builtin.copy_;simp only[J0,R5,R6,A4,D1 hu,L1 W,r1,V,U,Result.andThen];cases a' with
     | none=>rfl
     | some a=>rfl
    cases a with
    | none =>
      cases Q2 hx;simp only at j;obtain⟨q,j⟩:=A3 j;have q:=A0 q;cases j;exact VOk.same h (by rw[A,q];rfl) (.pure rfl)
    | some X =>
      simp only at j;cases F:Nat.beq cs.length 0 with
      | true =>
        rw[F]at j;cases j;have F:=A0 F;have:cs'=[]:=G4.1 (by rw[<- K.1];exact F);subst this;refine VOk.same h (v':=.int .i64 k) ?_ (.pure rfl);rw[A];cases a'<;>rfl
      | false =>
        rw[F]at j;simp only[E0]at j;obtain⟨E,j⟩:=A3 j;have E:=A1 E;split at j
        .rename_i m2 hw;cases j;rcases P4 hx with⟨l,C,G,T,he⟩|⟨l,c',C,G,T,R,Q,he⟩|⟨a2,Z,_,R,S,he⟩
         .cases he;obtain⟨w',h1,B⟩:=pZ h hw C K;exact⟨.int .i64 k,ρ,w',by rw[A];simp[A4,h1,Result.andThen,goInt],.pure rfl,B⟩
         .cases he;obtain⟨w',h1,B⟩:=pZ h hw C K;exact⟨.int .i64 k,ρ,w',by rw[A];simp[A4,h1,Result.andThen,goInt],.pure rfl,B⟩
         .have O:N3=9223372036854775808:=rfl;omega
        .cases j
   .cases j
  .cases j
 .cases j
def pT:∀ {cs:D2} {l:List UInt8},bytesOf cs=some l->∃ f:List Int,cs=f.map (Value.int .u8)/\l=f.map fun n=>UInt8.ofNat n.toNat
 | [],l,h=>by simp only[bytesOf,D5]at h;subst h;exact⟨[],rfl,rfl⟩
 | v::r,l,h=>by
   unfold bytesOf at h;split at h
   .rename_i he;cases he
   .rename_i n q he;cases he;split at h
    .rename_i l0 h0;cases h;obtain⟨f,h1,j⟩:=pT h0;exact⟨n::f,by rw[h1];rfl,by rw[j];rfl⟩
    .cases h
   .cases h
def sM:∀ {f:List Int} {cs':D2},LR ρ (f.map (Value.int .u8)) cs'->cs'=f.map (Value.int .u8)
 | [],cs',h=>h.nil_inv
 | n::r,cs',h=>by
   obtain⟨v',q,rfl,h1,j⟩:=h.tail;cases J5 h1;rw[sM j];rfl
def pJ:∀ (f:List Int) (acc:List UInt8),(f.foldl (fun r n=>r.push (UInt8.ofNat n.toNat)) (ByteArray.mk ⟨acc⟩))=⟨⟨acc++f.map fun n=>UInt8.ofNat n.toNat⟩⟩
 | [],acc=>by simp
 | n::r,acc=>by
   rw[List.foldl_cons];have:(ByteArray.mk ⟨acc⟩).push (UInt8.ofNat n.toNat)=⟨⟨acc++[UInt8.ofNat n.toNat]⟩⟩:=by
    show ByteArray.mk (Array.push ⟨acc⟩ _)=_;simp
   rw[this,pJ r];simp
def A3A(h:HR P base ρ m.H w)(V:base<=w.heap.size)(f:EJ P m s t x=some (v,m'))(Y:K4 ρ m.n m'.hi)(hx:VR ρ x x'):VOk P base ρ m w (convert s t x') v m':=by
 unfold EJ at f;split at f
 .rename_i I k j n E D;cases J5 hx;simp only[D5,M4]at f;obtain⟨rfl,rfl⟩:=f;refine VOk.same (v':=.int k (k.wrap n)) h ?_ (by rw[aW,kY];exact .pure rfl);cases I<;>simp[convert,A4,D1 E,D1 D,Result.andThen,Conv.intToInt]
 .rename_i I b E D;cases V0 hx;cases f;refine VOk.same h ?_ (.pure rfl);cases I<;>simp[convert,A4,D1 E,D1 D,Result.andThen]
 .rename_i I j n E D;cases J5 hx;cases f;refine VOk.same (v':=.string (Utf8.encode n)) h ?_ (.pure rfl);cases I<;>simp[convert,A4,D1 E,D1 D,Result.andThen,Conv.intToString]
 .rename_i I e b E D;cases V0 hx;split at f
  .rename_i he;split at f
   .rename_i F;rw[I5]at f;let q:Question:=.appendCap b.size 0 e
    let cap:=q.cut (w.tape w.drawn q)
    have K:b.size<=cap:=by show b.size<=b.size+_;omega
    have S:(choose q).run P w=.ok cap w.drew:=by
     simp only[choose,Sem.run];rw[A8 (by simp[q,Question.forced])];rfl
    let C:W4:=(b.data.map fun b=>Value.int .u8 b.toNat)++Array.replicate (cap-b.size) (.int .u8 0)
    have hC:C.size=cap:=by
     have:b.data.size=b.size:=rfl;simp[C,this];omega
    obtain⟨X,M,W⟩:=eH (wd:=w.drew) (fz:=(C.size,C.size+1)) (cap:=cap) (C:=C) h V f Y (xG ρ b.data.toList) (fun i u hi=>by
      have N:=(B3.1 hi).1;simp[P8]at N;have Q:i<(b.data.map fun b=>Value.int .u8 b.toNat).size:=by simpa using N
      show((b.data.map fun b=>Value.int .u8 b.toNat)++Array.replicate (cap-b.size) (.int .u8 0))[i]? = some u;rw[T5 Q]
      simpa [P8]using hi) NF.end
     (fun inf L=>by
       have:inf.size=1:=by unfold H4 at F;rw[L]at F;exact A9 F
       rw[this,hC];omega) ⟨rfl,rfl,rfl⟩ rfl
    refine⟨.slice (some ⟨w.heap.size,0,none⟩) b.size cap,_,_,?_,?_,W⟩
    .have O:∀ w2:World,w2.heap[w.heap.size]? = some (.cells C e (0,0))->(markStringish ⟨w.heap.size,0,none⟩).run P w2=.ok () (w2.freeze { block:=w.heap.size,off:=C.size } 1):=fun w2 L=>by
      simp[markStringish,shape,freeze,Sem.run,World.shape?,L]
     have R:({ w.drew with heap:=w.heap.push (.cells C e (0,0)) }:World).freeze { block:=w.heap.size,off:=C.size } 1={ w.drew with heap:=w.heap.push (.cells C e (C.size,C.size+1)) }:=by
      unfold World.freeze;rw[A8 F0];congr 1;apply Array.ext_getElem?;intro i;rw[H3];by_cases hi:w.heap.size=i
      .subst hi;simp
      .rw[A8 hi];simp only[j7];rw[A8 (fun h=>hi h.symm),A8 (fun h=>hi h.symm)]
     have G:(convert s t (.string b)).run P w=(Conv.stringToBytes e b).run P w:=by
      cases I<;>simp[convert,A4,D1 E,D1 D,D1 he,Result.andThen]
     rw[G];unfold Conv.stringToBytes;simp only[A4,show(choose (.appendCap b.size 0 e)).run P w=.ok cap w.drew from S,Result.andThen];have T:(newRow e C).run P w.drew=.ok ⟨w.heap.size,0,none⟩ { w.drew with heap:=w.heap.push (.cells C e (0,0)) }:=rfl;rw[show(newRow e ((b.data.map fun b=>Value.int .u8 b.toNat)++Array.replicate (cap-b.size) (.int .u8 0))).run P w.drew=_ from T];simp only[Result.andThen];rw[O _ (by simp),R];rfl
    .rw[X];exact VR.op (o:=0) (m':=cap) M (A6 _) K (fun _ _=>rfl)
   .cases f
  .cases f
 .rename_i e n c E D;cases Q2 hx;split at f
  .rename_i he;cases f;refine VOk.same h (v':=.string ByteArray.empty) ?_ (.pure rfl);simp[convert,A4,D1 E,D1 D,D1 he,Result.andThen,Conv.bytesToString]
  .cases f
 .rename_i e a n c E D;split at f
  .rename_i he;split at f
   .rename_i cs hr;split at f
    .rename_i l N;cases f;obtain⟨J,h1,L⟩:=pT N;have A:∀ a' c',(loadCells a' n).run P w=.ok (J.map (Value.int .u8)).toArray w->(convert s t (.slice (some a') n c')).run P w=.ok (.string ⟨⟨l⟩⟩) w:=fun a' c' B=>by
      have:=run_bytesToString w a' n c' J B;have M:=pJ J [];simp only[G9]at M;simp only[convert,A4,D1 E,D1 D,D1 he,Result.andThen];rw[this,show ByteArray.empty=ByteArray.mk ⟨[]⟩from rfl,M,L]
     rcases P4 hx with⟨lc,B,_,_,rfl⟩|⟨lc,c',B,_,_,_,_,rfl⟩|⟨a',c',_,rfl,_,rfl⟩
     .obtain⟨U,g1,g2,g3⟩:=c9 h hr B;rw[h1]at g1
      have:=sM g1;subst this;exact VOk.same h (A _ _ (K6 g2 g3)) (.pure rfl)
     .obtain⟨U,g1,g2,g3⟩:=c9 h hr B;rw[h1]at g1
      have:=sM g1;subst this;exact VOk.same h (A _ _ (K6 g2 g3)) (.pure rfl)
     .have:cs=[]:=by
       unfold v6 at hr;split at hr
       .have:=(jQ hr).2;simpa using this
       .cases hr
      subst this;have:J=[]:=by cases J with|nil=>rfl|cons _ _=>cases h1
      subst this;exact VOk.same h (A _ _ (by simp[loadCells,loadCellsFrom])) (.pure rfl)
    .cases f
   .cases f
  .cases f
 .cases f
end
end
section
open Go
variable [Ora]
section
variable {P:Program} {base:Nat} {ρ:Ren} {m m':Mem} {w:World}
def zL(q:P.cellsOf e=1)(count off n:Nat)(j:off+n<=count):liesAt P P.depth e count off e n=true:=by
 have f:P.depth=(2*(P.types.size+Made.depth)+1)+1:=rfl;rw[f];simp only[liesAt,J1];left;rw[f];simp[rowAt,q,j,sameLayout,Nat.mod_one]
def eT:∀ (f:List Int) (b o:Nat) (acc:ByteArray),(∀ (j:Nat) (v:Value),(f.map (Value.int .u8))[j]? = some v->w.cell? ⟨b,o+j,none⟩=some v) ->
  (loadBytes ⟨b,o,none⟩ acc f.length).run P w=.ok ⟨acc.data++(f.map fun n=>UInt8.ofNat n.toNat).toArray⟩ w
 | [],b,o,acc,_=>by simp[loadBytes]
 | n::f,b,o,acc,h=>by
   have h0:w.cell? ⟨b,o,none⟩=some (.int .u8 n):=by simpa using h 0 _ rfl
   have q:=eT f b (o+1) (acc.push n.toNat.toUInt8) (fun j v A=>by
    have:=h (j+1) v (by simpa using A);rw[show o+1+j=o+(j+1) by omega];exact this)
   simp only[E6,loadBytes,A4,run_load,h0,Result.andThen,Y4];rw[q];have:(acc.push n.toNat.toUInt8).data=acc.data.push n.toNat.toUInt8:=rfl;rw[this];congr 2;apply J2;simp
def BK{l l':Value}(h:HR P base ρ m.H w)(f:eO P m pt p l=some (v,m'))(hp:VR ρ p p')(hl:VR ρ l l') :
  VOk P base ρ m w (Builtin.unsafeString_ ⟨pt::tys⟩ ty #[p',l']) v m':=by
 have F:IntKind.i64.max=9223372036854775807:=rfl;unfold eO at f;split at f
 .cases hp with|pure _=>?_
  cases J5 hl;cases f;refine VOk.same h (v':=.string ByteArray.empty) ?_ (.pure rfl);rename_i k _;have D:Builtin.unsafeString_ ⟨pt::tys⟩ ty #[.pointer none,.int k (.ofNat 0)] =
    (do
      let n <- asInt (.int k (.ofNat 0))
      if n<0 then runtimePanic (.error "unsafe.String: len out of range")
      if n>IntKind.i64.max then unsupported (.unsafePointer "String: a length above the largest int")
      if n=0 then pure (.string .empty)
      else runtimePanic (.error "unsafe.String: ptr is nil and len is not zero")):=rfl
  rw[D];simp[asInt,asIntOf,F]
 .rename_i a k n;cases J5 hl;obtain⟨lc,I,ay,rfl⟩:=O9 hp;split at f
  .rename_i cs T G Z;split at f
   .rename_i e W M;obtain⟨q,f⟩:=A3 f;obtain⟨q,X⟩:=B6 q;obtain⟨q1,q2⟩:=B6 q;have q1:0<n:=A1 q1;have q2:=A1 q2;have X:=A0 X;subst X;split at f
    .rename_i r hr;split at f
     .rename_i bs m2 az Y2;cases f;obtain⟨S,h1,h2⟩:=pT az;have K:v6 m a n=some r:=by
       unfold v6;rw[G,Z];exact hr
      obtain⟨r',g1,g2,g3⟩:=c9 h K I;rw[h1]at g1;have Y:=sM g1;subst Y;obtain⟨⟨R,C,fz,T',z2,z3,z4⟩,z5⟩:=h.atl I Z;have z2:w.heap[lc.blk]? = some (.cells C e fz):=by rw[z2,(z4 rfl).1]
      have O:S.length=n:=by simpa using g2
      have B:P.cellsOf e=1:=by
       unfold H4 at M;unfold Program.cellsOf;cases hi:P.info? e with
       | none=>rw[hi]at M;cases M
       | some i=>rw[hi]at M;have:=A9 M;simp[this]
      have U:a.off+lc.sh+n<=C.size:=by
       have A:=g3 (n-1) (.int .u8 S[n-1]) (by simp[O]);simp only[World.cell?,z2]at A
       have:=(C9.1 (by simpa using A)).1;omega
      have L:=eT (P:=P) (w:=w) S lc.blk (a.off+lc.sh) .empty g3;rw[O]at L;have V:w.shape? lc.blk=some (e,C.size):=by simp[World.shape?,z2]
      have J:=zL (P:=P) B (C.size / P.cellsOf e) (a.off+lc.sh) n (by rw[B];simpa using U);have D:Builtin.unsafeString_ ⟨pt::tys⟩ ty #[.pointer (some ⟨lc.blk,a.off+lc.sh,none⟩),.int k (.ofNat n)] =
       (do
         let n <- asInt (.int k (.ofNat n))
         if n<0 then runtimePanic (.error "unsafe.String: len out of range")
         if n>IntKind.i64.max then unsupported (.unsafePointer "String: a length above the largest int")
         if n=0 then pure (.string .empty)
         else if <- variablesAt ⟨lc.blk,a.off+lc.sh,none⟩ (<- elemOf pt) n.toNat then do
          let s <- loadBytes ⟨lc.blk,a.off+lc.sh,none⟩ .empty n.toNat
          freeze ⟨lc.blk,a.off+lc.sh,none⟩ n.toNat
          pure (.string s)
         else unsupported (.unsafePointer "String: not so many bytes at ptr")):=rfl
      have e1:Int.ofNat n=(n:Int):=rfl;have N:¬ (n:Int)<0:=A2;have Q:¬ (9223372036854775807:Int)<(n:Int):=A2;have hz:¬ (n:Int)=0:=A2;have E:n≠0:=A2;refine⟨.string ⟨⟨bs⟩⟩,ρ,w.freeze ⟨lc.blk,a.off+lc.sh,none⟩ n,?_,.pure rfl,St.write h Y2 Z rfl I R ?_ ?_ ?_ ?_⟩
      .rw[D];simp[asInt,asIntOf,F,e1,N,Q,hz,E,variablesAt,V,elemOf,D1 W,J,L,freeze,Sem.run,A4,Result.andThen,h2]
      .simp[World.freeze,E]
      .simp[World.freeze,E]
      .intro j hj;simp only[World.freeze,E,if_false,H3];rw[A8 (fun e=>hj e.symm)]
      .refine⟨R,C,(if fz.1 == fz.2 then(a.off+lc.sh,a.off+lc.sh+n)else(min fz.1 (a.off+lc.sh),max fz.2 (a.off+lc.sh+n))),e,?_,z3,fun hc=>by cases hc⟩;simp only[World.freeze,E,if_false,H3,if_true,z2,L6]
     .cases f
    .cases f
   .cases f
  .cases f
 .cases f
def NK{ks:Array Bool}(h:HR P base ρ m.H w)(B:base<=w.heap.size)(f:iP P m b vs tys=some (v,m'))(C:K4 ρ m.n m'.hi)(hx:LR ρ vs vs') :
  ∃ s:Sem Value,builtin b ⟨tys⟩ ty ks ⟨vs'⟩=(do pure (.value (<- s)))/\VOk P base ρ m w s v m':=by
 unfold iP at f;split at f
 .obtain⟨x',r1,rfl,h1,j⟩:=hx.tail;cases j.nil_inv;unfold noM at f;split at f
  .rename_i u hu;cases f;obtain⟨g1,g2⟩:=TN h hu h1;exact⟨_,rfl,VOk.same h g1 (.pure g2)⟩
  .cases f
 .obtain⟨x',r1,rfl,h1,j⟩:=hx.tail;cases j.nil_inv;unfold noM at f;split at f
  .rename_i u hu;cases f;obtain⟨g1,g2⟩:=A5X hu h1 w;exact⟨_,rfl,VOk.same h g1 (.pure g2)⟩
  .cases f
 .obtain⟨x',r1,rfl,h1,j⟩:=hx.tail;obtain⟨y',A,rfl,h3,q⟩:=j.tail;cases q.nil_inv;rename_i t t2 rest;refine⟨Builtin.append_ ⟨t::t2::rest⟩ ty #[x',y'],rfl,?_⟩
  have:=RJ (ty:=ty) h B f C h1 h3;have e:Builtin.append_ ⟨t::t2::rest⟩ ty #[x',y']=Builtin.append_ #[t,t2] ty #[x',y']:=rfl;rw[e];exact this
 .obtain⟨x',r1,rfl,h1,j⟩:=hx.tail;obtain⟨y',A,rfl,h3,q⟩:=j.tail;cases q.nil_inv;exact⟨_,rfl,A28 h f h1 h3⟩
 .unfold noM at f;split at f
  .rename_i u hu;cases f;obtain⟨g1,g2⟩:=TI (P:=P) (ty:=ty) (tys:=⟨tys⟩) hu hx w;exact⟨_,rfl,VOk.same h g1 (.pure g2)⟩
  .cases f
 .unfold noM at f;split at f
  .rename_i u hu;cases f;obtain⟨g1,g2⟩:=TG (P:=P) (ty:=ty) (tys:=⟨tys⟩) hu hx w;exact⟨_,rfl,VOk.same h g1 (.pure g2)⟩
  .cases f
 .obtain⟨x',r1,rfl,h1,j⟩:=hx.tail;cases j.nil_inv;exact⟨_,rfl,BW h f h1⟩
 .obtain⟨x',r1,rfl,h1,j⟩:=hx.tail;obtain⟨y',A,rfl,h3,q⟩:=j.tail;cases q.nil_inv;exact⟨_,rfl,BK h f h1 h3⟩
 .cases f
def NOk(P:Program)(base:Nat)(ρ:Ren)(m:Mem)(w:World)(s:Sem Next)(v:Value)(m':Mem):Prop :=
 ∃ v' f w',(s.run P w=.ok (.value v') w'∨(s.run P w=.ok .skip w'/\v'=undef))/\VR f v v'/\St P base ρ f m m' w w'
def NOk.of{s:Sem Value}(h:VOk P base ρ m w s v m'):NOk P base ρ m w (do pure (.value (<- s))) v m':=by
 obtain⟨v',f,w',h1,j,h3⟩:=h;exact⟨v',f,w',.inl (by simp[A4,h1,Result.andThen]),j,h3⟩
def qF(ρ:Ren):VR ρ undef undef:=.tuple (a:=[]) (a':=[]) rfl (fun i v v' h=>by simp at h)
def NOk.ofU{s:Sem Unit}(h:UOk P base ρ m w s m'):NOk P base ρ m w (do s;pure .skip) undef m':=by
 obtain⟨f,w',h1,h3⟩:=h;exact⟨undef,f,w',.inr ⟨by simp[A4,h1,Result.andThen],rfl⟩,qF _,h3⟩
def NOk.same{s:Sem Value}(h:HR P base ρ m.H w)(hr:s.run P w=.ok v' w)(hv:VR ρ v v'):NOk P base ρ m w (do pure (.value (<- s))) v m:=NOk.of (VOk.same h hr hv)
def FR(ρ:Ren)(fr:Fr)(g:Operand->Value)(o:Op):Prop:=∀ x ∈ o.operands.toList,VR ρ (ev fr x) (g x)
def l6(h:noM o m=some (v,m')):o=some v/\m'=m:=by
 unfold noM at h;split at h
 .cases h;exact⟨rfl,rfl⟩
 .cases h
def nT{o:Option Mem}(h:PM o=some (v,m')):o=some m'/\v=undef:=by
 unfold PM at h;split at h
 .cases h;exact⟨rfl,rfl⟩
 .cases h
def dK{fr:Fr}{g:Operand->Value}:∀ {xs:List Operand},(∀ x ∈ xs,VR ρ (ev fr x) (g x))->LR ρ (evL fr xs) (xs.map g)
 | [],_=>.nil
 | x::r,h=>.cons (h x B5) (dK fun y f=>h y (C7 _ f))
def QW{fr:Fr}{g:Operand->Value}:∀ {xs:List (Nat×Operand)},(∀ x ∈ xs.map (·.2),VR ρ (ev fr x) (g x))->PR ρ (evP fr xs) (xs.map fun x=>(x.1,g x.2))
 | [],_=>trivial
 | (i,x)::r,h=>⟨rfl,h x (by simp),QW fun y f=>h y (by simp at f ⊢;exact .inr f)⟩
def jO{fr:Fr}{x:Option Operand}(h:∀ y ∈ x.toList,VR ρ (ev fr y) (g y)):OR ρ (evO fr x) (x.map g):=by
 cases x with
 | none=>trivial
 | some y=>exact h y (by simp)
set_option maxHeartbeats 1000000 in
def A8w{fr:Fr}{o:Oper}(h:HR P base ρ m.H w)(I:base<=w.heap.size)(q:opM P fr m o.op=some (v,m'))(J:K4 ρ m.n m'.hi)(V:FR ρ fr g o.op) :
  NOk P base ρ m w (execOp g o) v m':=by
 obtain⟨dst,op,ty,pos,T,U⟩:=o;simp only at q V;have j:∀ {x},x ∈ op.operands.toList->VR ρ (ev fr x) (g x):=fun hx=>V _ hx
 unfold opM at q;split at q
 .cases q;exact⟨_,ρ,w,.inl rfl,j (by simp[Op.operands]),.refl h⟩
 .cases q;exact⟨_,ρ,w,.inl rfl,j (by simp[Op.operands]),.refl h⟩
 .rename_i c a b;have K:=j (x:=c) (by simp[Op.operands]);unfold SZ at q;split at q
  .rename_i F;rw[F]at K;cases q;exact⟨g a,ρ,w,.inl (by simp[execOp,cW K,asBool]),j (by simp[Op.operands]),.refl h⟩
  .rename_i F;rw[F]at K;cases q;exact⟨g b,ρ,w,.inl (by simp[execOp,cW K,asBool]),j (by simp[Op.operands]),.refl h⟩
  .cases q
 .exact NOk.of (WW h I q J)
 .exact NOk.of (A4X h I q J (j (by simp[Op.operands])))
 .rename_i t ps;obtain⟨h1,rfl⟩:=l6 q;obtain⟨v',A,h3⟩:=XT h1 (QW (g:=g) (fun x hx=>j (by simpa [Op.operands]using hx))) w;have e:(ps.map fun(i,x)=>(i,g x))=⟨ps.toList.map fun x=>(x.1,g x.2)⟩:=by apply J2;simp
  exact NOk.same (s:=Instr.build t (ps.map fun(i,x)=>(i,g x))) h (by rw[e];exact A) h3
 .rename_i t n ps
  have:=AZ h I q J (QW (g:=g) (fun x hx=>j (by simpa [Op.operands]using hx)));have e:(ps.map fun(i,x)=>(i,g x))=⟨ps.toList.map fun x=>(x.1,g x.2)⟩:=by apply J2;simp
  refine NOk.of (s:=Instr.buildSlice t n (ps.map fun(i,x)=>(i,g x))) ?_;rw[e];exact this
 .rename_i t x;have hx:=j (x:=x) (by simp[Op.operands]);unfold TA at q;split at q
  .rename_i a E;rw[E]at hx;obtain⟨l,Q,L,D⟩:=O9 hx;obtain⟨h1,rfl⟩:=l6 q;obtain⟨v',A,h3⟩:=LL h h1 Q;refine NOk.same (s:=Instr.loadAt t (g x)) h ?_ h3;rw[D]
   simpa [Instr.loadAt,Instr.sureAddr]using A
  .cases q
 .rename_i t x y;have hx:=j (x:=x) (by simp[Op.operands]);have B:=j (x:=y) (by simp[Op.operands]);unfold GP at q;split at q
  .rename_i a E;rw[E]at hx;obtain⟨l,Q,L,D⟩:=O9 hx;obtain⟨h1,rfl⟩:=nT q
   have:=VX h h1 Q B;refine NOk.ofU (s:=Instr.storeAt t (g x) (g y)) ?_;rw[D];obtain⟨N,w',r1,Z⟩:=this;exact⟨N,w',by simpa [Instr.storeAt,Instr.sureAddr]using r1,Z⟩
  .cases q
 .rename_i x;have hx:=j (x:=x) (by simp[Op.operands]);obtain⟨hm,h1,A⟩:=A4W q hx;subst hm;refine⟨g x,ρ,w,.inl ?_,h1,.refl h⟩;rcases A with⟨a,S⟩|⟨f,a,b,S⟩<;>simp[execOp,S]
 .rename_i op t x y yt;have hx:=j (x:=x) (by simp[Op.operands]);have B:=j (x:=y) (by simp[Op.operands]);unfold A4Y at q;have C:(zY op=true->mH P t x y (ev fr x) (ev fr y)=true)->noM (tH P op t (ev fr x) (ev fr y)) m=some (v,m')->NOk P base ρ m w (execOp g ⟨dst,.binOp op t x y yt,ty,pos,T,U⟩) v m':=fun O W=>by
   obtain⟨h1,rfl⟩:=l6 W;obtain⟨A,h3⟩:=xM h1 hx B w;have Y:=sS O hx B w;refine NOk.same (s:=do eqGuard op t x y (g x) (g y);binOp op t (g x) (g y)) h ?_ (.pure h3);simp[A4,Y,A,Result.andThen]
  cases G:zY op with
  | true =>
    rw[G]at q;simp only[E5]at q;obtain⟨h1,A⟩:=A3 q;exact C (fun _=>h1) A
  | false =>
    rw[G]at q;simp only[E0]at q;exact C (fun h=>by rw[G]at h;cases h) q
 .rename_i op t x;obtain⟨h1,rfl⟩:=l6 q;obtain⟨A,h3⟩:=OA (P:=P) h1 (j (x:=x) (by simp[Op.operands])) w;exact NOk.same (s:=Op.unary op (g x)) h A (.pure h3)
 .exact NOk.of (A3A h I q J (j (by simp[Op.operands])))
 .exact NOk.of (WV h q (j (by simp[Op.operands])))
 .rename_i f first cap
  cases q;have l1:=dK (ρ:=ρ) (fr:=fr) (g:=g) (xs:=first.toList) fun x hx=>j (by simp[Op.operands];exact .inl (by simpa using hx))
  have l2:=dK (ρ:=ρ) (fr:=fr) (g:=g) (xs:=cap.toList) fun x hx=>j (by simp[Op.operands];exact .inr (by simpa using hx))
  refine⟨.func (.func f) ⟨first.toList.map g⟩ ⟨cap.toList.map g⟩,ρ,w,.inl ?_,.func l1.1 l2.1 l1.2 l2.2,.refl h⟩;have R:first.map g=⟨first.toList.map g⟩:=by apply J2;simp
  have M:cap.map g=⟨cap.toList.map g⟩:=by apply J2;simp
  simp[execOp,Instr.makeFunc,R,M]
 .exact NOk.of (BZ h I q J (j (by simp[Op.operands])) (j (by simp[Op.operands])))
 .rename_i t x lo hi mx;obtain⟨h1,rfl⟩:=l6 q;obtain⟨v',A,h3⟩:=iC h1 (j (x:=x) (by simp[Op.operands])) (jO (g:=g) fun y B=>j (by simp[Op.operands]at B ⊢;exact .inr (.inl B))) (jO (g:=g) fun y B=>j (by simp[Op.operands]at B ⊢;exact .inr (.inr (.inl B)))) (jO (g:=g) fun y B=>j (by simp[Op.operands]at B ⊢;exact .inr (.inr (.inr B)))) w;exact NOk.same (s:=Instr.sliceAt t (g x) (lo.map g) (hi.map g) (mx.map g)) h A h3
 .obtain⟨h1,rfl⟩:=l6 q;obtain⟨v',A,h3⟩:=mJ h1 (j (by simp[Op.operands])) w;exact NOk.same h A h3
 .obtain⟨h1,rfl⟩:=l6 q;obtain⟨v',A,h3⟩:=XJ h1 (j (by simp[Op.operands])) w;exact NOk.same h A h3
 .obtain⟨h1,rfl⟩:=l6 q;obtain⟨v',A,h3⟩:=cX h1 (j (by simp[Op.operands])) (j (by simp[Op.operands])) w;exact NOk.same h A h3
 .obtain⟨h1,rfl⟩:=l6 q;obtain⟨v',A,h3⟩:=uF h1 (j (by simp[Op.operands])) (j (by simp[Op.operands])) w;exact NOk.same h A h3
 .obtain⟨hm,v',A,h3⟩:=LA (P:=P) q (j (by simp[Op.operands])) w;subst hm;exact NOk.same h A h3
 .rename_i b xs tys;have l1:=dK (ρ:=ρ) (fr:=fr) (g:=g) (xs:=xs.toList) fun x hx=>j (by show x ∈ (#[]++xs:Array Operand).toList;simpa using hx)
  obtain⟨ks,M⟩:∃ ks,execOp g ⟨dst,.call ⟨.builtin b,xs,tys⟩,ty,pos,T,U⟩=builtin b tys ty ks (xs.map g):=⟨_,rfl⟩;obtain⟨s,e,hs⟩:=NK (ty:=ty) (ks:=ks) h I q J l1;have R:xs.map g=⟨xs.toList.map g⟩:=by apply J2;simp
  rw[M,R];have X:tys=⟨tys.toList⟩:=rfl;rw[X,e];exact NOk.of hs
 .cases q
end
end
section
open Go
def ofV:R1->U
 | some (.int k n)=>.int k n
 | some (.bool b)=>.bool b
 | some (.string s)=>.str s.data.toList
 | _=>.none
def D9(E:Nat->U):Value->U
 | .complex .f64 i _=>E i
 | .int k n=>.int k n
 | .bool b=>.bool b
 | .string s=>.str s.data.toList
 | _=>.none
def evB(op:BinOp):U->U->U
 | .int k a,.int j b=>ofV (aZ op k j a b)
 | .str a,.str b=>ofV (A37 op ⟨⟨a⟩⟩ ⟨⟨b⟩⟩)
 | .bool a,.bool b=>match op with
   | .eql=>.bool (a == b)
   | .neq=>.bool (!(a == b))
   | _=>.none
 | _,_=>.none
def ev1(op:UnOp):U->U
 | .int k n=>ofV (unM op (.int k n))
 | .bool b=>ofV (unM op (.bool b))
 | _=>.none
def eqU:U->U->Option Bool
 | .int k a,.int j b=>if k=j then some (a == b)else none
 | .bool a,.bool b=>some (a == b)
 | .str a,.str b=>some (a == b)
 | _,_=>none
def mN:List U->Option Bool
 | []=>some true
 | a::b::r=>match eqU a b,mN r with
   | some x,some y=>some (x && y)
   | _,_=>none
 | _=>none
def JQ(s:List UInt8)(l h:Int):U :=
 match l,h with
 | .ofNat l,.ofNat h=>if l<=h/\h<=s.length then .str ((s.drop l).take (h-l))else .none
 | _,_=>.none
def uU:List U->Option (List UInt8)
 | []=>some []
 | .int .u8 (.ofNat n)::r=>if n<256 then match uU r with
   | some l=>some (UInt8.ofNat n::l)
   | none=>none else none
 | _::_=>none
def wU:List (List U)->Option (List UInt8)
 | []=>some []
 | [.int .u8 (.ofNat n)]::r=>if n<256 then match wU r with
   | some l=>some (UInt8.ofNat n::l)
   | none=>none else none
 | _::_=>none
def kC(s:List UInt8):List (List U):=s.map fun b=>[.int .u8 b.toNat]
def i6(w:Nat):Nat->List U->Option (List (List U))
 | 0,[]=>some []
 | 0,_::_=>none
 | n+1,l=>if w<=l.length then match i6 w n (l.drop w)with
   | some r=>some (l.take w::r)
   | none=>none else none
def yV(row:List U)(o:Nat)(cells:List U):List U:=row.take o++cells++row.drop (o+cells.length)
def uV:Nat:=1000000000
def mQ(f:Bool)(w:Nat)(rows r:List (List U)):U:=if rows.length+r.length<=uV then(match r with|[]=>.seq f w rows|r=>.seq false w (rows++r))else .none
def isU(a b:U):Bool :=
 match eqU a b with
 | some c=>c
 | none=>false
def U0:List U->List U->Bool
 | [],_=>true
 | a::k,b::r=>isU a b && U0 k r
 | _::_,[]=>false
def KR(kw:Nat)(c:List U):List (List U)->List (List U)
 | []=>[c]
 | r::rs=>if U0 (c.take kw) r then c::rs else r::KR kw c rs
def evU:LOp->List U->U
 | .mhas w kw,.seq _ v rows::k=>if v=w/\k.length=kw then .bool (rows.any (U0 k))else .none
 | .mget w kw o,.seq _ v rows::z::k=>if v=w/\k.length=kw then(match rows.find? (U0 k)with
   | some r=>r.getD o .none
   | none=>z)else .none
 | .mput w kw,.seq nul v rows::c=>if v=w/\c.length=w then .seq nul w (KR kw c rows)else .none
 | .len,[.seq _ _ rows]=>.int .i64 rows.length
 | .mks,l=>match uU l with
   | some s=>.str s
   | none=>.none
 | .inbs w,[.int _ i,.seq _ v rows]=>if v=w then .bool (decide (0<=i) && decide (i<rows.length))else .none
 | .get w o,[.seq false v rows,.int _ (.ofNat k)]=>if v=w then(rows.getD k []).getD o .none else .none
 | .mk w,l=>if w=0 then .none else match i6 w (l.length / w) l with
   | some r=>.seq false w r
   | none=>.none
 | .nilw w,[]=>.seq true w []
 | .nilp,[.seq nul _ _]=>.bool nul
 | .snoc w,.seq nul v rows::l=>if v=w/\w≠0 then match i6 w (l.length / w) l with
   | some r=>mQ nul w rows r
   | none=>.none else .none
 | .cat w,[.seq nul v rows,.seq _ v2 r]=>if v=w/\v2=w then mQ nul w rows r else .none
 | .cats,[.seq nul v rows,.str s]=>if v=1 then mQ nul 1 rows (kC s)else .none
 | .set w o,.seq false v rows::.int _ (.ofNat k)::l=>if v=w/\k<rows.length/\o+l.length<=w then .seq false w (rows.set k (yV (rows.getD k []) o l))else .none
 | .subs w,[.seq nul v rows,.int _ (.ofNat l),.int _ (.ofNat h)]=>if v=w/\l<=h/\h<=rows.length then .seq nul w ((rows.drop l).take (h-l))else .none
 | .str,[.seq _ v rows]=>if v=1 then match wU rows with
   | some s=>.str s
   | none=>.none else .none
 | .byt,[.str s]=>.seq false 1 (kC s)
 | .ustr,[.seq _ v rows,.int _ (.ofNat n)]=>if v=1/\n<=rows.length/\n<=uV then match wU (rows.take n)with
   | some s=>.str s
   | none=>.none else .none
 | .rep w,.int _ (.ofNat n)::l=>if l.length=w/\n<=uV then .seq false w (List.replicate n l)else .none
 | .bin op,[a,b]=>evB op a b
 | .un op,[a]=>ev1 op a
 | .conv k,[.int _ n]=>.int k (k.wrap n)
 | .len,[.str s]=>.int .i64 s.length
 | .rune,[.str s,.int _ (.ofNat k)]=>.int .i32 (Utf8.decode ⟨⟨s⟩⟩ k).1
 | .rpos,[.str s,.int _ (.ofNat k)]=>.int .i64 (k+(Utf8.decode ⟨⟨s⟩⟩ k).2:Nat)
 | .idx,[.str s,.int _ (.ofNat k)]=>match s[k]? with
   | some b=>.int .u8 b.toNat
   | none=>.none
 | .sub,[.str s,.int _ l,.int _ h]=>JQ s l h
 | .sub1,[.str s,.int _ l]=>JQ s l s.length
 | .sel,.int _ (.ofNat k)::cs=>cs.getD k .none
 | .inb,[.int _ i,.int _ n]=>.bool (decide (0<=i) && decide (i<n))
 | .eqs,l=>match mN l with
   | some b=>.bool b
   | none=>.none
 | .max,[.int k a,.int _ b]=>.int k (if b>a then b else a)
 | .min,[.int k a,.int _ b]=>.int k (if b<a then b else a)
 | _,_=>.none
def n7.ok(E:Nat->U):n7->Prop
 | .lt i t op xs=>E i=evU op (xs.map (D9 E))/\G7 (E i)=t/\t<10
 | .dt i t op xs=>E i=evU op (xs.map (D9 E))/\G7 (E i)=t/\∃ f w rows,E i=.seq f w rows
 | .br i b=>E i=.bool b
 | .as op xs=>evU op (xs.map (D9 E))=.bool true
 | .con spec xs i d n=>∃ outs,spec (xs.map (D9 E))=some (d,outs)/\outs.length=n/\∀ j u,outs[j]? = some u->E (i+j)=u
def S2(E:Nat->U)(l:List n7):Prop:=∀ e ∈ l,e.ok E
def Lg.le(a b:Lg):Prop:=a.log <:+ b.log
def Lg.le.refl(a:Lg):a.le a:=List.suffix_refl _
def Lg.le.trans{a b c:Lg}(h:a.le b)(k:b.le c):a.le c:=List.IsSuffix.trans h k
def S2.le{E:Nat->U}{a b:Lg}(h:S2 E b.log)(k:a.le b):S2 E a.log:=fun e he=>h e (k.subset he)
variable [Ora]
abbrev Sat(lg:Lg):Prop:=S2 Ora.env lg.log
omit [Ora] in
def RW{u:U}(h:G7 u<10):∃ v,toV u=some v/\ofV (some v)=u/\G8 v=G7 u:=by
 cases u with
 | none=>simp[G7]at h
 | seq _ _ _=>simp only[G7]at h;omega
 | int k n=>exact⟨_,rfl,rfl,rfl⟩
 | bool b=>exact⟨_,rfl,rfl,rfl⟩
 | str s=>exact⟨_,rfl,rfl,rfl⟩
def GO(h:G7 (ofV o)<10):∃ v,o=some v/\toV (ofV o)=some v:=by
 unfold ofV at h;split at h
 .exact⟨_,rfl,rfl⟩
 .exact⟨_,rfl,rfl⟩
 .rename_i s;refine⟨_,rfl,?_⟩;simp[ofV,toV]
 .simp[G7]at h
def M1(k:IntKind):iJ k<8:=by cases k<;>decide
theorem aK{ρ:Ren}{v v':Value}(h:VR ρ v v')(f:G8 v<10):toV (D9 Ora.env v)=some v'/\G7 (D9 Ora.env v)=G8 v:=by
 cases h with
 | pure hp =>
   cases v<;>simp only[G8]at f<;>first
    | exact⟨rfl,rfl⟩
    | (exfalso;omega)
    | (simp[I8]at hp)
 | hole h j=>exact⟨h,j⟩
 | junk=>simp[G8]at f
 | ixp _ _ _ _ _=>simp[G8,ixp]at f
 | dat _ _ _ _ _=>simp[G8,Go.Sx.dat]at f
 | clp _ _ _ _ _ _=>simp[G8,Go.Sx.clp]at f
 | own _ _ _=>simp[G8,Go.Sx.own]at f
 | dpt _ _ _=>simp[G8,Go.Sx.dpt]at f
 | opt _ _ _=>simp[G8,Go.Sx.opt]at f
 | yv _=>simp[G8,Go.Sx.yv]at f
 | sdt _=>simp[G8,Go.Sx.sdt]at f
 | _=>simp[G8]at f
def M9{ρ:Ren}(h:VR ρ v v')(j:G8 v<8):∃ k n,v'=.int k n/\D9 Ora.env v=.int k n/\G8 v=iJ k:=by
 obtain⟨h1,f⟩:=aK h A2;cases hu:D9 Ora.env v with
 | int k n=>rw[hu]at h1 f;cases h1;exact⟨k,n,rfl,rfl,f.symm⟩
 | bool b=>rw[hu]at f;simp only[G7]at f;omega
 | str s=>rw[hu]at f;simp only[G7]at f;omega
 | none=>rw[hu]at h1;cases h1
 | seq _ _ _=>rw[hu]at h1;cases h1
def iA{ρ:Ren}(h:VR ρ v v')(j:G8 v=8):∃ b,v'=.bool b/\D9 Ora.env v=.bool b:=by
 obtain⟨h1,f⟩:=aK h A2;cases hu:D9 Ora.env v with
 | int k n=>rw[hu]at f;simp only[G7]at f;have:=M1 k;omega
 | bool b=>rw[hu]at h1;cases h1;exact⟨b,rfl,rfl⟩
 | str s=>rw[hu]at f;simp only[G7]at f;omega
 | none=>rw[hu]at h1;cases h1
 | seq _ _ _=>rw[hu]at h1;cases h1
def o9{ρ:Ren}(h:VR ρ v v')(j:G8 v=9):∃ s,v'=.string ⟨⟨s⟩⟩/\D9 Ora.env v=.str s:=by
 obtain⟨h1,f⟩:=aK h A2;cases hu:D9 Ora.env v with
 | int k n=>rw[hu]at f;simp only[G7]at f;have:=M1 k;omega
 | bool b=>rw[hu]at f;simp only[G7]at f;omega
 | str s=>rw[hu]at h1;cases h1;exact⟨s,rfl,rfl⟩
 | none=>rw[hu]at h1;cases h1
 | seq _ _ _=>rw[hu]at h1;cases h1
def jJ{m m':Mem}{t:Nat}{op:LOp}(h:U3 m t op xs=some (v,m')):v=hole m.lg.nx t/\m'=m.wLg ⟨m.lg.nx+1,m.lg.pi,.lt m.lg.nx t op xs::m.lg.log⟩:=by
 obtain⟨H,n,W,hi,⟨nx,pi,log⟩⟩:=m;simp only[U3,E9,I5]at h;cases h;exact⟨rfl,rfl⟩
def M8{m m':Mem}{t:Nat}{op:LOp}(h:U3 m t op xs=some (v,m'))(n:Sat m'.lg):∃ u,evU op (xs.map (D9 Ora.env))=u/\G7 u=t/\∃ r,toV u=some r/\(∀ ρ,VR ρ v r)/\t<10:=by
 obtain⟨rfl,rfl⟩:=jJ h;obtain⟨h1,f,h3⟩:=n (.lt m.lg.nx t op xs) (by cases m;exact B5);refine⟨_,rfl,h1▸f,?_⟩;obtain⟨r,j,_⟩:=RW (u:=Ora.env m.lg.nx) A2;exact⟨r,h1▸j,fun ρ=>.hole j f,h3⟩
section
variable {P:Program} {base:Nat} {ρ:Ren} {m m':Mem} {w:World}
def St.wLg(h:HR P base ρ m.H w)(lg:Lg):St P base ρ ρ m (m.wLg lg) w w:=by
 obtain⟨H,n,W,hi,l⟩:=m;have r:=St.refl (m:=⟨H,n,W,hi,l⟩) h;exact⟨r.ext,r.new,r.nle,r.hle,r.nhi,r.hr,r.wsub,r.wrw,r.keep,r.size,r.os,r.blk,r.same,r.tch⟩
def cB:∀ {l:List n7} {i:Nat} {b:Bool},AF l i=some b->n7.br i b ∈ l
 | [],_,_,h=>by cases h
 | .br j c::r,i,b,h=>by
   rw[AF]at h;cases f:Nat.beq j i with
   | true=>rw[f]at h;cases h;rw[A0 f];exact B5
   | false=>rw[f]at h;exact C7 _ (cB h)
 | .lt _ _ _ _::r,i,b,h=>C7 _ (cB (l:=r) h)
 | .dt _ _ _ _::r,i,b,h=>C7 _ (cB (l:=r) h)
 | .as _ _::r,i,b,h=>C7 _ (cB (l:=r) h)
 | .con _ _ _ _ _::r,i,b,h=>C7 _ (cB (l:=r) h)
def fM{lg f:Lg}{b:Bool}(h:brL lg c=some (b,f)):lg.le f:=by
 unfold brL at h;split at h
 .cases h;exact .refl _
 .obtain⟨nx,pi,log⟩:=lg;simp only at h;split at h
  .cases h;exact .refl _
  .split at h
   .cases h;exact⟨[_],rfl⟩
   .cases h;exact⟨[_],rfl⟩
   .cases h
 .cases h
def mS{lg f:Lg}{b:Bool}(h:brL lg c=some (b,f))(q:VR ρ c c')(n:Sat f):c'=.bool b:=by
 unfold brL at h;split at h
 .cases h;exact cW q
 .rename_i i;have A:Ora.env i=.bool b:=by
   obtain⟨nx,pi,log⟩:=lg;simp only at h;split at h
   .rename_i b' B;cases h;exact n _ (cB B)
   .split at h
    .cases h;exact n (.br i true) B5
    .cases h;exact n (.br i false) B5
    .cases h
  obtain⟨b',h1,j⟩:=iA q rfl;have j:Ora.env i=.bool b':=j;rw[A]at j;cases j;exact h1
 .cases h
def vZ:∀ {a b:List U} {z:Bool},a.length%2=0->mN (a++b)=some z->∃ x y,mN a=some x/\mN b=some y/\z=(x && y)
 | [],b,z,_,h=>⟨true,z,rfl,h,rfl⟩
 | [_],_,_,hl,_=>by simp at hl
 | p::q::r,b,z,hl,h=>by
   simp only[S7]at h;unfold mN at h;split at h
   .rename_i u v n f;cases h;obtain⟨x,y,h1,j,rfl⟩:=vZ (by simp only[E6]at hl;omega) f;exact⟨u && x,y,by simp only[mN,n,h1],j,by simp[Bool.and_assoc]⟩
   .cases h
def WG(h:fE P t x y=true)(hx:VR ρ x x')(C:VR ρ y y'){b:Bool}(j:eqU (D9 Ora.env x) (D9 Ora.env y)=some b)(n:Nat)(w:World):(Op.equalIn (n+1) t x' y').run P w=.ok b w:=by
 unfold fE at h;split at h
 .rename_i hu;obtain⟨h1,f⟩:=B6 h;obtain⟨p,rfl,B⟩:=iA hx (A0 h1);obtain⟨q,rfl,A⟩:=iA C (A0 f);rw[B,A]at j;cases j;simp[Op.equalIn,A4,D1 hu,Result.andThen]
 .rename_i k hu;obtain⟨h1,f⟩:=B6 h;have h1:=A0 h1;have f:=A0 f;obtain⟨E,p,rfl,B,f1⟩:=M9 hx (by have:=M1 k;omega);obtain⟨D,q,rfl,A,f2⟩:=M9 C (by have:=M1 k;omega);have g1:E=k:=by cases E<;>cases k<;>first|rfl|(simp only[iJ]at f1 h1;omega)
  have g2:D=k:=by cases D<;>cases k<;>first|rfl|(simp only[iJ]at f2 f;omega)
  subst g1;subst g2;rw[B,A]at j;simp[eqU]at j;subst j;simp[Op.equalIn,A4,D1 hu,Result.andThen]
 .rename_i hu;obtain⟨h1,f⟩:=B6 h;obtain⟨p,rfl,B⟩:=o9 hx (A0 h1);obtain⟨q,rfl,A⟩:=o9 C (A0 f);rw[B,A]at j;cases j
  have:=run_equalIn_string (P:=P) w n t ⟨⟨p⟩⟩ ⟨⟨q⟩⟩ hu;rw[this];simp[ByteArray.toList_eq]
 .cases h
mutual
def UY:∀ (d:Nat) (t:TypeId) (x y:Value) (l:List Value),eqS P d t x y=some l->l.length%2=0
 | 0,_,_,_,_,h=>by simp[eqS]at h
 | d+1,t,x,y,l,h=>by
   unfold eqS at h;cases hs:fE P t x y with
   | true=>rw[hs]at h;cases h;simp
   | false =>
     rw[hs]at h;simp only[E0]at h;split at h
     .rename_i fs xs ys hu;cases hst:P.stoodInHeld t with
      | true=>rw[hst]at h;cases h
      | false=>rw[hst]at h;exact AJ d _ _ _ l h
     .split at h
      .exact AJ d _ _ _ l h
      .cases h
     .cases h
def AJ:∀ (d:Nat) (fs:List Field) (xs ys:List Value) (l:List Value),AK P d fs xs ys=some l->l.length%2=0
 | 0,_,_,_,_,h=>by simp[AK]at h
 | d+1,[],_,_,_,h=>by simp only[AK,D5]at h;subst h;rfl
 | d+1,f::fs,xs,ys,l,h=>by
   unfold AK at h;cases hnm:f.name == "_" with
   | true=>rw[hnm]at h;cases h
   | false =>
     rw[hnm]at h;simp only[E0]at h;split at h
     .split at h
      .rename_i a b ha hb;cases h
       have:=UY d _ _ _ a ha
       have:=AJ d _ _ _ b hb;simp only[D4];omega
      .cases h
     .cases h
end
mutual
def QX:∀ (d:Nat) (t:TypeId) (x y x' y':Value) (l:List Value) (b:Bool),eqS P d t x y=some l->mN (l.map (D9 Ora.env))=some b->VR ρ x x'->VR ρ y y'->∀ (n:Nat),d<=n->∀ w:World,(Op.equalIn n t x' y').run P w=.ok b w
 | 0,_,_,_,_,_,_,_,h,_,_,_,_,_,_=>by simp[eqS]at h
 | d+1,t,x,y,x',y',l,b,h,hl,hx,hy,n,hn,w=>by
   obtain⟨n,rfl⟩:∃ k,n=k+1:=⟨n-1,A2⟩;have hn':d<=n:=A2;unfold eqS at h;cases hs:fE P t x y with
   | true =>
     rw[hs]at h;cases h;simp only[C3,F6,mN]at hl;split at hl
     .rename_i u v e1 e2;cases e2;cases hl;rw[oT];exact WG hs hx hy e1 n w
     .cases hl
   | false =>
     rw[hs]at h;simp only[E0]at h;split at h
     .rename_i fs xs ys hu;cases hst:P.stoodInHeld t with
      | true=>rw[hst]at h;cases h
      | false =>
        rw[hst]at h;obtain⟨xs',rfl,hx1⟩:=V9 hx;obtain⟨ys',rfl,hy1⟩:=V9 hy;have hf:P.fieldsOf t=fs:=by simp[Program.fieldsOf,hu]
        rw[run_equalIn_struct (P:=P) w n t _ _ (by rw[hf];exact hu) hst,hf];exact HY d fs.toList xs.toList ys.toList xs' ys' l b h hl hx1 hy1 n hn' w
     .rename_i k e xs ys hu;split at h
      .rename_i s hz;obtain⟨xs',rfl,hx1⟩:=V9 hx;obtain⟨ys',rfl,hy1⟩:=V9 hy;obtain⟨i,hi,rfl⟩:=CT hz;rw[run_equalIn_array (P:=P) (w:=w) n _ _ hu hi,show P.cellsOf e=i.size by simp[Program.cellsOf,hi],fK];exact HY d _ xs.toList ys.toList xs' ys' l b h hl hx1 hy1 n hn' w
      .cases h
     .cases h
def HY:∀ (d:Nat) (fs:List Field) (xs ys xs' ys':List Value) (l:List Value) (b:Bool),AK P d fs xs ys=some l->mN (l.map (D9 Ora.env))=some b->LR ρ xs xs'->LR ρ ys ys'->∀ (n:Nat),d<=n->∀ w:World,(Op.eqFields n ⟨xs'⟩ ⟨ys'⟩ fs).run P w=.ok b w
 | 0,_,_,_,_,_,_,_,h,_,_,_,_,_,_=>by simp[AK]at h
 | d+1,[],_,_,_,_,_,b,h,hl,_,_,_,_,_=>by
   simp only[AK,D5]at h;subst h;simp only[F6,mN,D5]at hl;subst hl;simp[Op.eqFields]
 | d+1,f::fs,xs,ys,xs',ys',l,b,h,hl,hx,hy,n,hn,w=>by
   unfold AK at h;cases hnm:f.name == "_" with
   | true=>rw[hnm]at h;cases h
   | false =>
     rw[hnm]at h;simp only[E0]at h;have hn':f.name ≠ "_":=by simpa using hnm
     split at h
     .rename_i x y h1 h2;obtain⟨x',g1,g2⟩:=iG h1 hx w;obtain⟨y',g3,g4⟩:=iG h2 hy w;split at h
      .rename_i a c ha hc;cases h;rw[M5]at hl;obtain⟨p,q,e1,e2,rfl⟩:=vZ (by have:=UY d _ _ _ a ha;simpa using this) hl;have ih:=QX d f.type x y x' y' a p ha e1 g2 g4 n A2 w;have ih2:=HY d fs xs ys xs' ys' c q hc e2 hx hy n A2 w;unfold Op.eqFields;rw[B0 hn'];cases p<;>simp[A4,g1,g3,Result.andThen,ih,ih2]
      .cases h
     .cases h
end
end
end
section
open Go
variable [Ora]
section
variable {P:Program} {base:Nat} {ρ:Ren} {m m':Mem} {w w':World}
def St.new0{ab:AB}(h:HR P base ρ m.H w)(O:Z4 m ab k=some (v,m'))(R:K4 ρ m.n m'.hi)(J:BR P (upd ρ m.n l') ab l' w)(G:l'.on=false)
  (L:∀ q,Tc ab l' q->Fp ρ m.H q/\∀ id,id<=I2->∀ a l,Hp.get m.H id=some a->ρ id=some l->a.rw=true->l.on=true->l.blk≠q):v=k m.n/\upd ρ m.n l' m.n=some l'/\St P base ρ (upd ρ m.n l') m m' w w:=by
 obtain⟨hle,hv,rfl⟩:=M0 O;have D:ρ m.n=none:=R m.n (A6 _) (L3 _ _).2;have A:=X4 (l:=l') D;refine⟨hv,M2 _ _ _,A,fun b q h1 j=>?_,by simp,(L3 _ _).1,fun _=>Y8 (L3 _ _).2,⟨fun b q N=>?_,fun id hid a f=>?_⟩,fun b J=>J,fun b h1 j=>absurd h1 j,fun q N _=>rfl,A6 _,⟨rfl,rfl,rfl⟩,fun b q h1 j B=>?_,fun id hid h1 j=>?_,fun q ⟨id,a,l,hid,f,E,M⟩=>.inr ?_⟩
 .obtain⟨rfl,rfl⟩:=U6 h1 j;exact⟨A6 _,J4 _⟩
 .cases h0:ρ b with
  | some Q=>exact h.dom b Q h0
  | none=>obtain⟨rfl,rfl⟩:=U6 N h0;exact hle
 .rw[F1 _ _ _ _ hle hid]at f;by_cases e:id=m.n
  .rw[B0 e]at f;have f:=A9 f;subst f;subst e;exact⟨l',M2 _ _ _,J,fun _ B=>(by rw[G]at B;cases B)⟩
  .rw[A8 e]at f;obtain⟨l0,h1,j,h3⟩:=h.at_ id hid a f;refine⟨l0,A _ _ h1,j.mono A (fun _ _=>rfl),fun hr B=>⟨(h3 hr B).1,fun F C K l2 g1 g2 g3=>?_⟩⟩;rw[F1 _ _ _ _ hle C]at g1;by_cases I:F=m.n
   .subst I;rw[M2]at g2
    have:=A9 g2;subst this;rw[B0 rfl]at g1;have g1:=A9 g1;subst g1;exact absurd rfl ((L _ g3).2 id hid a l0 f h1 hr B)
   .rw[A8 I]at g1;unfold upd at g2;rw[A8 I]at g2;exact(h3 hr B).2 F C K l2 g1 g2 g3
 .obtain⟨rfl,rfl⟩:=U6 h1 j;rw[G]at B;cases B
 .rw[F1 _ _ _ _ hle hid,A8];intro e;subst e;rcases j with j|j
  .omega
  .have j:upN m.hi m.n<=m.n:=j
   have:=(L3 m.hi m.n).2;omega
 .have f:Hp.get (m.H.set m.n (some ab)) id=some a:=f;rw[F1 _ _ _ _ hle hid]at f;by_cases e:id=m.n
  .subst e;rw[B0 rfl]at f;have f:=A9 f;subst f;rw[M2]at E;have E:=A9 E;subst E;exact(L q M.2).1
  .rw[A8 e]at f;unfold upd at E;rw[A8 e]at E;exact⟨id,a,l,hid,f,E,M⟩
def St.same0{ab:AB}{id:Nat}(h:HR P base ρ m.H w)(T:cQ m id ab'=some m')(L:Hp.get m.H id=some ab)(D:ab.rw=true)(G:ρ id=some l)(M:BR P ρ ab' l w)(O:∀ q,Tc ab' l q->Tc ab l q):St P base ρ ρ m m' w w:=by
 obtain⟨hle,rfl⟩:=U9 T;obtain⟨E,h3⟩:=h.atl G L;refine⟨fun _ _ h=>h,fun b k h1 E=>(by rw[h1]at E;cases E),A6 _,A6 _,fun h=>h,⟨h.dom,fun n f a A=>?_⟩,fun b M=>C7 _ M,fun b h1 E k I=>?_,fun k I R=>rfl,A6 _,⟨rfl,rfl,rfl⟩,fun b k h1 E=>(by rw[h1]at E;cases E),fun n f S U=>?_,fun k ⟨n,a,q,f,A,K,Q⟩=>.inr ?_⟩
 .rw[F1 _ _ _ _ hle f]at A;by_cases e:n=id
  .rw[B0 e]at A;have A:=A9 A;subst A;subst e;refine⟨l,G,M,fun _ B=>⟨(h3 D B).1,fun C j F N g1 g2 g3=>?_⟩⟩;rw[F1 _ _ _ _ hle j]at g1;by_cases J:C=n
   .exact J
   .rw[A8 J]at g1;exact(h3 D B).2 C j F N g1 g2 g3
  .rw[A8 e]at A;obtain⟨l2,g1,g2,g3⟩:=h.at_ n f a A;refine⟨l2,g1,g2.mono (fun _ _ h=>h) (fun k I=>rfl),fun hr B=>⟨(g3 hr B).1,fun C j F N f1 f2 f3=>?_⟩⟩;rw[F1 _ _ _ _ hle j]at f1;by_cases J:C=id
   .subst J;rw[G]at f2
    have:=A9 f2;subst this;have f1:=A9 (by simpa using f1);subst f1;exact(g3 hr B).2 C j ab l L G (O _ f3)
   .rw[A8 J]at f1;exact(g3 hr B).2 C j F N f1 f2 f3
 .rcases B4.1 h1 with rfl|h1
  .exact⟨ab,L,D⟩
  .exact absurd h1 E
 .rw[F1 _ _ _ _ hle f,A8];intro e;subst e;exact S B5
 .have A:Hp.get (m.H.set id (some ab')) n=some a:=A;rw[F1 _ _ _ _ hle f]at A;by_cases e:n=id
  .subst e;rw[B0 rfl]at A;have A:=A9 A;subst A;rw[G]at K;have K:=A9 K;subst K;exact⟨n,ab,l,f,L,G,AB.rw_fr D,O _ Q.2⟩
  .rw[A8 e]at A;exact⟨n,a,q,f,A,K,Q⟩
def St.move{ab:AB}{id:Nat}(h:HR P base ρ m.H w)(hle:id<=I2)(hg:Hp.get m.H id=some ab)(F:ab.rw=true)(X:ρ id=some l)
  (hn:Z4 (kJ m id) ab' k=some (v,m')) (hf:K4 ρ m.n m'.hi) (N:l'.on=true->l.on=true/\l'.blk=l.blk)
  (ho:w'.os=w.os/\w'.tape=w.tape/\w'.output=w.output) (az:w'.heap.size=w.heap.size) (Y:∀ k,(l.on=true->k≠l.blk)->w'.heap[k]? = w.heap[k]?) (T:BR P (upd ρ m.n l') ab' l' w') (ay:ab'≠.frz) :
  v=k m.n/\upd ρ m.n l' m.n=some l'/\St P base ρ (upd ρ m.n l') m m' w w':=by
 rw[l7]at hn;obtain⟨S,hv,rfl⟩:=M0 hn;have B:ρ m.n=none:=hf m.n (A6 _) (L3 _ _).2;have G:=X4 (l:=l') B;obtain⟨Q,h3⟩:=h.atl X hg;have R:∀ k,Tc ab' l' k->l.on=true/\k=l.blk:=fun k Y=>by
  rcases Y with⟨_,h1,rfl⟩|⟨rfl,_⟩
  .exact N h1
  .exact absurd rfl ay
 have av:id≠m.n:=fun e=>by subst e;rw[X]at B;cases B
 have A:∀ i,i<=I2->Hp.get ((m.H.set id none).set m.n (some ab')) i=if i=m.n then some ab' else if i=id then none else Hp.get m.H i:=fun i hi=>by
  rw[F1 _ _ _ _ S hi,F1 _ _ _ _ hle hi]
 refine⟨hv,M2 _ _ _,G,fun b q h1 Q=>?_,X3 _,(L3 _ _).1,fun _=>Y8 (L3 _ _).2,⟨fun b q E=>?_,fun i hi a f=>?_⟩,fun b T=>C7 _ T,fun b h1 Q q E=>?_,fun q E ax=>Y q ?_,by rw[az];exact A6 _,ho,fun b q h1 Q C=>?_,fun i hi h4 U=>?_,fun k ⟨i,a,q,hi,f,E,ht⟩=>.inr ?_⟩
 .obtain⟨rfl,rfl⟩:=U6 h1 Q;exact⟨A6 _,J4 _⟩
 .cases h0:ρ b with
  | some q0=>exact h.dom b q0 h0
  | none=>obtain⟨rfl,rfl⟩:=U6 E h0;exact S
 .have f:Hp.get ((m.H.set id none).set m.n (some ab')) i=some a:=f;rw[A i hi]at f;by_cases e:i=m.n
  .rw[B0 e]at f;have f:=A9 f;subst f;subst e;refine⟨l',M2 _ _ _,T,fun au C=>?_⟩;obtain⟨j,D⟩:=N C;refine⟨by rw[D];exact(h3 F j).1,fun K M aw l2 g1 g2 g3=>?_⟩;rw[A K M]at g1;by_cases e2:K=m.n
   .exact e2
   .rw[A8 e2]at g1;unfold upd at g2;rw[A8 e2]at g2;by_cases J:K=id
    .rw[B0 J]at g1;cases g1
    .rw[A8 J]at g1;exact absurd ((h3 F j).2 K M aw l2 g1 g2 (D▸g3)) J
  .rw[A8 e]at f;by_cases J:i=id
   .rw[B0 J]at f;cases f
   .rw[A8 J]at f;obtain⟨l2,g1,g2,g3⟩:=h.at_ i hi a f;have W:∀ k,Tc a l2 k->l.on=true->k≠l.blk:=fun k O j hh=>J ((h3 F j).2 i hi a l2 f g1 (hh▸O))
    refine⟨l2,G _ _ g1,g2.mono G (fun k O=>Y _ (W k O)),fun hr C=>⟨(g3 hr C).1,fun I L V l3 f1 f2 f3=>?_⟩⟩;have f1:Hp.get ((m.H.set id none).set m.n (some ab')) I=some V:=f1;rw[A I L]at f1;by_cases e4:I=m.n
    .subst e4;rw[M2]at f2
     have:=A9 f2;subst this;rw[B0 rfl]at f1;have f1:=A9 f1;subst f1;obtain⟨j,E⟩:=R _ f3;exact absurd E (W _ (.inl ⟨AB.rw_on hr,C,rfl⟩) j)
    .rw[A8 e4]at f1;unfold upd at f2;rw[A8 e4]at f2;by_cases e5:I=id
     .rw[B0 e5]at f1;cases f1
     .rw[A8 e5]at f1;exact(g3 hr C).2 I L V l3 f1 f2 f3
 .rcases B4.1 h1 with rfl|h1
  .exact⟨ab,hg,F⟩
  .exact absurd h1 Q
 .exact fun j e=>ax id B5 l X j e.symm
 .obtain⟨rfl,rfl⟩:=U6 h1 Q;obtain⟨j,D⟩:=N C;exact .inr ⟨id,B5,l,X,j,D.symm⟩
 .have Z:=A i hi;show Hp.get ((m.H.set id none).set m.n (some ab')) i=_;rw[Z,A8,A8]
  .intro e;subst e;exact h4 B5
  .intro e;subst e;rcases U with U|U
   .omega
   .have U:upN m.hi m.n<=m.n:=U
    have:=(L3 m.hi m.n).2;omega
 .have f:Hp.get ((m.H.set id none).set m.n (some ab')) i=some a:=f;rw[A i hi]at f;by_cases e:i=m.n
  .rw[B0 e]at f;have f:=A9 f;subst f;subst e;rw[M2]at E;have E:=A9 E;subst E;obtain⟨j,T⟩:=R k ht.2;exact⟨id,ab,l,hle,hg,X,AB.rw_fr F,.inl ⟨AB.rw_on F,j,T.symm⟩⟩
  .rw[A8 e]at f;unfold upd at E;rw[A8 e]at E;by_cases J:i=id
   .rw[B0 J]at f;cases f
   .rw[A8 J]at f;exact⟨i,a,q,hi,f,E,ht⟩
end
end
section
open Go
variable [Ora]
def aU{m m':Mem}{ab:AB}(h:Z4 m ab k=some (v,m')):m'.lg=m.lg:=by
 obtain⟨_,_,rfl⟩:=M0 h;rfl
def dZ{m m':Mem}{id:Nat}{ab:AB}(h:cQ m id ab=some m'):m'.lg=m.lg:=by
 obtain⟨_,rfl⟩:=U9 h;rfl
def tM{m m':Mem}(h:oU m a vs=some m'):m'.lg=m.lg:=by
 unfold oU at h;split at h
 .obtain⟨_,h⟩:=A3 h;rw[I5]at h;exact dZ h
 .cases h
def VY{P:Program}{m m':Mem}(h:xZ P m t a v=some m'):m'.lg=m.lg:=by
 unfold xZ at h;split at h
 .obtain⟨_,h⟩:=A3 h;exact tM h
 .cases h
def s5{m m':Mem}(h:noM o m=some (v,m')):m'.lg=m.lg:=by
 obtain⟨_,rfl⟩:=l6 h;rfl
def BA{P:Program}{m m':Mem}{n:Nat}{ps:List (Nat×Value)}(h:dA P m t n ps=some (v,m')):m'.lg=m.lg:=by
 unfold dA at h;split at h
 .split at h
  .obtain⟨_,h⟩:=A3 h;split at h
   .exact aU h
   .cases h
  .cases h
 .cases h
def CA{P:Program}{m m':Mem}{l:Value}(h:eY P m t l c=some (v,m')):m'.lg=m.lg:=by
 unfold eY at h;split at h
 .split at h
  .obtain⟨_,h⟩:=A3 h;split at h
   .rw[I5]at h;exact aU h
   .cases h
  .cases h
 .cases h
def A3B{P:Program}{m m':Mem}(h:EJ P m s t x=some (v,m')):m'.lg=m.lg:=by
 unfold EJ at h;split at h
 .cases h;rfl
 .cases h;rfl
 .cases h;rfl
 .split at h
  .split at h
   .rw[I5]at h;exact aU h
   .cases h
  .cases h
 .split at h<;>cases h;rfl
 .split at h
  .split at h
   .split at h<;>cases h;rfl
   .cases h
  .cases h
 .cases h
def RK{P:Program}{m m':Mem}(h:tJ P m t t2 x y=some (v,m')):m'.lg=m.lg:=by
 unfold tJ at h;split at h
 .rename_i B d2 _ _;cases A:dJ d2 with
  | false=>rw[A]at h;cases h
  | true =>
  rw[A]at h;simp only[Q8,E0]at h;split at h
  .rename_i i a n c _;split at h
   .rename_i k new z _ _;obtain⟨_,h⟩:=A3 h;cases q:Nat.beq k 0 with
    | true =>
      rw[q]at h;simp only[E5]at h;split at h
      .obtain⟨_,h⟩:=A3 h;cases h;rfl
      .obtain⟨_,h⟩:=A3 h;cases h;rfl
    | false =>
      rw[q]at h;simp only[E0]at h;split at h
      .obtain⟨_,h⟩:=A3 h;rw[I5]at h;exact aU h
      .cases j:Nat.blt c N3 with
       | true =>
         rw[j]at h;simp only[E5]at h;cases f:Nat.ble (n+k) c with
         | true =>
           rw[f]at h;simp only[E5]at h;split at h
           .rename_i m1 _ hw;cases h;exact tM hw
           .cases h
         | false =>
           rw[f]at h;simp only[E0]at h;split at h
           .rw[I5]at h;exact aU h
           .cases h
       | false =>
         rw[j]at h;simp only[E0]at h;obtain⟨_,h⟩:=A3 h;split at h
         .obtain⟨_,h⟩:=A3 h;rw[I5]at h;rw[aU h,l7]
         .cases h
   .cases h
  .cases h
 .cases h
def A29{P:Program}{m m':Mem}(h:MX P m t x y=some (v,m')):m'.lg=m.lg:=by
 unfold MX at h;split at h
 .split at h
  .split at h
   .split at h
    .obtain⟨_,h⟩:=A3 h;cases h;rfl
    .rename_i k cs j _ n;cases f:Nat.beq cs.length 0 with
     | true=>rw[f]at h;cases h;rfl
     | false =>
       rw[f]at h;simp only[E0]at h;obtain⟨_,h⟩:=A3 h;split at h
       .rename_i hw;cases h;exact tM hw
       .cases h
   .cases h
  .cases h
 .cases h
def BL{P:Program}{m m':Mem}{l:Value}(h:eO P m pt p l=some (v,m')):m'.lg=m.lg:=by
 unfold eO at h;split at h
 .cases h;rfl
 .split at h
  .split at h
   .obtain⟨_,h⟩:=A3 h;split at h
    .split at h
     .rename_i Y2;cases h;exact dZ Y2
     .cases h
    .cases h
   .cases h
  .cases h
 .cases h
def NL{P:Program}{m m':Mem}(h:iP P m b vs tys=some (v,m')):m'.lg=m.lg:=by
 unfold iP at h;split at h
 .exact s5 h
 .exact s5 h
 .exact RK h
 .exact A29 h
 .exact s5 h
 .exact s5 h
 .unfold iZ at h;split at h
  .cases h;rfl
  .rename_i a n c;cases f:Nat.beq n 0 || Nat.beq c 0 || Nat.beq c (N3+2)with
   | true=>rw[f]at h;cases h
   | false=>rw[f]at h;cases h;rfl
  .cases h
 .exact BL h
 .cases h
def A8x{P:Program}{fr:Fr}{m m':Mem}{o:Op}(h:opM P fr m o=some (v,m')):m'.lg=m.lg:=by
 unfold opM at h;split at h
 .cases h;rfl
 .cases h;rfl
 .unfold SZ at h;split at h<;>cases h<;>rfl
 .unfold GS at h;split at h
  .exact aU h
  .cases h
 .unfold A06 at h;obtain⟨_,h⟩:=A3 h;exact aU h
 .exact s5 h
 .exact BA h
 .unfold TA at h;split at h
  .exact s5 h
  .cases h
 .unfold GP at h;split at h
  .obtain⟨h,_⟩:=nT h;exact VY h
  .cases h
 .unfold A05 at h;split at h<;>cases h<;>rfl
 .unfold A4Y at h;rename_i op t x y j;cases f:zY op with
  | true=>rw[f]at h;simp only[E5]at h;obtain⟨_,h⟩:=A3 h;exact s5 h
  | false=>rw[f]at h;exact s5 h
 .exact s5 h
 .exact A3B h
 .unfold GQ at h;split at h
  .split at h
   .cases h
   .obtain⟨_,h⟩:=A3 h;cases h;rfl
  .cases h
 .cases h;rfl
 .exact CA h
 .exact s5 h
 .exact s5 h
 .exact s5 h
 .exact s5 h
 .exact s5 h
 .unfold lR at h;split at h
  .exact s5 h
  .cases h
 .exact NL h
 .cases h
def I3{m m':Mem}{t:Nat}{op:LOp}(h:U3 m t op xs=some (v,m')):m.lg.le m'.lg:=by
 obtain⟨_,rfl⟩:=jJ h;obtain⟨H,n,W,hi,l⟩:=m;exact⟨[_],rfl⟩
def K1(m m':Mem):Prop:=∃ lg,m'=m.wLg lg
def K1.refl(m:Mem):K1 m m:=⟨m.lg,by cases m;rfl⟩
def K1.trans{a b c:Mem}(h:K1 a b)(k:K1 b c):K1 a c:=by
 obtain⟨l,rfl⟩:=h;obtain⟨l2,rfl⟩:=k;exact⟨l2,by cases a;rfl⟩
def H8{m m':Mem}{t:Nat}{op:LOp}(h:U3 m t op xs=some (v,m')):K1 m m':=⟨_,(jJ h).2⟩
section
variable {P:Program} {base:Nat} {ρ:Ren} {m m':Mem} {w:World}
def OF{a b:Value}(h:wZ m c a b=some (v,m')):m.lg.le m'.lg/\K1 m m':=by
 obtain⟨H,n,W,hi,lg⟩:=m;unfold wZ at h;simp only at h;split at h
 .rename_i f j;cases h;exact⟨fM j,⟨_,rfl⟩⟩
 .rename_i f j;cases h;exact⟨fM j,⟨_,rfl⟩⟩
 .cases h
def VW{a b:Value}(h:oV P m op t a b=some (v,m')):m.lg.le m'.lg/\K1 m m':=by
 unfold oV at h;simp only at h;cases h1:(Nat.blt (G8 a) 8 && Nat.blt (G8 b) 8) || (Nat.beq (G8 a) 9 && Nat.beq (G8 b) 9)with
 | true=>rw[h1]at h;exact⟨I3 h,H8 h⟩
 | false =>
   rw[h1]at h;simp only[E0]at h;obtain⟨_,h⟩:=A3 h;exact⟨I3 h,H8 h⟩
def YW{x y:Operand}{a b:Value}(h:JP P m op t x y a b=some (v,m')):m.lg.le m'.lg/\K1 m m':=by
 unfold JP at h;obtain⟨_,h⟩:=A3 h;split at h
 .exact⟨I3 h,H8 h⟩
 .split at h
  .rename_i m1 h1;exact⟨(I3 h1).trans (I3 h),(H8 h1).trans (H8 h)⟩
  .cases h
 .cases h
def JO{i:Value}(h:j8 P m t x i=some (v,m')):m.lg.le m'.lg/\K1 m m':=by
 unfold j8 at h;cases f:!(Nat.blt (G8 i) 8)with
 | true=>rw[f]at h;cases h
 | false =>
   rw[f]at h;simp only[E0]at h;split at h
   .obtain⟨_,h⟩:=A3 h;exact⟨I3 h,H8 h⟩
   .split at h
    .obtain⟨_,h⟩:=A3 h;exact⟨I3 h,H8 h⟩
    .obtain⟨_,h⟩:=A3 h;exact⟨I3 h,H8 h⟩
    .cases h
   .cases h
def JM(h:lG P m t x lo hi mx=some (v,m')):m.lg.le m'.lg/\K1 m m':=by
 unfold lG at h;split at h
 .obtain⟨_,h⟩:=A3 h;split at h
  .cases h;exact⟨.refl _,.refl _⟩
  .obtain⟨_,h⟩:=A3 h;exact⟨I3 h,H8 h⟩
  .obtain⟨_,h⟩:=A3 h;exact⟨I3 h,H8 h⟩
  .obtain⟨_,h⟩:=A3 h;exact⟨I3 h,H8 h⟩
 .cases h
def YT{op:UnOp}(h:JK m op x=some (v,m')):m.lg.le m'.lg/\K1 m m':=by
 unfold JK at h;simp only at h;split at h
 .obtain⟨_,h⟩:=A3 h;exact⟨I3 h,H8 h⟩
 .obtain⟨_,h⟩:=A3 h;exact⟨I3 h,H8 h⟩
def OJ(h:qN P m s t x=some (v,m')):m.lg.le m'.lg/\K1 m m':=by
 unfold qN at h;split at h
 .obtain⟨_,h⟩:=A3 h;exact⟨I3 h,H8 h⟩
 .obtain⟨_,h⟩:=A3 h;cases h;exact⟨.refl _,.refl _⟩
 .cases h
def BU(h:eS P m b vs tys=some (v,m')):m.lg.le m'.lg/\K1 m m':=by
 unfold eS at h;split at h
 .split at h
  .obtain⟨_,h⟩:=A3 h;exact⟨I3 h,H8 h⟩
  .cases h
 .obtain⟨_,h⟩:=A3 h;exact⟨I3 h,H8 h⟩
 .obtain⟨_,h⟩:=A3 h;exact⟨I3 h,H8 h⟩
 .cases h
def UI{s n:Nat}{i:Value}(h:XH m a s n i=some (v,m')):m.lg.le m'.lg/\K1 m m':=by
 unfold XH at h;cases q:!(Nat.blt (G8 i) 8)with
 | true=>rw[q]at h;cases h
 | false =>
   rw[q]at h;simp only[E0]at h;split at h
   .rename_i b H k W hi lg j;split at h
    .rename_i f B;cases h;have h1:=I3 j;obtain⟨l1,A⟩:=H8 j;refine⟨h1.trans (fM B),f,?_⟩;obtain⟨H0,n0,D,C,l0⟩:=m;cases A;rfl
    .cases h
   .cases h
def BP{i:Value}(h:eQ P m t x i=some (v,m')):m.lg.le m'.lg/\K1 m m':=by
 unfold eQ at h;split at h
 .split at h
  .exact UI h
  .cases h
 .split at h
  .generalize f:Nat.beq _ (N3+2)=q at h;cases q with
   | true=>cases h
   | false=>exact UI h
  .cases h
 .cases h
def BS(h:eR P m s x i=some (v,m')):m.lg.le m'.lg/\K1 m m':=by
 unfold eR at h;split at h
 .split at h
  .split at h
   .split at h
    .cases h;exact⟨.refl _,.refl _⟩
    .cases h
   .cases h
  .cases h
 .cases h
def gA{cs:D2}{s n:Nat}{i:Value}:∀ {k o:Nat} {m m':Mem} {r:D2},cS m cs s n i o k=some (r,m')->m.lg.le m'.lg/\K1 m m'
 | 0,o,m,m',r,h=>by cases h;exact⟨.refl _,.refl _⟩
 | k+1,o,m,m',r,h=>by
   unfold cS at h;split at h
   .obtain⟨_,h⟩:=A3 h;split at h
    .rename_i m1 h1;split at h
     .rename_i f;cases h
      have:=gA f;exact⟨(I3 h1).trans this.1,(H8 h1).trans this.2⟩
     .cases h
    .cases h
   .cases h
def OH(h:qM P m t x=some (v,m')):m.lg.le m'.lg/\K1 m m':=by
 unfold qM at h;split at h
 .split at h
  .split at h
   .split at h
    .rename_i h1;cases h;exact gA h1
    .cases h
   .cases h
  .split at h
   .split at h
    .rename_i h1;cases h;exact gA h1
    .cases h
   .cases h
  .cases h
 .cases h
def RX{fr:Fr}{o:Op}(h:YU P fr m o=some (v,m')):m.lg.le m'.lg/\K1 m m':=by
 unfold YU at h;split at h
 .exact OF h
 .split at h
  .rename_i r hr;cases h;exact VW hr
  .exact YW h
 .exact YT h
 .exact OJ h
 .exact JM h
 .exact JO h
 .exact BP h
 .exact BS h
 .exact OH h
 .exact BU h
 .cases h
def sH{j k:IntKind}(h:iJ j=iJ k):j=k:=by cases j<;>cases k<;>first|rfl|(simp only[iJ]at h;omega)
def VV{x y:Operand}{a b:Value}(h:oV P m op t a b=some (v,m'))(E:VR ρ a a')(F:VR ρ b b')(I:Sat m'.lg)(w:World) :
  ∃ r,(do eqGuard op t x y a' b';binOp op t a' b':Sem Value).run P w=.ok r w/\VR ρ v r:=by
 have fin:∀ {r:Value} {p q:Value},yJ p=true->yJ q=true->tH P op t p q=some r->a'=p->b'=q->(do eqGuard op t x y a' b';binOp op t a' b':Sem Value).run P w=.ok r w:=fun{r p q} hp L hr f C=>by
  subst f;subst C;have v1:VR ρ a' a':=.pure (by cases a'<;>simp[yJ]at hp<;>rfl);have v2:VR ρ b' b':=.pure (by cases b'<;>simp[yJ]at L<;>rfl);have g:mH P t x y a' b'=true:=by
   cases a'<;>simp[yJ]at hp<;>cases b'<;>simp[yJ]at L<;>rfl
  have N:=sS (op:=op) (fun _=>g) v1 v2 w;obtain⟨A,_⟩:=xM hr v1 v2 w;simp[A4,N,A,Result.andThen]
 unfold oV at h;simp only at h;cases h1:(Nat.blt (G8 a) 8 && Nat.blt (G8 b) 8) || (Nat.beq (G8 a) 9 && Nat.beq (G8 b) 9)with
 | true =>
   rw[h1]at h;obtain⟨u,f,C,r,B,G,Q⟩:=M8 h I;have K:G7 u<10:=by rw[C];exact Q
   refine⟨r,?_,G ρ⟩;rcases J1 _ _▸h1 with h1|h1
   .obtain⟨D,H⟩:=B6 h1;obtain⟨k,n,rfl,f1,_⟩:=M9 E (A1 D);obtain⟨j,R,rfl,f2,_⟩:=M9 F (A1 H);simp only[C3,F6,f1,f2,evU,evB]at f;subst f;obtain⟨O,g1,g2⟩:=GO K;rw[B]at g2;cases g2;exact fin rfl rfl (by unfold tH;exact g1) rfl rfl
   .obtain⟨D,H⟩:=B6 h1;obtain⟨s1,rfl,f1⟩:=o9 E (A0 D);obtain⟨s2,rfl,f2⟩:=o9 F (A0 H);simp only[C3,F6,f1,f2,evU,evB]at f;subst f;obtain⟨O,g1,g2⟩:=GO K;rw[B]at g2;cases g2;exact fin rfl rfl (by unfold tH;exact g1) rfl rfl
 | false =>
   rw[h1]at h;simp only[E0]at h;obtain⟨A,h⟩:=A3 h;obtain⟨A,J⟩:=B6 A;obtain⟨A,M⟩:=B6 A;obtain⟨A,h3⟩:=B6 A;have hu:P.underlying t=some .bool:=by
    split at J
    .assumption
    .cases J
   obtain⟨u,f,C,r,B,G,_⟩:=M8 h I;refine⟨r,?_,G ρ⟩;obtain⟨p,rfl,f1⟩:=iA E (A0 A);obtain⟨q,rfl,f2⟩:=iA F (A0 h3);simp only[C3,F6,f1,f2,evU,evB]at f;cases op<;>simp only[zY]at M<;>first
    | cases M
    | skip
   .subst f;cases B;exact fin rfl rfl (by simp[tH,DC,eqM,hu]) rfl rfl
   .subst f;cases B;exact fin rfl rfl (by simp[tH,DC,eqM,hu]) rfl rfl
def wF(e:Bool)(f:∃ cs,a'=.agg cs):binOp (bif e then .eql else .neq) t a' b'=(do let r <- Op.equal t a' b';pure (.bool (bif e then r else !r))):=by
 obtain⟨cs,rfl⟩:=f;cases e<;>cases b'<;>rfl
def YV{x y:Operand}{a b:Value}(h:JP P m op t x y a b=some (v,m'))(D:VR ρ a a')(K:VR ρ b b')(j:oV P m op t a b=none)(J:Sat m'.lg)(w:World) :
  ∃ r,(do eqGuard op t x y a' b';binOp op t a' b':Sem Value).run P w=.ok r w/\VR ρ v r:=by
 unfold JP at h;obtain⟨U,h⟩:=A3 h;have F:=sS (op:=op) (fun _=>U) D K w;have q:∀ {l},eqS P 20 t a b=some l->(op=.eql∨op=.neq)->∃ cs,a'=.agg cs:=fun{l} f Q=>by
  unfold eqS at f;cases B:fE P t a b with
  | true =>
    unfold fE at B;unfold oV at j;simp only at j;split at B
    .rename_i hu;obtain⟨C,E⟩:=B6 B;rw[A0 C,A0 E,hu]at j;obtain⟨H,n,W,hi,⟨nx,pi,log⟩⟩:=m;rcases Q with rfl|rfl<;>simp[zY,U3,E9,I5]at j
    .rename_i k hu;obtain⟨C,E⟩:=B6 B;have T:=M1 k;have S:Nat.blt (iJ k) 8=true:=C8 T;rw[A0 C,A0 E,S]at j;obtain⟨H,n,W,hi,⟨nx,pi,log⟩⟩:=m;simp[U3,E9,I5]at j
    .obtain⟨C,E⟩:=B6 B;rw[A0 C,A0 E]at j;obtain⟨H,n,W,hi,⟨nx,pi,log⟩⟩:=m;simp[U3,E9,I5]at j
    .cases B
  | false =>
    rw[B]at f;simp only[E0]at f;split at f
    .obtain⟨cs',rfl,_⟩:=V9 D;exact⟨_,rfl⟩
    .obtain⟨cs',rfl,_⟩:=V9 D;exact⟨_,rfl⟩
    .cases f
 split at h
 .rename_i l f _;obtain⟨u,A,R,r,I,L,_⟩:=M8 h J;refine⟨r,?_,L ρ⟩;simp only[evU]at A;split at A
  .rename_i z O;subst A;cases I;have he:(Op.equal t a' b').run P w=.ok z w:=QX 20 t a b a' b' l z f O D K _ F0 w;have G:=wF (t:=t) (b':=b') true (q f (.inl rfl));simp only[E5]at G;rw[G];simp[A4,F,he,Result.andThen]
  .subst A;cases I
 .rename_i l f _;split at h
  .rename_i hh m1 h1;have N:Sat m1.lg:=S2.le J (I3 h);obtain⟨V,f1,f2,r1,f3,f4,_⟩:=M8 h1 N;obtain⟨u,A,R,r,I,L,_⟩:=M8 h J;refine⟨r,?_,L ρ⟩;simp only[evU]at f1;split at f1
   .rename_i z O;subst f1;cases f3;have hv:=aK (ρ:=ρ) (f4 ρ) (by obtain⟨e,_⟩:=jJ h1;rw[e];show 8<10;omega);have:D9 Ora.env hh=.bool z:=by
     cases hu:D9 Ora.env hh<;>rw[hu]at hv<;>first|(cases hv.1;done)|skip
     all_goals (obtain⟨M,_⟩:=hv;cases M;rfl)
    simp only[C3,F6,this,evU,ev1,unM,ofV]at A;subst A;cases I;have he:(Op.equal t a' b').run P w=.ok z w:=QX 20 t a b a' b' l z f O D K _ F0 w;have G:=wF (t:=t) (b':=b') false (q f (.inr rfl));simp only[E0]at G;rw[G];simp[A4,F,he,Result.andThen]
   .subst f1;cases f3
  .cases h
 .cases h
end
end
end Go.Sx
