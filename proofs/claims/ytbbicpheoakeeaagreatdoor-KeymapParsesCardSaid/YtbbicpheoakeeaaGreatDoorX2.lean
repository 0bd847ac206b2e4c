import Derived.Test.YtbbicpheoakeeaaGreatDoorX1
import Derived.Laws.BytesString
set_option linter.all false
set_option maxRecDepth 100000
set_option maxHeartbeats 4000000
namespace Go.Sx
variable {e pt s t t2 ty:TypeId}{k:Nat->Value}{a' b' c c' p p' u v v' x x' y y' z:Value}{new new' old' vs vs' xs:D3}{d d2:TypeDesc}{a:Addr}{inf:TypeInfo}{ab':AB}{l l':Loc}{r:X4}{i:Nat}{op:BinOp}{tys:List TypeId}{b:Builtin}{hi lo mx o:R2}{g:Operand->Value}
section
open Go
variable [Ora]
def QD(a b:Nat)(h:b<a):Builtin.nextslicecap a b<=3*a+4000:=by
 have grow:∀ r c,Builtin.growBy a r c<=max (c) (2*a+800):=by
  intro r;induction r with
  | zero=>intro c;simp only[Builtin.growBy];exact Nat.le_max_left _ _
  | succ r f =>
    intro c;simp only[Builtin.growBy];split
    .exact Nat.le_max_left _ _
    .have:=f (c+(c+768) / 4);refine C6 this ?_;rw[Nat.max_le];constructor
     .refine C6 ?_ (Nat.le_max_right _ _);omega
     .exact Nat.le_max_right _ _
 unfold Builtin.nextslicecap;split
 .omega
 .split
  .omega
  .have:=grow 4 b;refine C6 this ?_;rw[Nat.max_le];omega
section
variable {P:Program} {base:Nat} {ρ:Ren} {m m':Mem} {w:World}
def cJ{w wd:World}(h:wd.heap=w.heap)(a:Addr):wd.cell? a=w.cell? a:=by simp[World.cell?,h]
def xY(ρ:Ren):∀ l:List UInt8,LR ρ (Q0 l) (Q0 l)
 | []=>.nil
 | b::r=>.cons (.pure rfl) (xY ρ r)
def vY{s k:Nat}(h:HR P base ρ m.H w)(f:fF m s y=some (k,new))(B:VR ρ y y') :
  (∀ wd,(Builtin.lenOf y').run P wd=.ok k wd)/\∃ new',LR ρ new new'/\∀ wd:World,wd.heap=w.heap->(Builtin.firstCells s k y').run P wd=.ok ⟨new'⟩ wd:=by
 unfold fF at f;split at f
 .rename_i n c;obtain⟨h1,q⟩:=A3 f;have h1:=A0 h1;subst h1;cases q;cases Q3 B;exact⟨fun _=>rfl,[],.nil,fun _ _=>rfl⟩
 .rename_i a n c;split at f
  .rename_i cs hr;cases f;rcases P8 B with⟨l,A,_,_,rfl⟩|⟨l,c',A,_,_,_,_,rfl⟩|⟨a',c',_,rfl,_,rfl⟩
   .obtain⟨C,h1,q,h3⟩:=i6 h hr A;exact⟨fun _=>rfl,C,h1,fun wd hw=>K8 q fun j v D=>by rw[cJ hw];exact h3 j v D⟩
   .obtain⟨C,h1,q,h3⟩:=i6 h hr A;exact⟨fun _=>rfl,C,h1,fun wd hw=>K8 q fun j v D=>by rw[cJ hw];exact h3 j v D⟩
   .have:new=[]:=by
     unfold y9 at hr;split at hr
     .have:=(jX hr).2;simp at this;exact this
     .cases hr
    subst this;refine⟨fun _=>rfl,[],.nil,fun wd _=>?_⟩;simp[Builtin.firstCells,loadCells,loadCellsFrom]
  .cases f
 .rename_i b;obtain⟨_,f⟩:=A3 f;cases f;cases V2 B;refine⟨fun _=>rfl,Q0 b.data.toList,?_,fun wd _=>?_⟩
  .exact xY _ _
  .have e:((b.extract 0 b.size).data.map fun b=>Value.int .u8 b.toNat)=⟨Q0 b.data.toList⟩:=by
    apply J5;simp[Q0]
   show(pure ((b.extract 0 b.size).data.map fun b=>Value.int .u8 b.toNat):Sem X4).run P wd=_;rw[e];rfl
 .cases f
def A9H(h:dR d=true):(∃ e,d=.slice e)∨d=.string:=by cases d<;>first|cases h;done|exact .inl ⟨_,rfl⟩|exact .inr rfl
def iL{n k c:Nat}{a:Option Addr}(hu:P.underlying t=some (.slice e))(B:P.underlying t2=some d2)(E:dR d2=true)
  (hi:P.info? e=some inf) (I:∀ w,(zeroValue e).run P w=.ok z w) (hlen:∀ wd,(Builtin.lenOf x').run P wd=.ok k wd)
  (hold:∀ wd:World,wd.heap=w.heap->(Builtin.firstCells inf.size n (.slice a n c)).run P wd=.ok ⟨old'⟩ wd) (h:∀ wd:World,wd.heap=w.heap->(Builtin.firstCells inf.size k x').run P wd=.ok ⟨new'⟩ wd)
  (F:¬ n+k<=c) (K:(3*(n+k)+4000)*inf.bytes<=281474976710656) (hm:n+k<=1000000000) :
  ∃ nc,n+k<=nc/\(Builtin.append_ #[t,t2] ty #[.slice a n c,x']).run P w=.ok (.slice (some ⟨w.heap.size,0,none⟩) (n+k) nc) { w.drew with heap:=w.heap.push (.cells (⟨old'⟩++⟨new'⟩++Builtin.zeroCells z.cells (nc-(n+k))) e (0,0)) }:=by
 have H:H6 P e=some inf.size:=by simp[H6,hi]
 have f:Builtin.nextslicecap (n+k) c*inf.bytes<=281474976710656:=by
  have:=F9 inf.bytes (QD (n+k) c A2);omega
 let q:Question:=.appendCap (n+k) c e
 let nc:=q.cut (w.tape w.drawn q)
 have C:n+k<=nc:=by show n+k<=(n+k)+_;omega
 refine⟨nc,C,?_⟩;have D:(choose q).run P w=.ok nc w.drew:=by
  simp only[choose,Sem.run];rw[A6 (by simp[q,Question.forced])];rfl
 have A:∀ k w,(askRoom k).run P w=.ok () w:=fun k w=>by unfold askRoom;split<;>rfl
 unfold Builtin.append_;rcases A9H E with⟨J,rfl⟩|rfl
 all_goals simp only[J2,R6,R7,A4,D2 hu,D2 B,Result.andThen,L5 H,Sem.run_pure,K1,if_false,hlen]
 all_goals
  have j:¬ (((n+k:Nat):Int)>IntKind.i64.max):=by simp[IntKind.max,IntKind.bits,IntKind.signed];omega
  simp only[A6 F,j,false_and,if_false,A4,Result.andThen,V8 hi];rw[A6 (show ¬ (Builtin.nextslicecap (n+k) c*inf.bytes>2 ^ 48) by simpa using f)];have G:w.drew.heap=w.heap:=rfl;simp only[A4,Sem.run_pure,Result.andThen,show(choose (.appendCap (n+k) c e)).run P w=.ok nc w.drew from D,A,hold _ G,h _ G,I,V8 hi,Bool.not_false,if_true];rfl
def nQ{n k c:Nat}{w':World}(hu:P.underlying t=some (.slice e))(j:P.underlying t2=some d2)(h:dR d2=true)
  (hi:P.info? e=some inf) (hlen:∀ wd,(Builtin.lenOf x').run P wd=.ok k wd) (f:(Builtin.firstCells inf.size k x').run P w=.ok ⟨new'⟩ w)
  (hle:n+k<=c) (q:(storeCells (a.add (n*inf.size)) new').run P w=.ok () w') :
  (Builtin.append_ #[t,t2] ty #[.slice (some a) n c,x']).run P w=.ok (.slice (some a) (n+k) c) w':=by
 have A:H6 P e=some inf.size:=by simp[H6,hi]
 unfold Builtin.append_;rcases A9H h with⟨B,rfl⟩|rfl
 all_goals simp only[J2,R6,R7,A4,D2 hu,D2 j,Result.andThen,L5 A,Sem.run_pure,K1,if_false,hlen]
 all_goals simp[A8 hle,A4,f,Result.andThen,q]
def vL(hu:P.underlying t=some (.slice e))(j:P.underlying t2=some d2)(n:dR d2=true)
  (hi:P.info? e=some inf) (hlen:∀ wd,(Builtin.lenOf x').run P wd=.ok 0 wd) (f:(Builtin.firstCells inf.size 0 x').run P w=.ok #[] w) :
  (Builtin.append_ #[t,t2] ty #[.slice none 0 0,x']).run P w=.ok (.slice none 0 0) w:=by
 have q:H6 P e=some inf.size:=by simp[H6,hi]
 unfold Builtin.append_;rcases A9H n with⟨h,rfl⟩|rfl
 all_goals simp only[J2,R6,R7,A4,D2 hu,D2 j,Result.andThen,L5 q,Sem.run_pure,K1,if_false,hlen]
 all_goals simp[A4,f,Result.andThen]
def St.kill{ab:AB}{id:Nat}(h:HR P base ρ m.H w)(hle:id<=I4)(I:Hp.get m.H id=some ab)(B:ab.rw=true):St P base ρ ρ m (kS m id) w w:=by
 rw[n9];refine⟨fun _ _ h=>h,fun b k h1 A=>(by rw[h1]at A;cases A),A7 _,A7 _,fun h=>h,h.sub fun n f a j=>?_,fun b E=>C4 _ E,fun b h1 A k C=>?_,fun k C G=>rfl,A7 _,⟨rfl,rfl,rfl⟩,fun b k h1 A=>(by rw[h1]at A;cases A),fun n f J K=>?_,fun k ⟨n,a,q,f,j,D,F⟩=>.inr ⟨n,a,q,f,?_,D,F⟩⟩
 .rw[F2 _ _ _ _ hle f]at j;by_cases e:n=id
  .rw[A8 e]at j;cases j
  .rw[A6 e]at j;exact j
 .rcases B3.1 h1 with rfl|h1
  .exact⟨ab,I,B⟩
  .exact absurd h1 A
 .rw[F2 _ _ _ _ hle f,A6];intro e;subst e;exact J B4
 .have j:Hp.get (m.H.set id none) n=some a:=j;rw[F2 _ _ _ _ hle f]at j;by_cases e:n=id
  .rw[A8 e]at j;cases j
  .rw[A6 e]at j;exact j
def St.grow{ab:AB}{id:Nat}{w':World}(h:HR P base ρ m.H w)(hle:id<=I4)(hg:Hp.get m.H id=some ab)(E:ab.rw=true)(Q:ρ id=some l)(F:l.on=true)
  (hn:d9 (kS m id) ab' k=some (v,m')) (hf:K7 ρ m.n m'.hi)
  (ho:w'.os=w.os/\w'.tape=w.tape/\w'.output=w.output) (Z:w'.heap.size=w.heap.size) (X:∀ k,k≠l.blk->w'.heap[k]? = w.heap[k]?) (hb:BR P (upd ρ m.n l) ab' l w') (az:ab'≠.frz:=by intro h;cases h) :
  v=k m.n/\St P base ρ (upd ρ m.n l) m m' w w':=by
 rw[n9]at hn;obtain⟨S,hv,rfl⟩:=M3 hn;have B:ρ m.n=none:=hf m.n (A7 _) (L7 _ _).2;have C:=X9 (l:=l) B;obtain⟨O,h3⟩:=h.atl Q hg;have T:∀ k,Tc ab' l k->k=l.blk:=fun k X=>by
  rcases X with⟨_,_,rfl⟩|⟨rfl,_⟩
  .rfl
  .exact absurd rfl az
 have aw:id≠m.n:=fun e=>by subst e;rw[Q]at B;cases B
 have A:∀ i,i<=I4->Hp.get ((m.H.set id none).set m.n (some ab')) i=if i=m.n then some ab' else if i=id then none else Hp.get m.H i:=fun i hi=>by
  rw[F2 _ _ _ _ S hi,F2 _ _ _ _ hle hi]
 refine⟨hv,C,fun b q h1 O=>?_,V4 _,(L7 _ _).1,fun _=>Z8 (L7 _ _).2,⟨fun b q D=>?_,fun i hi a f=>?_⟩,fun b hb=>C4 _ hb,fun b h1 O q D=>?_,fun q D ay=>X q ?_,by rw[Z];exact A7 _,ho,fun b q h1 O _=>?_,fun i hi h4 W=>?_,fun k ⟨i,a,q,hi,f,D,ht⟩=>.inr ?_⟩
 .obtain⟨rfl,rfl⟩:=V0 h1 O;exact⟨A7 _,J7 _⟩
 .cases h0:ρ b with
  | some q0 =>
    rw[C b q0 h0]at D
    have:=A9 D;subst this;exact h.dom b q0 h0
  | none=>obtain⟨rfl,rfl⟩:=V0 D h0;exact S
 .have f:Hp.get ((m.H.set id none).set m.n (some ab')) i=some a:=f;rw[A i hi]at f;have U:∀ j,j<=I4->∀ J l2,Hp.get ((m.H.set id none).set m.n (some ab')) j=some J->upd ρ m.n l j=some l2->Tc J l2 l.blk->j=m.n:=fun j K J l2 g1 g2 g3=>by
   rw[A j K]at g1;by_cases Y:j=m.n
   .exact Y
   .rw[A6 Y]at g1;unfold upd at g2;rw[A6 Y]at g2;by_cases I:j=id
    .rw[A8 I]at g1;cases g1
    .rw[A6 I]at g1;exact absurd ((h3 E F).2 j K J l2 g1 g2 g3) I
  by_cases e:i=m.n
  .rw[A8 e]at f;have f:=A9 f;subst f;subst e;exact⟨l,M5 _ _ _,hb,fun _ _=>⟨(h3 E F).1,U⟩⟩
  .rw[A6 e]at f;by_cases I:i=id
   .rw[A8 I]at f;cases f
   .rw[A6 I]at f;obtain⟨l2,g1,g2,g3⟩:=h.at_ i hi a f;have V:∀ k,Tc a l2 k->k≠l.blk:=fun k M hh=>I ((h3 E F).2 i hi a l2 f g1 (hh▸M))
    refine⟨l2,C _ _ g1,g2.mono C (fun k M=>X _ (V k M)),fun hr N=>⟨(g3 hr N).1,fun G L R l3 f1 f2 f3=>?_⟩⟩;have f1:Hp.get ((m.H.set id none).set m.n (some ab')) G=some R:=f1;rw[A G L]at f1;by_cases e4:G=m.n
    .subst e4;rw[M5]at f2
     have:=A9 f2;subst this;rw[A8 rfl]at f1;have f1:=A9 f1;subst f1;exact absurd (T _ f3) (V _ (.inl ⟨AB.rw_on hr,N,rfl⟩))
    .rw[A6 e4]at f1;unfold upd at f2;rw[A6 e4]at f2;by_cases e5:G=id
     .rw[A8 e5]at f1;cases f1
     .rw[A6 e5]at f1;exact(g3 hr N).2 G L R l3 f1 f2 f3
 .rcases B3.1 h1 with rfl|h1
  .exact⟨ab,hg,E⟩
  .exact absurd h1 O
 .exact fun e=>ay id B4 l Q F e.symm
 .obtain⟨rfl,rfl⟩:=V0 h1 O;exact .inr ⟨id,B4,q,Q,F,rfl⟩
 .have ax:=A i hi;show Hp.get ((m.H.set id none).set m.n (some ab')) i=_;rw[ax,A6,A6]
  .intro e;subst e;exact h4 B4
  .intro e;subst e;rcases W with W|W
   .omega
   .have W:upN m.hi m.n<=m.n:=W
    have:=(L7 m.hi m.n).2;omega
 .have f:Hp.get ((m.H.set id none).set m.n (some ab')) i=some a:=f;rw[A i hi]at f;by_cases e:i=m.n
  .rw[A8 e]at f;have f:=A9 f;subst f;subst e;rw[M5]at D;have D:=A9 D;subst D;exact⟨id,ab,l,hle,hg,Q,AB.rw_fr E,.inl ⟨AB.rw_on E,F,(T k ht.2).symm⟩⟩
  .rw[A6 e]at f;unfold upd at D;rw[A6 e]at D;by_cases I:i=id
   .rw[A8 I]at f;cases f
   .rw[A6 I]at f;exact⟨i,a,q,hi,f,D,ht⟩
def GW{s k:Nat}(h:HR P base ρ m.H w)(f:fF m s y=some (k,new))(n:z.cells.size=s):new.length=k*s:=by
 unfold fF at f;split at f
 .obtain⟨_,q⟩:=A3 f;cases q;simp
 .split at f
  .rename_i cs hr;cases f;unfold y9 at hr;split at hr
   .exact(jX hr).2
   .cases hr
  .cases f
 .rename_i b;obtain⟨j,f⟩:=A3 f;have j:=A0 j;subst j;cases f;simp[Q0]
 .cases f
def MP(h:new'[i]? = some u):(({ toList:=[] }:Array Value)++⟨new'⟩++r)[i]? = some u:=by
 have f:=(B1.1 h).1;rw[T8 (by simp;exact f)]
 simpa using h
def eS(h:(old'++new')[i]? = some u):(({ toList:=old' }:Array Value)++⟨new'⟩++r)[i]? = some u:=by
 have f:=(B1.1 h).1;rw[T8 (by simpa using f)]
 simpa using h
def eR{s k n nc:Nat}(h1:new'.length=k*s)(j:n+k<=nc)(q:z.cells.size=s)(f:old'.length=n*s) :
  nc*s<=(({ toList:=old' }:Array Value)++⟨new'⟩++Builtin.zeroCells z.cells (nc-(n+k))).size:=by
 simp[Builtin.zeroCells,f,h1,q];rw[<- I3,<- I3];exact F9 _ A2
def RM(h:HR P base ρ m.H w)(hb:base<=w.heap.size)(f:tP P m t t2 x y=some (v,m'))(hf:K7 ρ m.n m'.hi)(hx:VR ρ x x')(hy:VR ρ y y') :
  VOk P base ρ m w (Builtin.append_ #[t,t2] ty #[x',y']) v m':=by
 unfold tP at f;split at f
 .rename_i e d2 hu F;cases D:dR d2 with
  | false=>rw[D]at f;cases f
  | true =>
  rw[D]at f;simp only[Q9,E0]at f;split at f
  .rename_i inf a n c hi;split at f
   .rename_i k new z V hz;obtain⟨g1,f⟩:=A3 f;obtain⟨g1,g4⟩:=B8 g1;obtain⟨g1,g3⟩:=B8 g1;obtain⟨g1,g2⟩:=B8 g1;have g1:=A1 g1;have g2:=A1 g2;have g3:=A0 g3;obtain⟨hlen,new',G,J⟩:=vY h V hy;have Y:∀ w,(zeroValue e).run P w=.ok z w:=fun w=>aZ hz w
    have O:new'.length=k*inf.size:=by rw[<- G.1];exact GW h V g3
    have al:N4=9223372036854775808:=rfl;cases hk:Nat.beq k 0 with
    | true =>
      have hk:=A0 hk;subst hk;have an:Nat.beq 0 0=true:=rfl;simp only[an,E6]at f;have ar:new'=[]:=G2.1 (by rw[O];simp);subst ar;cases a with
      | none =>
        simp only at f;obtain⟨E,f⟩:=A3 f;obtain⟨E,I⟩:=B8 E;have E:=A0 E;have I:=A0 I;subst E;subst I;cases f;cases Q3 hx;exact VOk.same h (vL hu F D hi hlen (J w rfl)) (.pure rfl)
      | some S =>
        simp only at f;obtain⟨E,f⟩:=A3 f;obtain⟨E,I⟩:=B8 E;have E:=A1 E;have I:=A1 I;cases f;rcases P8 hx with⟨l,U,Q,hc,rfl⟩|⟨l,c',U,Q,hc,hn,A,rfl⟩|⟨a',c',_,_,he,_⟩
        .exact VOk.same h (nQ hu F D hi hlen (J w rfl) A2 rfl) (by simpa using hx)
        .exact VOk.same h (nQ hu F D hi hlen (J w rfl) A2 rfl) (by simpa using hx)
        .omega
    | false =>
      have af:k≠0:=fun e=>by subst e;cases hk
      simp only[hk,E0]at f;cases a with
      | none =>
        simp only at f;obtain⟨E,f⟩:=A3 f;obtain⟨E,I⟩:=B8 E;have E:=A0 E;have I:=A0 I;subst E;subst I;rw[I8]at f;cases Q3 hx;obtain⟨nc,N,hr⟩:=iL (ty:=ty) (c:=0) (a:=none) (old':=[]) hu F D hi Y hlen (fun _ _=>rfl) J A2 g1 g2;have av:∀ B,P.info? e=some B->nc*B.size<=(({ toList:=[] }:Array Value)++⟨new'⟩++Builtin.zeroCells z.cells (nc-(0+k))).size:=fun B M=>by
         rw[hi]at M;cases M;exact eR O N g3 (by simp)
        obtain⟨Z,e2,X⟩:=eQ (wd:=w.drew) (fz:=(0,0)) (cap:=nc) h hb f hf G (fun i u hi=>by
         show(({ toList:=[] }:Array Value)++⟨new'⟩++Builtin.zeroCells z.cells (nc-(0+k)))[i]? = some u;exact MP hi) NF.zero av ⟨rfl,rfl,rfl⟩ rfl
        refine⟨_,_,_,hr,?_,X⟩;rw[Z,F7]
        have:=VR.op (ρ:=upd ρ m.n (lc w.heap.size 0 nc)) (b:=m.n) (o:=0) (n:=k) (m:=N4) (m':=nc) e2 (A7 _) A2 (fun _ _=>rfl)
        simpa using this
      | some S =>
        simp only at f;cases W:Nat.blt c N4 with
        | true =>
          have ak:c<N4:=A1 W;simp only[W,E6]at f;rcases P8 hx with⟨l,U,Q,hc,rfl⟩|⟨l,c',U,Q,hc,hn,A,rfl⟩|⟨a',c',_,_,he,_⟩
          .cases q:Nat.ble (n+k) c with
           | true =>
             have K:=A1 q;simp only[q,E6]at f;split at f
             .rename_i m2 hw;cases f;rw[eK]at hw;obtain⟨w',h1,M⟩:=qH h hw U G;refine⟨_,ρ,w',nQ hu F D hi hlen (J w rfl) K ?_,?_,M⟩
              .rw[Y9,show S.off+l.sh+n*inf.size=S.off+n*inf.size+l.sh by omega];exact h1
              .obtain⟨ab,ao,ah⟩:=S;simp only at Q;subst Q;exact .sl U hc
             .cases f
           | false =>
             have K:¬ n+k<=c:=fun hle=>by rw[show Nat.ble (n+k) c=true from C7 hle]at q;cases q
             simp only[q,E0]at f;split at f
             .rename_i old hold;rw[I8]at f;obtain⟨old',o1,o2,o3⟩:=i6 h hold U;have L:∀ wd:World,wd.heap=w.heap->(Builtin.firstCells inf.size n (.slice (some ⟨l.blk,S.off+l.sh,none⟩) n c)).run P wd=.ok ⟨old'⟩ wd:=fun wd hw=>K8 o2 fun j u hj=>by rw[cJ hw];exact o3 j u hj
              obtain⟨nc,N,hr⟩:=iL (ty:=ty) hu F D hi Y hlen L J K g1 g2;obtain⟨Z,e2,X⟩:=eQ (wd:=w.drew) (fz:=(0,0)) (cap:=nc) (C:=⟨old'⟩++⟨new'⟩++Builtin.zeroCells z.cells (nc-(n+k))) h hb f hf (o1.append G) (fun i u hi=>eS hi) NF.zero
               (fun B M=>by rw[hi]at M;cases M;exact eR O N g3 o2) ⟨rfl,rfl,rfl⟩ rfl
              refine⟨_,_,_,hr,?_,X⟩;rw[Z]
              have:=VR.op (ρ:=upd ρ m.n (lc w.heap.size 0 nc)) (b:=m.n) (o:=0) (n:=n+k) (m:=N4) (m':=nc) e2 (A7 _) N (fun _ _=>rfl)
              simpa using this
             .cases f
          .omega
          .omega
        | false =>
          simp only[W,E0]at f;obtain⟨q0,ay⟩:=A3 f;clear f;have f:=ay;clear ay;obtain⟨E,I⟩:=B8 q0;replace E:=A0 E;replace I:=A0 I;clear q0;split at f
          .rename_i cs T Q hg;obtain⟨p1,f⟩:=A3 f;rw[G9,G9,G9]at p1;obtain⟨⟨⟨p1,p2⟩,p3⟩,p4⟩:=p1;have p1:=A0 p1;have p2:=A0 p2;have p3:=A1 p3;have p4:S.block<m.n:=A1 p4;subst p2;rw[I8]at f;rcases P8 hx with⟨_,_,_,hc,_⟩|⟨l,c',U,_,_,hn,A,rfl⟩|⟨a',c',_,_,he,_⟩
           .omega
           .have A:=A E I;obtain⟨⟨ax,C,fz,T',z2,z3,z4⟩,z5⟩:=h.atl U hg;obtain⟨rfl,z6,z7⟩:=z4 rfl;have z8:=(z7 inf hi).2;have z7:=(z7 inf hi).1;by_cases q:n+k<=c'
            ·
             have az:(n+k)*inf.size<=c'*inf.size:=F9 _ q;rw[I3]at az;obtain⟨w',r1,r2,r3,r4,r5⟩:=d7 (P:=P) (b:=l.blk) (o:=n*inf.size+l.sh) (fz:=fz) new' 0 C w z2 (HW G g4) (by rw[O];subst A;omega) z6;obtain⟨Z,X⟩:=St.grow (w':=w') (l:=l) h p3 hg rfl U ax f hf r2 r3 r5 (by
              have R:ρ m.n=none:=by
               rw[n9]at f;obtain⟨_,_,rfl⟩:=M3 f;exact hf m.n (A7 _) (L7 _ _).2
              refine⟨ax,_,fz,_,r4,fun i u hi=>?_,fun _=>⟨rfl,z6.sz (by simp[d8]),fun B M=>⟨by simpa [d8]using(by rw[hi]at M;cases M;exact z7:l.sh+l.cap*B.size<=C.size),by rw[hi]at M;cases M;exact z8⟩⟩⟩;show ∃ u',(Array.mk (dA C.toList (n*inf.size+l.sh+0) new'))[l.sh+i]? = some u'/\_;have ag:C.toList.length=C.size:=by simp
              rw[J2,lW _ _ _ _ (by rw[O];subst A;omega)];by_cases aq:i<cs.length
              .rw[F4 aq]at hi;rw[A6 A2];obtain⟨u',y1,y2⟩:=z3 i u hi;exact⟨u',by simpa using y1,y2.mono (X9 R)⟩
              .rw[E4 A2]at hi;have ai:=(B1.1 hi).1;have aj:=G.1;rw[A8 A2];obtain⟨u',y1,y2⟩:=G.get hi;exact⟨u',by rw[show l.sh+i-(n*inf.size+l.sh+0)=i-cs.length by omega];exact y1,y2.mono (X9 R)⟩)
             refine⟨_,_,w',nQ (ty:=ty) hu F D hi hlen (J w rfl) q ?_,?_,X⟩
             .rw[Y9,I,show 0+l.sh+n*inf.size=n*inf.size+l.sh by omega];exact r1
             .rw[Z,I];exact .op (M5 _ _ _) (A7 _) q (fun _ _=>A)
            ·
             have aw:=St.kill h p3 hg rfl;have au:K7 ρ (kS m S.block).n m'.hi:=by rw[n9];exact hf
             obtain⟨old',o1,o2⟩:=eP (ρ:=ρ) (C:=C) (cs:=cs) (s:=l.sh) z3;have oL:old'.length=n*inf.size:=by rw[<- o1.1];exact p1
             have L:∀ wd:World,wd.heap=w.heap->(Builtin.firstCells inf.size n (.slice (some ⟨l.blk,S.off+l.sh,none⟩) n c')).run P wd=.ok ⟨old'⟩ wd:=fun wd hw=>K8 oL fun j u hj=>by
              rw[cJ hw,I]
              have:=o2 j u hj;simp[World.cell?,z2,this]
             obtain⟨nc,N,hr⟩:=iL (ty:=ty) hu F D hi Y hlen L J q g1 g2;obtain⟨Z,e2,X⟩:=eQ (wd:=w.drew) (fz:=(0,0)) (cap:=nc) (C:=⟨old'⟩++⟨new'⟩++Builtin.zeroCells z.cells (nc-(n+k))) aw.hr hb f au (o1.append G) (fun i u hi=>eS hi) NF.zero
              (fun B M=>by rw[hi]at M;cases M;exact eR O N g3 oL) ⟨rfl,rfl,rfl⟩ rfl
             refine⟨_,_,_,hr,?_,St.trans hf aw X⟩;rw[Z]
             have:=VR.op (ρ:=upd ρ (kS m S.block).n (lc w.heap.size 0 nc)) (b:=(kS m S.block).n) (o:=0) (n:=n+k) (m:=N4) (m':=nc) e2 (A7 _) N (fun _ _=>rfl)
             simpa using this
           .omega
          .cases f
   .cases f
  .cases f
 .cases f
end
end
section
open Go
variable [Ora]
section
variable {P:Program} {base:Nat} {ρ:Ren} {m m':Mem} {w:World}
def OM{op:UnOp}(h:unM op x=some v)(hx:VR ρ x x')(w:World):(Op.unary op x').run P w=.ok v w/\J0 v=true:=by
 unfold unM at h;split at h
 .cases J9 hx;cases h;exact⟨by simp[Op.unary,Op.intArith,bD],by simp[bD,J0]⟩
 .cases J9 hx;obtain⟨h1,f⟩:=bK (P:=P) h w;exact⟨by simpa [Op.unary]using h1,f⟩
 .cases dD hx;cases h;exact⟨rfl,rfl⟩
 .cases h
def A5o(f:B0e P t x=some v)(hx:VR ρ x x')(w:World):(Builtin.cap_ ⟨t::tys⟩ ty #[x']).run P w=.ok v w/\J0 v=true:=by
 unfold B0e at f;split at f
 .rename_i hu;cases Q3 hx;cases f;exact⟨by simp[Builtin.cap_,A4,D2 hu,Result.andThen,goInt],rfl⟩
 .rename_i hu;obtain⟨j,f⟩:=A3 f;have j:_<N4:=A1 j;cases f;rcases P8 hx with⟨l,_,_,_,rfl⟩|⟨l,c',_,_,_,_,_,rfl⟩|⟨a',c',_,_,he,_⟩
  .exact⟨by simp[Builtin.cap_,A4,D2 hu,Result.andThen,goInt],rfl⟩
  .omega
  .omega
 .cases f
def UA(h:HR P base ρ m.H w)(f:A11 P m t x=some v)(hx:VR ρ x x'):(Builtin.len_ ⟨t::tys⟩ ty #[x']).run P w=.ok v w/\J0 v=true:=by
 unfold A11 at f;split at f
 .rename_i hu;cases V2 hx;cases f;refine⟨?_,rfl⟩;simp[Builtin.len_,A4,D2 hu,Result.andThen,goInt]
 .rename_i hu;cases f;refine⟨?_,rfl⟩;simp[Builtin.len_,A4,D2 hu,Result.andThen,goInt]
 .rename_i n c hu;cases f;refine⟨?_,rfl⟩;have j:∃ a' c',x'=.slice a' n c':=by
   cases hx with
   | pure _=>exact⟨_,_,rfl⟩
   | sl _ _=>exact⟨_,_,rfl⟩
   | op _ _ _ _=>exact⟨_,_,rfl⟩
   | opE _=>exact⟨_,_,rfl⟩
  obtain⟨a',c',rfl⟩:=j;simp[Builtin.len_,A4,D2 hu,Result.andThen,goInt]
 .rename_i hu;cases hx with|pure _=>?_
  cases f;refine⟨?_,rfl⟩;simp[Builtin.len_,A4,D2 hu,Result.andThen,goInt]
 .cases f
def TT{tys:Array TypeId}(f:A9q vs=some v)(hx:LR ρ vs vs')(w:World):(Builtin.max_ tys ty ⟨vs'⟩).run P w=.ok v w/\J0 v=true:=by
 unfold A9q at f;split at f
 .obtain⟨a',r1,rfl,h1,j⟩:=hx.tail;obtain⟨b',q,rfl,h3,n⟩:=j.tail;cases n.nil_inv;cases J9 h1;cases J9 h3;cases f;exact⟨by simp[Builtin.max_,Builtin.max2],rfl⟩
 .obtain⟨a',r1,rfl,h1,j⟩:=hx.tail;obtain⟨b',q,rfl,h3,n⟩:=j.tail;obtain⟨c',B,rfl,A,h⟩:=n.tail;cases h.nil_inv;rw[uR]at f;cases J9 h1;cases J9 h3;cases J9 A;cases f;exact⟨by simp[Builtin.max_,Builtin.max2],rfl⟩
 .cases f
def TR{tys:Array TypeId}(f:A9p vs=some v)(hx:LR ρ vs vs')(w:World):(Builtin.min_ tys ty ⟨vs'⟩).run P w=.ok v w/\J0 v=true:=by
 unfold A9p at f;split at f
 .obtain⟨a',r1,rfl,h1,j⟩:=hx.tail;obtain⟨b',q,rfl,h3,n⟩:=j.tail;cases n.nil_inv;cases J9 h1;cases J9 h3;cases f;exact⟨by simp[Builtin.min_,Builtin.min2],rfl⟩
 .obtain⟨a',r1,rfl,h1,j⟩:=hx.tail;obtain⟨b',q,rfl,h3,n⟩:=j.tail;obtain⟨c',B,rfl,A,h⟩:=n.tail;cases h.nil_inv;rw[uR]at f;cases J9 h1;cases J9 h3;cases J9 A;cases f;exact⟨by simp[Builtin.min_,Builtin.min2],rfl⟩
 .cases f
def CK{tys:Array TypeId}(h:HR P base ρ m.H w)(q:jG m x=some (v,m'))(hx:VR ρ x x'):VOk P base ρ m w (Builtin.unsafeSliceData_ tys ty #[x']) v m':=by
 unfold jG at q;split at q
 .cases q;cases Q3 hx;exact VOk.same h rfl (.pure rfl)
 .rename_i a n c;cases A:Nat.beq n 0 || Nat.beq c 0 || Nat.beq c (N4+2)with
  | true=>rw[A]at q;cases q
  | false =>
    rw[A]at q;simp only[E0,D6,L9]at q;obtain⟨rfl,rfl⟩:=q;simp only[g7]at A;obtain⟨⟨F,C⟩,J⟩:=A;have F:n≠0:=fun e=>by subst e;cases F
    have C:c≠0:=fun e=>by subst e;cases C
    rcases P8 hx with⟨l,B,f,I,rfl⟩|⟨l,c',B,f,I,K,E,rfl⟩|⟨a',c',_,he,_,_⟩
    .refine VOk.same (v':=.pointer (some ⟨l.blk,a.off+l.sh,none⟩)) h ?_ ?_
     .have j:Builtin.unsafeSliceData_ tys ty #[.slice (some ⟨l.blk,a.off+l.sh,none⟩) n c]=(do
        if c≠0 then pure (.pointer (some ⟨l.blk,a.off+l.sh,none⟩))
        else if(<- viewAt l.blk).isSome then pure (.pointer (some ⟨l.blk,a.off+l.sh,none⟩))
        else pure (.pointer (some ⟨<- newObj (.view ⟨l.blk,a.off+l.sh,none⟩ (<- elemOf ty)),0,none⟩))):=rfl
      rw[j,A8 C];rfl
     .obtain⟨ab,G,D⟩:=a;simp only at f;subst f;exact .ptr B
    .refine VOk.same (v':=.pointer (some ⟨l.blk,a.off+l.sh,none⟩)) h ?_ ?_
     .have:c'≠0:=A2;have j:Builtin.unsafeSliceData_ tys ty #[.slice (some ⟨l.blk,a.off+l.sh,none⟩) n c']=(do
        if c'≠0 then pure (.pointer (some ⟨l.blk,a.off+l.sh,none⟩))
        else if(<- viewAt l.blk).isSome then pure (.pointer (some ⟨l.blk,a.off+l.sh,none⟩))
        else pure (.pointer (some ⟨<- newObj (.view ⟨l.blk,a.off+l.sh,none⟩ (<- elemOf ty)),0,none⟩))):=rfl
      rw[j,A8 this];rfl
     .obtain⟨ab,G,D⟩:=a;simp only at f;subst f;exact .ptr B
    .omega
 .cases q
def XF(h:HR P base ρ m.H w)(f:GU P m t x=some (v,m'))(hx:VR ρ x x'):VOk P base ρ m w (Instr.makeInterface t x') v m':=by
 unfold GU at f;split at f
 .rename_i d q;have n:(∀ ms,d≠.interface ms)->(Instr.makeInterface t x').run P w=.ok (.iface t x') w:=fun j=>by
   simp only[Instr.makeInterface,A4,D2 q,Result.andThen];cases d<;>first|rfl|exact absurd rfl (j _)
  split at f
  .cases f
  .rename_i j;obtain⟨_,f⟩:=A3 f;cases f;exact VOk.same h (n fun ms e=>j ms e) (.iface hx)
 .cases f
def A4r(j:A1a m x=some (v,m'))(hx:VR ρ x x'):m'=m/\VR ρ v x'/\((∃ a,x'=.pointer (some a))∨∃ f a b,x'=.func (.func f) a b):=by
 unfold A1a at j;split at j
 .cases j;obtain⟨l,_,_,rfl⟩:=P3 hx;exact⟨rfl,hx,.inl ⟨_,rfl⟩⟩
 .cases j;cases hx with
  | pure hp=>simp[J0]at hp
  | func _ _ _ _=>exact⟨rfl,by constructor<;>assumption,.inr ⟨_,_,_,rfl⟩⟩
 .cases j
def A3R(h:HR P base ρ m.H w)(j:NI P m t x y=some (v,m'))(hx:VR ρ x x')(G:VR ρ y y'):VOk P base ρ m w (Builtin.copy_ ⟨t::tys⟩ ty #[x',y']) v m':=by
 unfold NI at j;split at j
 .rename_i e a n c hu;split at j
  .rename_i s R;split at j
   .rename_i k cs f;have O:∃ a' c',x'=.slice a' n c':=by
     cases hx with
     | pure _=>exact⟨_,_,rfl⟩
     | sl _ _=>exact⟨_,_,rfl⟩
     | op _ _ _ _=>exact⟨_,_,rfl⟩
     | opE _=>exact⟨_,_,rfl⟩
    obtain⟨a',c',rfl⟩:=O;have D:∃ L cs',(Builtin.lenOf y').run P w=.ok L w/\Nat.min L n=k/\LR ρ cs cs'/\(Builtin.firstCells s k y').run P w=.ok ⟨cs'⟩ w:=by
     split at f
     .rename_i N _;obtain⟨q,f⟩:=A3 f;have q:=A0 q;subst q;cases f;cases Q3 G;exact⟨0,[],rfl,by simp,.nil,rfl⟩
     .rename_i b N Z;split at f
      .rename_i r hr;cases f;rcases P8 G with⟨l,B,_,_,rfl⟩|⟨l,c',B,_,_,_,_,rfl⟩|⟨a',c',_,rfl,_,rfl⟩
       .obtain⟨J,h1,C,h3⟩:=i6 h hr B;exact⟨N,J,rfl,rfl,h1,K8 C h3⟩
       .obtain⟨J,h1,C,h3⟩:=i6 h hr B;exact⟨N,J,rfl,rfl,h1,K8 C h3⟩
       .have:cs=[]:=by
         unfold y9 at hr;split at hr
         .have:=(jX hr).2;simp at this;exact this
         .cases hr
        subst this;exact⟨0,[],rfl,rfl,.nil,by simp[Builtin.firstCells,loadCells,loadCellsFrom]⟩
      .cases f
     .rename_i b;cases f;cases V2 G;refine⟨b.size,Q0 (b.data.toList.take (Nat.min b.size n)),rfl,rfl,xY _ _,?_⟩;have e:((b.extract 0 (Nat.min b.size n)).data.map fun b=>Value.int .u8 b.toNat)=⟨Q0 (b.data.toList.take (Nat.min b.size n))⟩:=by
       apply J5;simp[Q0,hY]
      show(pure ((b.extract 0 (Nat.min b.size n)).data.map fun b=>Value.int .u8 b.toNat):Sem X4).run P w=_;rw[e];rfl
     .cases f
    obtain⟨L,cs',r1,V,I,U⟩:=D;have A:(Builtin.copy_ ⟨t::tys⟩ ty #[.slice a' n c',y']).run P w=(match a' with|some a=>(do storeCells a cs';pure (goInt k):Sem Value)|none=>pure (goInt k)).run P w:=by
     unfold Builtin.copy_;simp only[J2,R6,R7,A4,D2 hu,L5 R,r1,V,U,Result.andThen];cases a' with
     | none=>rfl
     | some a=>rfl
    cases a with
    | none =>
      cases Q3 hx;simp only at j;obtain⟨q,j⟩:=A3 j;have q:=A0 q;cases j;exact VOk.same h (by rw[A,q];rfl) (.pure rfl)
    | some Y =>
      simp only at j;cases F:Nat.beq cs.length 0 with
      | true =>
        rw[F]at j;cases j;have F:=A0 F;have:cs'=[]:=G2.1 (by rw[<- I.1];exact F);subst this;refine VOk.same h (v':=.int .i64 k) ?_ (.pure rfl);rw[A];cases a'<;>rfl
      | false =>
        rw[F]at j;simp only[E0]at j;obtain⟨E,j⟩:=A3 j;have E:=A1 E;split at j
        .rename_i m2 hw;cases j;rcases P8 hx with⟨l,B,M,W,he⟩|⟨l,c',B,M,W,T,Q,he⟩|⟨a2,X,_,T,S,he⟩
         .cases he;obtain⟨w',h1,C⟩:=qH h hw B I;exact⟨.int .i64 k,ρ,w',by rw[A];simp[A4,h1,Result.andThen,goInt],.pure rfl,C⟩
         .cases he;obtain⟨w',h1,C⟩:=qH h hw B I;exact⟨.int .i64 k,ρ,w',by rw[A];simp[A4,h1,Result.andThen,goInt],.pure rfl,C⟩
         .have K:N4=9223372036854775808:=rfl;omega
        .cases j
   .cases j
  .cases j
 .cases j
def qB:∀ {cs:D3} {l:List UInt8},bytesOf cs=some l->∃ f:List Int,cs=f.map (Value.int .u8)/\l=f.map fun n=>UInt8.ofNat n.toNat
 | [],l,h=>by simp only[bytesOf,D6]at h;subst h;exact⟨[],rfl,rfl⟩
 | v::r,l,h=>by
   unfold bytesOf at h;split at h
   .rename_i he;cases he
   .rename_i n q he;cases he;split at h
    .rename_i l0 h0;cases h;obtain⟨f,h1,j⟩:=qB h0;exact⟨n::f,by rw[h1];rfl,by rw[j];rfl⟩
    .cases h
   .cases h
def sO:∀ {f:List Int} {cs':D3},LR ρ (f.map (Value.int .u8)) cs'->cs'=f.map (Value.int .u8)
 | [],cs',h=>h.nil_inv
 | n::r,cs',h=>by
   obtain⟨v',q,rfl,h1,j⟩:=h.tail;cases J9 h1;rw[sO j];rfl
def pU:∀ (f:List Int) (acc:List UInt8),(f.foldl (fun r n=>r.push (UInt8.ofNat n.toNat)) (ByteArray.mk ⟨acc⟩))=⟨⟨acc++f.map fun n=>UInt8.ofNat n.toNat⟩⟩
 | [],acc=>by simp
 | n::r,acc=>by
   rw[List.foldl_cons];have:(ByteArray.mk ⟨acc⟩).push (UInt8.ofNat n.toNat)=⟨⟨acc++[UInt8.ofNat n.toNat]⟩⟩:=by
    show ByteArray.mk (Array.push ⟨acc⟩ _)=_;simp
   rw[this,pU r];simp
def A3U(h:HR P base ρ m.H w)(V:base<=w.heap.size)(f:EZ P m s t x=some (v,m'))(Y:K7 ρ m.n m'.hi)(hx:VR ρ x x'):VOk P base ρ m w (convert s t x') v m':=by
 unfold EZ at f;split at f
 .rename_i I k j n A B;cases J9 hx;simp only[D6,L9]at f;obtain⟨rfl,rfl⟩:=f;refine VOk.same (v':=.int k (k.wrap n)) h ?_ (by rw[bD,lJ];exact .pure rfl);cases I<;>simp[convert,A4,D2 A,D2 B,Result.andThen,Conv.intToInt]
 .rename_i I b A B;cases V2 hx;cases f;refine VOk.same h ?_ (.pure rfl);cases I<;>simp[convert,A4,D2 A,D2 B,Result.andThen]
 .rename_i I j n A B;cases J9 hx;cases f;refine VOk.same (v':=.string (Utf8.encode n)) h ?_ (.pure rfl);cases I<;>simp[convert,A4,D2 A,D2 B,Result.andThen,Conv.intToString]
 .rename_i I e b A B;cases V2 hx;split at f
  .rename_i he;split at f
   .rename_i F;rw[I8]at f;let q:Question:=.appendCap b.size 0 e
    let cap:=q.cut (w.tape w.drawn q)
    have K:b.size<=cap:=by show b.size<=b.size+_;omega
    have S:(choose q).run P w=.ok cap w.drew:=by
     simp only[choose,Sem.run];rw[A6 (by simp[q,Question.forced])];rfl
    let C:X4:=(b.data.map fun b=>Value.int .u8 b.toNat)++Array.replicate (cap-b.size) (.int .u8 0)
    have hC:C.size=cap:=by
     have:b.data.size=b.size:=rfl;simp[C,this];omega
    obtain⟨W,N,X⟩:=eQ (wd:=w.drew) (fz:=(C.size,C.size+1)) (cap:=cap) (C:=C) h V f Y (xY ρ b.data.toList) (fun i u hi=>by
      have M:=(B1.1 hi).1;simp[Q0]at M;have O:i<(b.data.map fun b=>Value.int .u8 b.toNat).size:=by simpa using M
      show((b.data.map fun b=>Value.int .u8 b.toNat)++Array.replicate (cap-b.size) (.int .u8 0))[i]? = some u;rw[T8 O]
      simpa [Q0]using hi) NF.end
     (fun inf J=>by
       have:inf.size=1:=by unfold H6 at F;rw[J]at F;exact A9 F
       rw[this,hC];omega) ⟨rfl,rfl,rfl⟩ rfl
    refine⟨.slice (some ⟨w.heap.size,0,none⟩) b.size cap,_,_,?_,?_,X⟩
    .have Q:∀ w2:World,w2.heap[w.heap.size]? = some (.cells C e (0,0))->(markStringish ⟨w.heap.size,0,none⟩).run P w2=.ok () (w2.freeze { block:=w.heap.size,off:=C.size } 1):=fun w2 J=>by
      simp[markStringish,shape,freeze,Sem.run,World.shape?,J]
     have T:({ w.drew with heap:=w.heap.push (.cells C e (0,0)) }:World).freeze { block:=w.heap.size,off:=C.size } 1={ w.drew with heap:=w.heap.push (.cells C e (C.size,C.size+1)) }:=by
      unfold World.freeze;rw[A6 E3];congr 1;apply Array.ext_getElem?;intro i;rw[H4];by_cases hi:w.heap.size=i
      .subst hi;simp
      .rw[A6 hi];simp only[m7];rw[A6 (fun h=>hi h.symm),A6 (fun h=>hi h.symm)]
     have G:(convert s t (.string b)).run P w=(Conv.stringToBytes e b).run P w:=by
      cases I<;>simp[convert,A4,D2 A,D2 B,D2 he,Result.andThen]
     rw[G];unfold Conv.stringToBytes;simp only[A4,show(choose (.appendCap b.size 0 e)).run P w=.ok cap w.drew from S,Result.andThen];have R:(newRow e C).run P w.drew=.ok ⟨w.heap.size,0,none⟩ { w.drew with heap:=w.heap.push (.cells C e (0,0)) }:=rfl;rw[show(newRow e ((b.data.map fun b=>Value.int .u8 b.toNat)++Array.replicate (cap-b.size) (.int .u8 0))).run P w.drew=_ from R];simp only[Result.andThen];rw[Q _ (by simp),T];rfl
    .rw[W];exact VR.op (o:=0) (m':=cap) N (A7 _) K (fun _ _=>rfl)
   .cases f
  .cases f
 .rename_i e n c A B;cases Q3 hx;split at f
  .rename_i he;cases f;refine VOk.same h (v':=.string ByteArray.empty) ?_ (.pure rfl);simp[convert,A4,D2 A,D2 B,D2 he,Result.andThen,Conv.bytesToString]
  .cases f
 .rename_i e a n c A B;split at f
  .rename_i he;split at f
   .rename_i cs hr;split at f
    .rename_i l M;cases f;obtain⟨L,h1,J⟩:=qB M;have D:∀ a' c',(loadCells a' n).run P w=.ok (L.map (Value.int .u8)).toArray w->(convert s t (.slice (some a') n c')).run P w=.ok (.string ⟨⟨l⟩⟩) w:=fun a' c' E=>by
      have:=run_bytesToString w a' n c' L E;have N:=pU L [];simp only[G7]at N;simp only[convert,A4,D2 A,D2 B,D2 he,Result.andThen];rw[this,show ByteArray.empty=ByteArray.mk ⟨[]⟩from rfl,N,J]
     rcases P8 hx with⟨lc,E,_,_,rfl⟩|⟨lc,c',E,_,_,_,_,rfl⟩|⟨a',c',_,rfl,_,rfl⟩
     .obtain⟨U,g1,g2,g3⟩:=i6 h hr E;rw[h1]at g1
      have:=sO g1;subst this;exact VOk.same h (D _ _ (K8 g2 g3)) (.pure rfl)
     .obtain⟨U,g1,g2,g3⟩:=i6 h hr E;rw[h1]at g1
      have:=sO g1;subst this;exact VOk.same h (D _ _ (K8 g2 g3)) (.pure rfl)
     .have:cs=[]:=by
       unfold y9 at hr;split at hr
       .have:=(jX hr).2;simpa using this
       .cases hr
      subst this;have:L=[]:=by cases L with|nil=>rfl|cons _ _=>cases h1
      subst this;exact VOk.same h (D _ _ (by simp[loadCells,loadCellsFrom])) (.pure rfl)
    .cases f
   .cases f
  .cases f
 .cases f
end
end
section
open Go
variable [Ora]
section
variable {P:Program} {base:Nat} {ρ:Ren} {m m':Mem} {w:World}
def zZ(q:P.cellsOf e=1)(count off n:Nat)(j:off+n<=count):liesAt P P.depth e count off e n=true:=by
 have f:P.depth=(2*(P.types.size+Made.depth)+1)+1:=rfl;rw[f];simp only[liesAt,J4];left;rw[f];simp[rowAt,q,j,sameLayout,Nat.mod_one]
def fB:∀ (f:List Int) (b o:Nat) (acc:ByteArray),(∀ (j:Nat) (v:Value),(f.map (Value.int .u8))[j]? = some v->w.cell? ⟨b,o+j,none⟩=some v) ->
  (loadBytes ⟨b,o,none⟩ acc f.length).run P w=.ok ⟨acc.data++(f.map fun n=>UInt8.ofNat n.toNat).toArray⟩ w
 | [],b,o,acc,_=>by simp[loadBytes]
 | n::f,b,o,acc,h=>by
   have h0:w.cell? ⟨b,o,none⟩=some (.int .u8 n):=by simpa using h 0 _ rfl
   have A:=fB f b (o+1) (acc.push n.toNat.toUInt8) (fun j v q=>by
    have:=h (j+1) v (by simpa using q);rw[show o+1+j=o+(j+1) by omega];exact this)
   simp only[C8,loadBytes,A4,run_load,h0,Result.andThen,Y9];rw[A];have:(acc.push n.toNat.toUInt8).data=acc.data.push n.toNat.toUInt8:=rfl;rw[this];congr 2;apply J5;simp
def BZ{l l':Value}(h:HR P base ρ m.H w)(f:eX P m pt p l=some (v,m'))(hp:VR ρ p p')(hl:VR ρ l l') :
  VOk P base ρ m w (Builtin.unsafeString_ ⟨pt::tys⟩ ty #[p',l']) v m':=by
 have F:IntKind.i64.max=9223372036854775807:=rfl;unfold eX at f;split at f
 .cases hp with|pure _=>?_
  cases J9 hl;cases f;refine VOk.same h (v':=.string ByteArray.empty) ?_ (.pure rfl);rename_i k _;have D:Builtin.unsafeString_ ⟨pt::tys⟩ ty #[.pointer none,.int k (.ofNat 0)] =
    (do
      let n <- asInt (.int k (.ofNat 0))
      if n<0 then runtimePanic (.error "unsafe.String: len out of range")
      if n>IntKind.i64.max then unsupported (.unsafePointer "String: a length above the largest int")
      if n=0 then pure (.string .empty)
      else runtimePanic (.error "unsafe.String: ptr is nil and len is not zero")):=rfl
  rw[D];simp[asInt,asIntOf,F]
 .rename_i a k n;cases J9 hl;obtain⟨lc,K,az,rfl⟩:=P3 hp;split at f
  .rename_i cs T G hg;split at f
   .rename_i e W R;obtain⟨q,f⟩:=A3 f;obtain⟨q,U⟩:=B8 q;obtain⟨q1,q2⟩:=B8 q;have q1:0<n:=A1 q1;have q2:=A1 q2;have U:=A0 U;subst U;split at f
    .rename_i r hr;split at f
     .rename_i bs m2 S Y7;cases f;obtain⟨Z,h1,h2⟩:=qB S;have I:y9 m a n=some r:=by
       unfold y9;rw[G,hg];exact hr
      obtain⟨r',g1,g2,g3⟩:=i6 h I K;rw[h1]at g1;have V:=sO g1;subst V;obtain⟨⟨L,C,fz,T',z2,z3,z4⟩,z5⟩:=h.atl K hg;have z2:w.heap[lc.blk]? = some (.cells C e fz):=by rw[z2,(z4 rfl).1]
      have N:Z.length=n:=by simpa using g2
      have A:P.cellsOf e=1:=by
       unfold H6 at R;unfold Program.cellsOf;cases hi:P.info? e with
       | none=>rw[hi]at R;cases R
       | some i=>rw[hi]at R;have:=A9 R;simp[this]
      have Y:a.off+lc.sh+n<=C.size:=by
       have B:=g3 (n-1) (.int .u8 Z[n-1]) (by simp[N]);simp only[World.cell?,z2]at B
       have:=(D0.1 (by simpa using B)).1;omega
      have M:=fB (P:=P) (w:=w) Z lc.blk (a.off+lc.sh) .empty g3;rw[N]at M;have X:w.shape? lc.blk=some (e,C.size):=by simp[World.shape?,z2]
      have J:=zZ (P:=P) A (C.size / P.cellsOf e) (a.off+lc.sh) n (by rw[A];simpa using Y);have D:Builtin.unsafeString_ ⟨pt::tys⟩ ty #[.pointer (some ⟨lc.blk,a.off+lc.sh,none⟩),.int k (.ofNat n)] =
       (do
         let n <- asInt (.int k (.ofNat n))
         if n<0 then runtimePanic (.error "unsafe.String: len out of range")
         if n>IntKind.i64.max then unsupported (.unsafePointer "String: a length above the largest int")
         if n=0 then pure (.string .empty)
         else if <- variablesAt ⟨lc.blk,a.off+lc.sh,none⟩ (<- elemOf pt) n.toNat then do
          let s <- loadBytes ⟨lc.blk,a.off+lc.sh,none⟩ .empty n.toNat
          freeze ⟨lc.blk,a.off+lc.sh,none⟩ n.toNat
          pure (.string s)
         else unsupported (.unsafePointer "String: not so many bytes at ptr")):=rfl
      have e1:Int.ofNat n=(n:Int):=rfl;have Q:¬ (n:Int)<0:=A2;have O:¬ (9223372036854775807:Int)<(n:Int):=A2;have hz:¬ (n:Int)=0:=A2;have E:n≠0:=A2;refine⟨.string ⟨⟨bs⟩⟩,ρ,w.freeze ⟨lc.blk,a.off+lc.sh,none⟩ n,?_,.pure rfl,St.write h Y7 hg rfl K L ?_ ?_ ?_ ?_⟩
      .rw[D];simp[asInt,asIntOf,F,e1,Q,O,hz,E,variablesAt,X,elemOf,D2 W,J,M,freeze,Sem.run,A4,Result.andThen,h2]
      .simp[World.freeze,E]
      .simp[World.freeze,E]
      .intro j hj;simp only[World.freeze,E,if_false,H4];rw[A6 (fun e=>hj e.symm)]
      .refine⟨L,C,(if fz.1 == fz.2 then(a.off+lc.sh,a.off+lc.sh+n)else(min fz.1 (a.off+lc.sh),max fz.2 (a.off+lc.sh+n))),e,?_,z3,fun hc=>by cases hc⟩;simp only[World.freeze,E,if_false,H4,if_true,z2,L8]
     .cases f
    .cases f
   .cases f
  .cases f
 .cases f
def NU{ks:Array Bool}(h:HR P base ρ m.H w)(B:base<=w.heap.size)(f:iX P m b vs tys=some (v,m'))(C:K7 ρ m.n m'.hi)(hx:LR ρ vs vs') :
  ∃ s:Sem Value,builtin b ⟨tys⟩ ty ks ⟨vs'⟩=(do pure (.value (<- s)))/\VOk P base ρ m w s v m':=by
 unfold iX at f;split at f
 .obtain⟨x',r1,rfl,h1,j⟩:=hx.tail;cases j.nil_inv;unfold noM at f;split at f
  .rename_i u hu;cases f;obtain⟨g1,g2⟩:=UA h hu h1;exact⟨_,rfl,VOk.same h g1 (.pure g2)⟩
  .cases f
 .obtain⟨x',r1,rfl,h1,j⟩:=hx.tail;cases j.nil_inv;unfold noM at f;split at f
  .rename_i u hu;cases f;obtain⟨g1,g2⟩:=A5o hu h1 w;exact⟨_,rfl,VOk.same h g1 (.pure g2)⟩
  .cases f
 .obtain⟨x',r1,rfl,h1,j⟩:=hx.tail;obtain⟨y',A,rfl,h3,q⟩:=j.tail;cases q.nil_inv;rename_i t t2 rest;refine⟨Builtin.append_ ⟨t::t2::rest⟩ ty #[x',y'],rfl,?_⟩
  have:=RM (ty:=ty) h B f C h1 h3;have e:Builtin.append_ ⟨t::t2::rest⟩ ty #[x',y']=Builtin.append_ #[t,t2] ty #[x',y']:=rfl;rw[e];exact this
 .obtain⟨x',r1,rfl,h1,j⟩:=hx.tail;obtain⟨y',A,rfl,h3,q⟩:=j.tail;cases q.nil_inv;exact⟨_,rfl,A3R h f h1 h3⟩
 .unfold noM at f;split at f
  .rename_i u hu;cases f;obtain⟨g1,g2⟩:=TT (P:=P) (ty:=ty) (tys:=⟨tys⟩) hu hx w;exact⟨_,rfl,VOk.same h g1 (.pure g2)⟩
  .cases f
 .unfold noM at f;split at f
  .rename_i u hu;cases f;obtain⟨g1,g2⟩:=TR (P:=P) (ty:=ty) (tys:=⟨tys⟩) hu hx w;exact⟨_,rfl,VOk.same h g1 (.pure g2)⟩
  .cases f
 .obtain⟨x',r1,rfl,h1,j⟩:=hx.tail;cases j.nil_inv;exact⟨_,rfl,CK h f h1⟩
 .obtain⟨x',r1,rfl,h1,j⟩:=hx.tail;obtain⟨y',A,rfl,h3,q⟩:=j.tail;cases q.nil_inv;exact⟨_,rfl,BZ h f h1 h3⟩
 .cases f
def NOk(P:Program)(base:Nat)(ρ:Ren)(m:Mem)(w:World)(s:Sem Next)(v:Value)(m':Mem):Prop :=
 ∃ v' f w',(s.run P w=.ok (.value v') w'∨(s.run P w=.ok .skip w'/\v'=undef))/\VR f v v'/\St P base ρ f m m' w w'
def NOk.of{s:Sem Value}(h:VOk P base ρ m w s v m'):NOk P base ρ m w (do pure (.value (<- s))) v m':=by
 obtain⟨v',f,w',h1,j,h3⟩:=h;exact⟨v',f,w',.inl (by simp[A4,h1,Result.andThen]),j,h3⟩
def qN(ρ:Ren):VR ρ undef undef:=.tuple (a:=[]) (a':=[]) rfl (fun i v v' h=>by simp at h)
def NOk.ofU{s:Sem Unit}(h:UOk P base ρ m w s m'):NOk P base ρ m w (do s;pure .skip) undef m':=by
 obtain⟨f,w',h1,h3⟩:=h;exact⟨undef,f,w',.inr ⟨by simp[A4,h1,Result.andThen],rfl⟩,qN _,h3⟩
def NOk.same{s:Sem Value}(h:HR P base ρ m.H w)(hr:s.run P w=.ok v' w)(hv:VR ρ v v'):NOk P base ρ m w (do pure (.value (<- s))) v m:=NOk.of (VOk.same h hr hv)
def FR(ρ:Ren)(fr:Fr)(g:Operand->Value)(o:Op):Prop:=∀ x ∈ o.operands.toList,VR ρ (ev fr x) (g x)
def n8(h:noM o m=some (v,m')):o=some v/\m'=m:=by
 unfold noM at h;split at h
 .cases h;exact⟨rfl,rfl⟩
 .cases h
def nY{o:Option Mem}(h:QH o=some (v,m')):o=some m'/\v=undef:=by
 unfold QH at h;split at h
 .cases h;exact⟨rfl,rfl⟩
 .cases h
def dS{fr:Fr}{g:Operand->Value}:∀ {xs:List Operand},(∀ x ∈ xs,VR ρ (ev fr x) (g x))->LR ρ (evL fr xs) (xs.map g)
 | [],_=>.nil
 | x::r,h=>.cons (h x B4) (dS fun y f=>h y (C4 _ f))
def QY{fr:Fr}{g:Operand->Value}:∀ {xs:List (Nat×Operand)},(∀ x ∈ xs.map (·.2),VR ρ (ev fr x) (g x))->PR ρ (evP fr xs) (xs.map fun x=>(x.1,g x.2))
 | [],_=>trivial
 | (i,x)::r,h=>⟨rfl,h x (by simp),QY fun y f=>h y (by simp at f ⊢;exact .inr f)⟩
def jU{fr:Fr}{x:Option Operand}(h:∀ y ∈ x.toList,VR ρ (ev fr y) (g y)):OR ρ (evO fr x) (x.map g):=by
 cases x with
 | none=>trivial
 | some y=>exact h y (by simp)
set_option maxHeartbeats 1000000 in
def A9h{fr:Fr}{o:Oper}(h:HR P base ρ m.H w)(I:base<=w.heap.size)(q:opM P fr m o.op=some (v,m'))(J:K7 ρ m.n m'.hi)(U:FR ρ fr g o.op) :
  NOk P base ρ m w (execOp g o) v m':=by
 obtain⟨dst,op,ty,pos,V,T⟩:=o;simp only at q U;have j:∀ {x},x ∈ op.operands.toList->VR ρ (ev fr x) (g x):=fun hx=>U _ hx
 unfold opM at q;split at q
 .cases q;exact⟨_,ρ,w,.inl rfl,j (by simp[Op.operands]),.refl h⟩
 .cases q;exact⟨_,ρ,w,.inl rfl,j (by simp[Op.operands]),.refl h⟩
 .rename_i c a b;have K:=j (x:=c) (by simp[Op.operands]);unfold TJ at q;split at q
  .rename_i D;rw[D]at K;cases q;exact⟨g a,ρ,w,.inl (by simp[execOp,dD K,asBool]),j (by simp[Op.operands]),.refl h⟩
  .rename_i D;rw[D]at K;cases q;exact⟨g b,ρ,w,.inl (by simp[execOp,dD K,asBool]),j (by simp[Op.operands]),.refl h⟩
  .cases q
 .exact NOk.of (XG h I q J)
 .exact NOk.of (A4s h I q J (j (by simp[Op.operands])))
 .rename_i t ps;obtain⟨h1,rfl⟩:=n8 q;obtain⟨v',A,h3⟩:=YB h1 (QY (g:=g) (fun x hx=>j (by simpa [Op.operands]using hx))) w;have e:(ps.map fun(i,x)=>(i,g x))=⟨ps.toList.map fun x=>(x.1,g x.2)⟩:=by apply J5;simp
  exact NOk.same (s:=Instr.build t (ps.map fun(i,x)=>(i,g x))) h (by rw[e];exact A) h3
 .rename_i t n ps
  have:=BO h I q J (QY (g:=g) (fun x hx=>j (by simpa [Op.operands]using hx)));have e:(ps.map fun(i,x)=>(i,g x))=⟨ps.toList.map fun x=>(x.1,g x.2)⟩:=by apply J5;simp
  refine NOk.of (s:=Instr.buildSlice t n (ps.map fun(i,x)=>(i,g x))) ?_;rw[e];exact this
 .rename_i t x;have hx:=j (x:=x) (by simp[Op.operands]);unfold TK at q;split at q
  .rename_i a G;rw[G]at hx;obtain⟨l,L,O,E⟩:=P3 hx;obtain⟨h1,rfl⟩:=n8 q;obtain⟨v',A,h3⟩:=LX h h1 L;refine NOk.same (s:=Instr.loadAt t (g x)) h ?_ h3;rw[E]
   simpa [Instr.loadAt,Instr.sureAddr]using A
  .cases q
 .rename_i t x y;have hx:=j (x:=x) (by simp[Op.operands]);have B:=j (x:=y) (by simp[Op.operands]);unfold GT at q;split at q
  .rename_i a G;rw[G]at hx;obtain⟨l,L,O,E⟩:=P3 hx;obtain⟨h1,rfl⟩:=nY q
   have:=WH h h1 L B;refine NOk.ofU (s:=Instr.storeAt t (g x) (g y)) ?_;rw[E];obtain⟨N,w',r1,r2⟩:=this;exact⟨N,w',by simpa [Instr.storeAt,Instr.sureAddr]using r1,r2⟩
  .cases q
 .rename_i x;have hx:=j (x:=x) (by simp[Op.operands]);obtain⟨hm,h1,A⟩:=A4r q hx;subst hm;refine⟨g x,ρ,w,.inl ?_,h1,.refl h⟩;rcases A with⟨a,S⟩|⟨f,a,b,S⟩<;>simp[execOp,S]
 .rename_i op t x y Z;have hx:=j (x:=x) (by simp[Op.operands]);have B:=j (x:=y) (by simp[Op.operands]);unfold A4t at q;have C:(AM op=true->mM P t x y (ev fr x) (ev fr y)=true)->noM (tN P op t (ev fr x) (ev fr y)) m=some (v,m')->NOk P base ρ m w (execOp g ⟨dst,.binOp op t x y Z,ty,pos,V,T⟩) v m':=fun R X=>by
   obtain⟨h1,rfl⟩:=n8 X;obtain⟨A,h3⟩:=yD h1 hx B w;have Y:=sV R hx B w;refine NOk.same (s:=do eqGuard op t x y (g x) (g y);binOp op t (g x) (g y)) h ?_ (.pure h3);simp[A4,Y,A,Result.andThen]
  cases F:AM op with
  | true =>
    rw[F]at q;simp only[E6]at q;obtain⟨h1,A⟩:=A3 q;exact C (fun _=>h1) A
  | false =>
    rw[F]at q;simp only[E0]at q;exact C (fun h=>by rw[F]at h;cases h) q
 .rename_i op t x;obtain⟨h1,rfl⟩:=n8 q;obtain⟨A,h3⟩:=OM (P:=P) h1 (j (x:=x) (by simp[Op.operands])) w;exact NOk.same (s:=Op.unary op (g x)) h A (.pure h3)
 .exact NOk.of (A3U h I q J (j (by simp[Op.operands])))
 .exact NOk.of (XF h q (j (by simp[Op.operands])))
 .rename_i f first cap
  cases q;have l1:=dS (ρ:=ρ) (fr:=fr) (g:=g) (xs:=first.toList) fun x hx=>j (by simp[Op.operands];exact .inl (by simpa using hx))
  have l2:=dS (ρ:=ρ) (fr:=fr) (g:=g) (xs:=cap.toList) fun x hx=>j (by simp[Op.operands];exact .inr (by simpa using hx))
  refine⟨.func (.func f) ⟨first.toList.map g⟩ ⟨cap.toList.map g⟩,ρ,w,.inl ?_,.func l1.1 l2.1 l1.2 l2.2,.refl h⟩;have Q:first.map g=⟨first.toList.map g⟩:=by apply J5;simp
  have M:cap.map g=⟨cap.toList.map g⟩:=by apply J5;simp
  simp[execOp,Instr.makeFunc,Q,M]
 .exact NOk.of (CN h I q J (j (by simp[Op.operands])) (j (by simp[Op.operands])))
 .rename_i t x lo hi mx;obtain⟨h1,rfl⟩:=n8 q;obtain⟨v',A,h3⟩:=iJ h1 (j (x:=x) (by simp[Op.operands])) (jU (g:=g) fun y B=>j (by simp[Op.operands]at B ⊢;exact .inr (.inl B))) (jU (g:=g) fun y B=>j (by simp[Op.operands]at B ⊢;exact .inr (.inr (.inl B)))) (jU (g:=g) fun y B=>j (by simp[Op.operands]at B ⊢;exact .inr (.inr (.inr B)))) w;exact NOk.same (s:=Instr.sliceAt t (g x) (lo.map g) (hi.map g) (mx.map g)) h A h3
 .obtain⟨h1,rfl⟩:=n8 q;obtain⟨v',A,h3⟩:=mO h1 (j (by simp[Op.operands])) w;exact NOk.same h A h3
 .obtain⟨h1,rfl⟩:=n8 q;obtain⟨v',A,h3⟩:=XR h1 (j (by simp[Op.operands])) w;exact NOk.same h A h3
 .obtain⟨h1,rfl⟩:=n8 q;obtain⟨v',A,h3⟩:=dE h1 (j (by simp[Op.operands])) (j (by simp[Op.operands])) w;exact NOk.same h A h3
 .obtain⟨h1,rfl⟩:=n8 q;obtain⟨v',A,h3⟩:=uL h1 (j (by simp[Op.operands])) (j (by simp[Op.operands])) w;exact NOk.same h A h3
 .obtain⟨hm,v',A,h3⟩:=LM (P:=P) q (j (by simp[Op.operands])) w;subst hm;exact NOk.same h A h3
 .rename_i b xs tys;have l1:=dS (ρ:=ρ) (fr:=fr) (g:=g) (xs:=xs.toList) fun x hx=>j (by show x ∈ (#[]++xs:Array Operand).toList;simpa using hx)
  obtain⟨ks,M⟩:∃ ks,execOp g ⟨dst,.call ⟨.builtin b,xs,tys⟩,ty,pos,V,T⟩=builtin b tys ty ks (xs.map g):=⟨_,rfl⟩;obtain⟨s,e,W⟩:=NU (ty:=ty) (ks:=ks) h I q J l1;have Q:xs.map g=⟨xs.toList.map g⟩:=by apply J5;simp
  rw[M,Q];have e3:tys=⟨tys.toList⟩:=rfl;rw[e3,e];exact NOk.of W
 .cases q
end
end
section
open Go
def ofV:R2->U
 | some (.int k n)=>.int k n
 | some (.bool b)=>.bool b
 | some (.string s)=>.str s.data.toList
 | _=>.none
def D9(E:Nat->U):Value->U
 | .complex .f64 i _=>E i
 | .int k n=>.int k n
 | .bool b=>.bool b
 | .string s=>.str s.data.toList
 | _=>.none
def evB(op:BinOp):U->U->U
 | .int k a,.int j b=>ofV (bF op k j a b)
 | .str a,.str b=>ofV (ZI op ⟨⟨a⟩⟩ ⟨⟨b⟩⟩)
 | .bool a,.bool b=>match op with
   | .eql=>.bool (a == b)
   | .neq=>.bool (!(a == b))
   | _=>.none
 | _,_=>.none
def ev1(op:UnOp):U->U
 | .int k n=>ofV (unM op (.int k n))
 | .bool b=>ofV (unM op (.bool b))
 | _=>.none
def eqU:U->U->Option Bool
 | .int k a,.int j b=>if k=j then some (a == b)else none
 | .bool a,.bool b=>some (a == b)
 | .str a,.str b=>some (a == b)
 | _,_=>none
def mS:List U->Option Bool
 | []=>some true
 | a::b::r=>match eqU a b,mS r with
   | some x,some y=>some (x && y)
   | _,_=>none
 | _=>none
def KA(s:List UInt8)(l h:Int):U :=
 match l,h with
 | .ofNat l,.ofNat h=>if l<=h/\h<=s.length then .str ((s.drop l).take (h-l))else .none
 | _,_=>.none
def uZ:List U->Option (List UInt8)
 | []=>some []
 | .int .u8 (.ofNat n)::r=>if n<256 then match uZ r with
   | some l=>some (UInt8.ofNat n::l)
   | none=>none else none
 | _::_=>none
def xC:List (List U)->Option (List UInt8)
 | []=>some []
 | [.int .u8 (.ofNat n)]::r=>if n<256 then match xC r with
   | some l=>some (UInt8.ofNat n::l)
   | none=>none else none
 | _::_=>none
def kM(s:List UInt8):List (List U):=s.map fun b=>[.int .u8 b.toNat]
def l7(w:Nat):Nat->List U->Option (List (List U))
 | 0,[]=>some []
 | 0,_::_=>none
 | n+1,l=>if w<=l.length then match l7 w n (l.drop w)with
   | some r=>some (l.take w::r)
   | none=>none else none
def zI(row:List U)(o:Nat)(cells:List U):List U:=row.take o++cells++row.drop (o+cells.length)
def xD:Nat:=1000000000
def tM(f:Bool)(w:Nat)(rows r:List (List U)):U:=if rows.length+r.length<=xD then(match r with|[]=>.seq f w rows|r=>.seq false w (rows++r))else .none
def isU(a b:U):Bool :=
 match eqU a b with
 | some c=>c
 | none=>false
def U4:List U->List U->Bool
 | [],_=>true
 | a::k,b::r=>isU a b && U4 k r
 | _::_,[]=>false
def LB(kw:Nat)(c:List U):List (List U)->List (List U)
 | []=>[c]
 | r::rs=>if U4 (c.take kw) r then c::rs else r::LB kw c rs
def evU:LOp->List U->U
 | .mhas w kw,.seq _ v rows::k=>if v=w/\k.length=kw then .bool (rows.any (U4 k))else .none
 | .mget w kw o,.seq _ v rows::z::k=>if v=w/\k.length=kw then(match rows.find? (U4 k)with
   | some r=>r.getD o .none
   | none=>z)else .none
 | .mput w kw,.seq nul v rows::c=>if v=w/\c.length=w then .seq nul w (LB kw c rows)else .none
 | .len,[.seq _ _ rows]=>.int .i64 rows.length
 | .mks,l=>match uZ l with
   | some s=>.str s
   | none=>.none
 | .inbs w,[.int _ i,.seq _ v rows]=>if v=w then .bool (decide (0<=i) && decide (i<rows.length))else .none
 | .get w o,[.seq false v rows,.int _ (.ofNat k)]=>if v=w then(rows.getD k []).getD o .none else .none
 | .mk w,l=>if w=0 then .none else match l7 w (l.length / w) l with
   | some r=>.seq false w r
   | none=>.none
 | .nilw w,[]=>.seq true w []
 | .nilp,[.seq nul _ _]=>.bool nul
 | .snoc w,.seq nul v rows::l=>if v=w/\w≠0 then match l7 w (l.length / w) l with
   | some r=>tM nul w rows r
   | none=>.none else .none
 | .cat w,[.seq nul v rows,.seq _ v2 r]=>if v=w/\v2=w then tM nul w rows r else .none
 | .cats,[.seq nul v rows,.str s]=>if v=1 then tM nul 1 rows (kM s)else .none
 | .set w o,.seq false v rows::.int _ (.ofNat k)::l=>if v=w/\k<rows.length/\o+l.length<=w then .seq false w (rows.set k (zI (rows.getD k []) o l))else .none
 | .subs w,[.seq nul v rows,.int _ (.ofNat l),.int _ (.ofNat h)]=>if v=w/\l<=h/\h<=rows.length then .seq nul w ((rows.drop l).take (h-l))else .none
 | .str,[.seq _ v rows]=>if v=1 then match xC rows with
   | some s=>.str s
   | none=>.none else .none
 | .byt,[.str s]=>.seq false 1 (kM s)
 | .ustr,[.seq _ v rows,.int _ (.ofNat n)]=>if v=1/\n<=rows.length/\n<=xD then match xC (rows.take n)with
   | some s=>.str s
   | none=>.none else .none
 | .rep w,.int _ (.ofNat n)::l=>if l.length=w/\n<=xD then .seq false w (List.replicate n l)else .none
 | .bin op,[a,b]=>evB op a b
 | .un op,[a]=>ev1 op a
 | .conv k,[.int _ n]=>.int k (k.wrap n)
 | .len,[.str s]=>.int .i64 s.length
 | .rune,[.str s,.int _ (.ofNat k)]=>.int .i32 (Utf8.decode ⟨⟨s⟩⟩ k).1
 | .rpos,[.str s,.int _ (.ofNat k)]=>.int .i64 (k+(Utf8.decode ⟨⟨s⟩⟩ k).2:Nat)
 | .idx,[.str s,.int _ (.ofNat k)]=>match s[k]? with
   | some b=>.int .u8 b.toNat
   | none=>.none
 | .sub,[.str s,.int _ l,.int _ h]=>KA s l h
 | .sub1,[.str s,.int _ l]=>KA s l s.length
 | .sel,.int _ (.ofNat k)::cs=>cs.getD k .none
 | .inb,[.int _ i,.int _ n]=>.bool (decide (0<=i) && decide (i<n))
 | .eqs,l=>match mS l with
   | some b=>.bool b
   | none=>.none
 | .max,[.int k a,.int _ b]=>.int k (if b>a then b else a)
 | .min,[.int k a,.int _ b]=>.int k (if b<a then b else a)
 | _,_=>.none
def p9.ok(E:Nat->U):p9->Prop
 | .lt i t op xs=>E i=evU op (xs.map (D9 E))/\G4 (E i)=t/\t<10
 | .dt i t op xs=>E i=evU op (xs.map (D9 E))/\G4 (E i)=t/\∃ f w rows,E i=.seq f w rows
 | .br i b=>E i=.bool b
 | .as op xs=>evU op (xs.map (D9 E))=.bool true
 | .con spec xs i d n=>∃ outs,spec (xs.map (D9 E))=some (d,outs)/\outs.length=n/\∀ j u,outs[j]? = some u->E (i+j)=u
def S3(E:Nat->U)(l:List p9):Prop:=∀ e ∈ l,e.ok E
def Lg.le(a b:Lg):Prop:=a.log <:+ b.log
def Lg.le.refl(a:Lg):a.le a:=List.suffix_refl _
def Lg.le.trans{a b c:Lg}(h:a.le b)(k:b.le c):a.le c:=List.IsSuffix.trans h k
def S3.le{E:Nat->U}{a b:Lg}(h:S3 E b.log)(k:a.le b):S3 E a.log:=fun e he=>h e (k.subset he)
variable [Ora]
abbrev Sat(lg:Lg):Prop:=S3 Ora.env lg.log
omit [Ora] in
def RZ{u:U}(h:G4 u<10):∃ v,toV u=some v/\ofV (some v)=u/\G8 v=G4 u:=by
 cases u with
 | none=>simp[G4]at h
 | seq _ _ _=>simp only[G4]at h;omega
 | int k n=>exact⟨_,rfl,rfl,rfl⟩
 | bool b=>exact⟨_,rfl,rfl,rfl⟩
 | str s=>exact⟨_,rfl,rfl,rfl⟩
def GS(h:G4 (ofV o)<10):∃ v,o=some v/\toV (ofV o)=some v:=by
 unfold ofV at h;split at h
 .exact⟨_,rfl,rfl⟩
 .exact⟨_,rfl,rfl⟩
 .rename_i s;refine⟨_,rfl,?_⟩;simp[ofV,toV]
 .simp[G4]at h
def M4(k:IntKind):iR k<8:=by cases k<;>decide
theorem aV{ρ:Ren}{v v':Value}(h:VR ρ v v')(f:G8 v<10):toV (D9 Ora.env v)=some v'/\G4 (D9 Ora.env v)=G8 v:=by
 cases h with
 | pure hp =>
   cases v<;>simp only[G8]at f<;>first
    | exact⟨rfl,rfl⟩
    | (exfalso;omega)
    | (simp[J0]at hp)
 | hole h j=>exact⟨h,j⟩
 | junk=>simp[G8]at f
 | ixp _ _ _ _ _=>simp[G8,ixp]at f
 | dat _ _ _ _ _=>simp[G8,Go.Sx.dat]at f
 | clp _ _ _ _ _ _=>simp[G8,Go.Sx.clp]at f
 | own _ _ _=>simp[G8,Go.Sx.own]at f
 | dpt _ _ _=>simp[G8,Go.Sx.dpt]at f
 | opt _ _ _=>simp[G8,Go.Sx.opt]at f
 | yv _=>simp[G8,Go.Sx.yv]at f
 | sdt _=>simp[G8,Go.Sx.sdt]at f
 | _=>simp[G8]at f
def N1{ρ:Ren}(h:VR ρ v v')(j:G8 v<8):∃ k n,v'=.int k n/\D9 Ora.env v=.int k n/\G8 v=iR k:=by
 obtain⟨h1,f⟩:=aV h A2;cases hu:D9 Ora.env v with
 | int k n=>rw[hu]at h1 f;cases h1;exact⟨k,n,rfl,rfl,f.symm⟩
 | bool b=>rw[hu]at f;simp only[G4]at f;omega
 | str s=>rw[hu]at f;simp only[G4]at f;omega
 | none=>rw[hu]at h1;cases h1
 | seq _ _ _=>rw[hu]at h1;cases h1
def iI{ρ:Ren}(h:VR ρ v v')(j:G8 v=8):∃ b,v'=.bool b/\D9 Ora.env v=.bool b:=by
 obtain⟨h1,f⟩:=aV h A2;cases hu:D9 Ora.env v with
 | int k n=>rw[hu]at f;simp only[G4]at f;have:=M4 k;omega
 | bool b=>rw[hu]at h1;cases h1;exact⟨b,rfl,rfl⟩
 | str s=>rw[hu]at f;simp only[G4]at f;omega
 | none=>rw[hu]at h1;cases h1
 | seq _ _ _=>rw[hu]at h1;cases h1
def s8{ρ:Ren}(h:VR ρ v v')(j:G8 v=9):∃ s,v'=.string ⟨⟨s⟩⟩/\D9 Ora.env v=.str s:=by
 obtain⟨h1,f⟩:=aV h A2;cases hu:D9 Ora.env v with
 | int k n=>rw[hu]at f;simp only[G4]at f;have:=M4 k;omega
 | bool b=>rw[hu]at f;simp only[G4]at f;omega
 | str s=>rw[hu]at h1;cases h1;exact⟨s,rfl,rfl⟩
 | none=>rw[hu]at h1;cases h1
 | seq _ _ _=>rw[hu]at h1;cases h1
def jR{m m':Mem}{t:Nat}{op:LOp}(h:U6 m t op xs=some (v,m')):v=hole m.lg.nx t/\m'=m.wLg ⟨m.lg.nx+1,m.lg.pi,.lt m.lg.nx t op xs::m.lg.log⟩:=by
 obtain⟨H,n,W,hi,⟨nx,pi,log⟩⟩:=m;simp only[U6,E9,I8]at h;cases h;exact⟨rfl,rfl⟩
def N0{m m':Mem}{t:Nat}{op:LOp}(h:U6 m t op xs=some (v,m'))(n:Sat m'.lg):∃ u,evU op (xs.map (D9 Ora.env))=u/\G4 u=t/\∃ r,toV u=some r/\(∀ ρ,VR ρ v r)/\t<10:=by
 obtain⟨rfl,rfl⟩:=jR h;obtain⟨h1,f,h3⟩:=n (.lt m.lg.nx t op xs) (by cases m;exact B4);refine⟨_,rfl,h1▸f,?_⟩;obtain⟨r,j,_⟩:=RZ (u:=Ora.env m.lg.nx) A2;exact⟨r,h1▸j,fun ρ=>.hole j f,h3⟩
section
variable {P:Program} {base:Nat} {ρ:Ren} {m m':Mem} {w:World}
def St.wLg(h:HR P base ρ m.H w)(lg:Lg):St P base ρ ρ m (m.wLg lg) w w:=by
 obtain⟨H,n,W,hi,l⟩:=m;have r:=St.refl (m:=⟨H,n,W,hi,l⟩) h;exact⟨r.ext,r.new,r.nle,r.hle,r.nhi,r.hr,r.wsub,r.wrw,r.keep,r.size,r.os,r.blk,r.same,r.tch⟩
def cI:∀ {l:List p9} {i:Nat} {b:Bool},AT l i=some b->p9.br i b ∈ l
 | [],_,_,h=>by cases h
 | .br j c::r,i,b,h=>by
   rw[AT]at h;cases f:Nat.beq j i with
   | true=>rw[f]at h;cases h;rw[A0 f];exact B4
   | false=>rw[f]at h;exact C4 _ (cI h)
 | .lt _ _ _ _::r,i,b,h=>C4 _ (cI (l:=r) h)
 | .dt _ _ _ _::r,i,b,h=>C4 _ (cI (l:=r) h)
 | .as _ _::r,i,b,h=>C4 _ (cI (l:=r) h)
 | .con _ _ _ _ _::r,i,b,h=>C4 _ (cI (l:=r) h)
def fU{lg f:Lg}{b:Bool}(h:brL lg c=some (b,f)):lg.le f:=by
 unfold brL at h;split at h
 .cases h;exact .refl _
 .obtain⟨nx,pi,log⟩:=lg;simp only at h;split at h
  .cases h;exact .refl _
  .split at h
   .cases h;exact⟨[_],rfl⟩
   .cases h;exact⟨[_],rfl⟩
   .cases h
 .cases h
def mV{lg f:Lg}{b:Bool}(h:brL lg c=some (b,f))(q:VR ρ c c')(n:Sat f):c'=.bool b:=by
 unfold brL at h;split at h
 .cases h;exact dD q
 .rename_i i;have A:Ora.env i=.bool b:=by
   obtain⟨nx,pi,log⟩:=lg;simp only at h;split at h
   .rename_i b' B;cases h;exact n _ (cI B)
   .split at h
    .cases h;exact n (.br i true) B4
    .cases h;exact n (.br i false) B4
    .cases h
  obtain⟨b',h1,j⟩:=iI q rfl;have j:Ora.env i=.bool b':=j;rw[A]at j;cases j;exact h1
 .cases h
def wG:∀ {a b:List U} {z:Bool},a.length%2=0->mS (a++b)=some z->∃ x y,mS a=some x/\mS b=some y/\z=(x && y)
 | [],b,z,_,h=>⟨true,z,rfl,h,rfl⟩
 | [_],_,_,hl,_=>by simp at hl
 | p::q::r,b,z,hl,h=>by
   simp only[S9]at h;unfold mS at h;split at h
   .rename_i u v f n;cases h;obtain⟨x,y,h1,j,rfl⟩:=wG (by simp only[C8]at hl;omega) n;exact⟨u && x,y,by simp only[mS,f,h1],j,by simp[Bool.and_assoc]⟩
   .cases h
def WQ(h:fN P t x y=true)(hx:VR ρ x x')(C:VR ρ y y'){b:Bool}(j:eqU (D9 Ora.env x) (D9 Ora.env y)=some b)(n:Nat)(w:World):(Op.equalIn (n+1) t x' y').run P w=.ok b w:=by
 unfold fN at h;split at h
 .rename_i hu;obtain⟨h1,f⟩:=B8 h;obtain⟨p,rfl,B⟩:=iI hx (A0 h1);obtain⟨q,rfl,A⟩:=iI C (A0 f);rw[B,A]at j;cases j;simp[Op.equalIn,A4,D2 hu,Result.andThen]
 .rename_i k hu;obtain⟨h1,f⟩:=B8 h;have h1:=A0 h1;have f:=A0 f;obtain⟨D,p,rfl,B,f1⟩:=N1 hx (by have:=M4 k;omega);obtain⟨E,q,rfl,A,f2⟩:=N1 C (by have:=M4 k;omega);have g1:D=k:=by cases D<;>cases k<;>first|rfl|(simp only[iR]at f1 h1;omega)
  have g2:E=k:=by cases E<;>cases k<;>first|rfl|(simp only[iR]at f2 f;omega)
  subst g1;subst g2;rw[B,A]at j;simp[eqU]at j;subst j;simp[Op.equalIn,A4,D2 hu,Result.andThen]
 .rename_i hu;obtain⟨h1,f⟩:=B8 h;obtain⟨p,rfl,B⟩:=s8 hx (A0 h1);obtain⟨q,rfl,A⟩:=s8 C (A0 f);rw[B,A]at j;cases j
  have:=run_equalIn_string (P:=P) w n t ⟨⟨p⟩⟩ ⟨⟨q⟩⟩ hu;rw[this];simp[ByteArray.toList_eq]
 .cases h
mutual
def VG:∀ (d:Nat) (t:TypeId) (x y:Value) (l:List Value),eqS P d t x y=some l->l.length%2=0
 | 0,_,_,_,_,h=>by simp[eqS]at h
 | d+1,t,x,y,l,h=>by
   unfold eqS at h;cases hs:fN P t x y with
   | true=>rw[hs]at h;cases h;simp
   | false =>
     rw[hs]at h;simp only[E0]at h;split at h
     .rename_i fs xs ys hu;cases hst:P.stoodInHeld t with
      | true=>rw[hst]at h;cases h
      | false=>rw[hst]at h;exact AZ d _ _ _ l h
     .split at h
      .exact AZ d _ _ _ l h
      .cases h
     .cases h
def AZ:∀ (d:Nat) (fs:List Field) (xs ys:List Value) (l:List Value),BA P d fs xs ys=some l->l.length%2=0
 | 0,_,_,_,_,h=>by simp[BA]at h
 | d+1,[],_,_,_,h=>by simp only[BA,D6]at h;subst h;rfl
 | d+1,f::fs,xs,ys,l,h=>by
   unfold BA at h;cases hnm:f.name == "_" with
   | true=>rw[hnm]at h;cases h
   | false =>
     rw[hnm]at h;simp only[E0]at h;split at h
     .split at h
      .rename_i a b ha hb;cases h
       have:=VG d _ _ _ a ha
       have:=AZ d _ _ _ b hb;simp only[B7];omega
      .cases h
     .cases h
end
mutual
def QZ:∀ (d:Nat) (t:TypeId) (x y x' y':Value) (l:List Value) (b:Bool),eqS P d t x y=some l->mS (l.map (D9 Ora.env))=some b->VR ρ x x'->VR ρ y y'->∀ (n:Nat),d<=n->∀ w:World,(Op.equalIn n t x' y').run P w=.ok b w
 | 0,_,_,_,_,_,_,_,h,_,_,_,_,_,_=>by simp[eqS]at h
 | d+1,t,x,y,x',y',l,b,h,hl,hx,hy,n,hn,w=>by
   obtain⟨n,rfl⟩:∃ k,n=k+1:=⟨n-1,A2⟩;have hn':d<=n:=A2;unfold eqS at h;cases hs:fN P t x y with
   | true =>
     rw[hs]at h;cases h;simp only[C5,G1,mS]at hl;split at hl
     .rename_i u v e1 e2;cases e2;cases hl;rw[pD];exact WQ hs hx hy e1 n w
     .cases hl
   | false =>
     rw[hs]at h;simp only[E0]at h;split at h
     .rename_i fs xs ys hu;cases hst:P.stoodInHeld t with
      | true=>rw[hst]at h;cases h
      | false =>
        rw[hst]at h;obtain⟨xs',rfl,hx1⟩:=W7 hx;obtain⟨ys',rfl,hy1⟩:=W7 hy;have hf:P.fieldsOf t=fs:=by simp[Program.fieldsOf,hu]
        rw[run_equalIn_struct (P:=P) w n t _ _ (by rw[hf];exact hu) hst,hf];exact IE d fs.toList xs.toList ys.toList xs' ys' l b h hl hx1 hy1 n hn' w
     .rename_i k e xs ys hu;split at h
      .rename_i s hz;obtain⟨xs',rfl,hx1⟩:=W7 hx;obtain⟨ys',rfl,hy1⟩:=W7 hy;obtain⟨i,hi,rfl⟩:=DI hz;rw[run_equalIn_array (P:=P) (w:=w) n _ _ hu hi,show P.cellsOf e=i.size by simp[Program.cellsOf,hi],fS];exact IE d _ xs.toList ys.toList xs' ys' l b h hl hx1 hy1 n hn' w
      .cases h
     .cases h
def IE:∀ (d:Nat) (fs:List Field) (xs ys xs' ys':List Value) (l:List Value) (b:Bool),BA P d fs xs ys=some l->mS (l.map (D9 Ora.env))=some b->LR ρ xs xs'->LR ρ ys ys'->∀ (n:Nat),d<=n->∀ w:World,(Op.eqFields n ⟨xs'⟩ ⟨ys'⟩ fs).run P w=.ok b w
 | 0,_,_,_,_,_,_,_,h,_,_,_,_,_,_=>by simp[BA]at h
 | d+1,[],_,_,_,_,_,b,h,hl,_,_,_,_,_=>by
   simp only[BA,D6]at h;subst h;simp only[G1,mS,D6]at hl;subst hl;simp[Op.eqFields]
 | d+1,f::fs,xs,ys,xs',ys',l,b,h,hl,hx,hy,n,hn,w=>by
   unfold BA at h;cases hnm:f.name == "_" with
   | true=>rw[hnm]at h;cases h
   | false =>
     rw[hnm]at h;simp only[E0]at h;have hn':f.name ≠ "_":=by simpa using hnm
     split at h
     .rename_i x y h1 h2;obtain⟨x',g1,g2⟩:=iN h1 hx w;obtain⟨y',g3,g4⟩:=iN h2 hy w;split at h
      .rename_i a c ha hc;cases h;rw[M7]at hl;obtain⟨p,q,e1,e2,rfl⟩:=wG (by have:=VG d _ _ _ a ha;simpa using this) hl;have ih:=QZ d f.type x y x' y' a p ha e1 g2 g4 n A2 w;have ih2:=IE d fs xs ys xs' ys' c q hc e2 hx hy n A2 w;unfold Op.eqFields;rw[A8 hn'];cases p<;>simp[A4,g1,g3,Result.andThen,ih,ih2]
      .cases h
     .cases h
end
end
end
section
open Go
variable [Ora]
section
variable {P:Program} {base:Nat} {ρ:Ren} {m m':Mem} {w w':World}
def St.new0{ab:AB}(h:HR P base ρ m.H w)(O:d9 m ab k=some (v,m'))(R:K7 ρ m.n m'.hi)(K:BR P (upd ρ m.n l') ab l' w)(F:l'.on=false)
  (N:∀ q,Tc ab l' q->Fp ρ m.H q/\∀ id,id<=I4->∀ a l,Hp.get m.H id=some a->ρ id=some l->a.rw=true->l.on=true->l.blk≠q):v=k m.n/\upd ρ m.n l' m.n=some l'/\St P base ρ (upd ρ m.n l') m m' w w:=by
 obtain⟨hle,hv,rfl⟩:=M3 O;have E:ρ m.n=none:=R m.n (A7 _) (L7 _ _).2;have A:=X9 (l:=l') E;refine⟨hv,M5 _ _ _,A,fun b q h1 j=>?_,by simp,(L7 _ _).1,fun _=>Z8 (L7 _ _).2,⟨fun b q L=>?_,fun id hid a f=>?_⟩,fun b K=>K,fun b h1 j=>absurd h1 j,fun q L _=>rfl,A7 _,⟨rfl,rfl,rfl⟩,fun b q h1 j B=>?_,fun id hid h1 j=>?_,fun q ⟨id,a,l,hid,f,D,M⟩=>.inr ?_⟩
 .obtain⟨rfl,rfl⟩:=V0 h1 j;exact⟨A7 _,J7 _⟩
 .cases h0:ρ b with
  | some Q=>exact h.dom b Q h0
  | none=>obtain⟨rfl,rfl⟩:=V0 L h0;exact hle
 .rw[F2 _ _ _ _ hle hid]at f;by_cases e:id=m.n
  .rw[A8 e]at f;have f:=A9 f;subst f;subst e;exact⟨l',M5 _ _ _,K,fun _ B=>(by rw[F]at B;cases B)⟩
  .rw[A6 e]at f;obtain⟨l0,h1,j,h3⟩:=h.at_ id hid a f;refine⟨l0,A _ _ h1,j.mono A (fun _ _=>rfl),fun hr B=>⟨(h3 hr B).1,fun G C J l2 g1 g2 g3=>?_⟩⟩;rw[F2 _ _ _ _ hle C]at g1;by_cases I:G=m.n
   .subst I;rw[M5]at g2
    have:=A9 g2;subst this;rw[A8 rfl]at g1;have g1:=A9 g1;subst g1;exact absurd rfl ((N _ g3).2 id hid a l0 f h1 hr B)
   .rw[A6 I]at g1;unfold upd at g2;rw[A6 I]at g2;exact(h3 hr B).2 G C J l2 g1 g2 g3
 .obtain⟨rfl,rfl⟩:=V0 h1 j;rw[F]at B;cases B
 .rw[F2 _ _ _ _ hle hid,A6];intro e;subst e;rcases j with j|j
  .omega
  .have j:upN m.hi m.n<=m.n:=j
   have:=(L7 m.hi m.n).2;omega
 .have f:Hp.get (m.H.set m.n (some ab)) id=some a:=f;rw[F2 _ _ _ _ hle hid]at f;by_cases e:id=m.n
  .subst e;rw[A8 rfl]at f;have f:=A9 f;subst f;rw[M5]at D;have D:=A9 D;subst D;exact(N q M.2).1
  .rw[A6 e]at f;unfold upd at D;rw[A6 e]at D;exact⟨id,a,l,hid,f,D,M⟩
def St.same0{ab:AB}{id:Nat}(h:HR P base ρ m.H w)(R:cY m id ab'=some m')(L:Hp.get m.H id=some ab)(D:ab.rw=true)(G:ρ id=some l)(N:BR P ρ ab' l w)(Q:∀ q,Tc ab' l q->Tc ab l q):St P base ρ ρ m m' w w:=by
 obtain⟨hle,rfl⟩:=V1 R;obtain⟨E,h3⟩:=h.atl G L;refine⟨fun _ _ h=>h,fun b k h1 E=>(by rw[h1]at E;cases E),A7 _,A7 _,fun h=>h,⟨h.dom,fun n f a A=>?_⟩,fun b N=>C4 _ N,fun b h1 E k J=>?_,fun k J S=>rfl,A7 _,⟨rfl,rfl,rfl⟩,fun b k h1 E=>(by rw[h1]at E;cases E),fun n f T U=>?_,fun k ⟨n,a,q,f,A,I,O⟩=>.inr ?_⟩
 .rw[F2 _ _ _ _ hle f]at A;by_cases e:n=id
  .rw[A8 e]at A;have A:=A9 A;subst A;subst e;refine⟨l,G,N,fun _ C=>⟨(h3 D C).1,fun B j F M g1 g2 g3=>?_⟩⟩;rw[F2 _ _ _ _ hle j]at g1;by_cases K:B=n
   .exact K
   .rw[A6 K]at g1;exact(h3 D C).2 B j F M g1 g2 g3
  .rw[A6 e]at A;obtain⟨l2,g1,g2,g3⟩:=h.at_ n f a A;refine⟨l2,g1,g2.mono (fun _ _ h=>h) (fun k J=>rfl),fun hr C=>⟨(g3 hr C).1,fun B j F M f1 f2 f3=>?_⟩⟩;rw[F2 _ _ _ _ hle j]at f1;by_cases K:B=id
   .subst K;rw[G]at f2
    have:=A9 f2;subst this;have f1:=A9 (by simpa using f1);subst f1;exact(g3 hr C).2 B j ab l L G (Q _ f3)
   .rw[A6 K]at f1;exact(g3 hr C).2 B j F M f1 f2 f3
 .rcases B3.1 h1 with rfl|h1
  .exact⟨ab,L,D⟩
  .exact absurd h1 E
 .rw[F2 _ _ _ _ hle f,A6];intro e;subst e;exact T B4
 .have A:Hp.get (m.H.set id (some ab')) n=some a:=A;rw[F2 _ _ _ _ hle f]at A;by_cases e:n=id
  .subst e;rw[A8 rfl]at A;have A:=A9 A;subst A;rw[G]at I;have I:=A9 I;subst I;exact⟨n,ab,l,f,L,G,AB.rw_fr D,Q _ O.2⟩
  .rw[A6 e]at A;exact⟨n,a,q,f,A,I,O⟩
def St.move{ab:AB}{id:Nat}(h:HR P base ρ m.H w)(hle:id<=I4)(hg:Hp.get m.H id=some ab)(F:ab.rw=true)(R:ρ id=some l)
  (hn:d9 (kS m id) ab' k=some (v,m')) (hf:K7 ρ m.n m'.hi) (N:l'.on=true->l.on=true/\l'.blk=l.blk)
  (ho:w'.os=w.os/\w'.tape=w.tape/\w'.output=w.output) (ay:w'.heap.size=w.heap.size) (Y:∀ k,(l.on=true->k≠l.blk)->w'.heap[k]? = w.heap[k]?) (T:BR P (upd ρ m.n l') ab' l' w') (ax:ab'≠.frz) :
  v=k m.n/\upd ρ m.n l' m.n=some l'/\St P base ρ (upd ρ m.n l') m m' w w':=by
 rw[n9]at hn;obtain⟨U,hv,rfl⟩:=M3 hn;have B:ρ m.n=none:=hf m.n (A7 _) (L7 _ _).2;have G:=X9 (l:=l') B;obtain⟨Q,h3⟩:=h.atl R hg;have V:∀ k,Tc ab' l' k->l.on=true/\k=l.blk:=fun k Y=>by
  rcases Y with⟨_,h1,rfl⟩|⟨rfl,_⟩
  .exact N h1
  .exact absurd rfl ax
 have ar:id≠m.n:=fun e=>by subst e;rw[R]at B;cases B
 have A:∀ i,i<=I4->Hp.get ((m.H.set id none).set m.n (some ab')) i=if i=m.n then some ab' else if i=id then none else Hp.get m.H i:=fun i hi=>by
  rw[F2 _ _ _ _ U hi,F2 _ _ _ _ hle hi]
 refine⟨hv,M5 _ _ _,G,fun b q h1 Q=>?_,V4 _,(L7 _ _).1,fun _=>Z8 (L7 _ _).2,⟨fun b q E=>?_,fun i hi a f=>?_⟩,fun b T=>C4 _ T,fun b h1 Q q E=>?_,fun q E aw=>Y q ?_,by rw[ay];exact A7 _,ho,fun b q h1 Q C=>?_,fun i hi h4 X=>?_,fun k ⟨i,a,q,hi,f,E,ht⟩=>.inr ?_⟩
 .obtain⟨rfl,rfl⟩:=V0 h1 Q;exact⟨A7 _,J7 _⟩
 .cases h0:ρ b with
  | some q0=>exact h.dom b q0 h0
  | none=>obtain⟨rfl,rfl⟩:=V0 E h0;exact U
 .have f:Hp.get ((m.H.set id none).set m.n (some ab')) i=some a:=f;rw[A i hi]at f;by_cases e:i=m.n
  .rw[A8 e]at f;have f:=A9 f;subst f;subst e;refine⟨l',M5 _ _ _,T,fun au C=>?_⟩;obtain⟨j,D⟩:=N C;refine⟨by rw[D];exact(h3 F j).1,fun K L az l2 g1 g2 g3=>?_⟩;rw[A K L]at g1;by_cases Z:K=m.n
   .exact Z
   .rw[A6 Z]at g1;unfold upd at g2;rw[A6 Z]at g2;by_cases J:K=id
    .rw[A8 J]at g1;cases g1
    .rw[A6 J]at g1;exact absurd ((h3 F j).2 K L az l2 g1 g2 (D▸g3)) J
  .rw[A6 e]at f;by_cases J:i=id
   .rw[A8 J]at f;cases f
   .rw[A6 J]at f;obtain⟨l2,g1,g2,g3⟩:=h.at_ i hi a f;have W:∀ k,Tc a l2 k->l.on=true->k≠l.blk:=fun k O j hh=>J ((h3 F j).2 i hi a l2 f g1 (hh▸O))
    refine⟨l2,G _ _ g1,g2.mono G (fun k O=>Y _ (W k O)),fun hr C=>⟨(g3 hr C).1,fun I M S l3 f1 f2 f3=>?_⟩⟩;have f1:Hp.get ((m.H.set id none).set m.n (some ab')) I=some S:=f1;rw[A I M]at f1;by_cases e4:I=m.n
    .subst e4;rw[M5]at f2
     have:=A9 f2;subst this;rw[A8 rfl]at f1;have f1:=A9 f1;subst f1;obtain⟨j,E⟩:=V _ f3;exact absurd E (W _ (.inl ⟨AB.rw_on hr,C,rfl⟩) j)
    .rw[A6 e4]at f1;unfold upd at f2;rw[A6 e4]at f2;by_cases e5:I=id
     .rw[A8 e5]at f1;cases f1
     .rw[A6 e5]at f1;exact(g3 hr C).2 I M S l3 f1 f2 f3
 .rcases B3.1 h1 with rfl|h1
  .exact⟨ab,hg,F⟩
  .exact absurd h1 Q
 .exact fun j e=>aw id B4 l R j e.symm
 .obtain⟨rfl,rfl⟩:=V0 h1 Q;obtain⟨j,D⟩:=N C;exact .inr ⟨id,B4,l,R,j,D.symm⟩
 .have av:=A i hi;show Hp.get ((m.H.set id none).set m.n (some ab')) i=_;rw[av,A6,A6]
  .intro e;subst e;exact h4 B4
  .intro e;subst e;rcases X with X|X
   .omega
   .have X:upN m.hi m.n<=m.n:=X
    have:=(L7 m.hi m.n).2;omega
 .have f:Hp.get ((m.H.set id none).set m.n (some ab')) i=some a:=f;rw[A i hi]at f;by_cases e:i=m.n
  .rw[A8 e]at f;have f:=A9 f;subst f;subst e;rw[M5]at E;have E:=A9 E;subst E;obtain⟨j,T⟩:=V k ht.2;exact⟨id,ab,l,hle,hg,R,AB.rw_fr F,.inl ⟨AB.rw_on F,j,T.symm⟩⟩
  .rw[A6 e]at f;unfold upd at E;rw[A6 e]at E;by_cases J:i=id
   .rw[A8 J]at f;cases f
   .rw[A6 J]at f;exact⟨i,a,q,hi,f,E,ht⟩
end
end
section
open Go
variable [Ora]
def bB{m m':Mem}{ab:AB}(h:d9 m ab k=some (v,m')):m'.lg=m.lg:=by
 obtain⟨_,_,rfl⟩:=M3 h;rfl
def eJ{m m':Mem}{id:Nat}{ab:AB}(h:cY m id ab=some m'):m'.lg=m.lg:=by
 obtain⟨_,rfl⟩:=V1 h;rfl
def tS{m m':Mem}(h:pE m a vs=some m'):m'.lg=m.lg:=by
 unfold pE at h;split at h
 .obtain⟨_,h⟩:=A3 h;rw[I8]at h;exact eJ h
 .cases h
def WI{P:Program}{m m':Mem}(h:yQ P m t a v=some m'):m'.lg=m.lg:=by
 unfold yQ at h;split at h
 .obtain⟨_,h⟩:=A3 h;exact tS h
 .cases h
def u7{m m':Mem}(h:noM o m=some (v,m')):m'.lg=m.lg:=by
 obtain⟨_,rfl⟩:=n8 h;rfl
def BP{P:Program}{m m':Mem}{n:Nat}{ps:List (Nat×Value)}(h:dH P m t n ps=some (v,m')):m'.lg=m.lg:=by
 unfold dH at h;split at h
 .split at h
  .obtain⟨_,h⟩:=A3 h;split at h
   .exact bB h
   .cases h
  .cases h
 .cases h
def CO{P:Program}{m m':Mem}{l:Value}(h:fH P m t l c=some (v,m')):m'.lg=m.lg:=by
 unfold fH at h;split at h
 .split at h
  .obtain⟨_,h⟩:=A3 h;split at h
   .rw[I8]at h;exact bB h
   .cases h
  .cases h
 .cases h
def A3V{P:Program}{m m':Mem}(h:EZ P m s t x=some (v,m')):m'.lg=m.lg:=by
 unfold EZ at h;split at h
 .cases h;rfl
 .cases h;rfl
 .cases h;rfl
 .split at h
  .split at h
   .rw[I8]at h;exact bB h
   .cases h
  .cases h
 .split at h<;>cases h;rfl
 .split at h
  .split at h
   .split at h<;>cases h;rfl
   .cases h
  .cases h
 .cases h
def RN{P:Program}{m m':Mem}(h:tP P m t t2 x y=some (v,m')):m'.lg=m.lg:=by
 unfold tP at h;split at h
 .rename_i B d2 _ _;cases q:dR d2 with
  | false=>rw[q]at h;cases h
  | true =>
  rw[q]at h;simp only[Q9,E0]at h;split at h
  .rename_i i a n c _;split at h
   .rename_i k new z _ _;obtain⟨_,h⟩:=A3 h;cases f:Nat.beq k 0 with
    | true =>
      rw[f]at h;simp only[E6]at h;split at h
      .obtain⟨_,h⟩:=A3 h;cases h;rfl
      .obtain⟨_,h⟩:=A3 h;cases h;rfl
    | false =>
      rw[f]at h;simp only[E0]at h;split at h
      .obtain⟨_,h⟩:=A3 h;rw[I8]at h;exact bB h
      .cases A:Nat.blt c N4 with
       | true =>
         rw[A]at h;simp only[E6]at h;cases j:Nat.ble (n+k) c with
         | true =>
           rw[j]at h;simp only[E6]at h;split at h
           .rename_i m1 _ hw;cases h;exact tS hw
           .cases h
         | false =>
           rw[j]at h;simp only[E0]at h;split at h
           .rw[I8]at h;exact bB h
           .cases h
       | false =>
         rw[A]at h;simp only[E0]at h;obtain⟨_,h⟩:=A3 h;split at h
         .obtain⟨_,h⟩:=A3 h;rw[I8]at h;rw[bB h,n9]
         .cases h
   .cases h
  .cases h
 .cases h
def A3S{P:Program}{m m':Mem}(h:NI P m t x y=some (v,m')):m'.lg=m.lg:=by
 unfold NI at h;split at h
 .split at h
  .split at h
   .split at h
    .obtain⟨_,h⟩:=A3 h;cases h;rfl
    .rename_i k cs j _ n;cases f:Nat.beq cs.length 0 with
     | true=>rw[f]at h;cases h;rfl
     | false =>
       rw[f]at h;simp only[E0]at h;obtain⟨_,h⟩:=A3 h;split at h
       .rename_i hw;cases h;exact tS hw
       .cases h
   .cases h
  .cases h
 .cases h
def CA{P:Program}{m m':Mem}{l:Value}(h:eX P m pt p l=some (v,m')):m'.lg=m.lg:=by
 unfold eX at h;split at h
 .cases h;rfl
 .split at h
  .split at h
   .obtain⟨_,h⟩:=A3 h;split at h
    .split at h
     .rename_i Y7;cases h;exact eJ Y7
     .cases h
    .cases h
   .cases h
  .cases h
 .cases h
def NV{P:Program}{m m':Mem}(h:iX P m b vs tys=some (v,m')):m'.lg=m.lg:=by
 unfold iX at h;split at h
 .exact u7 h
 .exact u7 h
 .exact RN h
 .exact A3S h
 .exact u7 h
 .exact u7 h
 .unfold jG at h;split at h
  .cases h;rfl
  .rename_i a n c;cases f:Nat.beq n 0 || Nat.beq c 0 || Nat.beq c (N4+2)with
   | true=>rw[f]at h;cases h
   | false=>rw[f]at h;cases h;rfl
  .cases h
 .exact CA h
 .cases h
def A9i{P:Program}{fr:Fr}{m m':Mem}{o:Op}(h:opM P fr m o=some (v,m')):m'.lg=m.lg:=by
 unfold opM at h;split at h
 .cases h;rfl
 .cases h;rfl
 .unfold TJ at h;split at h<;>cases h<;>rfl
 .unfold GV at h;split at h
  .exact bB h
  .cases h
 .unfold A1b at h;obtain⟨_,h⟩:=A3 h;exact bB h
 .exact u7 h
 .exact BP h
 .unfold TK at h;split at h
  .exact u7 h
  .cases h
 .unfold GT at h;split at h
  .obtain⟨h,_⟩:=nY h;exact WI h
  .cases h
 .unfold A1a at h;split at h<;>cases h<;>rfl
 .unfold A4t at h;rename_i op t x y j;cases f:AM op with
  | true=>rw[f]at h;simp only[E6]at h;obtain⟨_,h⟩:=A3 h;exact u7 h
  | false=>rw[f]at h;exact u7 h
 .exact u7 h
 .exact A3V h
 .unfold GU at h;split at h
  .split at h
   .cases h
   .obtain⟨_,h⟩:=A3 h;cases h;rfl
  .cases h
 .cases h;rfl
 .exact CO h
 .exact u7 h
 .exact u7 h
 .exact u7 h
 .exact u7 h
 .exact u7 h
 .unfold lY at h;split at h
  .exact u7 h
  .cases h
 .exact NV h
 .cases h
def I5{m m':Mem}{t:Nat}{op:LOp}(h:U6 m t op xs=some (v,m')):m.lg.le m'.lg:=by
 obtain⟨_,rfl⟩:=jR h;obtain⟨H,n,W,hi,l⟩:=m;exact⟨[_],rfl⟩
def K3(m m':Mem):Prop:=∃ lg,m'=m.wLg lg
def K3.refl(m:Mem):K3 m m:=⟨m.lg,by cases m;rfl⟩
def K3.trans{a b c:Mem}(h:K3 a b)(k:K3 b c):K3 a c:=by
 obtain⟨l,rfl⟩:=h;obtain⟨l2,rfl⟩:=k;exact⟨l2,by cases a;rfl⟩
def I1{m m':Mem}{t:Nat}{op:LOp}(h:U6 m t op xs=some (v,m')):K3 m m':=⟨_,(jR h).2⟩
section
variable {P:Program} {base:Nat} {ρ:Ren} {m m':Mem} {w:World}
def OS{a b:Value}(h:xO m c a b=some (v,m')):m.lg.le m'.lg/\K3 m m':=by
 obtain⟨H,n,W,hi,lg⟩:=m;unfold xO at h;simp only at h;split at h
 .rename_i j f;cases h;exact⟨fU f,⟨_,rfl⟩⟩
 .rename_i j f;cases h;exact⟨fU f,⟨_,rfl⟩⟩
 .cases h
def WG{a b:Value}(h:pI P m op t a b=some (v,m')):m.lg.le m'.lg/\K3 m m':=by
 unfold pI at h;simp only at h;cases h1:(Nat.blt (G8 a) 8 && Nat.blt (G8 b) 8) || (Nat.beq (G8 a) 9 && Nat.beq (G8 b) 9)with
 | true=>rw[h1]at h;exact⟨I5 h,I1 h⟩
 | false =>
   rw[h1]at h;simp only[E0]at h;obtain⟨_,h⟩:=A3 h;exact⟨I5 h,I1 h⟩
def ZG{x y:Operand}{a b:Value}(h:JZ P m op t x y a b=some (v,m')):m.lg.le m'.lg/\K3 m m':=by
 unfold JZ at h;obtain⟨_,h⟩:=A3 h;split at h
 .exact⟨I5 h,I1 h⟩
 .split at h
  .rename_i m1 h1;exact⟨(I5 h1).trans (I5 h),(I1 h1).trans (I1 h)⟩
  .cases h
 .cases h
def JY{i:Value}(h:m9 P m t x i=some (v,m')):m.lg.le m'.lg/\K3 m m':=by
 unfold m9 at h;cases f:!(Nat.blt (G8 i) 8)with
 | true=>rw[f]at h;cases h
 | false =>
   rw[f]at h;simp only[E0]at h;split at h
   .obtain⟨_,h⟩:=A3 h;exact⟨I5 h,I1 h⟩
   .split at h
    .obtain⟨_,h⟩:=A3 h;exact⟨I5 h,I1 h⟩
    .obtain⟨_,h⟩:=A3 h;exact⟨I5 h,I1 h⟩
    .cases h
   .cases h
def JW(h:lN P m t x lo hi mx=some (v,m')):m.lg.le m'.lg/\K3 m m':=by
 unfold lN at h;split at h
 .obtain⟨_,h⟩:=A3 h;split at h
  .cases h;exact⟨.refl _,.refl _⟩
  .obtain⟨_,h⟩:=A3 h;exact⟨I5 h,I1 h⟩
  .obtain⟨_,h⟩:=A3 h;exact⟨I5 h,I1 h⟩
  .obtain⟨_,h⟩:=A3 h;exact⟨I5 h,I1 h⟩
 .cases h
def ZD{op:UnOp}(h:JU m op x=some (v,m')):m.lg.le m'.lg/\K3 m m':=by
 unfold JU at h;simp only at h;split at h
 .obtain⟨_,h⟩:=A3 h;exact⟨I5 h,I1 h⟩
 .obtain⟨_,h⟩:=A3 h;exact⟨I5 h,I1 h⟩
def OW(h:qW P m s t x=some (v,m')):m.lg.le m'.lg/\K3 m m':=by
 unfold qW at h;split at h
 .obtain⟨_,h⟩:=A3 h;exact⟨I5 h,I1 h⟩
 .obtain⟨_,h⟩:=A3 h;cases h;exact⟨.refl _,.refl _⟩
 .cases h
def CI(h:fA P m b vs tys=some (v,m')):m.lg.le m'.lg/\K3 m m':=by
 unfold fA at h;split at h
 .split at h
  .obtain⟨_,h⟩:=A3 h;exact⟨I5 h,I1 h⟩
  .cases h
 .obtain⟨_,h⟩:=A3 h;exact⟨I5 h,I1 h⟩
 .obtain⟨_,h⟩:=A3 h;exact⟨I5 h,I1 h⟩
 .cases h
def UP{s n:Nat}{i:Value}(h:XP m a s n i=some (v,m')):m.lg.le m'.lg/\K3 m m':=by
 unfold XP at h;cases q:!(Nat.blt (G8 i) 8)with
 | true=>rw[q]at h;cases h
 | false =>
   rw[q]at h;simp only[E0]at h;split at h
   .rename_i b H k W hi lg j;split at h
    .rename_i f B;cases h;have h1:=I5 j;obtain⟨l1,A⟩:=I1 j;refine⟨h1.trans (fU B),f,?_⟩;obtain⟨H0,n0,D,C,l0⟩:=m;cases A;rfl
    .cases h
   .cases h
def CE{i:Value}(h:eY P m t x i=some (v,m')):m.lg.le m'.lg/\K3 m m':=by
 unfold eY at h;split at h
 .split at h
  .exact UP h
  .cases h
 .split at h
  .generalize f:Nat.beq _ (N4+2)=q at h;cases q with
   | true=>cases h
   | false=>exact UP h
  .cases h
 .cases h
def CG(h:eZ P m s x i=some (v,m')):m.lg.le m'.lg/\K3 m m':=by
 unfold eZ at h;split at h
 .split at h
  .split at h
   .split at h
    .cases h;exact⟨.refl _,.refl _⟩
    .cases h
   .cases h
  .cases h
 .cases h
def gI{cs:D3}{s n:Nat}{i:Value}:∀ {k o:Nat} {m m':Mem} {r:D3},cZ m cs s n i o k=some (r,m')->m.lg.le m'.lg/\K3 m m'
 | 0,o,m,m',r,h=>by cases h;exact⟨.refl _,.refl _⟩
 | k+1,o,m,m',r,h=>by
   unfold cZ at h;split at h
   .obtain⟨_,h⟩:=A3 h;split at h
    .rename_i m1 h1;split at h
     .rename_i f;cases h
      have:=gI f;exact⟨(I5 h1).trans this.1,(I1 h1).trans this.2⟩
     .cases h
    .cases h
   .cases h
def OU(h:qV P m t x=some (v,m')):m.lg.le m'.lg/\K3 m m':=by
 unfold qV at h;split at h
 .split at h
  .split at h
   .split at h
    .rename_i h1;cases h;exact gI h1
    .cases h
   .cases h
  .split at h
   .split at h
    .rename_i h1;cases h;exact gI h1
    .cases h
   .cases h
  .cases h
 .cases h
def SA{fr:Fr}{o:Op}(h:ZE P fr m o=some (v,m')):m.lg.le m'.lg/\K3 m m':=by
 unfold ZE at h;split at h
 .exact OS h
 .split at h
  .rename_i r hr;cases h;exact WG hr
  .exact ZG h
 .exact ZD h
 .exact OW h
 .exact JW h
 .exact JY h
 .exact CE h
 .exact CG h
 .exact OU h
 .exact CI h
 .cases h
def sJ{j k:IntKind}(h:iR j=iR k):j=k:=by cases j<;>cases k<;>first|rfl|(simp only[iR]at h;omega)
def WF{x y:Operand}{a b:Value}(h:pI P m op t a b=some (v,m'))(F:VR ρ a a')(D:VR ρ b b')(K:Sat m'.lg)(w:World) :
  ∃ r,(do eqGuard op t x y a' b';binOp op t a' b':Sem Value).run P w=.ok r w/\VR ρ v r:=by
 have fin:∀ {r:Value} {p q:Value},yZ p=true->yZ q=true->tN P op t p q=some r->a'=p->b'=q->(do eqGuard op t x y a' b';binOp op t a' b':Sem Value).run P w=.ok r w:=fun{r p q} hp I hr f C=>by
  subst f;subst C;have v1:VR ρ a' a':=.pure (by cases a'<;>simp[yZ]at hp<;>rfl);have v2:VR ρ b' b':=.pure (by cases b'<;>simp[yZ]at I<;>rfl);have g:mM P t x y a' b'=true:=by
   cases a'<;>simp[yZ]at hp<;>cases b'<;>simp[yZ]at I<;>rfl
  have Q:=sV (op:=op) (fun _=>g) v1 v2 w;obtain⟨A,_⟩:=yD hr v1 v2 w;simp[A4,Q,A,Result.andThen]
 unfold pI at h;simp only at h;cases h1:(Nat.blt (G8 a) 8 && Nat.blt (G8 b) 8) || (Nat.beq (G8 a) 9 && Nat.beq (G8 b) 9)with
 | true =>
   rw[h1]at h;obtain⟨u,f,C,r,B,G,O⟩:=N0 h K;have J:G4 u<10:=by rw[C];exact O
   refine⟨r,?_,G ρ⟩;rcases J4 _ _▸h1 with h1|h1
   .obtain⟨H,E⟩:=B8 h1;obtain⟨k,n,rfl,f1,_⟩:=N1 F (A1 H);obtain⟨j,R,rfl,f2,_⟩:=N1 D (A1 E);simp only[C5,G1,f1,f2,evU,evB]at f;subst f;obtain⟨N,g1,g2⟩:=GS J;rw[B]at g2;cases g2;exact fin rfl rfl (by unfold tN;exact g1) rfl rfl
   .obtain⟨H,E⟩:=B8 h1;obtain⟨s1,rfl,f1⟩:=s8 F (A0 H);obtain⟨s2,rfl,f2⟩:=s8 D (A0 E);simp only[C5,G1,f1,f2,evU,evB]at f;subst f;obtain⟨N,g1,g2⟩:=GS J;rw[B]at g2;cases g2;exact fin rfl rfl (by unfold tN;exact g1) rfl rfl
 | false =>
   rw[h1]at h;simp only[E0]at h;obtain⟨A,h⟩:=A3 h;obtain⟨A,M⟩:=B8 A;obtain⟨A,L⟩:=B8 A;obtain⟨A,h3⟩:=B8 A;have hu:P.underlying t=some .bool:=by
    split at M
    .assumption
    .cases M
   obtain⟨u,f,C,r,B,G,_⟩:=N0 h K;refine⟨r,?_,G ρ⟩;obtain⟨p,rfl,f1⟩:=iI F (A0 A);obtain⟨q,rfl,f2⟩:=iI D (A0 h3);simp only[C5,G1,f1,f2,evU,evB]at f;cases op<;>simp only[AM]at L<;>first
    | cases L
    | skip
   .subst f;cases B;exact fin rfl rfl (by simp[tN,DR,eqM,hu]) rfl rfl
   .subst f;cases B;exact fin rfl rfl (by simp[tN,DR,eqM,hu]) rfl rfl
def wN(e:Bool)(f:∃ cs,a'=.agg cs):binOp (bif e then .eql else .neq) t a' b'=(do let r <- Op.equal t a' b';pure (.bool (bif e then r else !r))):=by
 obtain⟨cs,rfl⟩:=f;cases e<;>cases b'<;>rfl
def ZF{x y:Operand}{a b:Value}(h:JZ P m op t x y a b=some (v,m'))(E:VR ρ a a')(K:VR ρ b b')(j:pI P m op t a b=none)(N:Sat m'.lg)(w:World) :
  ∃ r,(do eqGuard op t x y a' b';binOp op t a' b':Sem Value).run P w=.ok r w/\VR ρ v r:=by
 unfold JZ at h;obtain⟨U,h⟩:=A3 h;have G:=sV (op:=op) (fun _=>U) E K w;have q:∀ {l},eqS P 20 t a b=some l->(op=.eql∨op=.neq)->∃ cs,a'=.agg cs:=fun{l} f O=>by
  unfold eqS at f;cases A:fN P t a b with
  | true =>
    unfold fN at A;unfold pI at j;simp only at j;split at A
    .rename_i hu;obtain⟨F,C⟩:=B8 A;rw[A0 F,A0 C,hu]at j;obtain⟨H,n,W,hi,⟨nx,pi,log⟩⟩:=m;rcases O with rfl|rfl<;>simp[AM,U6,E9,I8]at j
    .rename_i k hu;obtain⟨F,C⟩:=B8 A;have S:=M4 k;have T:Nat.blt (iR k) 8=true:=C7 S;rw[A0 F,A0 C,T]at j;obtain⟨H,n,W,hi,⟨nx,pi,log⟩⟩:=m;simp[U6,E9,I8]at j
    .obtain⟨F,C⟩:=B8 A;rw[A0 F,A0 C]at j;obtain⟨H,n,W,hi,⟨nx,pi,log⟩⟩:=m;simp[U6,E9,I8]at j
    .cases A
  | false =>
    rw[A]at f;simp only[E0]at f;split at f
    .obtain⟨cs',rfl,_⟩:=W7 E;exact⟨_,rfl⟩
    .obtain⟨cs',rfl,_⟩:=W7 E;exact⟨_,rfl⟩
    .cases f
 split at h
 .rename_i l f _;obtain⟨u,B,R,r,I,M,_⟩:=N0 h N;refine⟨r,?_,M ρ⟩;simp only[evU]at B;split at B
  .rename_i z Q;subst B;cases I;have he:(Op.equal t a' b').run P w=.ok z w:=QZ 20 t a b a' b' l z f Q E K _ E3 w;have D:=wN (t:=t) (b':=b') true (q f (.inl rfl));simp only[E6]at D;rw[D];simp[A4,G,he,Result.andThen]
  .subst B;cases I
 .rename_i l f _;split at h
  .rename_i hh m1 h1;have J:Sat m1.lg:=S3.le N (I5 h);obtain⟨V,f1,f2,r1,f3,f4,_⟩:=N0 h1 J;obtain⟨u,B,R,r,I,M,_⟩:=N0 h N;refine⟨r,?_,M ρ⟩;simp only[evU]at f1;split at f1
   .rename_i z Q;subst f1;cases f3;have hv:=aV (ρ:=ρ) (f4 ρ) (by obtain⟨e,_⟩:=jR h1;rw[e];show 8<10;omega);have:D9 Ora.env hh=.bool z:=by
     cases hu:D9 Ora.env hh<;>rw[hu]at hv<;>first|(cases hv.1;done)|skip
     all_goals (obtain⟨L,_⟩:=hv;cases L;rfl)
    simp only[C5,G1,this,evU,ev1,unM,ofV]at B;subst B;cases I;have he:(Op.equal t a' b').run P w=.ok z w:=QZ 20 t a b a' b' l z f Q E K _ E3 w;have D:=wN (t:=t) (b':=b') false (q f (.inr rfl));simp only[E0]at D;rw[D];simp[A4,G,he,Result.andThen]
   .subst f1;cases f3
  .cases h
 .cases h
end
end
end Go.Sx
