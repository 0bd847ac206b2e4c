import Derived.Test.YtjdnjfnhdeplfaaX1
import Derived.Laws.BytesString
set_option linter.all false
set_option maxRecDepth 100000
set_option maxHeartbeats 4000000
namespace Go.Sx
open Go
variable {e pt s t t2 ty:TypeId}{k:Nat->Value}{a' b' c c' p p' u v v' x x' y y' z:Value}{new new' old' vs vs' xs:D0}{d d2:TypeDesc}{a:Addr}{inf:TypeInfo}{ab':AB}{l l':Loc}{r:R3}{i:Nat}{op:BinOp}{tys:List TypeId}{b:Builtin}{hi lo mx o:O8}{g:Operand->Value}
section
open Go
variable [Ora]
def HP(a b:Nat)(h:b<a):Builtin.nextslicecap a b<=3*a+4000:=by
 have grow:∀ r c,Builtin.growBy a r c<=max (c) (2*a+800):=by
  intro r;induction r with
  | zero=>intro c;simp only[Builtin.growBy];exact Nat.le_max_left _ _
  | succ r f =>
    intro c;simp only[Builtin.growBy];split
    .exact Nat.le_max_left _ _
    .have:=f (c+(c+768) / 4);refine B8 this ?_;rw[Nat.max_le];constructor
     .refine B8 ?_ (Nat.le_max_right _ _);omega
     .exact Nat.le_max_right _ _
 unfold Builtin.nextslicecap;split
 .omega
 .split
  .omega
  .have:=grow 4 b;refine B8 this ?_;rw[Nat.max_le];omega
section
variable {P:Program} {base:Nat} {ρ:Ren} {m m':Mem} {w:World}
def y9{w wd:World}(h:wd.heap=w.heap)(a:Addr):wd.cell? a=w.cell? a:=by simp[World.cell?,h]
def rT(ρ:Ren):∀ l:List UInt8,LR ρ (N3 l) (N3 l)
 | []=>.nil
 | b::r=>.cons (.pure rfl) (rT ρ r)
def qP{s k:Nat}(h:HR P base ρ m.H w)(f:cN m s y=some (k,new))(B:VR ρ y y') :
  (∀ wd,(Builtin.lenOf y').run P wd=.ok k wd)/\∃ new',LR ρ new new'/\∀ wd:World,wd.heap=w.heap->(Builtin.firstCells s k y').run P wd=.ok ⟨new'⟩ wd:=by
 unfold cN at f;split at f
 .rename_i n c;obtain⟨h1,q⟩:=A2 f;have h1:=A0 h1;subst h1;cases q;cases N9 B;exact⟨fun _=>rfl,[],.nil,fun _ _=>rfl⟩
 .rename_i a n c;split at f
  .rename_i cs hr;cases f;rcases M9 B with⟨l,C,_,_,rfl⟩|⟨l,c',C,_,_,_,_,rfl⟩|⟨a',c',_,rfl,_,rfl⟩
   .obtain⟨A,h1,q,h3⟩:=Y9 h hr C;exact⟨fun _=>rfl,A,h1,fun wd hw=>J0 q fun j v D=>by rw[y9 hw];exact h3 j v D⟩
   .obtain⟨A,h1,q,h3⟩:=Y9 h hr C;exact⟨fun _=>rfl,A,h1,fun wd hw=>J0 q fun j v D=>by rw[y9 hw];exact h3 j v D⟩
   .have:new=[]:=by
     unfold n9 at hr;split at hr
     .have:=(gA hr).2;simp at this;exact this
     .cases hr
    subst this;refine⟨fun _=>rfl,[],.nil,fun wd _=>?_⟩;simp[Builtin.firstCells,loadCells,loadCellsFrom]
  .cases f
 .rename_i b;obtain⟨_,f⟩:=A2 f;cases f;cases S3 B;refine⟨fun _=>rfl,N3 b.data.toList,?_,fun wd _=>?_⟩
  .exact rT _ _
  .have e:((b.extract 0 b.size).data.map fun b=>Value.int .u8 b.toNat)=⟨N3 b.data.toList⟩:=by
    apply I1;simp[N3]
   show(pure ((b.extract 0 b.size).data.map fun b=>Value.int .u8 b.toNat):Sem R3).run P wd=_;rw[e];rfl
 .cases f
def A1H(h:bF d=true):(∃ e,d=.slice e)∨d=.string:=by cases d<;>first|cases h;done|exact .inl ⟨_,rfl⟩|exact .inr rfl
def eO{n k c:Nat}{a:Option Addr}(hu:P.underlying t=some (.slice e))(D:P.underlying t2=some d2)(E:bF d2=true)
  (hi:P.info? e=some inf) (I:∀ w,(zeroValue e).run P w=.ok z w) (hlen:∀ wd,(Builtin.lenOf x').run P wd=.ok k wd)
  (hold:∀ wd:World,wd.heap=w.heap->(Builtin.firstCells inf.size n (.slice a n c)).run P wd=.ok ⟨old'⟩ wd) (j:∀ wd:World,wd.heap=w.heap->(Builtin.firstCells inf.size k x').run P wd=.ok ⟨new'⟩ wd)
  (C:¬ n+k<=c) (J:(3*(n+k)+4000)*inf.bytes<=281474976710656) (hm:n+k<=1000000000) :
  ∃ nc,n+k<=nc/\(Builtin.append_ #[t,t2] ty #[.slice a n c,x']).run P w=.ok (.slice (some ⟨w.heap.size,0,none⟩) (n+k) nc) { w.drew with heap:=w.heap.push (.cells (⟨old'⟩++⟨new'⟩++Builtin.zeroCells z.cells (nc-(n+k))) e (0,0)) }:=by
 have H:G3 P e=some inf.size:=by simp[G3,hi]
 have A:Builtin.nextslicecap (n+k) c*inf.bytes<=281474976710656:=by
  have:=E7 inf.bytes (HP (n+k) c A6);omega
 let q:Question:=.appendCap (n+k) c e
 let nc:=q.cut (w.tape w.drawn q)
 have F:n+k<=nc:=by show n+k<=(n+k)+_;omega
 refine⟨nc,F,?_⟩;have B:(choose q).run P w=.ok nc w.drew:=by
  simp only[choose,Sem.run];rw[B0 (by simp[q,Question.forced])];rfl
 have f:∀ k w,(askRoom k).run P w=.ok () w:=fun k w=>by unfold askRoom;split<;>rfl
 unfold Builtin.append_;rcases A1H E with⟨K,rfl⟩|rfl
 all_goals simp only[I6,P1,P2,A4,C8 hu,C8 D,Result.andThen,J5 H,Sem.run_pure,G4,if_false,hlen]
 all_goals
  have h:¬ (((n+k:Nat):Int)>IntKind.i64.max):=by simp[IntKind.max,IntKind.bits,IntKind.signed];omega
  simp only[B0 C,h,false_and,if_false,A4,Result.andThen,T4 hi];rw[B0 (show ¬ (Builtin.nextslicecap (n+k) c*inf.bytes>2 ^ 48) by simpa using A)];have G:w.drew.heap=w.heap:=rfl;simp only[A4,Sem.run_pure,Result.andThen,show(choose (.appendCap (n+k) c e)).run P w=.ok nc w.drew from B,f,hold _ G,j _ G,I,T4 hi,jU,if_true];rfl
def jZ{n k c:Nat}{w':World}(hu:P.underlying t=some (.slice e))(j:P.underlying t2=some d2)(q:bF d2=true)
  (hi:P.info? e=some inf) (hlen:∀ wd,(Builtin.lenOf x').run P wd=.ok k wd) (f:(Builtin.firstCells inf.size k x').run P w=.ok ⟨new'⟩ w)
  (hle:n+k<=c) (h:(storeCells (a.add (n*inf.size)) new').run P w=.ok () w') :
  (Builtin.append_ #[t,t2] ty #[.slice (some a) n c,x']).run P w=.ok (.slice (some a) (n+k) c) w':=by
 have A:G3 P e=some inf.size:=by simp[G3,hi]
 unfold Builtin.append_;rcases A1H q with⟨B,rfl⟩|rfl
 all_goals simp only[I6,P1,P2,A4,C8 hu,C8 j,Result.andThen,J5 A,Sem.run_pure,G4,if_false,hlen]
 all_goals simp[B2 hle,A4,f,Result.andThen,h]
def qH(hu:P.underlying t=some (.slice e))(j:P.underlying t2=some d2)(n:bF d2=true)
  (hi:P.info? e=some inf) (hlen:∀ wd,(Builtin.lenOf x').run P wd=.ok 0 wd) (f:(Builtin.firstCells inf.size 0 x').run P w=.ok #[] w) :
  (Builtin.append_ #[t,t2] ty #[.slice none 0 0,x']).run P w=.ok (.slice none 0 0) w:=by
 have q:G3 P e=some inf.size:=by simp[G3,hi]
 unfold Builtin.append_;rcases A1H n with⟨h,rfl⟩|rfl
 all_goals simp only[I6,P1,P2,A4,C8 hu,C8 j,Result.andThen,J5 q,Sem.run_pure,G4,if_false,hlen]
 all_goals simp[A4,f,Result.andThen]
def St.kill{ab:AB}{id:Nat}(h:HR P base ρ m.H w)(hle:id<=G9)(D:Hp.get m.H id=some ab)(B:ab.rw=true):St P base ρ ρ m (gN m id) w w:=by
 rw[g7];refine⟨fun _ _ h=>h,fun b k h1 A=>(by rw[h1]at A;cases A),A7 _,A7 _,fun h=>h,h.sub fun j f a n=>?_,fun b J=>C5 _ J,fun b h1 A k C=>?_,fun k C I=>rfl,A7 _,⟨rfl,rfl,rfl⟩,fun b k h1 A=>(by rw[h1]at A;cases A),fun j f F K=>?_,fun k ⟨j,a,q,f,n,G,E⟩=>.inr ⟨j,a,q,f,?_,G,E⟩⟩
 .rw[E9 _ _ _ _ hle f]at n;by_cases e:j=id
  .rw[B2 e]at n;cases n
  .rw[B0 e]at n;exact n
 .rcases A8.1 h1 with rfl|h1
  .exact⟨ab,D,B⟩
  .exact absurd h1 A
 .rw[E9 _ _ _ _ hle f,B0];intro e;subst e;exact F B5
 .have n:Hp.get (m.H.set id none) j=some a:=n;rw[E9 _ _ _ _ hle f]at n;by_cases e:j=id
  .rw[B2 e]at n;cases n
  .rw[B0 e]at n;exact n
def St.grow{ab:AB}{id:Nat}{w':World}(h:HR P base ρ m.H w)(hle:id<=G9)(Y:Hp.get m.H id=some ab)(E:ab.rw=true)(U:ρ id=some l)(D:l.on=true)
  (hn:Y0 (gN m id) ab' k=some (v,m')) (hf:I8 ρ m.n m'.hi)
  (ho:w'.os=w.os/\w'.tape=w.tape/\w'.output=w.output) (ay:w'.heap.size=w.heap.size) (hk:∀ k,k≠l.blk->w'.heap[k]? = w.heap[k]?) (hb:BR P (upd ρ m.n l) ab' l w') (az:ab'≠.frz:=by intro h;cases h) :
  v=k m.n/\St P base ρ (upd ρ m.n l) m m' w w':=by
 rw[g7]at hn;obtain⟨R,hv,rfl⟩:=K5 hn;have B:ρ m.n=none:=hf m.n (A7 _) (J7 _ _).2;have C:=V1 (l:=l) B;obtain⟨O,h3⟩:=h.atl U Y;have V:∀ k,Tc ab' l k->k=l.blk:=fun k hk=>by
  rcases hk with⟨_,_,rfl⟩|⟨rfl,_⟩
  .rfl
  .exact absurd rfl az
 have ax:id≠m.n:=fun e=>by subst e;rw[U]at B;cases B
 have A:∀ i,i<=G9->Hp.get ((m.H.set id none).set m.n (some ab')) i=if i=m.n then some ab' else if i=id then none else Hp.get m.H i:=fun i hi=>by
  rw[E9 _ _ _ _ R hi,E9 _ _ _ _ hle hi]
 refine⟨hv,C,fun b q h1 O=>?_,Y4 _,(J7 _ _).1,fun _=>X3 (J7 _ _).2,⟨fun b q F=>?_,fun i hi a f=>?_⟩,fun b hb=>C5 _ hb,fun b h1 O q F=>?_,fun q F Z=>hk q ?_,by rw[ay];exact A7 _,ho,fun b q h1 O _=>?_,fun i hi h4 Q=>?_,fun k ⟨i,a,q,hi,f,F,ht⟩=>.inr ?_⟩
 .obtain⟨rfl,rfl⟩:=S0 h1 O;exact⟨A7 _,H9 _⟩
 .cases h0:ρ b with
  | some q0 =>
    rw[C b q0 h0]at F
    have:=A5 F;subst this;exact h.dom b q0 h0
  | none=>obtain⟨rfl,rfl⟩:=S0 F h0;exact R
 .have f:Hp.get ((m.H.set id none).set m.n (some ab')) i=some a:=f;rw[A i hi]at f;have T:∀ j,j<=G9->∀ J l2,Hp.get ((m.H.set id none).set m.n (some ab')) j=some J->upd ρ m.n l j=some l2->Tc J l2 l.blk->j=m.n:=fun j L J l2 g1 g2 g3=>by
   rw[A j L]at g1;by_cases e2:j=m.n
   .exact e2
   .rw[B0 e2]at g1;unfold upd at g2;rw[B0 e2]at g2;by_cases I:j=id
    .rw[B2 I]at g1;cases g1
    .rw[B0 I]at g1;exact absurd ((h3 E D).2 j L J l2 g1 g2 g3) I
  by_cases e:i=m.n
  .rw[B2 e]at f;have f:=A5 f;subst f;subst e;exact⟨l,K7 _ _ _,hb,fun _ _=>⟨(h3 E D).1,T⟩⟩
  .rw[B0 e]at f;by_cases I:i=id
   .rw[B2 I]at f;cases f
   .rw[B0 I]at f;obtain⟨l2,g1,g2,g3⟩:=h.at_ i hi a f;have W:∀ k,Tc a l2 k->k≠l.blk:=fun k N hh=>I ((h3 E D).2 i hi a l2 f g1 (hh▸N))
    refine⟨l2,C _ _ g1,g2.mono C (fun k N=>hk _ (W k N)),fun hr M=>⟨(g3 hr M).1,fun G K S l3 f1 f2 f3=>?_⟩⟩;have f1:Hp.get ((m.H.set id none).set m.n (some ab')) G=some S:=f1;rw[A G K]at f1;by_cases e4:G=m.n
    .subst e4;rw[K7]at f2
     have:=A5 f2;subst this;rw[B2 rfl]at f1;have f1:=A5 f1;subst f1;exact absurd (V _ f3) (W _ (.inl ⟨AB.rw_on hr,M,rfl⟩))
    .rw[B0 e4]at f1;unfold upd at f2;rw[B0 e4]at f2;by_cases e5:G=id
     .rw[B2 e5]at f1;cases f1
     .rw[B0 e5]at f1;exact(g3 hr M).2 G K S l3 f1 f2 f3
 .rcases A8.1 h1 with rfl|h1
  .exact⟨ab,Y,E⟩
  .exact absurd h1 O
 .exact fun e=>Z id B5 l U D e.symm
 .obtain⟨rfl,rfl⟩:=S0 h1 O;exact .inr ⟨id,B5,q,U,D,rfl⟩
 .have X:=A i hi;show Hp.get ((m.H.set id none).set m.n (some ab')) i=_;rw[X,B0,B0]
  .intro e;subst e;exact h4 B5
  .intro e;subst e;rcases Q with Q|Q
   .omega
   .have Q:upN m.hi m.n<=m.n:=Q
    have:=(J7 m.hi m.n).2;omega
 .have f:Hp.get ((m.H.set id none).set m.n (some ab')) i=some a:=f;rw[A i hi]at f;by_cases e:i=m.n
  .rw[B2 e]at f;have f:=A5 f;subst f;subst e;rw[K7]at F;have F:=A5 F;subst F;exact⟨id,ab,l,hle,Y,U,AB.rw_fr E,.inl ⟨AB.rw_on E,D,(V k ht.2).symm⟩⟩
  .rw[B0 e]at f;unfold upd at F;rw[B0 e]at F;by_cases I:i=id
   .rw[B2 I]at f;cases f
   .rw[B0 I]at f;exact⟨i,a,q,hi,f,F,ht⟩
def AD{s k:Nat}(h:HR P base ρ m.H w)(f:cN m s y=some (k,new))(j:z.cells.size=s):new.length=k*s:=by
 unfold cN at f;split at f
 .obtain⟨_,q⟩:=A2 f;cases q;simp
 .split at f
  .rename_i cs hr;cases f;unfold n9 at hr;split at hr
   .exact(gA hr).2
   .cases hr
  .cases f
 .rename_i b;obtain⟨q1,f⟩:=A2 f;have q1:=A0 q1;subst q1;cases f;simp[N3]
 .cases f
def ET(h:new'[i]? = some u):(({ toList:=[] }:Array Value)++⟨new'⟩++r)[i]? = some u:=by
 have f:=(A9.1 h).1;rw[J3 (by simp;exact f)]
 simpa using h
def bY(h:(old'++new')[i]? = some u):(({ toList:=old' }:Array Value)++⟨new'⟩++r)[i]? = some u:=by
 have f:=(A9.1 h).1;rw[J3 (by simpa using f)]
 simpa using h
def bX{s k n nc:Nat}(h1:new'.length=k*s)(f:n+k<=nc)(q:z.cells.size=s)(j:old'.length=n*s) :
  nc*s<=(({ toList:=old' }:Array Value)++⟨new'⟩++Builtin.zeroCells z.cells (nc-(n+k))).size:=by
 simp[Builtin.zeroCells,j,h1,q];rw[<- G8,<- G8];exact E7 _ A6
def IQ(h:HR P base ρ m.H w)(hb:base<=w.heap.size)(f:oK P m t t2 x y=some (v,m'))(Z:I8 ρ m.n m'.hi)(V:VR ρ x x')(hy:VR ρ y y') :
  VOk P base ρ m w (Builtin.append_ #[t,t2] ty #[x',y']) v m':=by
 unfold oK at f;split at f
 .rename_i e d2 hu G;cases D:bF d2 with
  | false=>rw[D]at f;cases f
  | true =>
  rw[D]at f;simp only[O7,D4]at f;split at f
  .rename_i inf a n c hi;split at f
   .rename_i k new z S hz;obtain⟨g1,f⟩:=A2 f;obtain⟨g1,g4⟩:=B6 g1;obtain⟨g1,g3⟩:=B6 g1;obtain⟨g1,g2⟩:=B6 g1;have g1:=A1 g1;have g2:=A1 g2;have g3:=A0 g3;obtain⟨hlen,new',E,F⟩:=qP h S hy;have W:∀ w,(zeroValue e).run P w=.ok z w:=fun w=>s9 hz w
    have N:new'.length=k*inf.size:=by rw[<- E.1];exact AD h S g3
    have an:L7=9223372036854775808:=rfl;cases hk:Nat.beq k 0 with
    | true =>
      have hk:=A0 hk;subst hk;have ar:Nat.beq 0 0=true:=rfl;simp only[ar,D9]at f;have au:new'=[]:=D2.1 (by rw[N];simp);subst au;cases a with
      | none =>
        simp only at f;obtain⟨q1,f⟩:=A2 f;obtain⟨q1,q2⟩:=B6 q1;have q1:=A0 q1;have q2:=A0 q2;subst q1;subst q2;cases f;cases N9 V;exact VOk.same h (qH hu G D hi hlen (F w rfl)) (.pure rfl)
      | some Q =>
        simp only at f;obtain⟨q1,f⟩:=A2 f;obtain⟨q1,q2⟩:=B6 q1;have q1:=A1 q1;have q2:=A1 q2;cases f;rcases M9 V with⟨l,R,M,hc,rfl⟩|⟨l,c',R,M,hc,hn,B,rfl⟩|⟨a',c',_,_,he,_⟩
        .exact VOk.same h (jZ hu G D hi hlen (F w rfl) A6 rfl) (by simpa using V)
        .exact VOk.same h (jZ hu G D hi hlen (F w rfl) A6 rfl) (by simpa using V)
        .omega
    | false =>
      have ai:k≠0:=fun e=>by subst e;cases hk
      simp only[hk,D4]at f;cases a with
      | none =>
        simp only at f;obtain⟨q1,f⟩:=A2 f;obtain⟨q1,q2⟩:=B6 q1;have q1:=A0 q1;have q2:=A0 q2;subst q1;subst q2;rw[H5]at f;cases N9 V;obtain⟨nc,L,hr⟩:=eO (ty:=ty) (c:=0) (a:=none) (old':=[]) hu G D hi W hlen (fun _ _=>rfl) F A6 g1 g2;have aq:∀ A,P.info? e=some A->nc*A.size<=(({ toList:=[] }:Array Value)++⟨new'⟩++Builtin.zeroCells z.cells (nc-(0+k))).size:=fun A K=>by
         rw[hi]at K;cases K;exact bX N L g3 (by simp)
        obtain⟨Y,e2,U⟩:=bU (wd:=w.drew) (fz:=(0,0)) (cap:=nc) h hb f Z E (fun i u hi=>by
         show(({ toList:=[] }:Array Value)++⟨new'⟩++Builtin.zeroCells z.cells (nc-(0+k)))[i]? = some u;exact ET hi) NF.zero aq ⟨rfl,rfl,rfl⟩ rfl
        refine⟨_,_,_,hr,?_,U⟩;rw[Y,E1]
        have:=VR.op (ρ:=upd ρ m.n (lc w.heap.size 0 nc)) (b:=m.n) (o:=0) (n:=k) (m:=L7) (m':=nc) e2 (A7 _) A6 (fun _ _=>rfl)
        simpa using this
      | some Q =>
        simp only at f;cases X:Nat.blt c L7 with
        | true =>
          have ak:c<L7:=A1 X;simp only[X,D9]at f;rcases M9 V with⟨l,R,M,hc,rfl⟩|⟨l,c',R,M,hc,hn,B,rfl⟩|⟨a',c',_,_,he,_⟩
          .cases q:Nat.ble (n+k) c with
           | true =>
             have I:=A1 q;simp only[q,D9]at f;split at f
             .rename_i m2 hw;cases f;rw[bP]at hw;obtain⟨w',h1,K⟩:=mH h hw R E;refine⟨_,ρ,w',jZ hu G D hi hlen (F w rfl) I ?_,?_,K⟩
              .rw[W5,show Q.off+l.sh+n*inf.size=Q.off+n*inf.size+l.sh by omega];exact h1
              .obtain⟨ab,ao,aj⟩:=Q;simp only at M;subst M;exact .sl R hc
             .cases f
           | false =>
             have I:¬ n+k<=c:=fun hle=>by rw[show Nat.ble (n+k) c=true from C6 hle]at q;cases q
             simp only[q,D4]at f;split at f
             .rename_i old hold;rw[H5]at f;obtain⟨old',o1,o2,o3⟩:=Y9 h hold R;have J:∀ wd:World,wd.heap=w.heap->(Builtin.firstCells inf.size n (.slice (some ⟨l.blk,Q.off+l.sh,none⟩) n c)).run P wd=.ok ⟨old'⟩ wd:=fun wd hw=>J0 o2 fun j u hj=>by rw[y9 hw];exact o3 j u hj
              obtain⟨nc,L,hr⟩:=eO (ty:=ty) hu G D hi W hlen J F I g1 g2;obtain⟨Y,e2,U⟩:=bU (wd:=w.drew) (fz:=(0,0)) (cap:=nc) (C:=⟨old'⟩++⟨new'⟩++Builtin.zeroCells z.cells (nc-(n+k))) h hb f Z (o1.append E) (fun i u hi=>bY hi) NF.zero
               (fun A K=>by rw[hi]at K;cases K;exact bX N L g3 o2) ⟨rfl,rfl,rfl⟩ rfl
              refine⟨_,_,_,hr,?_,U⟩;rw[Y]
              have:=VR.op (ρ:=upd ρ m.n (lc w.heap.size 0 nc)) (b:=m.n) (o:=0) (n:=n+k) (m:=L7) (m':=nc) e2 (A7 _) L (fun _ _=>rfl)
              simpa using this
             .cases f
          .omega
          .omega
        | false =>
          simp only[X,D4]at f;obtain⟨q0,ax⟩:=A2 f;clear f;have f:=ax;clear ax;obtain⟨q1,q2⟩:=B6 q0;replace q1:=A0 q1;replace q2:=A0 q2;clear q0;split at f
          .rename_i cs T M hg;obtain⟨p1,f⟩:=A2 f;rw[H4,H4,H4]at p1;obtain⟨⟨⟨p1,p2⟩,p3⟩,p4⟩:=p1;have p1:=A0 p1;have p2:=A0 p2;have p3:=A1 p3;have p4:Q.block<m.n:=A1 p4;subst p2;rw[H5]at f;rcases M9 V with⟨_,_,_,hc,_⟩|⟨l,c',R,_,_,hn,B,rfl⟩|⟨a',c',_,_,he,_⟩
           .omega
           .have B:=B q1 q2;obtain⟨⟨az,C,fz,T',z2,z3,z4⟩,z5⟩:=h.atl R hg;obtain⟨rfl,z6,z7⟩:=z4 rfl;have z8:=(z7 inf hi).2;have z7:=(z7 inf hi).1;by_cases q:n+k<=c'
            ·
             have ay:(n+k)*inf.size<=c'*inf.size:=E7 _ q;rw[G8]at ay;obtain⟨w',r1,r2,r3,r4,r5⟩:=X7 (P:=P) (b:=l.blk) (o:=n*inf.size+l.sh) (fz:=fz) new' 0 C w z2 (AS E g4) (by rw[N];subst B;omega) z6;obtain⟨Y,U⟩:=St.grow (w':=w') (l:=l) h p3 hg rfl R az f Z r2 r3 r5 (by
              have O:ρ m.n=none:=by
               rw[g7]at f;obtain⟨_,_,rfl⟩:=K5 f;exact Z m.n (A7 _) (J7 _ _).2
              refine⟨az,_,fz,_,r4,fun i u hi=>?_,fun _=>⟨rfl,z6.sz (by simp[X9]),fun A K=>⟨by simpa [X9]using(by rw[hi]at K;cases K;exact z7:l.sh+l.cap*A.size<=C.size),by rw[hi]at K;cases K;exact z8⟩⟩⟩;show ∃ u',(Array.mk (aO C.toList (n*inf.size+l.sh+0) new'))[l.sh+i]? = some u'/\_;have ag:C.toList.length=C.size:=by simp
              rw[I6,iL _ _ _ _ (by rw[N];subst B;omega)];by_cases av:i<cs.length
              .rw[E8 av]at hi;rw[B0 A6];obtain⟨u',y1,y2⟩:=z3 i u hi;exact⟨u',by simpa using y1,y2.mono (V1 O)⟩
              .rw[D6 A6]at hi;have ah:=(A9.1 hi).1;have al:=E.1;rw[B2 A6];obtain⟨u',y1,y2⟩:=E.get hi;exact⟨u',by rw[show l.sh+i-(n*inf.size+l.sh+0)=i-cs.length by omega];exact y1,y2.mono (V1 O)⟩)
             refine⟨_,_,w',jZ (ty:=ty) hu G D hi hlen (F w rfl) q ?_,?_,U⟩
             .rw[W5,q2,show 0+l.sh+n*inf.size=n*inf.size+l.sh by omega];exact r1
             .rw[Y,q2];exact .op (K7 _ _ _) (A7 _) q (fun _ _=>B)
            ·
             have st1:=St.kill h p3 hg rfl;have aw:I8 ρ (gN m Q.block).n m'.hi:=by rw[g7];exact Z
             obtain⟨old',o1,o2⟩:=o7 (ρ:=ρ) (C:=C) (cs:=cs) (s:=l.sh) z3;have oL:old'.length=n*inf.size:=by rw[<- o1.1];exact p1
             have J:∀ wd:World,wd.heap=w.heap->(Builtin.firstCells inf.size n (.slice (some ⟨l.blk,Q.off+l.sh,none⟩) n c')).run P wd=.ok ⟨old'⟩ wd:=fun wd hw=>J0 oL fun j u hj=>by
              rw[y9 hw,q2]
              have:=o2 j u hj;simp[World.cell?,z2,this]
             obtain⟨nc,L,hr⟩:=eO (ty:=ty) hu G D hi W hlen J F q g1 g2;obtain⟨Y,e2,U⟩:=bU (wd:=w.drew) (fz:=(0,0)) (cap:=nc) (C:=⟨old'⟩++⟨new'⟩++Builtin.zeroCells z.cells (nc-(n+k))) st1.hr hb f aw (o1.append E) (fun i u hi=>bY hi) NF.zero
              (fun A K=>by rw[hi]at K;cases K;exact bX N L g3 oL) ⟨rfl,rfl,rfl⟩ rfl
             refine⟨_,_,_,hr,?_,St.trans Z st1 U⟩;rw[Y]
             have:=VR.op (ρ:=upd ρ (gN m Q.block).n (lc w.heap.size 0 nc)) (b:=(gN m Q.block).n) (o:=0) (n:=n+k) (m:=L7) (m':=nc) e2 (A7 _) L (fun _ _=>rfl)
             simpa using this
           .omega
          .cases f
   .cases f
  .cases f
 .cases f
end
end
section
open Go
variable [Ora]
section
variable {P:Program} {base:Nat} {ρ:Ren} {m m':Mem} {w:World}
def GH{op:UnOp}(h:unM op x=some v)(f:VR ρ x x')(w:World):(Op.unary op x').run P w=.ok v w/\H8 v=true:=by
 unfold unM at h;split at h
 .cases I2 f;cases h;exact⟨by simp[Op.unary,Op.intArith,cO],by simp[cO,H8]⟩
 .cases I2 f;obtain⟨h1,j⟩:=v8 (P:=P) h w;exact⟨by simpa [Op.unary]using h1,j⟩
 .cases aR f;cases h;exact⟨rfl,rfl⟩
 .cases h
def ZH(f:A19 P t x=some v)(j:VR ρ x x')(w:World):(Builtin.cap_ ⟨t::tys⟩ ty #[x']).run P w=.ok v w/\H8 v=true:=by
 unfold A19 at f;split at f
 .rename_i hu;cases N9 j;cases f;exact⟨by simp[Builtin.cap_,A4,C8 hu,Result.andThen,goInt],rfl⟩
 .rename_i hu;obtain⟨n,f⟩:=A2 f;have n:_<L7:=A1 n;cases f;rcases M9 j with⟨l,_,_,_,rfl⟩|⟨l,c',_,_,_,_,_,rfl⟩|⟨a',c',_,_,he,_⟩
  .exact⟨by simp[Builtin.cap_,A4,C8 hu,Result.andThen,goInt],rfl⟩
  .omega
  .omega
 .cases f
def KM(h:HR P base ρ m.H w)(f:SI P m t x=some v)(q:VR ρ x x'):(Builtin.len_ ⟨t::tys⟩ ty #[x']).run P w=.ok v w/\H8 v=true:=by
 unfold SI at f;split at f
 .rename_i hu;cases S3 q;cases f;refine⟨?_,rfl⟩;simp[Builtin.len_,A4,C8 hu,Result.andThen,goInt]
 .rename_i hu;cases f;refine⟨?_,rfl⟩;simp[Builtin.len_,A4,C8 hu,Result.andThen,goInt]
 .rename_i n c hu;cases f;refine⟨?_,rfl⟩;have j:∃ a' c',x'=.slice a' n c':=by
   cases q with
   | pure _=>exact⟨_,_,rfl⟩
   | sl _ _=>exact⟨_,_,rfl⟩
   | op _ _ _ _=>exact⟨_,_,rfl⟩
   | opE _=>exact⟨_,_,rfl⟩
  obtain⟨a',c',rfl⟩:=j;simp[Builtin.len_,A4,C8 hu,Result.andThen,goInt]
 .rename_i hu;cases q with|pure _=>?_
  cases f;refine⟨?_,rfl⟩;simp[Builtin.len_,A4,C8 hu,Result.andThen,goInt]
 .cases f
def KG{tys:Array TypeId}(f:A1e vs=some v)(q:LR ρ vs vs')(w:World):(Builtin.max_ tys ty ⟨vs'⟩).run P w=.ok v w/\H8 v=true:=by
 unfold A1e at f;split at f
 .obtain⟨a',r1,rfl,h1,j⟩:=q.tail;obtain⟨b',r2,rfl,h3,n⟩:=j.tail;cases n.nil_inv;cases I2 h1;cases I2 h3;cases f;exact⟨by simp[Builtin.max_,Builtin.max2],rfl⟩
 .obtain⟨a',r1,rfl,h1,j⟩:=q.tail;obtain⟨b',r2,rfl,h3,n⟩:=j.tail;obtain⟨c',B,rfl,h,A⟩:=n.tail;cases A.nil_inv;rw[pO]at f;cases I2 h1;cases I2 h3;cases I2 h;cases f;exact⟨by simp[Builtin.max_,Builtin.max2],rfl⟩
 .cases f
def KE{tys:Array TypeId}(f:A1c vs=some v)(q:LR ρ vs vs')(w:World):(Builtin.min_ tys ty ⟨vs'⟩).run P w=.ok v w/\H8 v=true:=by
 unfold A1c at f;split at f
 .obtain⟨a',r1,rfl,h1,j⟩:=q.tail;obtain⟨b',r2,rfl,h3,n⟩:=j.tail;cases n.nil_inv;cases I2 h1;cases I2 h3;cases f;exact⟨by simp[Builtin.min_,Builtin.min2],rfl⟩
 .obtain⟨a',r1,rfl,h1,j⟩:=q.tail;obtain⟨b',r2,rfl,h3,n⟩:=j.tail;obtain⟨c',B,rfl,h,A⟩:=n.tail;cases A.nil_inv;rw[pO]at f;cases I2 h1;cases I2 h3;cases I2 h;cases f;exact⟨by simp[Builtin.min_,Builtin.min2],rfl⟩
 .cases f
def vT{tys:Array TypeId}(h:HR P base ρ m.H w)(q:fF m x=some (v,m'))(D:VR ρ x x'):VOk P base ρ m w (Builtin.unsafeSliceData_ tys ty #[x']) v m':=by
 unfold fF at q;split at q
 .cases q;cases N9 D;exact VOk.same h rfl (.pure rfl)
 .rename_i a n c;cases A:Nat.beq n 0 || Nat.beq c 0 || Nat.beq c (L7+2)with
  | true=>rw[A]at q;cases q
  | false =>
    rw[A]at q;simp only[D4,C7,J1]at q;obtain⟨rfl,rfl⟩:=q;simp only[Y6]at A;obtain⟨⟨q1,q2⟩,q3⟩:=A;have q1:n≠0:=fun e=>by subst e;cases q1
    have q2:c≠0:=fun e=>by subst e;cases q2
    rcases M9 D with⟨l,C,j,F,rfl⟩|⟨l,c',C,j,F,I,E,rfl⟩|⟨a',c',_,he,_,_⟩
    .refine VOk.same (v':=.pointer (some ⟨l.blk,a.off+l.sh,none⟩)) h ?_ ?_
     .have f:Builtin.unsafeSliceData_ tys ty #[.slice (some ⟨l.blk,a.off+l.sh,none⟩) n c]=(do
        if c≠0 then pure (.pointer (some ⟨l.blk,a.off+l.sh,none⟩))
        else if(<- viewAt l.blk).isSome then pure (.pointer (some ⟨l.blk,a.off+l.sh,none⟩))
        else pure (.pointer (some ⟨<- newObj (.view ⟨l.blk,a.off+l.sh,none⟩ (<- elemOf ty)),0,none⟩))):=rfl
      rw[f,B2 q2];rfl
     .obtain⟨ab,G,B⟩:=a;simp only at j;subst j;exact .ptr C
    .refine VOk.same (v':=.pointer (some ⟨l.blk,a.off+l.sh,none⟩)) h ?_ ?_
     .have:c'≠0:=A6;have f:Builtin.unsafeSliceData_ tys ty #[.slice (some ⟨l.blk,a.off+l.sh,none⟩) n c']=(do
        if c'≠0 then pure (.pointer (some ⟨l.blk,a.off+l.sh,none⟩))
        else if(<- viewAt l.blk).isSome then pure (.pointer (some ⟨l.blk,a.off+l.sh,none⟩))
        else pure (.pointer (some ⟨<- newObj (.view ⟨l.blk,a.off+l.sh,none⟩ (<- elemOf ty)),0,none⟩))):=rfl
      rw[f,B2 this];rfl
     .obtain⟨ab,G,B⟩:=a;simp only at j;subst j;exact .ptr C
    .omega
 .cases q
def NQ(h:HR P base ρ m.H w)(f:AA P m t x=some (v,m'))(A:VR ρ x x'):VOk P base ρ m w (Instr.makeInterface t x') v m':=by
 unfold AA at f;split at f
 .rename_i d q;have n:(∀ ms,d≠.interface ms)->(Instr.makeInterface t x').run P w=.ok (.iface t x') w:=fun j=>by
   simp only[Instr.makeInterface,A4,C8 q,Result.andThen];cases d<;>first|rfl|exact absurd rfl (j _)
  split at f
  .cases f
  .rename_i j;obtain⟨_,f⟩:=A2 f;cases f;exact VOk.same h (n fun ms e=>j ms e) (.iface A)
 .cases f
def XM(j:RQ m x=some (v,m'))(n:VR ρ x x'):m'=m/\VR ρ v x'/\((∃ a,x'=.pointer (some a))∨∃ f a b,x'=.func (.func f) a b):=by
 unfold RQ at j;split at j
 .cases j;obtain⟨l,_,_,rfl⟩:=L8 n;exact⟨rfl,n,.inl ⟨_,rfl⟩⟩
 .cases j;cases n with
  | pure hp=>simp[H8]at hp
  | func _ _ _ _=>exact⟨rfl,by constructor<;>assumption,.inr ⟨_,_,_,rfl⟩⟩
 .cases j
def TW(h:HR P base ρ m.H w)(j:FJ P m t x y=some (v,m'))(M:VR ρ x x')(J:VR ρ y y'):VOk P base ρ m w (Builtin.copy_ ⟨t::tys⟩ ty #[x',y']) v m':=by
 unfold FJ at j;split at j
 .rename_i e a n c hu;split at j
  .rename_i s S;split at j
   .rename_i k cs f;have K:∃ a' c',x'=.slice a' n c':=by
     cases M with
     | pure _=>exact⟨_,_,rfl⟩
     | sl _ _=>exact⟨_,_,rfl⟩
     | op _ _ _ _=>exact⟨_,_,rfl⟩
     | opE _=>exact⟨_,_,rfl⟩
    obtain⟨a',c',rfl⟩:=K;have B:∃ L cs',(Builtin.lenOf y').run P w=.ok L w/\Nat.min L n=k/\LR ρ cs cs'/\(Builtin.firstCells s k y').run P w=.ok ⟨cs'⟩ w:=by
     split at f
     .rename_i O _;obtain⟨q,f⟩:=A2 f;have q:=A0 q;subst q;cases f;cases N9 J;exact⟨0,[],rfl,by simp,.nil,rfl⟩
     .rename_i b O Y;split at f
      .rename_i r hr;cases f;rcases M9 J with⟨l,D,_,_,rfl⟩|⟨l,c',D,_,_,_,_,rfl⟩|⟨a',c',_,rfl,_,rfl⟩
       .obtain⟨G,h1,C,h3⟩:=Y9 h hr D;exact⟨O,G,rfl,rfl,h1,J0 C h3⟩
       .obtain⟨G,h1,C,h3⟩:=Y9 h hr D;exact⟨O,G,rfl,rfl,h1,J0 C h3⟩
       .have:cs=[]:=by
         unfold n9 at hr;split at hr
         .have:=(gA hr).2;simp at this;exact this
         .cases hr
        subst this;exact⟨0,[],rfl,rfl,.nil,by simp[Builtin.firstCells,loadCells,loadCellsFrom]⟩
      .cases f
     .rename_i b;cases f;cases S3 J;refine⟨b.size,N3 (b.data.toList.take (Nat.min b.size n)),rfl,rfl,rT _ _,?_⟩;have e:((b.extract 0 (Nat.min b.size n)).data.map fun b=>Value.int .u8 b.toNat)=⟨N3 (b.data.toList.take (Nat.min b.size n))⟩:=by
       apply I1;simp[N3,eE]
      show(pure ((b.extract 0 (Nat.min b.size n)).data.map fun b=>Value.int .u8 b.toNat):Sem R3).run P w=_;rw[e];rfl
     .cases f
    obtain⟨L,cs',r1,r2,Q,V⟩:=B;have A:(Builtin.copy_ ⟨t::tys⟩ ty #[.slice a' n c',y']).run P w=(match a' with|some a=>(do storeCells a cs';pure (goInt k):Sem Value)|none=>pure (goInt k)).run P w:=by
     unfold Builtin.copy_;simp only[I6,P1,P2,A4,C8 hu,J5 S,r1,r2,V,Result.andThen];cases a' with
     | none=>rfl
     | some a=>rfl
    cases a with
    | none =>
      cases N9 M;simp only at j;obtain⟨q,j⟩:=A2 j;have q:=A0 q;cases j;exact VOk.same h (by rw[A,q];rfl) (.pure rfl)
    | some X =>
      simp only at j;cases E:Nat.beq cs.length 0 with
      | true =>
        rw[E]at j;cases j;have E:=A0 E;have:cs'=[]:=D2.1 (by rw[<- Q.1];exact E);subst this;refine VOk.same h (v':=.int .i64 k) ?_ (.pure rfl);rw[A];cases a'<;>rfl
      | false =>
        rw[E]at j;simp only[D4]at j;obtain⟨F,j⟩:=A2 j;have F:=A1 F;split at j
        .rename_i m2 hw;cases j;rcases M9 M with⟨l,D,N,U,he⟩|⟨l,c',D,N,U,T,R,he⟩|⟨a2,c2,_,T,W,he⟩
         .cases he;obtain⟨w',h1,C⟩:=mH h hw D Q;exact⟨.int .i64 k,ρ,w',by rw[A];simp[A4,h1,Result.andThen,goInt],.pure rfl,C⟩
         .cases he;obtain⟨w',h1,C⟩:=mH h hw D Q;exact⟨.int .i64 k,ρ,w',by rw[A];simp[A4,h1,Result.andThen,goInt],.pure rfl,C⟩
         .have I:L7=9223372036854775808:=rfl;omega
        .cases j
   .cases j
  .cases j
 .cases j
def mA:∀ {cs:D0} {l:List UInt8},bytesOf cs=some l->∃ f:List Int,cs=f.map (Value.int .u8)/\l=f.map fun n=>UInt8.ofNat n.toNat
 | [],l,h=>by simp only[bytesOf,C7]at h;subst h;exact⟨[],rfl,rfl⟩
 | v::r,l,h=>by
   unfold bytesOf at h;split at h
   .rename_i he;cases he
   .rename_i n q he;cases he;split at h
    .rename_i l0 h0;cases h;obtain⟨f,h1,j⟩:=mA h0;exact⟨n::f,by rw[h1];rfl,by rw[j];rfl⟩
    .cases h
   .cases h
def nQ:∀ {f:List Int} {cs':D0},LR ρ (f.map (Value.int .u8)) cs'->cs'=f.map (Value.int .u8)
 | [],cs',h=>h.nil_inv
 | n::r,cs',h=>by
   obtain⟨v',q,rfl,h1,j⟩:=h.tail;cases I2 h1;rw[nQ j];rfl
def lU:∀ (f:List Int) (acc:List UInt8),(f.foldl (fun r n=>r.push (UInt8.ofNat n.toNat)) (ByteArray.mk ⟨acc⟩))=⟨⟨acc++f.map fun n=>UInt8.ofNat n.toNat⟩⟩
 | [],acc=>by simp
 | n::r,acc=>by
   rw[gY];have:(ByteArray.mk ⟨acc⟩).push (UInt8.ofNat n.toNat)=⟨⟨acc++[UInt8.ofNat n.toNat]⟩⟩:=by
    show ByteArray.mk (Array.push ⟨acc⟩ _)=_;simp
   rw[this,lU r];simp
def TZ(h:HR P base ρ m.H w)(W:base<=w.heap.size)(f:yH P m s t x=some (v,m'))(Z:I8 ρ m.n m'.hi)(J:VR ρ x x'):VOk P base ρ m w (convert s t x') v m':=by
 unfold yH at f;split at f
 .rename_i F k j n A E;cases I2 J;simp only[C7,J1]at f;obtain⟨rfl,rfl⟩:=f;refine VOk.same (v':=.int k (k.wrap n)) h ?_ (by rw[cO,mJ];exact .pure rfl);cases F<;>simp[convert,A4,C8 A,C8 E,Result.andThen,Conv.intToInt]
 .rename_i F b A E;cases S3 J;cases f;refine VOk.same h ?_ (.pure rfl);cases F<;>simp[convert,A4,C8 A,C8 E,Result.andThen]
 .rename_i F j n A E;cases I2 J;cases f;refine VOk.same (v':=.string (Utf8.encode n)) h ?_ (.pure rfl);cases F<;>simp[convert,A4,C8 A,C8 E,Result.andThen,Conv.intToString]
 .rename_i F e b A E;cases S3 J;split at f
  .rename_i he;split at f
   .rename_i G;rw[H5]at f;let q:Question:=.appendCap b.size 0 e
    let cap:=q.cut (w.tape w.drawn q)
    have M:b.size<=cap:=by show b.size<=b.size+_;omega
    have Q:(choose q).run P w=.ok cap w.drew:=by
     simp only[choose,Sem.run];rw[B0 (by simp[q,Question.forced])];rfl
    let C:R3:=(b.data.map fun b=>Value.int .u8 b.toNat)++Array.replicate (cap-b.size) (.int .u8 0)
    have hC:C.size=cap:=by
     have:b.data.size=b.size:=rfl;simp[C,this];omega
    obtain⟨Y,O,X⟩:=bU (wd:=w.drew) (fz:=(C.size,C.size+1)) (cap:=cap) (C:=C) h W f Z (rT ρ b.data.toList) (fun i u hi=>by
      have N:=(A9.1 hi).1;simp[N3]at N;have U:i<(b.data.map fun b=>Value.int .u8 b.toNat).size:=by simpa using N
      show((b.data.map fun b=>Value.int .u8 b.toNat)++Array.replicate (cap-b.size) (.int .u8 0))[i]? = some u;rw[J3 U]
      simpa [N3]using hi) NF.end
     (fun inf L=>by
       have:inf.size=1:=by unfold G3 at G;rw[L]at G;exact A5 G
       rw[this,hC];omega) ⟨rfl,rfl,rfl⟩ rfl
    refine⟨.slice (some ⟨w.heap.size,0,none⟩) b.size cap,_,_,?_,?_,X⟩
    .have T:∀ w2:World,w2.heap[w.heap.size]? = some (.cells C e (0,0))->(markStringish ⟨w.heap.size,0,none⟩).run P w2=.ok () (w2.freeze { block:=w.heap.size,off:=C.size } 1):=fun w2 L=>by
      simp[markStringish,shape,freeze,Sem.run,World.shape?,L]
     have S:({ w.drew with heap:=w.heap.push (.cells C e (0,0)) }:World).freeze { block:=w.heap.size,off:=C.size } 1={ w.drew with heap:=w.heap.push (.cells C e (C.size,C.size+1)) }:=by
      unfold World.freeze;rw[B0 K3];congr 1;apply Array.ext_getElem?;intro i;rw[F4];by_cases hi:w.heap.size=i
      .subst hi;simp
      .rw[B0 hi];simp only[L2];rw[B0 (fun h=>hi h.symm),B0 (fun h=>hi h.symm)]
     have I:(convert s t (.string b)).run P w=(Conv.stringToBytes e b).run P w:=by
      cases F<;>simp[convert,A4,C8 A,C8 E,C8 he,Result.andThen]
     rw[I];unfold Conv.stringToBytes;simp only[A4,show(choose (.appendCap b.size 0 e)).run P w=.ok cap w.drew from Q,Result.andThen];have R:(newRow e C).run P w.drew=.ok ⟨w.heap.size,0,none⟩ { w.drew with heap:=w.heap.push (.cells C e (0,0)) }:=rfl;rw[show(newRow e ((b.data.map fun b=>Value.int .u8 b.toNat)++Array.replicate (cap-b.size) (.int .u8 0))).run P w.drew=_ from R];simp only[Result.andThen];rw[T _ (by simp),S];rfl
    .rw[Y];exact VR.op (o:=0) (m':=cap) O (A7 _) M (fun _ _=>rfl)
   .cases f
  .cases f
 .rename_i e n c A E;cases N9 J;split at f
  .rename_i he;cases f;refine VOk.same h (v':=.string ByteArray.empty) ?_ (.pure rfl);simp[convert,A4,C8 A,C8 E,C8 he,Result.andThen,Conv.bytesToString]
  .cases f
 .rename_i e a n c A E;split at f
  .rename_i he;split at f
   .rename_i cs hr;split at f
    .rename_i l N;cases f;obtain⟨K,h1,L⟩:=mA N;have B:∀ a' c',(loadCells a' n).run P w=.ok (K.map (Value.int .u8)).toArray w->(convert s t (.slice (some a') n c')).run P w=.ok (.string ⟨⟨l⟩⟩) w:=fun a' c' D=>by
      have:=run_bytesToString w a' n c' K D;have O:=lU K [];simp only[P6]at O;simp only[convert,A4,C8 A,C8 E,C8 he,Result.andThen];rw[this,show ByteArray.empty=ByteArray.mk ⟨[]⟩from rfl,O,L]
     rcases M9 J with⟨lc,D,_,_,rfl⟩|⟨lc,c',D,_,_,_,_,rfl⟩|⟨a',c',_,rfl,_,rfl⟩
     .obtain⟨V,g1,g2,g3⟩:=Y9 h hr D;rw[h1]at g1
      have:=nQ g1;subst this;exact VOk.same h (B _ _ (J0 g2 g3)) (.pure rfl)
     .obtain⟨V,g1,g2,g3⟩:=Y9 h hr D;rw[h1]at g1
      have:=nQ g1;subst this;exact VOk.same h (B _ _ (J0 g2 g3)) (.pure rfl)
     .have:cs=[]:=by
       unfold n9 at hr;split at hr
       .have:=(gA hr).2;simpa using this
       .cases hr
      subst this;have:K=[]:=by cases K with|nil=>rfl|cons _ _=>cases h1
      subst this;exact VOk.same h (B _ _ (by simp[loadCells,loadCellsFrom])) (.pure rfl)
    .cases f
   .cases f
  .cases f
 .cases f
end
end
section
open Go
variable [Ora]
section
variable {P:Program} {base:Nat} {ρ:Ren} {m m':Mem} {w:World}
def tR(q:P.cellsOf e=1)(count off n:Nat)(j:off+n<=count):liesAt P P.depth e count off e n=true:=by
 have f:P.depth=(2*(P.types.size+Made.depth)+1)+1:=rfl;rw[f];simp only[liesAt,G0];left;rw[f];simp[rowAt,q,j,sameLayout,Nat.mod_one]
def cI:∀ (f:List Int) (b o:Nat) (acc:ByteArray),(∀ (j:Nat) (v:Value),(f.map (Value.int .u8))[j]? = some v->w.cell? ⟨b,o+j,none⟩=some v) ->
  (loadBytes ⟨b,o,none⟩ acc f.length).run P w=.ok ⟨acc.data++(f.map fun n=>UInt8.ofNat n.toNat).toArray⟩ w
 | [],b,o,acc,_=>by simp[loadBytes]
 | n::f,b,o,acc,h=>by
   have h0:w.cell? ⟨b,o,none⟩=some (.int .u8 n):=by simpa using h 0 _ rfl
   have q:=cI f b (o+1) (acc.push n.toNat.toUInt8) (fun j v A=>by
    have:=h (j+1) v (by simpa using A);rw[show o+1+j=o+(j+1) by omega];exact this)
   simp only[J2,loadBytes,A4,run_load,h0,Result.andThen,W5];rw[q];have:(acc.push n.toNat.toUInt8).data=acc.data.push n.toNat.toUInt8:=rfl;rw[this];congr 2;apply I1;simp
def vH{l l':Value}(h:HR P base ρ m.H w)(f:cE P m pt p l=some (v,m'))(hp:VR ρ p p')(hl:VR ρ l l') :
  VOk P base ρ m w (Builtin.unsafeString_ ⟨pt::tys⟩ ty #[p',l']) v m':=by
 have F:IntKind.i64.max=9223372036854775807:=rfl;unfold cE at f;split at f
 .cases hp with|pure _=>?_
  cases I2 hl;cases f;refine VOk.same h (v':=.string ByteArray.empty) ?_ (.pure rfl);rename_i k _;have E:Builtin.unsafeString_ ⟨pt::tys⟩ ty #[.pointer none,.int k (.ofNat 0)] =
    (do
      let n <- asInt (.int k (.ofNat 0))
      if n<0 then runtimePanic (.error "unsafe.String: len out of range")
      if n>IntKind.i64.max then unsupported (.unsafePointer "String: a length above the largest int")
      if n=0 then pure (.string .empty)
      else runtimePanic (.error "unsafe.String: ptr is nil and len is not zero")):=rfl
  rw[E];simp[asInt,asIntOf,F]
 .rename_i a k n;cases I2 hl;obtain⟨lc,I,az,rfl⟩:=L8 hp;split at f
  .rename_i cs T G S;split at f
   .rename_i e Y M;obtain⟨q,f⟩:=A2 f;obtain⟨q,q3⟩:=B6 q;obtain⟨q1,q2⟩:=B6 q;have q1:0<n:=A1 q1;have q2:=A1 q2;have q3:=A0 q3;subst q3;split at f
    .rename_i r hr;split at f
     .rename_i bs m2 W W3;cases f;obtain⟨U,h1,h2⟩:=mA W;have J:n9 m a n=some r:=by
       unfold n9;rw[G,S];exact hr
      obtain⟨r',g1,g2,g3⟩:=Y9 h J I;rw[h1]at g1;have V:=nQ g1;subst V;obtain⟨⟨L,C,fz,T',z2,z3,z4⟩,z5⟩:=h.atl I S;have z2:w.heap[lc.blk]? = some (.cells C e fz):=by rw[z2,(z4 rfl).1]
      have N:U.length=n:=by simpa using g2
      have A:P.cellsOf e=1:=by
       unfold G3 at M;unfold Program.cellsOf;cases hi:P.info? e with
       | none=>rw[hi]at M;cases M
       | some i=>rw[hi]at M;have:=A5 M;simp[this]
      have X:a.off+lc.sh+n<=C.size:=by
       have D:=g3 (n-1) (.int .u8 U[n-1]) (by simp[N]);simp only[World.cell?,z2]at D
       have:=(B7.1 (by simpa using D)).1;omega
      have O:=cI (P:=P) (w:=w) U lc.blk (a.off+lc.sh) .empty g3;rw[N]at O;have Z:w.shape? lc.blk=some (e,C.size):=by simp[World.shape?,z2]
      have K:=tR (P:=P) A (C.size / P.cellsOf e) (a.off+lc.sh) n (by rw[A];simpa using X);have E:Builtin.unsafeString_ ⟨pt::tys⟩ ty #[.pointer (some ⟨lc.blk,a.off+lc.sh,none⟩),.int k (.ofNat n)] =
       (do
         let n <- asInt (.int k (.ofNat n))
         if n<0 then runtimePanic (.error "unsafe.String: len out of range")
         if n>IntKind.i64.max then unsupported (.unsafePointer "String: a length above the largest int")
         if n=0 then pure (.string .empty)
         else if <- variablesAt ⟨lc.blk,a.off+lc.sh,none⟩ (<- elemOf pt) n.toNat then do
          let s <- loadBytes ⟨lc.blk,a.off+lc.sh,none⟩ .empty n.toNat
          freeze ⟨lc.blk,a.off+lc.sh,none⟩ n.toNat
          pure (.string s)
         else unsupported (.unsafePointer "String: not so many bytes at ptr")):=rfl
      have e1:Int.ofNat n=(n:Int):=rfl;have Q:¬ (n:Int)<0:=A6;have R:¬ (9223372036854775807:Int)<(n:Int):=A6;have hz:¬ (n:Int)=0:=A6;have B:n≠0:=A6;refine⟨.string ⟨⟨bs⟩⟩,ρ,w.freeze ⟨lc.blk,a.off+lc.sh,none⟩ n,?_,.pure rfl,St.write h W3 S rfl I L ?_ ?_ ?_ ?_⟩
      .rw[E];simp[asInt,asIntOf,F,e1,Q,R,hz,B,variablesAt,Z,elemOf,C8 Y,K,O,freeze,Sem.run,A4,Result.andThen,h2]
      .simp[World.freeze,B]
      .simp[World.freeze,B]
      .intro j hj;simp only[World.freeze,B,if_false,F4];rw[B0 (fun e=>hj e.symm)]
      .refine⟨L,C,(if fz.1 == fz.2 then(a.off+lc.sh,a.off+lc.sh+n)else(min fz.1 (a.off+lc.sh),max fz.2 (a.off+lc.sh+n))),e,?_,z3,fun hc=>by cases hc⟩;simp only[World.freeze,B,if_false,F4,if_true,z2,I9]
     .cases f
    .cases f
   .cases f
  .cases f
 .cases f
def FT{ks:Array Bool}(h:HR P base ρ m.H w)(B:base<=w.heap.size)(f:fB P m b vs tys=some (v,m'))(C:I8 ρ m.n m'.hi)(q:LR ρ vs vs') :
  ∃ s:Sem Value,builtin b ⟨tys⟩ ty ks ⟨vs'⟩=(do pure (.value (<- s)))/\VOk P base ρ m w s v m':=by
 unfold fB at f;split at f
 .obtain⟨x',r1,rfl,h1,j⟩:=q.tail;cases j.nil_inv;unfold noM at f;split at f
  .rename_i u hu;cases f;obtain⟨g1,g2⟩:=KM h hu h1;exact⟨_,rfl,VOk.same h g1 (.pure g2)⟩
  .cases f
 .obtain⟨x',r1,rfl,h1,j⟩:=q.tail;cases j.nil_inv;unfold noM at f;split at f
  .rename_i u hu;cases f;obtain⟨g1,g2⟩:=ZH hu h1 w;exact⟨_,rfl,VOk.same h g1 (.pure g2)⟩
  .cases f
 .obtain⟨x',r1,rfl,h1,j⟩:=q.tail;obtain⟨y',r2,rfl,h3,A⟩:=j.tail;cases A.nil_inv;rename_i t t2 rest;refine⟨Builtin.append_ ⟨t::t2::rest⟩ ty #[x',y'],rfl,?_⟩
  have:=IQ (ty:=ty) h B f C h1 h3;have e:Builtin.append_ ⟨t::t2::rest⟩ ty #[x',y']=Builtin.append_ #[t,t2] ty #[x',y']:=rfl;rw[e];exact this
 .obtain⟨x',r1,rfl,h1,j⟩:=q.tail;obtain⟨y',r2,rfl,h3,A⟩:=j.tail;cases A.nil_inv;exact⟨_,rfl,TW h f h1 h3⟩
 .unfold noM at f;split at f
  .rename_i u hu;cases f;obtain⟨g1,g2⟩:=KG (P:=P) (ty:=ty) (tys:=⟨tys⟩) hu q w;exact⟨_,rfl,VOk.same h g1 (.pure g2)⟩
  .cases f
 .unfold noM at f;split at f
  .rename_i u hu;cases f;obtain⟨g1,g2⟩:=KE (P:=P) (ty:=ty) (tys:=⟨tys⟩) hu q w;exact⟨_,rfl,VOk.same h g1 (.pure g2)⟩
  .cases f
 .obtain⟨x',r1,rfl,h1,j⟩:=q.tail;cases j.nil_inv;exact⟨_,rfl,vT h f h1⟩
 .obtain⟨x',r1,rfl,h1,j⟩:=q.tail;obtain⟨y',r2,rfl,h3,A⟩:=j.tail;cases A.nil_inv;exact⟨_,rfl,vH h f h1 h3⟩
 .cases f
def NOk(P:Program)(base:Nat)(ρ:Ren)(m:Mem)(w:World)(s:Sem Next)(v:Value)(m':Mem):Prop :=
 ∃ v' ρ' w',(s.run P w=.ok (.value v') w'∨(s.run P w=.ok .skip w'/\v'=undef))/\VR ρ' v v'/\St P base ρ ρ' m m' w w'
def NOk.of{s:Sem Value}(h:VOk P base ρ m w s v m'):NOk P base ρ m w (do pure (.value (<- s))) v m':=by
 obtain⟨v',ρ',w',h1,f,h3⟩:=h;exact⟨v',ρ',w',.inl (by simp[A4,h1,Result.andThen]),f,h3⟩
def mN(ρ:Ren):VR ρ undef undef:=.tuple (a:=[]) (a':=[]) rfl (fun i v v' h=>by simp at h)
def NOk.ofU{s:Sem Unit}(h:UOk P base ρ m w s m'):NOk P base ρ m w (do s;pure .skip) undef m':=by
 obtain⟨ρ',w',h1,h3⟩:=h;exact⟨undef,ρ',w',.inr ⟨by simp[A4,h1,Result.andThen],rfl⟩,mN _,h3⟩
def NOk.same{s:Sem Value}(h:HR P base ρ m.H w)(hr:s.run P w=.ok v' w)(f:VR ρ v v'):NOk P base ρ m w (do pure (.value (<- s))) v m:=NOk.of (VOk.same h hr f)
def FR(ρ:Ren)(fr:Fr)(g:Operand->Value)(o:Op):Prop:=∀ x ∈ o.operands.toList,VR ρ (ev fr x) (g x)
def d9(h:noM o m=some (v,m')):o=some v/\m'=m:=by
 unfold noM at h;split at h
 .cases h;exact⟨rfl,rfl⟩
 .cases h
def kH{o:Option Mem}(h:HU o=some (v,m')):o=some m'/\v=undef:=by
 unfold HU at h;split at h
 .cases h;exact⟨rfl,rfl⟩
 .cases h
def bG{fr:Fr}{g:Operand->Value}:∀ {xs:List Operand},(∀ x ∈ xs,VR ρ (ev fr x) (g x))->LR ρ (evL fr xs) (xs.map g)
 | [],_=>.nil
 | x::r,h=>.cons (h x B5) (bG fun y f=>h y (C5 _ f))
def IH{fr:Fr}{g:Operand->Value}:∀ {xs:List (Nat×Operand)},(∀ x ∈ xs.map (·.2),VR ρ (ev fr x) (g x))->PR ρ (evP fr xs) (xs.map fun x=>(x.1,g x.2))
 | [],_=>trivial
 | (i,x)::r,h=>⟨rfl,h x (by simp),IH fun y f=>h y (by simp at f ⊢;exact .inr f)⟩
def fY{fr:Fr}{x:Option Operand}(h:∀ y ∈ x.toList,VR ρ (ev fr y) (g y)):OR ρ (evO fr x) (x.map g):=by
 cases x with
 | none=>trivial
 | some y=>exact h y (by simp)
set_option maxHeartbeats 1000000 in
def A1Y{fr:Fr}{o:Oper}(h:HR P base ρ m.H w)(J:base<=w.heap.size)(q:opM P fr m o.op=some (v,m'))(K:I8 ρ m.n m'.hi)(S:FR ρ fr g o.op) :
  NOk P base ρ m w (execOp g o) v m':=by
 obtain⟨dst,op,ty,pos,U,T⟩:=o;simp only at q S;have j:∀ {x},x ∈ op.operands.toList->VR ρ (ev fr x) (g x):=fun B=>S _ B
 unfold opM at q;split at q
 .cases q;exact⟨_,ρ,w,.inl rfl,j (by simp[Op.operands]),.refl h⟩
 .cases q;exact⟨_,ρ,w,.inl rfl,j (by simp[Op.operands]),.refl h⟩
 .rename_i c a b;have L:=j (x:=c) (by simp[Op.operands]);unfold JW at q;split at q
  .rename_i F;rw[F]at L;cases q;exact⟨g a,ρ,w,.inl (by simp[execOp,aR L,asBool]),j (by simp[Op.operands]),.refl h⟩
  .rename_i F;rw[F]at L;cases q;exact⟨g b,ρ,w,.inl (by simp[execOp,aR L,asBool]),j (by simp[Op.operands]),.refl h⟩
  .cases q
 .exact NOk.of (NR h J q K)
 .exact NOk.of (XN h J q K (j (by simp[Op.operands])))
 .rename_i t ps;obtain⟨h1,rfl⟩:=d9 q;obtain⟨v',A,h3⟩:=OH h1 (IH (g:=g) (fun x B=>j (by simpa [Op.operands]using B))) w;have e:(ps.map fun(i,x)=>(i,g x))=⟨ps.toList.map fun x=>(x.1,g x.2)⟩:=by apply I1;simp
  exact NOk.same (s:=Instr.build t (ps.map fun(i,x)=>(i,g x))) h (by rw[e];exact A) h3
 .rename_i t n ps
  have:=uZ h J q K (IH (g:=g) (fun x B=>j (by simpa [Op.operands]using B)));have e:(ps.map fun(i,x)=>(i,g x))=⟨ps.toList.map fun x=>(x.1,g x.2)⟩:=by apply I1;simp
  refine NOk.of (s:=Instr.buildSlice t n (ps.map fun(i,x)=>(i,g x))) ?_;rw[e];exact this
 .rename_i t x;have B:=j (x:=x) (by simp[Op.operands]);unfold JX at q;split at q
  .rename_i a G;rw[G]at B;obtain⟨l,M,N,I⟩:=L8 B;obtain⟨h1,rfl⟩:=d9 q;obtain⟨v',A,h3⟩:=EB h h1 M;refine NOk.same (s:=Instr.loadAt t (g x)) h ?_ h3;rw[I]
   simpa [Instr.loadAt,Instr.sureAddr]using A
  .cases q
 .rename_i t x y;have B:=j (x:=x) (by simp[Op.operands]);have C:=j (x:=y) (by simp[Op.operands]);unfold zZ at q;split at q
  .rename_i a G;rw[G]at B;obtain⟨l,M,N,I⟩:=L8 B;obtain⟨h1,rfl⟩:=kH q
   have:=MU h h1 M C;refine NOk.ofU (s:=Instr.storeAt t (g x) (g y)) ?_;rw[I];obtain⟨ρ',w',r1,r2⟩:=this;exact⟨ρ',w',by simpa [Instr.storeAt,Instr.sureAddr]using r1,r2⟩
  .cases q
 .rename_i x;have B:=j (x:=x) (by simp[Op.operands]);obtain⟨hm,h1,A⟩:=XM q B;subst hm;refine⟨g x,ρ,w,.inl ?_,h1,.refl h⟩;rcases A with⟨a,V⟩|⟨f,a,b,V⟩<;>simp[execOp,V]
 .rename_i op t x y yt;have B:=j (x:=x) (by simp[Op.operands]);have C:=j (x:=y) (by simp[Op.operands]);unfold XO at q;have D:(uA op=true->iY P t x y (ev fr x) (ev fr y)=true)->noM (oI P op t (ev fr x) (ev fr y)) m=some (v,m')->NOk P base ρ m w (execOp g ⟨dst,.binOp op t x y yt,ty,pos,U,T⟩) v m':=fun Q Y=>by
   obtain⟨h1,rfl⟩:=d9 Y;obtain⟨A,h3⟩:=sE h1 B C w;have X:=nU Q B C w;refine NOk.same (s:=do eqGuard op t x y (g x) (g y);binOp op t (g x) (g y)) h ?_ (.pure h3);simp[A4,X,A,Result.andThen]
  cases E:uA op with
  | true =>
    rw[E]at q;simp only[D9]at q;obtain⟨h1,A⟩:=A2 q;exact D (fun _=>h1) A
  | false =>
    rw[E]at q;simp only[D4]at q;exact D (fun h=>by rw[E]at h;cases h) q
 .rename_i op t x;obtain⟨h1,rfl⟩:=d9 q;obtain⟨A,h3⟩:=GH (P:=P) h1 (j (x:=x) (by simp[Op.operands])) w;exact NOk.same (s:=Op.unary op (g x)) h A (.pure h3)
 .exact NOk.of (TZ h J q K (j (by simp[Op.operands])))
 .exact NOk.of (NQ h q (j (by simp[Op.operands])))
 .rename_i f first cap
  cases q;have l1:=bG (ρ:=ρ) (fr:=fr) (g:=g) (xs:=first.toList) fun x B=>j (by simp[Op.operands];exact .inl (by simpa using B))
  have l2:=bG (ρ:=ρ) (fr:=fr) (g:=g) (xs:=cap.toList) fun x B=>j (by simp[Op.operands];exact .inr (by simpa using B))
  refine⟨.func (.func f) ⟨first.toList.map g⟩ ⟨cap.toList.map g⟩,ρ,w,.inl ?_,.func l1.1 l2.1 l1.2 l2.2,.refl h⟩;have R:first.map g=⟨first.toList.map g⟩:=by apply I1;simp
  have O:cap.map g=⟨cap.toList.map g⟩:=by apply I1;simp
  simp[execOp,Instr.makeFunc,R,O]
 .exact NOk.of (vU h J q K (j (by simp[Op.operands])) (j (by simp[Op.operands])))
 .rename_i t x lo hi mx;obtain⟨h1,rfl⟩:=d9 q;obtain⟨v',A,h3⟩:=eM h1 (j (x:=x) (by simp[Op.operands])) (fY (g:=g) fun y C=>j (by simp[Op.operands]at C ⊢;exact .inr (.inl C))) (fY (g:=g) fun y C=>j (by simp[Op.operands]at C ⊢;exact .inr (.inr (.inl C)))) (fY (g:=g) fun y C=>j (by simp[Op.operands]at C ⊢;exact .inr (.inr (.inr C)))) w;exact NOk.same (s:=Instr.sliceAt t (g x) (lo.map g) (hi.map g) (mx.map g)) h A h3
 .obtain⟨h1,rfl⟩:=d9 q;obtain⟨v',A,h3⟩:=jA h1 (j (by simp[Op.operands])) w;exact NOk.same h A h3
 .obtain⟨h1,rfl⟩:=d9 q;obtain⟨v',A,h3⟩:=NY h1 (j (by simp[Op.operands])) w;exact NOk.same h A h3
 .obtain⟨h1,rfl⟩:=d9 q;obtain⟨v',A,h3⟩:=aT h1 (j (by simp[Op.operands])) (j (by simp[Op.operands])) w;exact NOk.same h A h3
 .obtain⟨h1,rfl⟩:=d9 q;obtain⟨v',A,h3⟩:=pJ h1 (j (by simp[Op.operands])) (j (by simp[Op.operands])) w;exact NOk.same h A h3
 .obtain⟨hm,v',A,h3⟩:=DR (P:=P) q (j (by simp[Op.operands])) w;subst hm;exact NOk.same h A h3
 .rename_i b xs tys;have l1:=bG (ρ:=ρ) (fr:=fr) (g:=g) (xs:=xs.toList) fun x B=>j (by show x ∈ (#[]++xs:Array Operand).toList;simpa using B)
  obtain⟨ks,O⟩:∃ ks,execOp g ⟨dst,.call ⟨.builtin b,xs,tys⟩,ty,pos,U,T⟩=builtin b tys ty ks (xs.map g):=⟨_,rfl⟩;obtain⟨s,e,W⟩:=FT (ty:=ty) (ks:=ks) h J q K l1;have R:xs.map g=⟨xs.toList.map g⟩:=by apply I1;simp
  rw[O,R];have Z:tys=⟨tys.toList⟩:=rfl;rw[Z,e];exact NOk.of W
 .cases q
end
end
section
open Go
def ofV:O8->U
 | some (.int k n)=>.int k n
 | some (.bool b)=>.bool b
 | some (.string s)=>.str s.data.toList
 | _=>.none
def D5(E:Nat->U):Value->U
 | .complex .f64 i _=>E i
 | .int k n=>.int k n
 | .bool b=>.bool b
 | .string s=>.str s.data.toList
 | _=>.none
def evB(op:BinOp):U->U->U
 | .int k a,.int j b=>ofV (eV op k j a b)
 | .str a,.str b=>ofV (WY op ⟨⟨a⟩⟩ ⟨⟨b⟩⟩)
 | .bool a,.bool b=>match op with
   | .eql=>.bool (a == b)
   | .neq=>.bool (!(a == b))
   | _=>.none
 | _,_=>.none
def ev1(op:UnOp):U->U
 | .int k n=>ofV (unM op (.int k n))
 | .bool b=>ofV (unM op (.bool b))
 | _=>.none
def eqU:U->U->Option Bool
 | .int k a,.int j b=>if k=j then some (a == b)else none
 | .bool a,.bool b=>some (a == b)
 | .str a,.str b=>some (a == b)
 | _,_=>none
def jF:List U->Option Bool
 | []=>some true
 | a::b::r=>match eqU a b,jF r with
   | some x,some y=>some (x && y)
   | _,_=>none
 | _=>none
def WW(s:List UInt8)(l h:Int):U :=
 match l,h with
 | .ofNat l,.ofNat h=>if l<=h/\h<=s.length then .str ((s.drop l).take (h-l))else .none
 | _,_=>.none
def wC:List U->Option (List UInt8)
 | []=>some []
 | .int .u8 (.ofNat n)::r=>if n<256 then match wC r with
   | some l=>some (UInt8.ofNat n::l)
   | none=>none else none
 | _::_=>none
def BI:List (List U)->Option (List UInt8)
 | []=>some []
 | [.int .u8 (.ofNat n)]::r=>if n<256 then match BI r with
   | some l=>some (UInt8.ofNat n::l)
   | none=>none else none
 | _::_=>none
def lC(s:List UInt8):List (List U):=s.map fun b=>[.int .u8 b.toNat]
def Z8(w:Nat):Nat->List U->Option (List (List U))
 | 0,[]=>some []
 | 0,_::_=>none
 | n+1,l=>if w<=l.length then match Z8 w n (l.drop w)with
   | some r=>some (l.take w::r)
   | none=>none else none
def tH(row:List U)(o:Nat)(cells:List U):List U:=row.take o++cells++row.drop (o+cells.length)
def rG:Nat:=1000000000
def jJ(f:Bool)(w:Nat)(rows r:List (List U)):U:=if rows.length+r.length<=rG then(match r with|[]=>.seq f w rows|r=>.seq false w (rows++r))else .none
def isU(a b:U):Bool :=
 match eqU a b with
 | some c=>c
 | none=>false
def R1:List U->List U->Bool
 | [],_=>true
 | a::k,b::r=>isU a b && R1 k r
 | _::_,[]=>false
def DI(kw:Nat)(c:List U):List (List U)->List (List U)
 | []=>[c]
 | r::rs=>if R1 (c.take kw) r then c::rs else r::DI kw c rs
def evU:LOp->List U->U
 | .mhas w kw,.seq _ v rows::k=>if v=w/\k.length=kw then .bool (rows.any (R1 k))else .none
 | .mget w kw o,.seq _ v rows::z::k=>if v=w/\k.length=kw then(match rows.find? (R1 k)with
   | some r=>r.getD o .none
   | none=>z)else .none
 | .mput w kw,.seq nul v rows::c=>if v=w/\c.length=w then .seq nul w (DI kw c rows)else .none
 | .len,[.seq _ _ rows]=>.int .i64 rows.length
 | .mks,l=>match wC l with
   | some s=>.str s
   | none=>.none
 | .inbs w,[.int _ i,.seq _ v rows]=>if v=w then .bool (decide (0<=i) && decide (i<rows.length))else .none
 | .get w o,[.seq false v rows,.int _ (.ofNat k)]=>if v=w then(rows.getD k []).getD o .none else .none
 | .mk w,l=>if w=0 then .none else match Z8 w (l.length / w) l with
   | some r=>.seq false w r
   | none=>.none
 | .nilw w,[]=>.seq true w []
 | .nilp,[.seq nul _ _]=>.bool nul
 | .snoc w,.seq nul v rows::l=>if v=w/\w≠0 then match Z8 w (l.length / w) l with
   | some r=>jJ nul w rows r
   | none=>.none else .none
 | .cat w,[.seq nul v rows,.seq _ v2 r]=>if v=w/\v2=w then jJ nul w rows r else .none
 | .cats,[.seq nul v rows,.str s]=>if v=1 then jJ nul 1 rows (lC s)else .none
 | .set w o,.seq false v rows::.int _ (.ofNat k)::l=>if v=w/\k<rows.length/\o+l.length<=w then .seq false w (rows.set k (tH (rows.getD k []) o l))else .none
 | .subs w,[.seq nul v rows,.int _ (.ofNat l),.int _ (.ofNat h)]=>if v=w/\l<=h/\h<=rows.length then .seq nul w ((rows.drop l).take (h-l))else .none
 | .str,[.seq _ v rows]=>if v=1 then match BI rows with
   | some s=>.str s
   | none=>.none else .none
 | .byt,[.str s]=>.seq false 1 (lC s)
 | .ustr,[.seq _ v rows,.int _ (.ofNat n)]=>if v=1/\n<=rows.length/\n<=rG then match BI (rows.take n)with
   | some s=>.str s
   | none=>.none else .none
 | .rep w,.int _ (.ofNat n)::l=>if l.length=w/\n<=rG then .seq false w (List.replicate n l)else .none
 | .bin op,[a,b]=>evB op a b
 | .un op,[a]=>ev1 op a
 | .conv k,[.int _ n]=>.int k (k.wrap n)
 | .len,[.str s]=>.int .i64 s.length
 | .rune,[.str s,.int _ (.ofNat k)]=>.int .i32 (Utf8.decode ⟨⟨s⟩⟩ k).1
 | .rpos,[.str s,.int _ (.ofNat k)]=>.int .i64 (k+(Utf8.decode ⟨⟨s⟩⟩ k).2:Nat)
 | .idx,[.str s,.int _ (.ofNat k)]=>match s[k]? with
   | some b=>.int .u8 b.toNat
   | none=>.none
 | .sub,[.str s,.int _ l,.int _ h]=>WW s l h
 | .sub1,[.str s,.int _ l]=>WW s l s.length
 | .sel,.int _ (.ofNat k)::cs=>cs.getD k .none
 | .inb,[.int _ i,.int _ n]=>.bool (decide (0<=i) && decide (i<n))
 | .eqs,l=>match jF l with
   | some b=>.bool b
   | none=>.none
 | .max,[.int k a,.int _ b]=>.int k (if b>a then b else a)
 | .min,[.int k a,.int _ b]=>.int k (if b<a then b else a)
 | _,_=>.none
def V4.ok(E:Nat->U):V4->Prop
 | .lt i t op xs=>E i=evU op (xs.map (D5 E))/\F3 (E i)=t/\t<10
 | .dt i t op xs=>E i=evU op (xs.map (D5 E))/\F3 (E i)=t/\∃ f w rows,E i=.seq f w rows
 | .br i b=>E i=.bool b
 | .as op xs=>evU op (xs.map (D5 E))=.bool true
 | .con spec xs i d n=>∃ outs,spec (xs.map (D5 E))=some (d,outs)/\outs.length=n/\∀ j u,outs[j]? = some u->E (i+j)=u
def N0(E:Nat->U)(l:List V4):Prop:=∀ e ∈ l,e.ok E
def Lg.le(a b:Lg):Prop:=a.log <:+ b.log
def Lg.le.refl(a:Lg):a.le a:=List.suffix_refl _
def Lg.le.trans{a b c:Lg}(h:a.le b)(k:b.le c):a.le c:=List.IsSuffix.trans h k
def N0.le{E:Nat->U}{a b:Lg}(h:N0 E b.log)(k:a.le b):N0 E a.log:=fun e he=>h e (k.subset he)
variable [Ora]
abbrev Sat(lg:Lg):Prop:=N0 Ora.env lg.log
omit [Ora] in
def JB{u:U}(h:F3 u<10):∃ v,toV u=some v/\ofV (some v)=u/\F9 v=F3 u:=by
 cases u with
 | none=>simp[F3]at h
 | seq _ _ _=>simp only[F3]at h;omega
 | int k n=>exact⟨_,rfl,rfl,rfl⟩
 | bool b=>exact⟨_,rfl,rfl,rfl⟩
 | str s=>exact⟨_,rfl,rfl,rfl⟩
def zY(h:F3 (ofV o)<10):∃ v,o=some v/\toV (ofV o)=some v:=by
 unfold ofV at h;split at h
 .exact⟨_,rfl,rfl⟩
 .exact⟨_,rfl,rfl⟩
 .rename_i s;refine⟨_,rfl,?_⟩;simp[ofV,toV]
 .simp[F3]at h
def K6(k:IntKind):eU k<8:=by cases k<;>decide
theorem r9{ρ:Ren}{v v':Value}(h:VR ρ v v')(f:F9 v<10):toV (D5 Ora.env v)=some v'/\F3 (D5 Ora.env v)=F9 v:=by
 cases h with
 | pure hp =>
   cases v<;>simp only[F9]at f<;>first
    | exact⟨rfl,rfl⟩
    | (exfalso;omega)
    | (simp[H8]at hp)
 | hole h j=>exact⟨h,j⟩
 | junk=>simp[F9]at f
 | ixp _ _ _ _ _=>simp[F9,ixp]at f
 | dat _ _ _ _ _=>simp[F9,Go.Sx.dat]at f
 | clp _ _ _ _ _ _=>simp[F9,Go.Sx.clp]at f
 | own _ _ _=>simp[F9,Go.Sx.own]at f
 | dpt _ _ _=>simp[F9,Go.Sx.dpt]at f
 | opt _ _ _=>simp[F9,Go.Sx.opt]at f
 | yv _=>simp[F9,Go.Sx.yv]at f
 | sdt _=>simp[F9,Go.Sx.sdt]at f
 | _=>simp[F9]at f
def L3{ρ:Ren}(h:VR ρ v v')(j:F9 v<8):∃ k n,v'=.int k n/\D5 Ora.env v=.int k n/\F9 v=eU k:=by
 obtain⟨h1,f⟩:=r9 h A6;cases hu:D5 Ora.env v with
 | int k n=>rw[hu]at h1 f;cases h1;exact⟨k,n,rfl,rfl,f.symm⟩
 | bool b=>rw[hu]at f;simp only[F3]at f;omega
 | str s=>rw[hu]at f;simp only[F3]at f;omega
 | none=>rw[hu]at h1;cases h1
 | seq _ _ _=>rw[hu]at h1;cases h1
def eK{ρ:Ren}(h:VR ρ v v')(j:F9 v=8):∃ b,v'=.bool b/\D5 Ora.env v=.bool b:=by
 obtain⟨h1,f⟩:=r9 h A6;cases hu:D5 Ora.env v with
 | int k n=>rw[hu]at f;simp only[F3]at f;have:=K6 k;omega
 | bool b=>rw[hu]at h1;cases h1;exact⟨b,rfl,rfl⟩
 | str s=>rw[hu]at f;simp only[F3]at f;omega
 | none=>rw[hu]at h1;cases h1
 | seq _ _ _=>rw[hu]at h1;cases h1
def i7{ρ:Ren}(h:VR ρ v v')(j:F9 v=9):∃ s,v'=.string ⟨⟨s⟩⟩/\D5 Ora.env v=.str s:=by
 obtain⟨h1,f⟩:=r9 h A6;cases hu:D5 Ora.env v with
 | int k n=>rw[hu]at f;simp only[F3]at f;have:=K6 k;omega
 | bool b=>rw[hu]at f;simp only[F3]at f;omega
 | str s=>rw[hu]at h1;cases h1;exact⟨s,rfl,rfl⟩
 | none=>rw[hu]at h1;cases h1
 | seq _ _ _=>rw[hu]at h1;cases h1
def fT{m m':Mem}{t:Nat}{op:LOp}(h:R4 m t op xs=some (v,m')):v=hole m.lg.nx t/\m'=m.wLg ⟨m.lg.nx+1,m.lg.pi,.lt m.lg.nx t op xs::m.lg.log⟩:=by
 obtain⟨H,n,W,hi,⟨nx,pi,log⟩⟩:=m;simp only[R4,E6,H5]at h;cases h;exact⟨rfl,rfl⟩
def K9{m m':Mem}{t:Nat}{op:LOp}(h:R4 m t op xs=some (v,m'))(n:Sat m'.lg):∃ u,evU op (xs.map (D5 Ora.env))=u/\F3 u=t/\∃ r,toV u=some r/\(∀ ρ,VR ρ v r)/\t<10:=by
 obtain⟨rfl,rfl⟩:=fT h;obtain⟨h1,f,h3⟩:=n (.lt m.lg.nx t op xs) (by cases m;exact B5);refine⟨_,rfl,h1▸f,?_⟩;obtain⟨r,j,_⟩:=JB (u:=Ora.env m.lg.nx) A6;exact⟨r,h1▸j,fun ρ=>.hole j f,h3⟩
section
variable {P:Program} {base:Nat} {ρ:Ren} {m m':Mem} {w:World}
def St.wLg(h:HR P base ρ m.H w)(lg:Lg):St P base ρ ρ m (m.wLg lg) w w:=by
 obtain⟨H,n,W,hi,l⟩:=m;have r:=St.refl (m:=⟨H,n,W,hi,l⟩) h;exact⟨r.ext,r.new,r.nle,r.hle,r.nhi,r.hr,r.wsub,r.wrw,r.keep,r.size,r.os,r.blk,r.same,r.tch⟩
def y8:∀ {l:List V4} {i:Nat} {b:Bool},uG l i=some b->V4.br i b ∈ l
 | [],_,_,h=>by cases h
 | .br j c::r,i,b,h=>by
   rw[uG]at h;cases f:Nat.beq j i with
   | true=>rw[f]at h;cases h;rw[A0 f];exact B5
   | false=>rw[f]at h;exact C5 _ (y8 h)
 | .lt _ _ _ _::r,i,b,h=>C5 _ (y8 (l:=r) h)
 | .dt _ _ _ _::r,i,b,h=>C5 _ (y8 (l:=r) h)
 | .as _ _::r,i,b,h=>C5 _ (y8 (l:=r) h)
 | .con _ _ _ _ _::r,i,b,h=>C5 _ (y8 (l:=r) h)
def cZ{lg f:Lg}{b:Bool}(h:brL lg c=some (b,f)):lg.le f:=by
 unfold brL at h;split at h
 .cases h;exact .refl _
 .obtain⟨nx,pi,log⟩:=lg;simp only at h;split at h
  .cases h;exact .refl _
  .split at h
   .cases h;exact⟨[_],rfl⟩
   .cases h;exact⟨[_],rfl⟩
   .cases h
 .cases h
def jK{lg f:Lg}{b:Bool}(h:brL lg c=some (b,f))(q:VR ρ c c')(n:Sat f):c'=.bool b:=by
 unfold brL at h;split at h
 .cases h;exact aR q
 .rename_i i;have A:Ora.env i=.bool b:=by
   obtain⟨nx,pi,log⟩:=lg;simp only at h;split at h
   .rename_i b' B;cases h;exact n _ (y8 B)
   .split at h
    .cases h;exact n (.br i true) B5
    .cases h;exact n (.br i false) B5
    .cases h
  obtain⟨b',h1,j⟩:=eK q rfl;have j:Ora.env i=.bool b':=j;rw[A]at j;cases j;exact h1
 .cases h
def qU:∀ {a b:List U} {z:Bool},a.length%2=0->jF (a++b)=some z->∃ x y,jF a=some x/\jF b=some y/\z=(x && y)
 | [],b,z,_,h=>⟨true,z,rfl,h,rfl⟩
 | [_],_,_,hl,_=>by simp at hl
 | p::q::r,b,z,hl,h=>by
   simp only[Z2]at h;unfold jF at h;split at h
   .rename_i u v n j;cases h;obtain⟨x,y,h1,f,rfl⟩:=qU (by simp only[J2]at hl;omega) j;exact⟨u && x,y,by simp only[jF,n,h1],f,by simp[Bool.and_assoc]⟩
   .cases h
def NC(h:cT P t x y=true)(D:VR ρ x x')(C:VR ρ y y'){b:Bool}(j:eqU (D5 Ora.env x) (D5 Ora.env y)=some b)(n:Nat)(w:World):(Op.equalIn (n+1) t x' y').run P w=.ok b w:=by
 unfold cT at h;split at h
 .rename_i hu;obtain⟨h1,f⟩:=B6 h;obtain⟨p,rfl,B⟩:=eK D (A0 h1);obtain⟨q,rfl,A⟩:=eK C (A0 f);rw[B,A]at j;cases j;simp[Op.equalIn,A4,C8 hu,Result.andThen]
 .rename_i k hu;obtain⟨h1,f⟩:=B6 h;have h1:=A0 h1;have f:=A0 f;obtain⟨E,p,rfl,B,f1⟩:=L3 D (by have:=K6 k;omega);obtain⟨F,q,rfl,A,f2⟩:=L3 C (by have:=K6 k;omega);have g1:E=k:=by cases E<;>cases k<;>first|rfl|(simp only[eU]at f1 h1;omega)
  have g2:F=k:=by cases F<;>cases k<;>first|rfl|(simp only[eU]at f2 f;omega)
  subst g1;subst g2;rw[B,A]at j;simp[eqU]at j;subst j;simp[Op.equalIn,A4,C8 hu,Result.andThen]
 .rename_i hu;obtain⟨h1,f⟩:=B6 h;obtain⟨p,rfl,B⟩:=i7 D (A0 h1);obtain⟨q,rfl,A⟩:=i7 C (A0 f);rw[B,A]at j;cases j
  have:=run_equalIn_string (P:=P) w n t ⟨⟨p⟩⟩ ⟨⟨q⟩⟩ hu;rw[this];simp[ByteArray.toList_eq]
 .cases h
mutual
def KZ:∀ (d:Nat) (t:TypeId) (x y:Value) (l:List Value),eqS P d t x y=some l->l.length%2=0
 | 0,_,_,_,_,h=>by simp[eqS]at h
 | d+1,t,x,y,l,h=>by
   unfold eqS at h;cases hs:cT P t x y with
   | true=>rw[hs]at h;cases h;simp
   | false =>
     rw[hs]at h;simp only[D4]at h;split at h
     .rename_i fs xs ys hu;cases hst:P.stoodInHeld t with
      | true=>rw[hst]at h;cases h
      | false=>rw[hst]at h;exact uJ d _ _ _ l h
     .split at h
      .exact uJ d _ _ _ l h
      .cases h
     .cases h
def uJ:∀ (d:Nat) (fs:List Field) (xs ys:List Value) (l:List Value),uK P d fs xs ys=some l->l.length%2=0
 | 0,_,_,_,_,h=>by simp[uK]at h
 | d+1,[],_,_,_,h=>by simp only[uK,C7]at h;subst h;rfl
 | d+1,f::fs,xs,ys,l,h=>by
   unfold uK at h;cases hnm:f.name == "_" with
   | true=>rw[hnm]at h;cases h
   | false =>
     rw[hnm]at h;simp only[D4]at h;split at h
     .split at h
      .rename_i a b ha hb;cases h
       have:=KZ d _ _ _ a ha
       have:=uJ d _ _ _ b hb;simp only[G1];omega
      .cases h
     .cases h
end
mutual
def II:∀ (d:Nat) (t:TypeId) (x y x' y':Value) (l:List Value) (b:Bool),eqS P d t x y=some l->jF (l.map (D5 Ora.env))=some b->VR ρ x x'->VR ρ y y'->∀ (n:Nat),d<=n->∀ w:World,(Op.equalIn n t x' y').run P w=.ok b w
 | 0,_,_,_,_,_,_,_,h,_,_,_,_,_,_=>by simp[eqS]at h
 | d+1,t,x,y,x',y',l,b,h,hl,hx,hy,n,hn,w=>by
   obtain⟨n,rfl⟩:∃ k,n=k+1:=⟨n-1,A6⟩;have hn':d<=n:=A6;unfold eqS at h;cases hs:cT P t x y with
   | true =>
     rw[hs]at h;cases h;simp only[B9,E5,jF]at hl;split at hl
     .rename_i u v e1 e2;cases e2;cases hl;rw[eG];exact NC hs hx hy e1 n w
     .cases hl
   | false =>
     rw[hs]at h;simp only[D4]at h;split at h
     .rename_i fs xs ys hu;cases hst:P.stoodInHeld t with
      | true=>rw[hst]at h;cases h
      | false =>
        rw[hst]at h;obtain⟨xs',rfl,hx1⟩:=T8 hx;obtain⟨ys',rfl,hy1⟩:=T8 hy;have hf:P.fieldsOf t=fs:=by simp[Program.fieldsOf,hu]
        rw[run_equalIn_struct (P:=P) w n t _ _ (by rw[hf];exact hu) hst,hf];exact AV d fs.toList xs.toList ys.toList xs' ys' l b h hl hx1 hy1 n hn' w
     .rename_i k e xs ys hu;split at h
      .rename_i s hz;obtain⟨xs',rfl,hx1⟩:=T8 hx;obtain⟨ys',rfl,hy1⟩:=T8 hy;obtain⟨i,hi,rfl⟩:=wT hz;rw[run_equalIn_array (P:=P) (w:=w) n _ _ hu hi,show P.cellsOf e=i.size by simp[Program.cellsOf,hi],cV];exact AV d _ xs.toList ys.toList xs' ys' l b h hl hx1 hy1 n hn' w
      .cases h
     .cases h
def AV:∀ (d:Nat) (fs:List Field) (xs ys xs' ys':List Value) (l:List Value) (b:Bool),uK P d fs xs ys=some l->jF (l.map (D5 Ora.env))=some b->LR ρ xs xs'->LR ρ ys ys'->∀ (n:Nat),d<=n->∀ w:World,(Op.eqFields n ⟨xs'⟩ ⟨ys'⟩ fs).run P w=.ok b w
 | 0,_,_,_,_,_,_,_,h,_,_,_,_,_,_=>by simp[uK]at h
 | d+1,[],_,_,_,_,_,b,h,hl,_,_,_,_,_=>by
   simp only[uK,C7]at h;subst h;simp only[E5,jF,C7]at hl;subst hl;simp[Op.eqFields]
 | d+1,f::fs,xs,ys,xs',ys',l,b,h,hl,hx,hy,n,hn,w=>by
   unfold uK at h;cases hnm:f.name == "_" with
   | true=>rw[hnm]at h;cases h
   | false =>
     rw[hnm]at h;simp only[D4]at h;have hn':f.name ≠ "_":=by simpa using hnm
     split at h
     .rename_i x y h1 h2;obtain⟨x',g1,g2⟩:=eQ h1 hx w;obtain⟨y',g3,g4⟩:=eQ h2 hy w;split at h
      .rename_i a c ha hc;cases h;rw[N1]at hl;obtain⟨p,q,e1,e2,rfl⟩:=qU (by have:=KZ d _ _ _ a ha;simpa using this) hl;have ih:=II d f.type x y x' y' a p ha e1 g2 g4 n A6 w;have ih2:=AV d fs xs ys xs' ys' c q hc e2 hx hy n A6 w;unfold Op.eqFields;rw[B2 hn'];cases p<;>simp[A4,g1,g3,Result.andThen,ih,ih2]
      .cases h
     .cases h
end
end
end
section
open Go
variable [Ora]
section
variable {P:Program} {base:Nat} {ρ:Ren} {m m':Mem} {w w':World}
def St.new0{ab:AB}(h:HR P base ρ m.H w)(Q:Y0 m ab k=some (v,m'))(S:I8 ρ m.n m'.hi)(J:BR P (upd ρ m.n l') ab l' w)(F:l'.on=false)
  (M:∀ q,Tc ab l' q->Fp ρ m.H q/\∀ id,id<=G9->∀ a l,Hp.get m.H id=some a->ρ id=some l->a.rw=true->l.on=true->l.blk≠q):v=k m.n/\upd ρ m.n l' m.n=some l'/\St P base ρ (upd ρ m.n l') m m' w w:=by
 obtain⟨hle,O,rfl⟩:=K5 Q;have E:ρ m.n=none:=S m.n (A7 _) (J7 _ _).2;have A:=V1 (l:=l') E;refine⟨O,K7 _ _ _,A,fun b q h1 j=>?_,by simp,(J7 _ _).1,fun _=>X3 (J7 _ _).2,⟨fun b q N=>?_,fun id hid a f=>?_⟩,fun b J=>J,fun b h1 j=>absurd h1 j,fun q N _=>rfl,A7 _,⟨rfl,rfl,rfl⟩,fun b q h1 j B=>?_,fun id hid h1 j=>?_,fun q ⟨id,a,l,hid,f,D,L⟩=>.inr ?_⟩
 .obtain⟨rfl,rfl⟩:=S0 h1 j;exact⟨A7 _,H9 _⟩
 .cases h0:ρ b with
  | some R=>exact h.dom b R h0
  | none=>obtain⟨rfl,rfl⟩:=S0 N h0;exact hle
 .rw[E9 _ _ _ _ hle hid]at f;by_cases e:id=m.n
  .rw[B2 e]at f;have f:=A5 f;subst f;subst e;exact⟨l',K7 _ _ _,J,fun _ B=>(by rw[F]at B;cases B)⟩
  .rw[B0 e]at f;obtain⟨l0,h1,j,h3⟩:=h.at_ id hid a f;refine⟨l0,A _ _ h1,j.mono A (fun _ _=>rfl),fun hr B=>⟨(h3 hr B).1,fun G C I l2 g1 g2 g3=>?_⟩⟩;rw[E9 _ _ _ _ hle C]at g1;by_cases K:G=m.n
   .subst K;rw[K7]at g2
    have:=A5 g2;subst this;rw[B2 rfl]at g1;have g1:=A5 g1;subst g1;exact absurd rfl ((M _ g3).2 id hid a l0 f h1 hr B)
   .rw[B0 K]at g1;unfold upd at g2;rw[B0 K]at g2;exact(h3 hr B).2 G C I l2 g1 g2 g3
 .obtain⟨rfl,rfl⟩:=S0 h1 j;rw[F]at B;cases B
 .rw[E9 _ _ _ _ hle hid,B0];intro e;subst e;rcases j with j|j
  .omega
  .have j:upN m.hi m.n<=m.n:=j
   have:=(J7 m.hi m.n).2;omega
 .have f:Hp.get (m.H.set m.n (some ab)) id=some a:=f;rw[E9 _ _ _ _ hle hid]at f;by_cases e:id=m.n
  .subst e;rw[B2 rfl]at f;have f:=A5 f;subst f;rw[K7]at D;have D:=A5 D;subst D;exact(M q L.2).1
  .rw[B0 e]at f;unfold upd at D;rw[B0 e]at D;exact⟨id,a,l,hid,f,D,L⟩
def St.same0{ab:AB}{id:Nat}(h:HR P base ρ m.H w)(R:aK m id ab'=some m')(L:Hp.get m.H id=some ab)(D:ab.rw=true)(G:ρ id=some l)(M:BR P ρ ab' l w)(Q:∀ q,Tc ab' l q->Tc ab l q):St P base ρ ρ m m' w w:=by
 obtain⟨hle,rfl⟩:=S2 R;obtain⟨E,h3⟩:=h.atl G L;refine⟨fun _ _ h=>h,fun b k h1 E=>(by rw[h1]at E;cases E),A7 _,A7 _,fun h=>h,⟨h.dom,fun n f a A=>?_⟩,fun b M=>C5 _ M,fun b h1 E k K=>?_,fun k K T=>rfl,A7 _,⟨rfl,rfl,rfl⟩,fun b k h1 E=>(by rw[h1]at E;cases E),fun n f S U=>?_,fun k ⟨n,a,q,f,A,I,O⟩=>.inr ?_⟩
 .rw[E9 _ _ _ _ hle f]at A;by_cases e:n=id
  .rw[B2 e]at A;have A:=A5 A;subst A;subst e;refine⟨l,G,M,fun _ B=>⟨(h3 D B).1,fun C j F N g1 g2 g3=>?_⟩⟩;rw[E9 _ _ _ _ hle j]at g1;by_cases J:C=n
   .exact J
   .rw[B0 J]at g1;exact(h3 D B).2 C j F N g1 g2 g3
  .rw[B0 e]at A;obtain⟨l2,g1,g2,g3⟩:=h.at_ n f a A;refine⟨l2,g1,g2.mono (fun _ _ h=>h) (fun k K=>rfl),fun hr B=>⟨(g3 hr B).1,fun C j F N f1 f2 f3=>?_⟩⟩;rw[E9 _ _ _ _ hle j]at f1;by_cases J:C=id
   .subst J;rw[G]at f2
    have:=A5 f2;subst this;have f1:=A5 (by simpa using f1);subst f1;exact(g3 hr B).2 C j ab l L G (Q _ f3)
   .rw[B0 J]at f1;exact(g3 hr B).2 C j F N f1 f2 f3
 .rcases A8.1 h1 with rfl|h1
  .exact⟨ab,L,D⟩
  .exact absurd h1 E
 .rw[E9 _ _ _ _ hle f,B0];intro e;subst e;exact S B5
 .have A:Hp.get (m.H.set id (some ab')) n=some a:=A;rw[E9 _ _ _ _ hle f]at A;by_cases e:n=id
  .subst e;rw[B2 rfl]at A;have A:=A5 A;subst A;rw[G]at I;have I:=A5 I;subst I;exact⟨n,ab,l,f,L,G,AB.rw_fr D,Q _ O.2⟩
  .rw[B0 e]at A;exact⟨n,a,q,f,A,I,O⟩
def St.move{ab:AB}{id:Nat}(h:HR P base ρ m.H w)(hle:id<=G9)(Y:Hp.get m.H id=some ab)(D:ab.rw=true)(T:ρ id=some l)
  (hn:Y0 (gN m id) ab' k=some (v,m')) (hf:I8 ρ m.n m'.hi) (M:l'.on=true->l.on=true/\l'.blk=l.blk)
  (ho:w'.os=w.os/\w'.tape=w.tape/\w'.output=w.output) (ax:w'.heap.size=w.heap.size) (hk:∀ k,(l.on=true->k≠l.blk)->w'.heap[k]? = w.heap[k]?) (U:BR P (upd ρ m.n l') ab' l' w') (ay:ab'≠.frz) :
  v=k m.n/\upd ρ m.n l' m.n=some l'/\St P base ρ (upd ρ m.n l') m m' w w':=by
 rw[g7]at hn;obtain⟨R,hv,rfl⟩:=K5 hn;have C:ρ m.n=none:=hf m.n (A7 _) (J7 _ _).2;have F:=V1 (l:=l') C;obtain⟨O,h3⟩:=h.atl T Y;have V:∀ k,Tc ab' l' k->l.on=true/\k=l.blk:=fun k hk=>by
  rcases hk with⟨_,h1,rfl⟩|⟨rfl,_⟩
  .exact M h1
  .exact absurd rfl ay
 have aw:id≠m.n:=fun e=>by subst e;rw[T]at C;cases C
 have A:∀ i,i<=G9->Hp.get ((m.H.set id none).set m.n (some ab')) i=if i=m.n then some ab' else if i=id then none else Hp.get m.H i:=fun i hi=>by
  rw[E9 _ _ _ _ R hi,E9 _ _ _ _ hle hi]
 refine⟨hv,K7 _ _ _,F,fun b q h1 O=>?_,Y4 _,(J7 _ _).1,fun _=>X3 (J7 _ _).2,⟨fun b q E=>?_,fun i hi a f=>?_⟩,fun b U=>C5 _ U,fun b h1 O q E=>?_,fun q E az=>hk q ?_,by rw[ax];exact A7 _,ho,fun b q h1 O B=>?_,fun i hi h4 Q=>?_,fun k ⟨i,a,q,hi,f,E,ht⟩=>.inr ?_⟩
 .obtain⟨rfl,rfl⟩:=S0 h1 O;exact⟨A7 _,H9 _⟩
 .cases h0:ρ b with
  | some q0=>exact h.dom b q0 h0
  | none=>obtain⟨rfl,rfl⟩:=S0 E h0;exact R
 .have f:Hp.get ((m.H.set id none).set m.n (some ab')) i=some a:=f;rw[A i hi]at f;by_cases e:i=m.n
  .rw[B2 e]at f;have f:=A5 f;subst f;subst e;refine⟨l',K7 _ _ _,U,fun av B=>?_⟩;obtain⟨j,hblk⟩:=M B;refine⟨by rw[hblk];exact(h3 D j).1,fun J L Z l2 g1 g2 g3=>?_⟩;rw[A J L]at g1;by_cases e2:J=m.n
   .exact e2
   .rw[B0 e2]at g1;unfold upd at g2;rw[B0 e2]at g2;by_cases I:J=id
    .rw[B2 I]at g1;cases g1
    .rw[B0 I]at g1;exact absurd ((h3 D j).2 J L Z l2 g1 g2 (hblk▸g3)) I
  .rw[B0 e]at f;by_cases I:i=id
   .rw[B2 I]at f;cases f
   .rw[B0 I]at f;obtain⟨l2,g1,g2,g3⟩:=h.at_ i hi a f;have W:∀ k,Tc a l2 k->l.on=true->k≠l.blk:=fun k N j hh=>I ((h3 D j).2 i hi a l2 f g1 (hh▸N))
    refine⟨l2,F _ _ g1,g2.mono F (fun k N=>hk _ (W k N)),fun hr B=>⟨(g3 hr B).1,fun G K S l3 f1 f2 f3=>?_⟩⟩;have f1:Hp.get ((m.H.set id none).set m.n (some ab')) G=some S:=f1;rw[A G K]at f1;by_cases e4:G=m.n
    .subst e4;rw[K7]at f2
     have:=A5 f2;subst this;rw[B2 rfl]at f1;have f1:=A5 f1;subst f1;obtain⟨j,E⟩:=V _ f3;exact absurd E (W _ (.inl ⟨AB.rw_on hr,B,rfl⟩) j)
    .rw[B0 e4]at f1;unfold upd at f2;rw[B0 e4]at f2;by_cases e5:G=id
     .rw[B2 e5]at f1;cases f1
     .rw[B0 e5]at f1;exact(g3 hr B).2 G K S l3 f1 f2 f3
 .rcases A8.1 h1 with rfl|h1
  .exact⟨ab,Y,D⟩
  .exact absurd h1 O
 .exact fun j e=>az id B5 l T j e.symm
 .obtain⟨rfl,rfl⟩:=S0 h1 O;obtain⟨j,hblk⟩:=M B;exact .inr ⟨id,B5,l,T,j,hblk.symm⟩
 .have X:=A i hi;show Hp.get ((m.H.set id none).set m.n (some ab')) i=_;rw[X,B0,B0]
  .intro e;subst e;exact h4 B5
  .intro e;subst e;rcases Q with Q|Q
   .omega
   .have Q:upN m.hi m.n<=m.n:=Q
    have:=(J7 m.hi m.n).2;omega
 .have f:Hp.get ((m.H.set id none).set m.n (some ab')) i=some a:=f;rw[A i hi]at f;by_cases e:i=m.n
  .rw[B2 e]at f;have f:=A5 f;subst f;subst e;rw[K7]at E;have E:=A5 E;subst E;obtain⟨j,U⟩:=V k ht.2;exact⟨id,ab,l,hle,Y,T,AB.rw_fr D,.inl ⟨AB.rw_on D,j,U.symm⟩⟩
  .rw[B0 e]at f;unfold upd at E;rw[B0 e]at E;by_cases I:i=id
   .rw[B2 I]at f;cases f
   .rw[B0 I]at f;exact⟨i,a,q,hi,f,E,ht⟩
end
end
section
open Go
variable [Ora]
def u6{m m':Mem}{ab:AB}(h:Y0 m ab k=some (v,m')):m'.lg=m.lg:=by
 obtain⟨_,_,rfl⟩:=K5 h;rfl
def bO{m m':Mem}{id:Nat}{ab:AB}(h:aK m id ab=some m'):m'.lg=m.lg:=by
 obtain⟨_,rfl⟩:=S2 h;rfl
def oR{m m':Mem}(h:lH m a vs=some m'):m'.lg=m.lg:=by
 unfold lH at h;split at h
 .obtain⟨_,h⟩:=A2 h;rw[H5]at h;exact bO h
 .cases h
def MV{P:Program}{m m':Mem}(h:sS P m t a v=some m'):m'.lg=m.lg:=by
 unfold sS at h;split at h
 .obtain⟨_,h⟩:=A2 h;exact oR h
 .cases h
def j9{m m':Mem}(h:noM o m=some (v,m')):m'.lg=m.lg:=by
 obtain⟨_,rfl⟩:=d9 h;rfl
def vA{P:Program}{m m':Mem}{n:Nat}{ps:List (Nat×Value)}(h:aW P m t n ps=some (v,m')):m'.lg=m.lg:=by
 unfold aW at h;split at h
 .split at h
  .obtain⟨_,h⟩:=A2 h;split at h
   .exact u6 h
   .cases h
  .cases h
 .cases h
def vV{P:Program}{m m':Mem}{l:Value}(h:cP P m t l c=some (v,m')):m'.lg=m.lg:=by
 unfold cP at h;split at h
 .split at h
  .obtain⟨_,h⟩:=A2 h;split at h
   .rw[H5]at h;exact u6 h
   .cases h
  .cases h
 .cases h
def UA{P:Program}{m m':Mem}(h:yH P m s t x=some (v,m')):m'.lg=m.lg:=by
 unfold yH at h;split at h
 .cases h;rfl
 .cases h;rfl
 .cases h;rfl
 .split at h
  .split at h
   .rw[H5]at h;exact u6 h
   .cases h
  .cases h
 .split at h<;>cases h;rfl
 .split at h
  .split at h
   .split at h<;>cases h;rfl
   .cases h
  .cases h
 .cases h
def IR{P:Program}{m m':Mem}(h:oK P m t t2 x y=some (v,m')):m'.lg=m.lg:=by
 unfold oK at h;split at h
 .rename_i A d2 _ _;cases f:bF d2 with
  | false=>rw[f]at h;cases h
  | true =>
  rw[f]at h;simp only[O7,D4]at h;split at h
  .rename_i i a n c _;split at h
   .rename_i k new z _ _;obtain⟨_,h⟩:=A2 h;cases hk:Nat.beq k 0 with
    | true =>
      rw[hk]at h;simp only[D9]at h;split at h
      .obtain⟨_,h⟩:=A2 h;cases h;rfl
      .obtain⟨_,h⟩:=A2 h;cases h;rfl
    | false =>
      rw[hk]at h;simp only[D4]at h;split at h
      .obtain⟨_,h⟩:=A2 h;rw[H5]at h;exact u6 h
      .cases q:Nat.blt c L7 with
       | true =>
         rw[q]at h;simp only[D9]at h;cases j:Nat.ble (n+k) c with
         | true =>
           rw[j]at h;simp only[D9]at h;split at h
           .rename_i m1 _ hw;cases h;exact oR hw
           .cases h
         | false =>
           rw[j]at h;simp only[D4]at h;split at h
           .rw[H5]at h;exact u6 h
           .cases h
       | false =>
         rw[q]at h;simp only[D4]at h;obtain⟨_,h⟩:=A2 h;split at h
         .obtain⟨_,h⟩:=A2 h;rw[H5]at h;rw[u6 h,g7]
         .cases h
   .cases h
  .cases h
 .cases h
def TX{P:Program}{m m':Mem}(h:FJ P m t x y=some (v,m')):m'.lg=m.lg:=by
 unfold FJ at h;split at h
 .split at h
  .split at h
   .split at h
    .obtain⟨_,h⟩:=A2 h;cases h;rfl
    .rename_i k cs j _ n;cases f:Nat.beq cs.length 0 with
     | true=>rw[f]at h;cases h;rfl
     | false =>
       rw[f]at h;simp only[D4]at h;obtain⟨_,h⟩:=A2 h;split at h
       .rename_i hw;cases h;exact oR hw
       .cases h
   .cases h
  .cases h
 .cases h
def vI{P:Program}{m m':Mem}{l:Value}(h:cE P m pt p l=some (v,m')):m'.lg=m.lg:=by
 unfold cE at h;split at h
 .cases h;rfl
 .split at h
  .split at h
   .obtain⟨_,h⟩:=A2 h;split at h
    .split at h
     .rename_i W3;cases h;exact bO W3
     .cases h
    .cases h
   .cases h
  .cases h
 .cases h
def FU{P:Program}{m m':Mem}(h:fB P m b vs tys=some (v,m')):m'.lg=m.lg:=by
 unfold fB at h;split at h
 .exact j9 h
 .exact j9 h
 .exact IR h
 .exact TX h
 .exact j9 h
 .exact j9 h
 .unfold fF at h;split at h
  .cases h;rfl
  .rename_i a n c;cases f:Nat.beq n 0 || Nat.beq c 0 || Nat.beq c (L7+2)with
   | true=>rw[f]at h;cases h
   | false=>rw[f]at h;cases h;rfl
  .cases h
 .exact vI h
 .cases h
def A1Z{P:Program}{fr:Fr}{m m':Mem}{o:Op}(h:opM P fr m o=some (v,m')):m'.lg=m.lg:=by
 unfold opM at h;split at h
 .cases h;rfl
 .cases h;rfl
 .unfold JW at h;split at h<;>cases h<;>rfl
 .unfold AC at h;split at h
  .exact u6 h
  .cases h
 .unfold RR at h;obtain⟨_,h⟩:=A2 h;exact u6 h
 .exact j9 h
 .exact vA h
 .unfold JX at h;split at h
  .exact j9 h
  .cases h
 .unfold zZ at h;split at h
  .obtain⟨h,_⟩:=kH h;exact MV h
  .cases h
 .unfold RQ at h;split at h<;>cases h<;>rfl
 .unfold XO at h;rename_i op t x y j;cases f:uA op with
  | true=>rw[f]at h;simp only[D9]at h;obtain⟨_,h⟩:=A2 h;exact j9 h
  | false=>rw[f]at h;exact j9 h
 .exact j9 h
 .exact UA h
 .unfold AA at h;split at h
  .split at h
   .cases h
   .obtain⟨_,h⟩:=A2 h;cases h;rfl
  .cases h
 .cases h;rfl
 .exact vV h
 .exact j9 h
 .exact j9 h
 .exact j9 h
 .exact j9 h
 .exact j9 h
 .unfold iN at h;split at h
  .exact j9 h
  .cases h
 .exact FU h
 .cases h
def H1{m m':Mem}{t:Nat}{op:LOp}(h:R4 m t op xs=some (v,m')):m.lg.le m'.lg:=by
 obtain⟨_,rfl⟩:=fT h;obtain⟨H,n,W,hi,l⟩:=m;exact⟨[_],rfl⟩
def I7(m m':Mem):Prop:=∃ lg,m'=m.wLg lg
def I7.refl(m:Mem):I7 m m:=⟨m.lg,by cases m;rfl⟩
def I7.trans{a b c:Mem}(h:I7 a b)(k:I7 b c):I7 a c:=by
 obtain⟨l,rfl⟩:=h;obtain⟨l2,rfl⟩:=k;exact⟨l2,by cases a;rfl⟩
def G7{m m':Mem}{t:Nat}{op:LOp}(h:R4 m t op xs=some (v,m')):I7 m m':=⟨_,(fT h).2⟩
section
variable {P:Program} {base:Nat} {ρ:Ren} {m m':Mem} {w:World}
def GL{a b:Value}(h:rJ m c a b=some (v,m')):m.lg.le m'.lg/\I7 m m':=by
 obtain⟨H,n,W,hi,lg⟩:=m;unfold rJ at h;simp only at h;split at h
 .rename_i j f;cases h;exact⟨cZ f,⟨_,rfl⟩⟩
 .rename_i j f;cases h;exact⟨cZ f,⟨_,rfl⟩⟩
 .cases h
def MT{a b:Value}(h:lK P m op t a b=some (v,m')):m.lg.le m'.lg/\I7 m m':=by
 unfold lK at h;simp only at h;cases h1:(Nat.blt (F9 a) 8 && Nat.blt (F9 b) 8) || (Nat.beq (F9 a) 9 && Nat.beq (F9 b) 9)with
 | true=>rw[h1]at h;exact⟨H1 h,G7 h⟩
 | false =>
   rw[h1]at h;simp only[D4]at h;obtain⟨_,h⟩:=A2 h;exact⟨H1 h,G7 h⟩
def PN{x y:Operand}{a b:Value}(h:CK P m op t x y a b=some (v,m')):m.lg.le m'.lg/\I7 m m':=by
 unfold CK at h;obtain⟨_,h⟩:=A2 h;split at h
 .exact⟨H1 h,G7 h⟩
 .split at h
  .rename_i m1 h1;exact⟨(H1 h1).trans (H1 h),(G7 h1).trans (G7 h)⟩
  .cases h
 .cases h
def CJ{i:Value}(h:c9 P m t x i=some (v,m')):m.lg.le m'.lg/\I7 m m':=by
 unfold c9 at h;cases f:!(Nat.blt (F9 i) 8)with
 | true=>rw[f]at h;cases h
 | false =>
   rw[f]at h;simp only[D4]at h;split at h
   .obtain⟨_,h⟩:=A2 h;exact⟨H1 h,G7 h⟩
   .split at h
    .obtain⟨_,h⟩:=A2 h;exact⟨H1 h,G7 h⟩
    .obtain⟨_,h⟩:=A2 h;exact⟨H1 h,G7 h⟩
    .cases h
   .cases h
def CH(h:iB P m t x lo hi mx=some (v,m')):m.lg.le m'.lg/\I7 m m':=by
 unfold iB at h;split at h
 .obtain⟨_,h⟩:=A2 h;split at h
  .cases h;exact⟨.refl _,.refl _⟩
  .obtain⟨_,h⟩:=A2 h;exact⟨H1 h,G7 h⟩
  .obtain⟨_,h⟩:=A2 h;exact⟨H1 h,G7 h⟩
  .obtain⟨_,h⟩:=A2 h;exact⟨H1 h,G7 h⟩
 .cases h
def PK{op:UnOp}(h:CF m op x=some (v,m')):m.lg.le m'.lg/\I7 m m':=by
 unfold CF at h;simp only at h;split at h
 .obtain⟨_,h⟩:=A2 h;exact⟨H1 h,G7 h⟩
 .obtain⟨_,h⟩:=A2 h;exact⟨H1 h,G7 h⟩
def GP(h:mS P m s t x=some (v,m')):m.lg.le m'.lg/\I7 m m':=by
 unfold mS at h;split at h
 .obtain⟨_,h⟩:=A2 h;exact⟨H1 h,G7 h⟩
 .obtain⟨_,h⟩:=A2 h;cases h;exact⟨.refl _,.refl _⟩
 .cases h
def vR(h:cH P m b vs tys=some (v,m')):m.lg.le m'.lg/\I7 m m':=by
 unfold cH at h;split at h
 .split at h
  .obtain⟨_,h⟩:=A2 h;exact⟨H1 h,G7 h⟩
  .cases h
 .obtain⟨_,h⟩:=A2 h;exact⟨H1 h,G7 h⟩
 .obtain⟨_,h⟩:=A2 h;exact⟨H1 h,G7 h⟩
 .cases h
def KP{s n:Nat}{i:Value}(h:NW m a s n i=some (v,m')):m.lg.le m'.lg/\I7 m m':=by
 unfold NW at h;cases j:!(Nat.blt (F9 i) 8)with
 | true=>rw[j]at h;cases h
 | false =>
   rw[j]at h;simp only[D4]at h;split at h
   .rename_i b H k W hi lg q;split at h
    .rename_i f C;cases h;have h1:=H1 q;obtain⟨l1,A⟩:=G7 q;refine⟨h1.trans (cZ C),f,?_⟩;obtain⟨H0,n0,D,B,l0⟩:=m;cases A;rfl
    .cases h
   .cases h
def vM{i:Value}(h:cF P m t x i=some (v,m')):m.lg.le m'.lg/\I7 m m':=by
 unfold cF at h;split at h
 .split at h
  .exact KP h
  .cases h
 .split at h
  .generalize f:Nat.beq _ (L7+2)=q at h;cases q with
   | true=>cases h
   | false=>exact KP h
  .cases h
 .cases h
def vO(h:cG P m s x i=some (v,m')):m.lg.le m'.lg/\I7 m m':=by
 unfold cG at h;split at h
 .split at h
  .split at h
   .split at h
    .cases h;exact⟨.refl _,.refl _⟩
    .cases h
   .cases h
  .cases h
 .cases h
def dL{cs:D0}{s n:Nat}{i:Value}:∀ {k o:Nat} {m m':Mem} {r:D0},aM m cs s n i o k=some (r,m')->m.lg.le m'.lg/\I7 m m'
 | 0,o,m,m',r,h=>by cases h;exact⟨.refl _,.refl _⟩
 | k+1,o,m,m',r,h=>by
   unfold aM at h;split at h
   .obtain⟨_,h⟩:=A2 h;split at h
    .rename_i m1 h1;split at h
     .rename_i f;cases h
      have:=dL f;exact⟨(H1 h1).trans this.1,(G7 h1).trans this.2⟩
     .cases h
    .cases h
   .cases h
def GN(h:mR P m t x=some (v,m')):m.lg.le m'.lg/\I7 m m':=by
 unfold mR at h;split at h
 .split at h
  .split at h
   .split at h
    .rename_i h1;cases h;exact dL h1
    .cases h
   .cases h
  .split at h
   .split at h
    .rename_i h1;cases h;exact dL h1
    .cases h
   .cases h
  .cases h
 .cases h
def JC{fr:Fr}{o:Op}(h:PL P fr m o=some (v,m')):m.lg.le m'.lg/\I7 m m':=by
 unfold PL at h;split at h
 .exact GL h
 .split at h
  .rename_i r hr;cases h;exact MT hr
  .exact PN h
 .exact PK h
 .exact GP h
 .exact CH h
 .exact CJ h
 .exact vM h
 .exact vO h
 .exact GN h
 .exact vR h
 .cases h
def nL{j k:IntKind}(h:eU j=eU k):j=k:=by cases j<;>cases k<;>first|rfl|(simp only[eU]at h;omega)
def MS{x y:Operand}{a b:Value}(h:lK P m op t a b=some (v,m'))(G:VR ρ a a')(E:VR ρ b b')(H:Sat m'.lg)(w:World) :
  ∃ r,(do eqGuard op t x y a' b';binOp op t a' b':Sem Value).run P w=.ok r w/\VR ρ v r:=by
 have fin:∀ {r:Value} {p q:Value},tA p=true->tA q=true->oI P op t p q=some r->a'=p->b'=q->(do eqGuard op t x y a' b';binOp op t a' b':Sem Value).run P w=.ok r w:=fun{r p q} hp L hr f C=>by
  subst f;subst C;have v1:VR ρ a' a':=.pure (by cases a'<;>simp[tA]at hp<;>rfl);have v2:VR ρ b' b':=.pure (by cases b'<;>simp[tA]at L<;>rfl);have g:iY P t x y a' b'=true:=by
   cases a'<;>simp[tA]at hp<;>cases b'<;>simp[tA]at L<;>rfl
  have N:=nU (op:=op) (fun _=>g) v1 v2 w;obtain⟨A,_⟩:=sE hr v1 v2 w;simp[A4,N,A,Result.andThen]
 unfold lK at h;simp only at h;cases h1:(Nat.blt (F9 a) 8 && Nat.blt (F9 b) 8) || (Nat.beq (F9 a) 9 && Nat.beq (F9 b) 9)with
 | true =>
   rw[h1]at h;obtain⟨u,f,C,r,B,F,O⟩:=K9 h H;have J:F3 u<10:=by rw[C];exact O
   refine⟨r,?_,F ρ⟩;rcases G0 _ _▸h1 with h1|h1
   .obtain⟨p1,D⟩:=B6 h1;obtain⟨k,n,rfl,f1,_⟩:=L3 G (A1 p1);obtain⟨j,Q,rfl,f2,_⟩:=L3 E (A1 D);simp only[B9,E5,f1,f2,evU,evB]at f;subst f;obtain⟨M,g1,g2⟩:=zY J;rw[B]at g2;cases g2;exact fin rfl rfl (by unfold oI;exact g1) rfl rfl
   .obtain⟨p1,D⟩:=B6 h1;obtain⟨s1,rfl,f1⟩:=i7 G (A0 p1);obtain⟨s2,rfl,f2⟩:=i7 E (A0 D);simp only[B9,E5,f1,f2,evU,evB]at f;subst f;obtain⟨M,g1,g2⟩:=zY J;rw[B]at g2;cases g2;exact fin rfl rfl (by unfold oI;exact g1) rfl rfl
 | false =>
   rw[h1]at h;simp only[D4]at h;obtain⟨A,h⟩:=A2 h;obtain⟨A,I⟩:=B6 A;obtain⟨A,K⟩:=B6 A;obtain⟨A,h3⟩:=B6 A;have hu:P.underlying t=some .bool:=by
    split at I
    .assumption
    .cases I
   obtain⟨u,f,C,r,B,F,_⟩:=K9 h H;refine⟨r,?_,F ρ⟩;obtain⟨p,rfl,f1⟩:=eK G (A0 A);obtain⟨q,rfl,f2⟩:=eK E (A0 h3);simp only[B9,E5,f1,f2,evU,evB]at f;cases op<;>simp only[uA]at K<;>first
    | cases K
    | skip
   .subst f;cases B;exact fin rfl rfl (by simp[oI,xB,eqM,hu]) rfl rfl
   .subst f;cases B;exact fin rfl rfl (by simp[oI,xB,eqM,hu]) rfl rfl
def qZ(e:Bool)(f:∃ cs,a'=.agg cs):binOp (bif e then .eql else .neq) t a' b'=(do let r <- Op.equal t a' b';pure (.bool (bif e then r else !r))):=by
 obtain⟨cs,rfl⟩:=f;cases e<;>cases b'<;>rfl
def PM{x y:Operand}{a b:Value}(h:CK P m op t x y a b=some (v,m'))(E:VR ρ a a')(L:VR ρ b b')(j:lK P m op t a b=none)(I:Sat m'.lg)(w:World) :
  ∃ r,(do eqGuard op t x y a' b';binOp op t a' b':Sem Value).run P w=.ok r w/\VR ρ v r:=by
 unfold CK at h;obtain⟨Q,h⟩:=A2 h;have D:=nU (op:=op) (fun _=>Q) E L w;have q:∀ {l},eqS P 20 t a b=some l->(op=.eql∨op=.neq)->∃ cs,a'=.agg cs:=fun{l} f G=>by
  unfold eqS at f;cases A:cT P t a b with
  | true =>
    unfold cT at A;unfold lK at j;simp only at j;split at A
    .rename_i hu;obtain⟨q1,q2⟩:=B6 A;rw[A0 q1,A0 q2,hu]at j;obtain⟨H,n,W,hi,⟨nx,pi,log⟩⟩:=m;rcases G with rfl|rfl<;>simp[uA,R4,E6,H5]at j
    .rename_i k hu;obtain⟨q1,q2⟩:=B6 A;have q3:=K6 k;have q4:Nat.blt (eU k) 8=true:=C6 q3;rw[A0 q1,A0 q2,q4]at j;obtain⟨H,n,W,hi,⟨nx,pi,log⟩⟩:=m;simp[R4,E6,H5]at j
    .obtain⟨q1,q2⟩:=B6 A;rw[A0 q1,A0 q2]at j;obtain⟨H,n,W,hi,⟨nx,pi,log⟩⟩:=m;simp[R4,E6,H5]at j
    .cases A
  | false =>
    rw[A]at f;simp only[D4]at f;split at f
    .obtain⟨cs',rfl,_⟩:=T8 E;exact⟨_,rfl⟩
    .obtain⟨cs',rfl,_⟩:=T8 E;exact⟨_,rfl⟩
    .cases f
 split at h
 .rename_i l f _;obtain⟨u,B,R,r,F,M,_⟩:=K9 h I;refine⟨r,?_,M ρ⟩;simp only[evU]at B;split at B
  .rename_i z N;subst B;cases F;have he:(Op.equal t a' b').run P w=.ok z w:=II 20 t a b a' b' l z f N E L _ K3 w;have C:=qZ (t:=t) (b':=b') true (q f (.inl rfl));simp only[D9]at C;rw[C];simp[A4,D,he,Result.andThen]
  .subst B;cases F
 .rename_i l f _;split at h
  .rename_i hh m1 h1;have K:Sat m1.lg:=N0.le I (H1 h);obtain⟨S,f1,f2,r1,f3,f4,_⟩:=K9 h1 K;obtain⟨u,B,R,r,F,M,_⟩:=K9 h I;refine⟨r,?_,M ρ⟩;simp only[evU]at f1;split at f1
   .rename_i z N;subst f1;cases f3;have J:=r9 (ρ:=ρ) (f4 ρ) (by obtain⟨e,_⟩:=fT h1;rw[e];show 8<10;omega);have:D5 Ora.env hh=.bool z:=by
     cases hu:D5 Ora.env hh<;>rw[hu]at J<;>first|(cases J.1;done)|skip
     all_goals (obtain⟨O,_⟩:=J;cases O;rfl)
    simp only[B9,E5,this,evU,ev1,unM,ofV]at B;subst B;cases F;have he:(Op.equal t a' b').run P w=.ok z w:=II 20 t a b a' b' l z f N E L _ K3 w;have C:=qZ (t:=t) (b':=b') false (q f (.inr rfl));simp only[D4]at C;rw[C];simp[A4,D,he,Result.andThen]
   .subst f1;cases f3
  .cases h
 .cases h
end
end
end Go.Sx
