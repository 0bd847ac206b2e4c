import Derived.Test.YtjdnjfnhdeplfaaX1
import Derived.Laws.BytesString
set_option linter.all false
set_option maxRecDepth 100000
set_option maxHeartbeats 4000000
namespace Go.Sx
open Go
variable {e pt s t t2 ty:TypeId}{k:Nat->Value}{a' b' c c' p p' u v v' x x' y y' z:Value}{new new' old' vs vs' xs:D0}{d d2:TypeDesc}{a:Addr}{inf:TypeInfo}{ab':AB}{l l':Loc}{r:Q0}{i:Nat}{op:BinOp}{tys:List TypeId}{b:Builtin}{hi lo mx o:N7}{g:Operand->Value}
section
open Go
variable [Ora]
def FP(a b:Nat)(h:b<a):Builtin.nextslicecap a b<=3*a+4000:=by
 have grow:∀ r c,Builtin.growBy a r c<=max (c) (2*a+800):=by
  intro r;induction r with
  | zero=>intro c;simp only[Builtin.growBy];exact Nat.le_max_left _ _
  | succ r f =>
    intro c;simp only[Builtin.growBy];split
    .exact Nat.le_max_left _ _
    .have:=f (c+(c+768) / 4);refine B6 this ?_;rw[Nat.max_le];constructor
     .refine B6 ?_ (Nat.le_max_right _ _);omega
     .exact Nat.le_max_right _ _
 unfold Builtin.nextslicecap;split
 .omega
 .split
  .omega
  .have:=grow 4 b;refine B6 this ?_;rw[Nat.max_le];omega
section
variable {P:Program} {base:Nat} {ρ:Ren} {m m':Mem} {w:World}
def x5{w wd:World}(h:wd.heap=w.heap)(a:Addr):wd.cell? a=w.cell? a:=by simp[World.cell?,h]
def qU(ρ:Ren):∀ l:List UInt8,LR ρ (M7 l) (M7 l)
 | []=>.nil
 | b::r=>.cons (.pure rfl) (qU ρ r)
def pU{s k:Nat}(h:HR P base ρ m.H w)(f:bZ m s y=some (k,new))(B:VR ρ y y') :
  (∀ wd,(Builtin.lenOf y').run P wd=.ok k wd)/\∃ new',LR ρ new new'/\∀ wd:World,wd.heap=w.heap->(Builtin.firstCells s k y').run P wd=.ok ⟨new'⟩ wd:=by
 unfold bZ at f;split at f
 .rename_i n c;obtain⟨h1,q⟩:=A2 f;have h1:=A0 h1;subst h1;cases q;cases M9 B;exact⟨fun _=>rfl,[],.nil,fun _ _=>rfl⟩
 .rename_i a n c;split at f
  .rename_i cs hr;cases f;rcases M4 B with⟨l,D,_,_,rfl⟩|⟨l,c',D,_,_,_,_,rfl⟩|⟨a',c',_,rfl,_,rfl⟩
   .obtain⟨C,h1,q,h3⟩:=X5 h hr D;exact⟨fun _=>rfl,C,h1,fun wd hw=>I5 q fun j v A=>by rw[x5 hw];exact h3 j v A⟩
   .obtain⟨C,h1,q,h3⟩:=X5 h hr D;exact⟨fun _=>rfl,C,h1,fun wd hw=>I5 q fun j v A=>by rw[x5 hw];exact h3 j v A⟩
   .have:new=[]:=by
     unfold i9 at hr;split at hr
     .have:=(fF hr).2;simp at this;exact this
     .cases hr
    subst this;refine⟨fun _=>rfl,[],.nil,fun wd _=>?_⟩;simp[Builtin.firstCells,loadCells,loadCellsFrom]
  .cases f
 .rename_i b;obtain⟨_,f⟩:=A2 f;cases f;cases R3 B;refine⟨fun _=>rfl,M7 b.data.toList,?_,fun wd _=>?_⟩
  .exact qU _ _
  .have e:((b.extract 0 b.size).data.map fun b=>Value.int .u8 b.toNat)=⟨M7 b.data.toList⟩:=by
    apply H7;simp[M7]
   show(pure ((b.extract 0 b.size).data.map fun b=>Value.int .u8 b.toNat):Sem Q0).run P wd=_;rw[e];rfl
 .cases f
def ZG(h:aP d=true):(∃ e,d=.slice e)∨d=.string:=by cases d<;>first|cases h;done|exact .inl ⟨_,rfl⟩|exact .inr rfl
def dY{n k c:Nat}{a:Option Addr}(hu:P.underlying t=some (.slice e))(D:P.underlying t2=some d2)(B:aP d2=true)
  (hi:P.info? e=some inf) (H:∀ w,(zeroValue e).run P w=.ok z w) (hlen:∀ wd,(Builtin.lenOf x').run P wd=.ok k wd)
  (hold:∀ wd:World,wd.heap=w.heap->(Builtin.firstCells inf.size n (.slice a n c)).run P wd=.ok ⟨old'⟩ wd) (A:∀ wd:World,wd.heap=w.heap->(Builtin.firstCells inf.size k x').run P wd=.ok ⟨new'⟩ wd)
  (E:¬ n+k<=c) (K:(3*(n+k)+4000)*inf.bytes<=281474976710656) (hm:n+k<=1000000000) :
  ∃ nc,n+k<=nc/\(Builtin.append_ #[t,t2] ty #[.slice a n c,x']).run P w=.ok (.slice (some ⟨w.heap.size,0,none⟩) (n+k) nc) { w.drew with heap:=w.heap.push (.cells (⟨old'⟩++⟨new'⟩++Builtin.zeroCells z.cells (nc-(n+k))) e (0,0)) }:=by
 have I:F7 P e=some inf.size:=by simp[F7,hi]
 have f:Builtin.nextslicecap (n+k) c*inf.bytes<=281474976710656:=by
  have:=E4 inf.bytes (FP (n+k) c A9);omega
 let q:Question:=.appendCap (n+k) c e
 let nc:=q.cut (w.tape w.drawn q)
 have F:n+k<=nc:=by show n+k<=(n+k)+_;omega
 refine⟨nc,F,?_⟩;have C:(choose q).run P w=.ok nc w.drew:=by
  simp only[choose,Sem.run];rw[B1 (by simp[q,Question.forced])];rfl
 have j:∀ k w,(askRoom k).run P w=.ok () w:=fun k w=>by unfold askRoom;split<;>rfl
 unfold Builtin.append_;rcases ZG B with⟨J,rfl⟩|rfl
 all_goals simp only[I0,O1,O2,A3,C8 hu,C8 D,Result.andThen,J1 I,Sem.run_pure,G9,if_false,hlen]
 all_goals
  have h:¬ (((n+k:Nat):Int)>IntKind.i64.max):=by simp[IntKind.max,IntKind.bits,IntKind.signed];omega
  simp only[B1 E,h,false_and,if_false,A3,Result.andThen,R6 hi];rw[B1 (show ¬ (Builtin.nextslicecap (n+k) c*inf.bytes>2 ^ 48) by simpa using f)];have G:w.drew.heap=w.heap:=rfl;simp only[A3,Sem.run_pure,Result.andThen,show(choose (.appendCap (n+k) c e)).run P w=.ok nc w.drew from C,j,hold _ G,A _ G,H,R6 hi,Bool.not_false,if_true];rfl
def jB{n k c:Nat}{w':World}(hu:P.underlying t=some (.slice e))(q:P.underlying t2=some d2)(j:aP d2=true)
  (hi:P.info? e=some inf) (hlen:∀ wd,(Builtin.lenOf x').run P wd=.ok k wd) (f:(Builtin.firstCells inf.size k x').run P w=.ok ⟨new'⟩ w)
  (hle:n+k<=c) (h:(storeCells (a.add (n*inf.size)) new').run P w=.ok () w') :
  (Builtin.append_ #[t,t2] ty #[.slice (some a) n c,x']).run P w=.ok (.slice (some a) (n+k) c) w':=by
 have A:F7 P e=some inf.size:=by simp[F7,hi]
 unfold Builtin.append_;rcases ZG j with⟨B,rfl⟩|rfl
 all_goals simp only[I0,O1,O2,A3,C8 hu,C8 q,Result.andThen,J1 A,Sem.run_pure,G9,if_false,hlen]
 all_goals simp[B2 hle,A3,f,Result.andThen,h]
def pM(hu:P.underlying t=some (.slice e))(n:P.underlying t2=some d2)(j:aP d2=true)
  (hi:P.info? e=some inf) (hlen:∀ wd,(Builtin.lenOf x').run P wd=.ok 0 wd) (f:(Builtin.firstCells inf.size 0 x').run P w=.ok #[] w) :
  (Builtin.append_ #[t,t2] ty #[.slice none 0 0,x']).run P w=.ok (.slice none 0 0) w:=by
 have q:F7 P e=some inf.size:=by simp[F7,hi]
 unfold Builtin.append_;rcases ZG j with⟨h,rfl⟩|rfl
 all_goals simp only[I0,O1,O2,A3,C8 hu,C8 n,Result.andThen,J1 q,Sem.run_pure,G9,if_false,hlen]
 all_goals simp[A3,f,Result.andThen]
def St.kill{ab:AB}{id:Nat}(h:HR P base ρ m.H w)(hle:id<=G2)(F:Hp.get m.H id=some ab)(C:ab.rw=true):St P base ρ ρ m (fR m id) w w:=by
 rw[Z5];refine⟨fun _ _ h=>h,fun b k h1 A=>(by rw[h1]at A;cases A),A6 _,A6 _,fun h=>h,h.sub fun j f a n=>?_,fun b E=>C5 _ E,fun b h1 A k B=>?_,fun k B I=>rfl,A6 _,⟨rfl,rfl,rfl⟩,fun b k h1 A=>(by rw[h1]at A;cases A),fun j f D K=>?_,fun k ⟨j,a,q,f,n,G,J⟩=>.inr ⟨j,a,q,f,?_,G,J⟩⟩
 .rw[E7 _ _ _ _ hle f]at n;by_cases e:j=id
  .rw[B2 e]at n;cases n
  .rw[B1 e]at n;exact n
 .rcases A8.1 h1 with rfl|h1
  .exact⟨ab,F,C⟩
  .exact absurd h1 A
 .rw[E7 _ _ _ _ hle f,B1];intro e;subst e;exact D B4
 .have n:Hp.get (m.H.set id none) j=some a:=n;rw[E7 _ _ _ _ hle f]at n;by_cases e:j=id
  .rw[B2 e]at n;cases n
  .rw[B1 e]at n;exact n
def St.grow{ab:AB}{id:Nat}{w':World}(h:HR P base ρ m.H w)(hle:id<=G2)(hg:Hp.get m.H id=some ab)(F:ab.rw=true)(U:ρ id=some l)(D:l.on=true)
  (hn:W6 (fR m id) ab' k=some (v,m')) (hf:I2 ρ m.n m'.hi)
  (ho:w'.os=w.os/\w'.tape=w.tape/\w'.output=w.output) (ax:w'.heap.size=w.heap.size) (hk:∀ k,k≠l.blk->w'.heap[k]? = w.heap[k]?) (Y:BR P (upd ρ m.n l) ab' l w') (az:ab'≠.frz:=by intro h;cases h) :
  v=k m.n/\St P base ρ (upd ρ m.n l) m m' w w':=by
 rw[Z5]at hn;obtain⟨S,hv,rfl⟩:=J8 hn;have B:ρ m.n=none:=hf m.n (A6 _) (J2 _ _).2;have C:=T8 (l:=l) B;obtain⟨O,h3⟩:=h.atl U hg;have V:∀ k,Tc ab' l k->k=l.blk:=fun k hk=>by
  rcases hk with⟨_,_,rfl⟩|⟨rfl,_⟩
  .rfl
  .exact absurd rfl az
 have aw:id≠m.n:=fun e=>by subst e;rw[U]at B;cases B
 have A:∀ i,i<=G2->Hp.get ((m.H.set id none).set m.n (some ab')) i=if i=m.n then some ab' else if i=id then none else Hp.get m.H i:=fun i hi=>by
  rw[E7 _ _ _ _ S hi,E7 _ _ _ _ hle hi]
 refine⟨hv,C,fun b q h1 O=>?_,W9 _,(J2 _ _).1,fun _=>V4 (J2 _ _).2,⟨fun b q E=>?_,fun i hi a f=>?_⟩,fun b Y=>C5 _ Y,fun b h1 O q E=>?_,fun q E ay=>hk q ?_,by rw[ax];exact A6 _,ho,fun b q h1 O _=>?_,fun i hi h4 W=>?_,fun k ⟨i,a,q,hi,f,E,ht⟩=>.inr ?_⟩
 .obtain⟨rfl,rfl⟩:=R0 h1 O;exact⟨A6 _,H5 _⟩
 .cases h0:ρ b with
  | some q0 =>
    rw[C b q0 h0]at E
    have:=A5 E;subst this;exact h.dom b q0 h0
  | none=>obtain⟨rfl,rfl⟩:=R0 E h0;exact S
 .have f:Hp.get ((m.H.set id none).set m.n (some ab')) i=some a:=f;rw[A i hi]at f;have T:∀ j,j<=G2->∀ J l2,Hp.get ((m.H.set id none).set m.n (some ab')) j=some J->upd ρ m.n l j=some l2->Tc J l2 l.blk->j=m.n:=fun j L J l2 g1 g2 g3=>by
   rw[A j L]at g1;by_cases X:j=m.n
   .exact X
   .rw[B1 X]at g1;unfold upd at g2;rw[B1 X]at g2;by_cases I:j=id
    .rw[B2 I]at g1;cases g1
    .rw[B1 I]at g1;exact absurd ((h3 F D).2 j L J l2 g1 g2 g3) I
  by_cases e:i=m.n
  .rw[B2 e]at f;have f:=A5 f;subst f;subst e;exact⟨l,K0 _ _ _,Y,fun _ _=>⟨(h3 F D).1,T⟩⟩
  .rw[B1 e]at f;by_cases I:i=id
   .rw[B2 I]at f;cases f
   .rw[B1 I]at f;obtain⟨l2,g1,g2,g3⟩:=h.at_ i hi a f;have R:∀ k,Tc a l2 k->k≠l.blk:=fun k M hh=>I ((h3 F D).2 i hi a l2 f g1 (hh▸M))
    refine⟨l2,C _ _ g1,g2.mono C (fun k M=>hk _ (R k M)),fun hr N=>⟨(g3 hr N).1,fun G K Q l3 f1 f2 f3=>?_⟩⟩;have f1:Hp.get ((m.H.set id none).set m.n (some ab')) G=some Q:=f1;rw[A G K]at f1;by_cases e4:G=m.n
    .subst e4;rw[K0]at f2
     have:=A5 f2;subst this;rw[B2 rfl]at f1;have f1:=A5 f1;subst f1;exact absurd (V _ f3) (R _ (.inl ⟨AB.rw_on hr,N,rfl⟩))
    .rw[B1 e4]at f1;unfold upd at f2;rw[B1 e4]at f2;by_cases e5:G=id
     .rw[B2 e5]at f1;cases f1
     .rw[B1 e5]at f1;exact(g3 hr N).2 G K Q l3 f1 f2 f3
 .rcases A8.1 h1 with rfl|h1
  .exact⟨ab,hg,F⟩
  .exact absurd h1 O
 .exact fun e=>ay id B4 l U D e.symm
 .obtain⟨rfl,rfl⟩:=R0 h1 O;exact .inr ⟨id,B4,q,U,D,rfl⟩
 .have Z:=A i hi;show Hp.get ((m.H.set id none).set m.n (some ab')) i=_;rw[Z,B1,B1]
  .intro e;subst e;exact h4 B4
  .intro e;subst e;rcases W with W|W
   .omega
   .have W:upN m.hi m.n<=m.n:=W
    have:=(J2 m.hi m.n).2;omega
 .have f:Hp.get ((m.H.set id none).set m.n (some ab')) i=some a:=f;rw[A i hi]at f;by_cases e:i=m.n
  .rw[B2 e]at f;have f:=A5 f;subst f;subst e;rw[K0]at E;have E:=A5 E;subst E;exact⟨id,ab,l,hle,hg,U,AB.rw_fr F,.inl ⟨AB.rw_on F,D,(V k ht.2).symm⟩⟩
  .rw[B1 e]at f;unfold upd at E;rw[B1 e]at E;by_cases I:i=id
   .rw[B2 I]at f;cases f
   .rw[B1 I]at f;exact⟨i,a,q,hi,f,E,ht⟩
def yY{s k:Nat}(h:HR P base ρ m.H w)(f:bZ m s y=some (k,new))(j:z.cells.size=s):new.length=k*s:=by
 unfold bZ at f;split at f
 .obtain⟨_,q⟩:=A2 f;cases q;simp
 .split at f
  .rename_i cs hr;cases f;unfold i9 at hr;split at hr
   .exact(fF hr).2
   .cases hr
  .cases f
 .rename_i b;obtain⟨q1,f⟩:=A2 f;have q1:=A0 q1;subst q1;cases f;simp[M7]
 .cases f
def DD(h:new'[i]? = some u):(({ toList:=[] }:Array Value)++⟨new'⟩++r)[i]? = some u:=by
 have f:=(A7.1 h).1;rw[I8 (by simp;exact f)]
 simpa using h
def bK(h:(old'++new')[i]? = some u):(({ toList:=old' }:Array Value)++⟨new'⟩++r)[i]? = some u:=by
 have f:=(A7.1 h).1;rw[I8 (by simpa using f)]
 simpa using h
def bJ{s k n nc:Nat}(h1:new'.length=k*s)(j:n+k<=nc)(q:z.cells.size=s)(f:old'.length=n*s) :
  nc*s<=(({ toList:=old' }:Array Value)++⟨new'⟩++Builtin.zeroCells z.cells (nc-(n+k))).size:=by
 simp[Builtin.zeroCells,f,h1,q];rw[<- G1,<- G1];exact E4 _ A9
def GT(h:HR P base ρ m.H w)(hb:base<=w.heap.size)(f:nR P m t t2 x y=some (v,m'))(Z:I2 ρ m.n m'.hi)(Y:VR ρ x x')(hy:VR ρ y y') :
  VOk P base ρ m w (Builtin.append_ #[t,t2] ty #[x',y']) v m':=by
 unfold nR at f;split at f
 .rename_i e d2 hu G;cases D:aP d2 with
  | false=>rw[D]at f;cases f
  | true =>
  rw[D]at f;simp only[N6,D3]at f;split at f
  .rename_i inf a n c hi;split at f
   .rename_i k new z S hz;obtain⟨g1,f⟩:=A2 f;obtain⟨g1,g4⟩:=B3 g1;obtain⟨g1,g3⟩:=B3 g1;obtain⟨g1,g2⟩:=B3 g1;have g1:=A1 g1;have g2:=A1 g2;have g3:=A0 g3;obtain⟨hlen,new',E,F⟩:=pU h S hy;have W:∀ w,(zeroValue e).run P w=.ok z w:=fun w=>n9 hz w
    have N:new'.length=k*inf.size:=by rw[<- E.1];exact yY h S g3
    have ar:K9=9223372036854775808:=rfl;cases hk:Nat.beq k 0 with
    | true =>
      have hk:=A0 hk;subst hk;have av:Nat.beq 0 0=true:=rfl;simp only[av,D7]at f;have an:new'=[]:=D9.1 (by rw[N];simp);subst an;cases a with
      | none =>
        simp only at f;obtain⟨q1,f⟩:=A2 f;obtain⟨q1,q2⟩:=B3 q1;have q1:=A0 q1;have q2:=A0 q2;subst q1;subst q2;cases f;cases M9 Y;exact VOk.same h (pM hu G D hi hlen (F w rfl)) (.pure rfl)
      | some Q =>
        simp only at f;obtain⟨q1,f⟩:=A2 f;obtain⟨q1,q2⟩:=B3 q1;have q1:=A1 q1;have q2:=A1 q2;cases f;rcases M4 Y with⟨l,R,M,hc,rfl⟩|⟨l,c',R,M,hc,hn,B,rfl⟩|⟨a',c',_,_,he,_⟩
        .exact VOk.same h (jB hu G D hi hlen (F w rfl) A9 rfl) (by simpa using Y)
        .exact VOk.same h (jB hu G D hi hlen (F w rfl) A9 rfl) (by simpa using Y)
        .omega
    | false =>
      have aj:k≠0:=fun e=>by subst e;cases hk
      simp only[hk,D3]at f;cases a with
      | none =>
        simp only at f;obtain⟨q1,f⟩:=A2 f;obtain⟨q1,q2⟩:=B3 q1;have q1:=A0 q1;have q2:=A0 q2;subst q1;subst q2;rw[G6]at f;cases M9 Y;obtain⟨nc,J,hr⟩:=dY (ty:=ty) (c:=0) (a:=none) (old':=[]) hu G D hi W hlen (fun _ _=>rfl) F A9 g1 g2;have au:∀ A,P.info? e=some A->nc*A.size<=(({ toList:=[] }:Array Value)++⟨new'⟩++Builtin.zeroCells z.cells (nc-(0+k))).size:=fun A K=>by
         rw[hi]at K;cases K;exact bJ N J g3 (by simp)
        obtain⟨V,e2,X⟩:=bH (wd:=w.drew) (fz:=(0,0)) (cap:=nc) h hb f Z E (fun i u hi=>by
         show(({ toList:=[] }:Array Value)++⟨new'⟩++Builtin.zeroCells z.cells (nc-(0+k)))[i]? = some u;exact DD hi) NF.zero au ⟨rfl,rfl,rfl⟩ rfl
        refine⟨_,_,_,hr,?_,X⟩;rw[V,D8]
        have:=VR.op (ρ:=upd ρ m.n (lc w.heap.size 0 nc)) (b:=m.n) (o:=0) (n:=k) (m:=K9) (m':=nc) e2 (A6 _) A9 (fun _ _=>rfl)
        simpa using this
      | some Q =>
        simp only at f;cases U:Nat.blt c K9 with
        | true =>
          have ak:c<K9:=A1 U;simp only[U,D7]at f;rcases M4 Y with⟨l,R,M,hc,rfl⟩|⟨l,c',R,M,hc,hn,B,rfl⟩|⟨a',c',_,_,he,_⟩
          .cases q:Nat.ble (n+k) c with
           | true =>
             have L:=A1 q;simp only[q,D7]at f;split at f
             .rename_i m2 hw;cases f;rw[bD]at hw;obtain⟨w',h1,K⟩:=lN h hw R E;refine⟨_,ρ,w',jB hu G D hi hlen (F w rfl) L ?_,?_,K⟩
              .rw[U7,show Q.off+l.sh+n*inf.size=Q.off+n*inf.size+l.sh by omega];exact h1
              .obtain⟨ab,ao,ai⟩:=Q;simp only at M;subst M;exact .sl R hc
             .cases f
           | false =>
             have L:¬ n+k<=c:=fun hle=>by rw[show Nat.ble (n+k) c=true from C4 hle]at q;cases q
             simp only[q,D3]at f;split at f
             .rename_i old hold;rw[G6]at f;obtain⟨old',o1,o2,o3⟩:=X5 h hold R;have I:∀ wd:World,wd.heap=w.heap->(Builtin.firstCells inf.size n (.slice (some ⟨l.blk,Q.off+l.sh,none⟩) n c)).run P wd=.ok ⟨old'⟩ wd:=fun wd hw=>I5 o2 fun j u hj=>by rw[x5 hw];exact o3 j u hj
              obtain⟨nc,J,hr⟩:=dY (ty:=ty) hu G D hi W hlen I F L g1 g2;obtain⟨V,e2,X⟩:=bH (wd:=w.drew) (fz:=(0,0)) (cap:=nc) (C:=⟨old'⟩++⟨new'⟩++Builtin.zeroCells z.cells (nc-(n+k))) h hb f Z (o1.append E) (fun i u hi=>bK hi) NF.zero
               (fun A K=>by rw[hi]at K;cases K;exact bJ N J g3 o2) ⟨rfl,rfl,rfl⟩ rfl
              refine⟨_,_,_,hr,?_,X⟩;rw[V]
              have:=VR.op (ρ:=upd ρ m.n (lc w.heap.size 0 nc)) (b:=m.n) (o:=0) (n:=n+k) (m:=K9) (m':=nc) e2 (A6 _) J (fun _ _=>rfl)
              simpa using this
             .cases f
          .omega
          .omega
        | false =>
          simp only[U,D3]at f;obtain⟨q0,ax⟩:=A2 f;clear f;have f:=ax;clear ax;obtain⟨q1,q2⟩:=B3 q0;replace q1:=A0 q1;replace q2:=A0 q2;clear q0;split at f
          .rename_i cs T M hg;obtain⟨p1,f⟩:=A2 f;rw[H6,H6,H6]at p1;obtain⟨⟨⟨p1,p2⟩,p3⟩,p4⟩:=p1;have p1:=A0 p1;have p2:=A0 p2;have p3:=A1 p3;have p4:Q.block<m.n:=A1 p4;subst p2;rw[G6]at f;rcases M4 Y with⟨_,_,_,hc,_⟩|⟨l,c',R,_,_,hn,B,rfl⟩|⟨a',c',_,_,he,_⟩
           .omega
           .have B:=B q1 q2;obtain⟨⟨ay,C,fz,T',z2,z3,z4⟩,z5⟩:=h.atl R hg;obtain⟨rfl,z6,z7⟩:=z4 rfl;have z8:=(z7 inf hi).2;have z7:=(z7 inf hi).1;by_cases q:n+k<=c'
            ·
             have az:(n+k)*inf.size<=c'*inf.size:=E4 _ q;rw[G1]at az;obtain⟨w',r1,r2,r3,r4,r5⟩:=W3 (P:=P) (b:=l.blk) (o:=n*inf.size+l.sh) (fz:=fz) new' 0 C w z2 (zN E g4) (by rw[N];subst B;omega) z6;obtain⟨V,X⟩:=St.grow (w':=w') (l:=l) h p3 hg rfl R ay f Z r2 r3 r5 (by
              have O:ρ m.n=none:=by
               rw[Z5]at f;obtain⟨_,_,rfl⟩:=J8 f;exact Z m.n (A6 _) (J2 _ _).2
              refine⟨ay,_,fz,_,r4,fun i u hi=>?_,fun _=>⟨rfl,z6.sz (by simp[W5]),fun A K=>⟨by simpa [W5]using(by rw[hi]at K;cases K;exact z7:l.sh+l.cap*A.size<=C.size),by rw[hi]at K;cases K;exact z8⟩⟩⟩;show ∃ u',(Array.mk (y6 C.toList (n*inf.size+l.sh+0) new'))[l.sh+i]? = some u'/\_;have ag:C.toList.length=C.size:=by simp
              rw[I0,gX _ _ _ _ (by rw[N];subst B;omega)];by_cases aw:i<cs.length
              .rw[E5 aw]at hi;rw[B1 A9];obtain⟨u',y1,y2⟩:=z3 i u hi;exact⟨u',by simpa using y1,y2.mono (T8 O)⟩
              .rw[D5 A9]at hi;have ah:=(A7.1 hi).1;have al:=E.1;rw[B2 A9];obtain⟨u',y1,y2⟩:=E.get hi;exact⟨u',by rw[show l.sh+i-(n*inf.size+l.sh+0)=i-cs.length by omega];exact y1,y2.mono (T8 O)⟩)
             refine⟨_,_,w',jB (ty:=ty) hu G D hi hlen (F w rfl) q ?_,?_,X⟩
             .rw[U7,q2,show 0+l.sh+n*inf.size=n*inf.size+l.sh by omega];exact r1
             .rw[V,q2];exact .op (K0 _ _ _) (A6 _) q (fun _ _=>B)
            ·
             have st1:=St.kill h p3 hg rfl;have aq:I2 ρ (fR m Q.block).n m'.hi:=by rw[Z5];exact Z
             obtain⟨old',o1,o2⟩:=j7 (ρ:=ρ) (C:=C) (cs:=cs) (s:=l.sh) z3;have oL:old'.length=n*inf.size:=by rw[<- o1.1];exact p1
             have I:∀ wd:World,wd.heap=w.heap->(Builtin.firstCells inf.size n (.slice (some ⟨l.blk,Q.off+l.sh,none⟩) n c')).run P wd=.ok ⟨old'⟩ wd:=fun wd hw=>I5 oL fun j u hj=>by
              rw[x5 hw,q2]
              have:=o2 j u hj;simp[World.cell?,z2,this]
             obtain⟨nc,J,hr⟩:=dY (ty:=ty) hu G D hi W hlen I F q g1 g2;obtain⟨V,e2,X⟩:=bH (wd:=w.drew) (fz:=(0,0)) (cap:=nc) (C:=⟨old'⟩++⟨new'⟩++Builtin.zeroCells z.cells (nc-(n+k))) st1.hr hb f aq (o1.append E) (fun i u hi=>bK hi) NF.zero
              (fun A K=>by rw[hi]at K;cases K;exact bJ N J g3 oL) ⟨rfl,rfl,rfl⟩ rfl
             refine⟨_,_,_,hr,?_,St.trans Z st1 X⟩;rw[V]
             have:=VR.op (ρ:=upd ρ (fR m Q.block).n (lc w.heap.size 0 nc)) (b:=(fR m Q.block).n) (o:=0) (n:=n+k) (m:=K9) (m':=nc) e2 (A6 _) J (fun _ _=>rfl)
             simpa using this
           .omega
          .cases f
   .cases f
  .cases f
 .cases f
end
end
section
open Go
variable [Ora]
section
variable {P:Program} {base:Nat} {ρ:Ren} {m m':Mem} {w:World}
def EO{op:UnOp}(h:unM op x=some v)(f:VR ρ x x')(w:World):(Op.unary op x').run P w=.ok v w/\H3 v=true:=by
 unfold unM at h;split at h
 .cases H8 f;cases h;exact⟨by simp[Op.unary,Op.intArith,dN],by simp[dN,H3]⟩
 .cases H8 f;obtain⟨h1,j⟩:=s5 (P:=P) h w;exact⟨by simpa [Op.unary]using h1,j⟩
 .cases y8 f;cases h;exact⟨rfl,rfl⟩
 .cases h
def VZ(f:A0k P t x=some v)(n:VR ρ x x')(w:World):(Builtin.cap_ ⟨t::tys⟩ ty #[x']).run P w=.ok v w/\H3 v=true:=by
 unfold A0k at f;split at f
 .rename_i hu;cases M9 n;cases f;exact⟨by simp[Builtin.cap_,A3,C8 hu,Result.andThen,goInt],rfl⟩
 .rename_i hu;obtain⟨j,f⟩:=A2 f;have j:_<K9:=A1 j;cases f;rcases M4 n with⟨l,_,_,_,rfl⟩|⟨l,c',_,_,_,_,_,rfl⟩|⟨a',c',_,_,he,_⟩
  .exact⟨by simp[Builtin.cap_,A3,C8 hu,Result.andThen,goInt],rfl⟩
  .omega
  .omega
 .cases f
def IN(h:HR P base ρ m.H w)(f:PS P m t x=some v)(q:VR ρ x x'):(Builtin.len_ ⟨t::tys⟩ ty #[x']).run P w=.ok v w/\H3 v=true:=by
 unfold PS at f;split at f
 .rename_i hu;cases R3 q;cases f;refine⟨?_,rfl⟩;simp[Builtin.len_,A3,C8 hu,Result.andThen,goInt]
 .rename_i hu;cases f;refine⟨?_,rfl⟩;simp[Builtin.len_,A3,C8 hu,Result.andThen,goInt]
 .rename_i n c hu;cases f;refine⟨?_,rfl⟩;have j:∃ a' c',x'=.slice a' n c':=by
   cases q with
   | pure _=>exact⟨_,_,rfl⟩
   | sl _ _=>exact⟨_,_,rfl⟩
   | op _ _ _ _=>exact⟨_,_,rfl⟩
   | opE _=>exact⟨_,_,rfl⟩
  obtain⟨a',c',rfl⟩:=j;simp[Builtin.len_,A3,C8 hu,Result.andThen,goInt]
 .rename_i hu;cases q with|pure _=>?_
  cases f;refine⟨?_,rfl⟩;simp[Builtin.len_,A3,C8 hu,Result.andThen,goInt]
 .cases f
def IH{tys:Array TypeId}(f:A0E vs=some v)(q:LR ρ vs vs')(w:World):(Builtin.max_ tys ty ⟨vs'⟩).run P w=.ok v w/\H3 v=true:=by
 unfold A0E at f;split at f
 .obtain⟨a',r1,rfl,h1,j⟩:=q.tail;obtain⟨b',r2,rfl,h3,n⟩:=j.tail;cases n.nil_inv;cases H8 h1;cases H8 h3;cases f;exact⟨by simp[Builtin.max_,Builtin.max2],rfl⟩
 .obtain⟨a',r1,rfl,h1,j⟩:=q.tail;obtain⟨b',r2,rfl,h3,n⟩:=j.tail;obtain⟨c',B,rfl,A,h⟩:=n.tail;cases h.nil_inv;rw[oU]at f;cases H8 h1;cases H8 h3;cases H8 A;cases f;exact⟨by simp[Builtin.max_,Builtin.max2],rfl⟩
 .cases f
def IG{tys:Array TypeId}(f:A0C vs=some v)(q:LR ρ vs vs')(w:World):(Builtin.min_ tys ty ⟨vs'⟩).run P w=.ok v w/\H3 v=true:=by
 unfold A0C at f;split at f
 .obtain⟨a',r1,rfl,h1,j⟩:=q.tail;obtain⟨b',r2,rfl,h3,n⟩:=j.tail;cases n.nil_inv;cases H8 h1;cases H8 h3;cases f;exact⟨by simp[Builtin.min_,Builtin.min2],rfl⟩
 .obtain⟨a',r1,rfl,h1,j⟩:=q.tail;obtain⟨b',r2,rfl,h3,n⟩:=j.tail;obtain⟨c',B,rfl,A,h⟩:=n.tail;cases h.nil_inv;rw[oU]at f;cases H8 h1;cases H8 h3;cases H8 A;cases f;exact⟨by simp[Builtin.min_,Builtin.min2],rfl⟩
 .cases f
def uT{tys:Array TypeId}(h:HR P base ρ m.H w)(q:eP m x=some (v,m'))(E:VR ρ x x'):VOk P base ρ m w (Builtin.unsafeSliceData_ tys ty #[x']) v m':=by
 unfold eP at q;split at q
 .cases q;cases M9 E;exact VOk.same h rfl (.pure rfl)
 .rename_i a n c;cases A:Nat.beq n 0 || Nat.beq c 0 || Nat.beq c (K9+2)with
  | true=>rw[A]at q;cases q
  | false =>
    rw[A]at q;simp only[D3,C7,J0]at q;obtain⟨rfl,rfl⟩:=q;simp only[X1]at A;obtain⟨⟨q1,q2⟩,q3⟩:=A;have q1:n≠0:=fun e=>by subst e;cases q1
    have q2:c≠0:=fun e=>by subst e;cases q2
    rcases M4 E with⟨l,B,f,G,rfl⟩|⟨l,c',B,f,G,I,D,rfl⟩|⟨a',c',_,he,_,_⟩
    .refine VOk.same (v':=.pointer (some ⟨l.blk,a.off+l.sh,none⟩)) h ?_ ?_
     .have j:Builtin.unsafeSliceData_ tys ty #[.slice (some ⟨l.blk,a.off+l.sh,none⟩) n c]=(do
        if c≠0 then pure (.pointer (some ⟨l.blk,a.off+l.sh,none⟩))
        else if(<- viewAt l.blk).isSome then pure (.pointer (some ⟨l.blk,a.off+l.sh,none⟩))
        else pure (.pointer (some ⟨<- newObj (.view ⟨l.blk,a.off+l.sh,none⟩ (<- elemOf ty)),0,none⟩))):=rfl
      rw[j,B2 q2];rfl
     .obtain⟨ab,F,C⟩:=a;simp only at f;subst f;exact .ptr B
    .refine VOk.same (v':=.pointer (some ⟨l.blk,a.off+l.sh,none⟩)) h ?_ ?_
     .have:c'≠0:=A9;have j:Builtin.unsafeSliceData_ tys ty #[.slice (some ⟨l.blk,a.off+l.sh,none⟩) n c']=(do
        if c'≠0 then pure (.pointer (some ⟨l.blk,a.off+l.sh,none⟩))
        else if(<- viewAt l.blk).isSome then pure (.pointer (some ⟨l.blk,a.off+l.sh,none⟩))
        else pure (.pointer (some ⟨<- newObj (.view ⟨l.blk,a.off+l.sh,none⟩ (<- elemOf ty)),0,none⟩))):=rfl
      rw[j,B2 this];rfl
     .obtain⟨ab,F,C⟩:=a;simp only at f;subst f;exact .ptr B
    .omega
 .cases q
def LI(h:HR P base ρ m.H w)(f:yW P m t x=some (v,m'))(q:VR ρ x x'):VOk P base ρ m w (Instr.makeInterface t x') v m':=by
 unfold yW at f;split at f
 .rename_i d A;have n:(∀ ms,d≠.interface ms)->(Instr.makeInterface t x').run P w=.ok (.iface t x') w:=fun j=>by
   simp only[Instr.makeInterface,A3,C8 A,Result.andThen];cases d<;>first|rfl|exact absurd rfl (j _)
  split at f
  .cases f
  .rename_i j;obtain⟨_,f⟩:=A2 f;cases f;exact VOk.same h (n fun ms e=>j ms e) (.iface q)
 .cases f
def UG(j:PA m x=some (v,m'))(n:VR ρ x x'):m'=m/\VR ρ v x'/\((∃ a,x'=.pointer (some a))∨∃ f a b,x'=.func (.func f) a b):=by
 unfold PA at j;split at j
 .cases j;obtain⟨l,_,_,rfl⟩:=L1 n;exact⟨rfl,n,.inl ⟨_,rfl⟩⟩
 .cases j;cases n with
  | pure hp=>simp[H3]at hp
  | func _ _ _ _=>exact⟨rfl,by constructor<;>assumption,.inr ⟨_,_,_,rfl⟩⟩
 .cases j
def RC(h:HR P base ρ m.H w)(j:DU P m t x y=some (v,m'))(N:VR ρ x x')(I:VR ρ y y'):VOk P base ρ m w (Builtin.copy_ ⟨t::tys⟩ ty #[x',y']) v m':=by
 unfold DU at j;split at j
 .rename_i e a n c hu;split at j
  .rename_i s W;split at j
   .rename_i k cs f;have O:∃ a' c',x'=.slice a' n c':=by
     cases N with
     | pure _=>exact⟨_,_,rfl⟩
     | sl _ _=>exact⟨_,_,rfl⟩
     | op _ _ _ _=>exact⟨_,_,rfl⟩
     | opE _=>exact⟨_,_,rfl⟩
    obtain⟨a',c',rfl⟩:=O;have B:∃ L cs',(Builtin.lenOf y').run P w=.ok L w/\Nat.min L n=k/\LR ρ cs cs'/\(Builtin.firstCells s k y').run P w=.ok ⟨cs'⟩ w:=by
     split at f
     .rename_i J _;obtain⟨q,f⟩:=A2 f;have q:=A0 q;subst q;cases f;cases M9 I;exact⟨0,[],rfl,by simp,.nil,rfl⟩
     .rename_i b J Y;split at f
      .rename_i r hr;cases f;rcases M4 I with⟨l,D,_,_,rfl⟩|⟨l,c',D,_,_,_,_,rfl⟩|⟨a',c',_,rfl,_,rfl⟩
       .obtain⟨M,h1,C,h3⟩:=X5 h hr D;exact⟨J,M,rfl,rfl,h1,I5 C h3⟩
       .obtain⟨M,h1,C,h3⟩:=X5 h hr D;exact⟨J,M,rfl,rfl,h1,I5 C h3⟩
       .have:cs=[]:=by
         unfold i9 at hr;split at hr
         .have:=(fF hr).2;simp at this;exact this
         .cases hr
        subst this;exact⟨0,[],rfl,rfl,.nil,by simp[Builtin.firstCells,loadCells,loadCellsFrom]⟩
      .cases f
     .rename_i b;cases f;cases R3 I;refine⟨b.size,M7 (b.data.toList.take (Nat.min b.size n)),rfl,rfl,qU _ _,?_⟩;have e:((b.extract 0 (Nat.min b.size n)).data.map fun b=>Value.int .u8 b.toNat)=⟨M7 (b.data.toList.take (Nat.min b.size n))⟩:=by
       apply H7;simp[M7,dP]
      show(pure ((b.extract 0 (Nat.min b.size n)).data.map fun b=>Value.int .u8 b.toNat):Sem Q0).run P w=_;rw[e];rfl
     .cases f
    obtain⟨L,cs',r1,r2,G,U⟩:=B;have A:(Builtin.copy_ ⟨t::tys⟩ ty #[.slice a' n c',y']).run P w=(match a' with|some a=>(do storeCells a cs';pure (goInt k):Sem Value)|none=>pure (goInt k)).run P w:=by
     unfold Builtin.copy_;simp only[I0,O1,O2,A3,C8 hu,J1 W,r1,r2,U,Result.andThen];cases a' with
     | none=>rfl
     | some a=>rfl
    cases a with
    | none =>
      cases M9 N;simp only at j;obtain⟨q,j⟩:=A2 j;have q:=A0 q;cases j;exact VOk.same h (by rw[A,q];rfl) (.pure rfl)
    | some X =>
      simp only at j;cases F:Nat.beq cs.length 0 with
      | true =>
        rw[F]at j;cases j;have F:=A0 F;have:cs'=[]:=D9.1 (by rw[<- G.1];exact F);subst this;refine VOk.same h (v':=.int .i64 k) ?_ (.pure rfl);rw[A];cases a'<;>rfl
      | false =>
        rw[F]at j;simp only[D3]at j;obtain⟨E,j⟩:=A2 j;have E:=A1 E;split at j
        .rename_i m2 hw;cases j;rcases M4 N with⟨l,D,K,V,he⟩|⟨l,c',D,K,V,S,R,he⟩|⟨a2,c2,_,S,T,he⟩
         .cases he;obtain⟨w',h1,C⟩:=lN h hw D G;exact⟨.int .i64 k,ρ,w',by rw[A];simp[A3,h1,Result.andThen,goInt],.pure rfl,C⟩
         .cases he;obtain⟨w',h1,C⟩:=lN h hw D G;exact⟨.int .i64 k,ρ,w',by rw[A];simp[A3,h1,Result.andThen,goInt],.pure rfl,C⟩
         .have Q:K9=9223372036854775808:=rfl;omega
        .cases j
   .cases j
  .cases j
 .cases j
def lG:∀ {cs:D0} {l:List UInt8},bytesOf cs=some l->∃ f:List Int,cs=f.map (Value.int .u8)/\l=f.map fun n=>UInt8.ofNat n.toNat
 | [],l,h=>by simp only[bytesOf,C7]at h;subst h;exact⟨[],rfl,rfl⟩
 | v::r,l,h=>by
   unfold bytesOf at h;split at h
   .rename_i he;cases he
   .rename_i n q he;cases he;split at h
    .rename_i l0 h0;cases h;obtain⟨f,h1,j⟩:=lG h0;exact⟨n::f,by rw[h1];rfl,by rw[j];rfl⟩
    .cases h
   .cases h
def mU:∀ {f:List Int} {cs':D0},LR ρ (f.map (Value.int .u8)) cs'->cs'=f.map (Value.int .u8)
 | [],cs',h=>h.nil_inv
 | n::r,cs',h=>by
   obtain⟨v',q,rfl,h1,j⟩:=h.tail;cases H8 h1;rw[mU j];rfl
def kW:∀ (f:List Int) (acc:List UInt8),(f.foldl (fun r n=>r.push (UInt8.ofNat n.toNat)) (ByteArray.mk ⟨acc⟩))=⟨⟨acc++f.map fun n=>UInt8.ofNat n.toNat⟩⟩
 | [],acc=>by simp
 | n::r,acc=>by
   rw[gF];have:(ByteArray.mk ⟨acc⟩).push (UInt8.ofNat n.toNat)=⟨⟨acc++[UInt8.ofNat n.toNat]⟩⟩:=by
    show ByteArray.mk (Array.push ⟨acc⟩ _)=_;simp
   rw[this,kW r];simp
def RF(h:HR P base ρ m.H w)(X:base<=w.heap.size)(f:xG P m s t x=some (v,m'))(W:I2 ρ m.n m'.hi)(J:VR ρ x x'):VOk P base ρ m w (convert s t x') v m':=by
 unfold xG at f;split at f
 .rename_i G k j n D E;cases H8 J;simp only[C7,J0]at f;obtain⟨rfl,rfl⟩:=f;refine VOk.same (v':=.int k (k.wrap n)) h ?_ (by rw[dN,lP];exact .pure rfl);cases G<;>simp[convert,A3,C8 D,C8 E,Result.andThen,Conv.intToInt]
 .rename_i G b D E;cases R3 J;cases f;refine VOk.same h ?_ (.pure rfl);cases G<;>simp[convert,A3,C8 D,C8 E,Result.andThen]
 .rename_i G j n D E;cases H8 J;cases f;refine VOk.same (v':=.string (Utf8.encode n)) h ?_ (.pure rfl);cases G<;>simp[convert,A3,C8 D,C8 E,Result.andThen,Conv.intToString]
 .rename_i G e b D E;cases R3 J;split at f
  .rename_i he;split at f
   .rename_i I;rw[G6]at f;let q:Question:=.appendCap b.size 0 e
    let cap:=q.cut (w.tape w.drawn q)
    have K:b.size<=cap:=by show b.size<=b.size+_;omega
    have R:(choose q).run P w=.ok cap w.drew:=by
     simp only[choose,Sem.run];rw[B1 (by simp[q,Question.forced])];rfl
    let C:Q0:=(b.data.map fun b=>Value.int .u8 b.toNat)++Array.replicate (cap-b.size) (.int .u8 0)
    have hC:C.size=cap:=by
     have:b.data.size=b.size:=rfl;simp[C,this];omega
    obtain⟨V,N,Y⟩:=bH (wd:=w.drew) (fz:=(C.size,C.size+1)) (cap:=cap) (C:=C) h X f W (qU ρ b.data.toList) (fun i u hi=>by
      have O:=(A7.1 hi).1;simp[M7]at O;have S:i<(b.data.map fun b=>Value.int .u8 b.toNat).size:=by simpa using O
      show((b.data.map fun b=>Value.int .u8 b.toNat)++Array.replicate (cap-b.size) (.int .u8 0))[i]? = some u;rw[I8 S]
      simpa [M7]using hi) NF.end
     (fun inf L=>by
       have:inf.size=1:=by unfold F7 at I;rw[L]at I;exact A5 I
       rw[this,hC];omega) ⟨rfl,rfl,rfl⟩ rfl
    refine⟨.slice (some ⟨w.heap.size,0,none⟩) b.size cap,_,_,?_,?_,Y⟩
    .have U:∀ w2:World,w2.heap[w.heap.size]? = some (.cells C e (0,0))->(markStringish ⟨w.heap.size,0,none⟩).run P w2=.ok () (w2.freeze { block:=w.heap.size,off:=C.size } 1):=fun w2 L=>by
      simp[markStringish,shape,freeze,Sem.run,World.shape?,L]
     have T:({ w.drew with heap:=w.heap.push (.cells C e (0,0)) }:World).freeze { block:=w.heap.size,off:=C.size } 1={ w.drew with heap:=w.heap.push (.cells C e (C.size,C.size+1)) }:=by
      unfold World.freeze;rw[B1 L8];congr 1;apply Array.ext_getElem?;intro i;rw[F1];by_cases hi:w.heap.size=i
      .subst hi;simp
      .rw[B1 hi];simp only[K4];rw[B1 (fun h=>hi h.symm),B1 (fun h=>hi h.symm)]
     have F:(convert s t (.string b)).run P w=(Conv.stringToBytes e b).run P w:=by
      cases G<;>simp[convert,A3,C8 D,C8 E,C8 he,Result.andThen]
     rw[F];unfold Conv.stringToBytes;simp only[A3,show(choose (.appendCap b.size 0 e)).run P w=.ok cap w.drew from R,Result.andThen];have Q:(newRow e C).run P w.drew=.ok ⟨w.heap.size,0,none⟩ { w.drew with heap:=w.heap.push (.cells C e (0,0)) }:=rfl;rw[show(newRow e ((b.data.map fun b=>Value.int .u8 b.toNat)++Array.replicate (cap-b.size) (.int .u8 0))).run P w.drew=_ from Q];simp only[Result.andThen];rw[U _ (by simp),T];rfl
    .rw[V];exact VR.op (o:=0) (m':=cap) N (A6 _) K (fun _ _=>rfl)
   .cases f
  .cases f
 .rename_i e n c D E;cases M9 J;split at f
  .rename_i he;cases f;refine VOk.same h (v':=.string ByteArray.empty) ?_ (.pure rfl);simp[convert,A3,C8 D,C8 E,C8 he,Result.andThen,Conv.bytesToString]
  .cases f
 .rename_i e a n c D E;split at f
  .rename_i he;split at f
   .rename_i cs hr;split at f
    .rename_i l O;cases f;obtain⟨M,h1,L⟩:=lG O;have A:∀ a' c',(loadCells a' n).run P w=.ok (M.map (Value.int .u8)).toArray w->(convert s t (.slice (some a') n c')).run P w=.ok (.string ⟨⟨l⟩⟩) w:=fun a' c' B=>by
      have:=run_bytesToString w a' n c' M B;have N:=kW M [];simp only[Q8]at N;simp only[convert,A3,C8 D,C8 E,C8 he,Result.andThen];rw[this,show ByteArray.empty=ByteArray.mk ⟨[]⟩from rfl,N,L]
     rcases M4 J with⟨lc,B,_,_,rfl⟩|⟨lc,c',B,_,_,_,_,rfl⟩|⟨a',c',_,rfl,_,rfl⟩
     .obtain⟨Z,g1,g2,g3⟩:=X5 h hr B;rw[h1]at g1
      have:=mU g1;subst this;exact VOk.same h (A _ _ (I5 g2 g3)) (.pure rfl)
     .obtain⟨Z,g1,g2,g3⟩:=X5 h hr B;rw[h1]at g1
      have:=mU g1;subst this;exact VOk.same h (A _ _ (I5 g2 g3)) (.pure rfl)
     .have:cs=[]:=by
       unfold i9 at hr;split at hr
       .have:=(fF hr).2;simpa using this
       .cases hr
      subst this;have:M=[]:=by cases M with|nil=>rfl|cons _ _=>cases h1
      subst this;exact VOk.same h (A _ _ (by simp[loadCells,loadCellsFrom])) (.pure rfl)
    .cases f
   .cases f
  .cases f
 .cases f
end
end
section
open Go
variable [Ora]
section
variable {P:Program} {base:Nat} {ρ:Ren} {m m':Mem} {w:World}
def sT(j:P.cellsOf e=1)(count off n:Nat)(q:off+n<=count):liesAt P P.depth e count off e n=true:=by
 have f:P.depth=(2*(P.types.size+Made.depth)+1)+1:=rfl;rw[f];simp only[liesAt,F8];left;rw[f];simp[rowAt,j,q,sameLayout,Nat.mod_one]
def bU:∀ (f:List Int) (b o:Nat) (acc:ByteArray),(∀ (j:Nat) (v:Value),(f.map (Value.int .u8))[j]? = some v->w.cell? ⟨b,o+j,none⟩=some v) ->
  (loadBytes ⟨b,o,none⟩ acc f.length).run P w=.ok ⟨acc.data++(f.map fun n=>UInt8.ofNat n.toNat).toArray⟩ w
 | [],b,o,acc,_=>by simp[loadBytes]
 | n::f,b,o,acc,h=>by
   have h0:w.cell? ⟨b,o,none⟩=some (.int .u8 n):=by simpa using h 0 _ rfl
   have A:=bU f b (o+1) (acc.push n.toNat.toUInt8) (fun j v q=>by
    have:=h (j+1) v (by simpa using q);rw[show o+1+j=o+(j+1) by omega];exact this)
   simp only[I7,loadBytes,A3,run_load,h0,Result.andThen,U7];rw[A];have:(acc.push n.toNat.toUInt8).data=acc.data.push n.toNat.toUInt8:=rfl;rw[this];congr 2;apply H7;simp
def uI{l l':Value}(h:HR P base ρ m.H w)(f:bQ P m pt p l=some (v,m'))(hp:VR ρ p p')(hl:VR ρ l l') :
  VOk P base ρ m w (Builtin.unsafeString_ ⟨pt::tys⟩ ty #[p',l']) v m':=by
 have F:IntKind.i64.max=9223372036854775807:=rfl;unfold bQ at f;split at f
 .cases hp with|pure _=>?_
  cases H8 hl;cases f;refine VOk.same h (v':=.string ByteArray.empty) ?_ (.pure rfl);rename_i k _;have D:Builtin.unsafeString_ ⟨pt::tys⟩ ty #[.pointer none,.int k (.ofNat 0)] =
    (do
      let n <- asInt (.int k (.ofNat 0))
      if n<0 then runtimePanic (.error "unsafe.String: len out of range")
      if n>IntKind.i64.max then unsupported (.unsafePointer "String: a length above the largest int")
      if n=0 then pure (.string .empty)
      else runtimePanic (.error "unsafe.String: ptr is nil and len is not zero")):=rfl
  rw[D];simp[asInt,asIntOf,F]
 .rename_i a k n;cases H8 hl;obtain⟨lc,J,az,rfl⟩:=L1 hp;split at f
  .rename_i cs T I W;split at f
   .rename_i e U Q;obtain⟨q,f⟩:=A2 f;obtain⟨q,q3⟩:=B3 q;obtain⟨q1,q2⟩:=B3 q;have q1:0<n:=A1 q1;have q2:=A1 q2;have q3:=A0 q3;subst q3;split at f
    .rename_i r hr;split at f
     .rename_i bs m2 S U5;cases f;obtain⟨Z,h1,h2⟩:=lG S;have K:i9 m a n=some r:=by
       unfold i9;rw[I,W];exact hr
      obtain⟨r',g1,g2,g3⟩:=X5 h K J;rw[h1]at g1;have V:=mU g1;subst V;obtain⟨⟨M,C,fz,T',z2,z3,z4⟩,z5⟩:=h.atl J W;have z2:w.heap[lc.blk]? = some (.cells C e fz):=by rw[z2,(z4 rfl).1]
      have N:Z.length=n:=by simpa using g2
      have B:P.cellsOf e=1:=by
       unfold F7 at Q;unfold Program.cellsOf;cases hi:P.info? e with
       | none=>rw[hi]at Q;cases Q
       | some i=>rw[hi]at Q;have:=A5 Q;simp[this]
      have X:a.off+lc.sh+n<=C.size:=by
       have E:=g3 (n-1) (.int .u8 Z[n-1]) (by simp[N]);simp only[World.cell?,z2]at E
       have:=(B5.1 (by simpa using E)).1;omega
      have O:=bU (P:=P) (w:=w) Z lc.blk (a.off+lc.sh) .empty g3;rw[N]at O;have Y:w.shape? lc.blk=some (e,C.size):=by simp[World.shape?,z2]
      have G:=sT (P:=P) B (C.size / P.cellsOf e) (a.off+lc.sh) n (by rw[B];simpa using X);have D:Builtin.unsafeString_ ⟨pt::tys⟩ ty #[.pointer (some ⟨lc.blk,a.off+lc.sh,none⟩),.int k (.ofNat n)] =
       (do
         let n <- asInt (.int k (.ofNat n))
         if n<0 then runtimePanic (.error "unsafe.String: len out of range")
         if n>IntKind.i64.max then unsupported (.unsafePointer "String: a length above the largest int")
         if n=0 then pure (.string .empty)
         else if <- variablesAt ⟨lc.blk,a.off+lc.sh,none⟩ (<- elemOf pt) n.toNat then do
          let s <- loadBytes ⟨lc.blk,a.off+lc.sh,none⟩ .empty n.toNat
          freeze ⟨lc.blk,a.off+lc.sh,none⟩ n.toNat
          pure (.string s)
         else unsupported (.unsafePointer "String: not so many bytes at ptr")):=rfl
      have e1:Int.ofNat n=(n:Int):=rfl;have L:¬ (n:Int)<0:=A9;have R:¬ (9223372036854775807:Int)<(n:Int):=A9;have hz:¬ (n:Int)=0:=A9;have A:n≠0:=A9;refine⟨.string ⟨⟨bs⟩⟩,ρ,w.freeze ⟨lc.blk,a.off+lc.sh,none⟩ n,?_,.pure rfl,St.write h U5 W rfl J M ?_ ?_ ?_ ?_⟩
      .rw[D];simp[asInt,asIntOf,F,e1,L,R,hz,A,variablesAt,Y,elemOf,C8 U,G,O,freeze,Sem.run,A3,Result.andThen,h2]
      .simp[World.freeze,A]
      .simp[World.freeze,A]
      .intro j hj;simp only[World.freeze,A,if_false,F1];rw[B1 (fun e=>hj e.symm)]
      .refine⟨M,C,(if fz.1 == fz.2 then(a.off+lc.sh,a.off+lc.sh+n)else(min fz.1 (a.off+lc.sh),max fz.2 (a.off+lc.sh+n))),e,?_,z3,fun hc=>by cases hc⟩;simp only[World.freeze,A,if_false,F1,if_true,z2,I3]
     .cases f
    .cases f
   .cases f
  .cases f
 .cases f
def ED{ks:Array Bool}(h:HR P base ρ m.H w)(C:base<=w.heap.size)(f:eL P m b vs tys=some (v,m'))(B:I2 ρ m.n m'.hi)(q:LR ρ vs vs') :
  ∃ s:Sem Value,builtin b ⟨tys⟩ ty ks ⟨vs'⟩=(do pure (.value (<- s)))/\VOk P base ρ m w s v m':=by
 unfold eL at f;split at f
 .obtain⟨x',r1,rfl,h1,j⟩:=q.tail;cases j.nil_inv;unfold noM at f;split at f
  .rename_i u hu;cases f;obtain⟨g1,g2⟩:=IN h hu h1;exact⟨_,rfl,VOk.same h g1 (.pure g2)⟩
  .cases f
 .obtain⟨x',r1,rfl,h1,j⟩:=q.tail;cases j.nil_inv;unfold noM at f;split at f
  .rename_i u hu;cases f;obtain⟨g1,g2⟩:=VZ hu h1 w;exact⟨_,rfl,VOk.same h g1 (.pure g2)⟩
  .cases f
 .obtain⟨x',r1,rfl,h1,j⟩:=q.tail;obtain⟨y',r2,rfl,h3,A⟩:=j.tail;cases A.nil_inv;rename_i t t2 rest;refine⟨Builtin.append_ ⟨t::t2::rest⟩ ty #[x',y'],rfl,?_⟩
  have:=GT (ty:=ty) h C f B h1 h3;have e:Builtin.append_ ⟨t::t2::rest⟩ ty #[x',y']=Builtin.append_ #[t,t2] ty #[x',y']:=rfl;rw[e];exact this
 .obtain⟨x',r1,rfl,h1,j⟩:=q.tail;obtain⟨y',r2,rfl,h3,A⟩:=j.tail;cases A.nil_inv;exact⟨_,rfl,RC h f h1 h3⟩
 .unfold noM at f;split at f
  .rename_i u hu;cases f;obtain⟨g1,g2⟩:=IH (P:=P) (ty:=ty) (tys:=⟨tys⟩) hu q w;exact⟨_,rfl,VOk.same h g1 (.pure g2)⟩
  .cases f
 .unfold noM at f;split at f
  .rename_i u hu;cases f;obtain⟨g1,g2⟩:=IG (P:=P) (ty:=ty) (tys:=⟨tys⟩) hu q w;exact⟨_,rfl,VOk.same h g1 (.pure g2)⟩
  .cases f
 .obtain⟨x',r1,rfl,h1,j⟩:=q.tail;cases j.nil_inv;exact⟨_,rfl,uT h f h1⟩
 .obtain⟨x',r1,rfl,h1,j⟩:=q.tail;obtain⟨y',r2,rfl,h3,A⟩:=j.tail;cases A.nil_inv;exact⟨_,rfl,uI h f h1 h3⟩
 .cases f
def NOk(P:Program)(base:Nat)(ρ:Ren)(m:Mem)(w:World)(s:Sem Next)(v:Value)(m':Mem):Prop :=
 ∃ v' ρ' w',(s.run P w=.ok (.value v') w'∨(s.run P w=.ok .skip w'/\v'=undef))/\VR ρ' v v'/\St P base ρ ρ' m m' w w'
def NOk.of{s:Sem Value}(h:VOk P base ρ m w s v m'):NOk P base ρ m w (do pure (.value (<- s))) v m':=by
 obtain⟨v',ρ',w',h1,f,h3⟩:=h;exact⟨v',ρ',w',.inl (by simp[A3,h1,Result.andThen]),f,h3⟩
def lT(ρ:Ren):VR ρ undef undef:=.tuple (a:=[]) (a':=[]) rfl (fun i v v' h=>by simp at h)
def NOk.ofU{s:Sem Unit}(h:UOk P base ρ m w s m'):NOk P base ρ m w (do s;pure .skip) undef m':=by
 obtain⟨ρ',w',h1,h3⟩:=h;exact⟨undef,ρ',w',.inr ⟨by simp[A3,h1,Result.andThen],rfl⟩,lT _,h3⟩
def NOk.same{s:Sem Value}(h:HR P base ρ m.H w)(hr:s.run P w=.ok v' w)(f:VR ρ v v'):NOk P base ρ m w (do pure (.value (<- s))) v m:=NOk.of (VOk.same h hr f)
def FR(ρ:Ren)(fr:Fr)(g:Operand->Value)(o:Op):Prop:=∀ x ∈ o.operands.toList,VR ρ (ev fr x) (g x)
def Z4(h:noM o m=some (v,m')):o=some v/\m'=m:=by
 unfold noM at h;split at h
 .cases h;exact⟨rfl,rfl⟩
 .cases h
def jJ{o:Option Mem}(h:FU o=some (v,m')):o=some m'/\v=undef:=by
 unfold FU at h;split at h
 .cases h;exact⟨rfl,rfl⟩
 .cases h
def aR{fr:Fr}{g:Operand->Value}:∀ {xs:List Operand},(∀ x ∈ xs,VR ρ (ev fr x) (g x))->LR ρ (evL fr xs) (xs.map g)
 | [],_=>.nil
 | x::r,h=>.cons (h x B4) (aR fun y f=>h y (C5 _ f))
def GJ{fr:Fr}{g:Operand->Value}:∀ {xs:List (Nat×Operand)},(∀ x ∈ xs.map (·.2),VR ρ (ev fr x) (g x))->PR ρ (evP fr xs) (xs.map fun x=>(x.1,g x.2))
 | [],_=>trivial
 | (i,x)::r,h=>⟨rfl,h x (by simp),GJ fun y f=>h y (by simp at f ⊢;exact .inr f)⟩
def fE{fr:Fr}{x:Option Operand}(h:∀ y ∈ x.toList,VR ρ (ev fr y) (g y)):OR ρ (evO fr x) (x.map g):=by
 cases x with
 | none=>trivial
 | some y=>exact h y (by simp)
set_option maxHeartbeats 1000000 in
def ZY{fr:Fr}{o:Oper}(h:HR P base ρ m.H w)(K:base<=w.heap.size)(q:opM P fr m o.op=some (v,m'))(J:I2 ρ m.n m'.hi)(T:FR ρ fr g o.op) :
  NOk P base ρ m w (execOp g o) v m':=by
 obtain⟨dst,op,ty,pos,S,U⟩:=o;simp only at q T;have j:∀ {x},x ∈ op.operands.toList->VR ρ (ev fr x) (g x):=fun B=>T _ B
 unfold opM at q;split at q
 .cases q;exact⟨_,ρ,w,.inl rfl,j (by simp[Op.operands]),.refl h⟩
 .cases q;exact⟨_,ρ,w,.inl rfl,j (by simp[Op.operands]),.refl h⟩
 .rename_i c a b;have L:=j (x:=c) (by simp[Op.operands]);unfold HY at q;split at q
  .rename_i F;rw[F]at L;cases q;exact⟨g a,ρ,w,.inl (by simp[execOp,y8 L,asBool]),j (by simp[Op.operands]),.refl h⟩
  .rename_i F;rw[F]at L;cases q;exact⟨g b,ρ,w,.inl (by simp[execOp,y8 L,asBool]),j (by simp[Op.operands]),.refl h⟩
  .cases q
 .exact NOk.of (LJ h K q J)
 .exact NOk.of (UH h K q J (j (by simp[Op.operands])))
 .rename_i t ps;obtain⟨h1,rfl⟩:=Z4 q;obtain⟨v',A,h3⟩:=LZ h1 (GJ (g:=g) (fun x B=>j (by simpa [Op.operands]using B))) w;have e:(ps.map fun(i,x)=>(i,g x))=⟨ps.toList.map fun x=>(x.1,g x.2)⟩:=by apply H7;simp
  exact NOk.same (s:=Instr.build t (ps.map fun(i,x)=>(i,g x))) h (by rw[e];exact A) h3
 .rename_i t n ps
  have:=uA h K q J (GJ (g:=g) (fun x B=>j (by simpa [Op.operands]using B)));have e:(ps.map fun(i,x)=>(i,g x))=⟨ps.toList.map fun x=>(x.1,g x.2)⟩:=by apply H7;simp
  refine NOk.of (s:=Instr.buildSlice t n (ps.map fun(i,x)=>(i,g x))) ?_;rw[e];exact this
 .rename_i t x;have B:=j (x:=x) (by simp[Op.operands]);unfold HZ at q;split at q
  .rename_i a I;rw[I]at B;obtain⟨l,R,Q,G⟩:=L1 B;obtain⟨h1,rfl⟩:=Z4 q;obtain⟨v',A,h3⟩:=CO h h1 R;refine NOk.same (s:=Instr.loadAt t (g x)) h ?_ h3;rw[G]
   simpa [Instr.loadAt,Instr.sureAddr]using A
  .cases q
 .rename_i t x y;have B:=j (x:=x) (by simp[Op.operands]);have C:=j (x:=y) (by simp[Op.operands]);unfold yV at q;split at q
  .rename_i a I;rw[I]at B;obtain⟨l,R,Q,G⟩:=L1 B;obtain⟨h1,rfl⟩:=jJ q
   have:=KM h h1 R C;refine NOk.ofU (s:=Instr.storeAt t (g x) (g y)) ?_;rw[G];obtain⟨ρ',w',r1,r2⟩:=this;exact⟨ρ',w',by simpa [Instr.storeAt,Instr.sureAddr]using r1,r2⟩
  .cases q
 .rename_i x;have B:=j (x:=x) (by simp[Op.operands]);obtain⟨hm,h1,A⟩:=UG q B;subst hm;refine⟨g x,ρ,w,.inl ?_,h1,.refl h⟩;rcases A with⟨a,V⟩|⟨f,a,b,V⟩<;>simp[execOp,V]
 .rename_i op t x y Z;have B:=j (x:=x) (by simp[Op.operands]);have C:=j (x:=y) (by simp[Op.operands]);unfold UI at q;have D:(tB op=true->iF P t x y (ev fr x) (ev fr y)=true)->noM (nP P op t (ev fr x) (ev fr y)) m=some (v,m')->NOk P base ρ m w (execOp g ⟨dst,.binOp op t x y Z,ty,pos,S,U⟩) v m':=fun O W=>by
   obtain⟨h1,rfl⟩:=Z4 W;obtain⟨A,h3⟩:=rF h1 B C w;have Y:=mY O B C w;refine NOk.same (s:=do eqGuard op t x y (g x) (g y);binOp op t (g x) (g y)) h ?_ (.pure h3);simp[A3,Y,A,Result.andThen]
  cases E:tB op with
  | true =>
    rw[E]at q;simp only[D7]at q;obtain⟨h1,A⟩:=A2 q;exact D (fun _=>h1) A
  | false =>
    rw[E]at q;simp only[D3]at q;exact D (fun h=>by rw[E]at h;cases h) q
 .rename_i op t x;obtain⟨h1,rfl⟩:=Z4 q;obtain⟨A,h3⟩:=EO (P:=P) h1 (j (x:=x) (by simp[Op.operands])) w;exact NOk.same (s:=Op.unary op (g x)) h A (.pure h3)
 .exact NOk.of (RF h K q J (j (by simp[Op.operands])))
 .exact NOk.of (LI h q (j (by simp[Op.operands])))
 .rename_i f first cap
  cases q;have l1:=aR (ρ:=ρ) (fr:=fr) (g:=g) (xs:=first.toList) fun x B=>j (by simp[Op.operands];exact .inl (by simpa using B))
  have l2:=aR (ρ:=ρ) (fr:=fr) (g:=g) (xs:=cap.toList) fun x B=>j (by simp[Op.operands];exact .inr (by simpa using B))
  refine⟨.func (.func f) ⟨first.toList.map g⟩ ⟨cap.toList.map g⟩,ρ,w,.inl ?_,.func l1.1 l2.1 l1.2 l2.2,.refl h⟩;have M:first.map g=⟨first.toList.map g⟩:=by apply H7;simp
  have N:cap.map g=⟨cap.toList.map g⟩:=by apply H7;simp
  simp[execOp,Instr.makeFunc,M,N]
 .exact NOk.of (uU h K q J (j (by simp[Op.operands])) (j (by simp[Op.operands])))
 .rename_i t x lo hi mx;obtain⟨h1,rfl⟩:=Z4 q;obtain⟨v',A,h3⟩:=dW h1 (j (x:=x) (by simp[Op.operands])) (fE (g:=g) fun y C=>j (by simp[Op.operands]at C ⊢;exact .inr (.inl C))) (fE (g:=g) fun y C=>j (by simp[Op.operands]at C ⊢;exact .inr (.inr (.inl C)))) (fE (g:=g) fun y C=>j (by simp[Op.operands]at C ⊢;exact .inr (.inr (.inr C)))) w;exact NOk.same (s:=Instr.sliceAt t (g x) (lo.map g) (hi.map g) (mx.map g)) h A h3
 .obtain⟨h1,rfl⟩:=Z4 q;obtain⟨v',A,h3⟩:=iH h1 (j (by simp[Op.operands])) w;exact NOk.same h A h3
 .obtain⟨h1,rfl⟩:=Z4 q;obtain⟨v',A,h3⟩:=LQ h1 (j (by simp[Op.operands])) w;exact NOk.same h A h3
 .obtain⟨h1,rfl⟩:=Z4 q;obtain⟨v',A,h3⟩:=y9 h1 (j (by simp[Op.operands])) (j (by simp[Op.operands])) w;exact NOk.same h A h3
 .obtain⟨h1,rfl⟩:=Z4 q;obtain⟨v',A,h3⟩:=oP h1 (j (by simp[Op.operands])) (j (by simp[Op.operands])) w;exact NOk.same h A h3
 .obtain⟨hm,v',A,h3⟩:=CE (P:=P) q (j (by simp[Op.operands])) w;subst hm;exact NOk.same h A h3
 .rename_i b xs tys;have l1:=aR (ρ:=ρ) (fr:=fr) (g:=g) (xs:=xs.toList) fun x B=>j (by show x ∈ (#[]++xs:Array Operand).toList;simpa using B)
  obtain⟨ks,N⟩:∃ ks,execOp g ⟨dst,.call ⟨.builtin b,xs,tys⟩,ty,pos,S,U⟩=builtin b tys ty ks (xs.map g):=⟨_,rfl⟩;obtain⟨s,e,hs⟩:=ED (ty:=ty) (ks:=ks) h K q J l1;have M:xs.map g=⟨xs.toList.map g⟩:=by apply H7;simp
  rw[N,M];have X:tys=⟨tys.toList⟩:=rfl;rw[X,e];exact NOk.of hs
 .cases q
end
end
section
open Go
def ofV:N7->U
 | some (.int k n)=>.int k n
 | some (.bool b)=>.bool b
 | some (.string s)=>.str s.data.toList
 | _=>.none
def D4(E:Nat->U):Value->U
 | .complex .f64 i _=>E i
 | .int k n=>.int k n
 | .bool b=>.bool b
 | .string s=>.str s.data.toList
 | _=>.none
def evB(op:BinOp):U->U->U
 | .int k a,.int j b=>ofV (fT op k j a b)
 | .str a,.str b=>ofV (TT op ⟨⟨a⟩⟩ ⟨⟨b⟩⟩)
 | .bool a,.bool b=>match op with
   | .eql=>.bool (a == b)
   | .neq=>.bool (!(a == b))
   | _=>.none
 | _,_=>.none
def ev1(op:UnOp):U->U
 | .int k n=>ofV (unM op (.int k n))
 | .bool b=>ofV (unM op (.bool b))
 | _=>.none
def eqU:U->U->Option Bool
 | .int k a,.int j b=>if k=j then some (a == b)else none
 | .bool a,.bool b=>some (a == b)
 | .str a,.str b=>some (a == b)
 | _,_=>none
def iK:List U->Option Bool
 | []=>some true
 | a::b::r=>match eqU a b,iK r with
   | some x,some y=>some (x && y)
   | _,_=>none
 | _=>none
def TR(s:List UInt8)(l h:Int):U :=
 match l,h with
 | .ofNat l,.ofNat h=>if l<=h/\h<=s.length then .str ((s.drop l).take (h-l))else .none
 | _,_=>.none
def vC:List U->Option (List UInt8)
 | []=>some []
 | .int .u8 (.ofNat n)::r=>if n<256 then match vC r with
   | some l=>some (UInt8.ofNat n::l)
   | none=>none else none
 | _::_=>none
def AA:List (List U)->Option (List UInt8)
 | []=>some []
 | [.int .u8 (.ofNat n)]::r=>if n<256 then match AA r with
   | some l=>some (UInt8.ofNat n::l)
   | none=>none else none
 | _::_=>none
def kC(s:List UInt8):List (List U):=s.map fun b=>[.int .u8 b.toNat]
def Y6(w:Nat):Nat->List U->Option (List (List U))
 | 0,[]=>some []
 | 0,_::_=>none
 | n+1,l=>if w<=l.length then match Y6 w n (l.drop w)with
   | some r=>some (l.take w::r)
   | none=>none else none
def FK(row:List U)(o:Nat)(cells:List U):List U:=row.take o++cells++row.drop (o+cells.length)
def uD:Nat:=1000000000
def nO(f:Bool)(w:Nat)(rows r:List (List U)):U:=if rows.length+r.length<=uD then(match r with|[]=>.seq f w rows|r=>.seq false w (rows++r))else .none
def isU(a b:U):Bool :=
 match eqU a b with
 | some c=>c
 | none=>false
def P9:List U->List U->Bool
 | [],_=>true
 | a::k,b::r=>isU a b && P9 k r
 | _::_,[]=>false
def BV(kw:Nat)(c:List U):List (List U)->List (List U)
 | []=>[c]
 | r::rs=>if P9 (c.take kw) r then c::rs else r::BV kw c rs
def evU:LOp->List U->U
 | .mhas w kw,.seq _ v rows::k=>if v=w/\k.length=kw then .bool (rows.any (P9 k))else .none
 | .mget w kw o,.seq _ v rows::z::k=>if v=w/\k.length=kw then(match rows.find? (P9 k)with
   | some r=>r.getD o .none
   | none=>z)else .none
 | .mput w kw,.seq nul v rows::c=>if v=w/\c.length=w then .seq nul w (BV kw c rows)else .none
 | .len,[.seq _ _ rows]=>.int .i64 rows.length
 | .mks,l=>match vC l with
   | some s=>.str s
   | none=>.none
 | .inbs w,[.int _ i,.seq _ v rows]=>if v=w then .bool (decide (0<=i) && decide (i<rows.length))else .none
 | .get w o,[.seq false v rows,.int _ (.ofNat k)]=>if v=w then(rows.getD k []).getD o .none else .none
 | .mk w,l=>if w=0 then .none else match Y6 w (l.length / w) l with
   | some r=>.seq false w r
   | none=>.none
 | .nilw w,[]=>.seq true w []
 | .nilp,[.seq nul _ _]=>.bool nul
 | .snoc w,.seq nul v rows::l=>if v=w/\w≠0 then match Y6 w (l.length / w) l with
   | some r=>nO nul w rows r
   | none=>.none else .none
 | .cat w,[.seq nul v rows,.seq _ v2 r]=>if v=w/\v2=w then nO nul w rows r else .none
 | .cats,[.seq nul v rows,.str s]=>if v=1 then nO nul 1 rows (kC s)else .none
 | .set w o,.seq false v rows::.int _ (.ofNat k)::l=>if v=w/\k<rows.length/\o+l.length<=w then .seq false w (rows.set k (FK (rows.getD k []) o l))else .none
 | .subs w,[.seq nul v rows,.int _ (.ofNat l),.int _ (.ofNat h)]=>if v=w/\l<=h/\h<=rows.length then .seq nul w ((rows.drop l).take (h-l))else .none
 | .str,[.seq _ v rows]=>if v=1 then match AA rows with
   | some s=>.str s
   | none=>.none else .none
 | .byt,[.str s]=>.seq false 1 (kC s)
 | .ustr,[.seq _ v rows,.int _ (.ofNat n)]=>if v=1/\n<=rows.length/\n<=uD then match AA (rows.take n)with
   | some s=>.str s
   | none=>.none else .none
 | .rep w,.int _ (.ofNat n)::l=>if l.length=w/\n<=uD then .seq false w (List.replicate n l)else .none
 | .bin op,[a,b]=>evB op a b
 | .un op,[a]=>ev1 op a
 | .conv k,[.int _ n]=>.int k (k.wrap n)
 | .len,[.str s]=>.int .i64 s.length
 | .rune,[.str s,.int _ (.ofNat k)]=>.int .i32 (Utf8.decode ⟨⟨s⟩⟩ k).1
 | .rpos,[.str s,.int _ (.ofNat k)]=>.int .i64 (k+(Utf8.decode ⟨⟨s⟩⟩ k).2:Nat)
 | .idx,[.str s,.int _ (.ofNat k)]=>match s[k]? with
   | some b=>.int .u8 b.toNat
   | none=>.none
 | .sub,[.str s,.int _ l,.int _ h]=>TR s l h
 | .sub1,[.str s,.int _ l]=>TR s l s.length
 | .sel,.int _ (.ofNat k)::cs=>cs.getD k .none
 | .inb,[.int _ i,.int _ n]=>.bool (decide (0<=i) && decide (i<n))
 | .eqs,l=>match iK l with
   | some b=>.bool b
   | none=>.none
 | .max,[.int k a,.int _ b]=>.int k (if b>a then b else a)
 | .min,[.int k a,.int _ b]=>.int k (if b<a then b else a)
 | _,_=>.none
def U0.ok(E:Nat->U):U0->Prop
 | .lt i t op xs=>E i=evU op (xs.map (D4 E))/\F3 (E i)=t/\t<10
 | .dt i t op xs=>E i=evU op (xs.map (D4 E))/\F3 (E i)=t/\∃ f w rows,E i=.seq f w rows
 | .br i b=>E i=.bool b
 | .as op xs=>evU op (xs.map (D4 E))=.bool true
 | .con spec xs i d n=>∃ outs,spec (xs.map (D4 E))=some (d,outs)/\outs.length=n/\∀ j u,outs[j]? = some u->E (i+j)=u
def M5(E:Nat->U)(l:List U0):Prop:=∀ e ∈ l,e.ok E
def Lg.le(a b:Lg):Prop:=a.log <:+ b.log
def Lg.le.refl(a:Lg):a.le a:=List.suffix_refl _
def Lg.le.trans{a b c:Lg}(h:a.le b)(k:b.le c):a.le c:=List.IsSuffix.trans h k
def M5.le{E:Nat->U}{a b:Lg}(h:M5 E b.log)(k:a.le b):M5 E a.log:=fun e he=>h e (k.subset he)
variable [Ora]
abbrev Sat(lg:Lg):Prop:=M5 Ora.env lg.log
omit [Ora] in
def HG{u:U}(h:F3 u<10):∃ v,toV u=some v/\ofV (some v)=u/\F5 v=F3 u:=by
 cases u with
 | none=>simp[F3]at h
 | seq _ _ _=>simp only[F3]at h;omega
 | int k n=>exact⟨_,rfl,rfl,rfl⟩
 | bool b=>exact⟨_,rfl,rfl,rfl⟩
 | str s=>exact⟨_,rfl,rfl,rfl⟩
def yU(h:F3 (ofV o)<10):∃ v,o=some v/\toV (ofV o)=some v:=by
 unfold ofV at h;split at h
 .exact⟨_,rfl,rfl⟩
 .exact⟨_,rfl,rfl⟩
 .rename_i s;refine⟨_,rfl,?_⟩;simp[ofV,toV]
 .simp[F3]at h
def J9(k:IntKind):eF k<8:=by cases k<;>decide
theorem m9{ρ:Ren}{v v':Value}(h:VR ρ v v')(f:F5 v<10):toV (D4 Ora.env v)=some v'/\F3 (D4 Ora.env v)=F5 v:=by
 cases h with
 | pure hp =>
   cases v<;>simp only[F5]at f<;>first
    | exact⟨rfl,rfl⟩
    | (exfalso;omega)
    | (simp[H3]at hp)
 | hole h j=>exact⟨h,j⟩
 | junk=>simp[F5]at f
 | ixp _ _ _ _ _=>simp[F5,ixp]at f
 | dat _ _ _ _ _=>simp[F5,Go.Sx.dat]at f
 | clp _ _ _ _ _ _=>simp[F5,Go.Sx.clp]at f
 | own _ _ _=>simp[F5,Go.Sx.own]at f
 | dpt _ _ _=>simp[F5,Go.Sx.dpt]at f
 | opt _ _ _=>simp[F5,Go.Sx.opt]at f
 | yv _=>simp[F5,Go.Sx.yv]at f
 | sdt _=>simp[F5,Go.Sx.sdt]at f
 | _=>simp[F5]at f
def K5{ρ:Ren}(h:VR ρ v v')(j:F5 v<8):∃ k n,v'=.int k n/\D4 Ora.env v=.int k n/\F5 v=eF k:=by
 obtain⟨h1,f⟩:=m9 h A9;cases hu:D4 Ora.env v with
 | int k n=>rw[hu]at h1 f;cases h1;exact⟨k,n,rfl,rfl,f.symm⟩
 | bool b=>rw[hu]at f;simp only[F3]at f;omega
 | str s=>rw[hu]at f;simp only[F3]at f;omega
 | none=>rw[hu]at h1;cases h1
 | seq _ _ _=>rw[hu]at h1;cases h1
def dU{ρ:Ren}(h:VR ρ v v')(j:F5 v=8):∃ b,v'=.bool b/\D4 Ora.env v=.bool b:=by
 obtain⟨h1,f⟩:=m9 h A9;cases hu:D4 Ora.env v with
 | int k n=>rw[hu]at f;simp only[F3]at f;have:=J9 k;omega
 | bool b=>rw[hu]at h1;cases h1;exact⟨b,rfl,rfl⟩
 | str s=>rw[hu]at f;simp only[F3]at f;omega
 | none=>rw[hu]at h1;cases h1
 | seq _ _ _=>rw[hu]at h1;cases h1
def c8{ρ:Ren}(h:VR ρ v v')(j:F5 v=9):∃ s,v'=.string ⟨⟨s⟩⟩/\D4 Ora.env v=.str s:=by
 obtain⟨h1,f⟩:=m9 h A9;cases hu:D4 Ora.env v with
 | int k n=>rw[hu]at f;simp only[F3]at f;have:=J9 k;omega
 | bool b=>rw[hu]at f;simp only[F3]at f;omega
 | str s=>rw[hu]at h1;cases h1;exact⟨s,rfl,rfl⟩
 | none=>rw[hu]at h1;cases h1
 | seq _ _ _=>rw[hu]at h1;cases h1
def fA{m m':Mem}{t:Nat}{op:LOp}(h:Q2 m t op xs=some (v,m')):v=hole m.lg.nx t/\m'=m.wLg ⟨m.lg.nx+1,m.lg.pi,.lt m.lg.nx t op xs::m.lg.log⟩:=by
 obtain⟨H,n,W,hi,⟨nx,pi,log⟩⟩:=m;simp only[Q2,E1,G6]at h;cases h;exact⟨rfl,rfl⟩
def K3{m m':Mem}{t:Nat}{op:LOp}(h:Q2 m t op xs=some (v,m'))(n:Sat m'.lg):∃ u,evU op (xs.map (D4 Ora.env))=u/\F3 u=t/\∃ r,toV u=some r/\(∀ ρ,VR ρ v r)/\t<10:=by
 obtain⟨rfl,rfl⟩:=fA h;obtain⟨h1,f,h3⟩:=n (.lt m.lg.nx t op xs) (by cases m;exact B4);refine⟨_,rfl,h1▸f,?_⟩;obtain⟨r,j,_⟩:=HG (u:=Ora.env m.lg.nx) A9;exact⟨r,h1▸j,fun ρ=>.hole j f,h3⟩
section
variable {P:Program} {base:Nat} {ρ:Ren} {m m':Mem} {w:World}
def St.wLg(h:HR P base ρ m.H w)(lg:Lg):St P base ρ ρ m (m.wLg lg) w w:=by
 obtain⟨H,n,W,hi,l⟩:=m;have r:=St.refl (m:=⟨H,n,W,hi,l⟩) h;exact⟨r.ext,r.new,r.nle,r.hle,r.nhi,r.hr,r.wsub,r.wrw,r.keep,r.size,r.os,r.blk,r.same,r.tch⟩
def x4:∀ {l:List U0} {i:Nat} {b:Bool},tH l i=some b->U0.br i b ∈ l
 | [],_,_,h=>by cases h
 | .br j c::r,i,b,h=>by
   rw[tH]at h;cases f:Nat.beq j i with
   | true=>rw[f]at h;cases h;rw[A0 f];exact B4
   | false=>rw[f]at h;exact C5 _ (x4 h)
 | .lt _ _ _ _::r,i,b,h=>C5 _ (x4 (l:=r) h)
 | .dt _ _ _ _::r,i,b,h=>C5 _ (x4 (l:=r) h)
 | .as _ _::r,i,b,h=>C5 _ (x4 (l:=r) h)
 | .con _ _ _ _ _::r,i,b,h=>C5 _ (x4 (l:=r) h)
def cJ{lg f:Lg}{b:Bool}(h:brL lg c=some (b,f)):lg.le f:=by
 unfold brL at h;split at h
 .cases h;exact .refl _
 .obtain⟨nx,pi,log⟩:=lg;simp only at h;split at h
  .cases h;exact .refl _
  .split at h
   .cases h;exact⟨[_],rfl⟩
   .cases h;exact⟨[_],rfl⟩
   .cases h
 .cases h
def iN{lg f:Lg}{b:Bool}(h:brL lg c=some (b,f))(q:VR ρ c c')(n:Sat f):c'=.bool b:=by
 unfold brL at h;split at h
 .cases h;exact y8 q
 .rename_i i;have A:Ora.env i=.bool b:=by
   obtain⟨nx,pi,log⟩:=lg;simp only at h;split at h
   .rename_i b' B;cases h;exact n _ (x4 B)
   .split at h
    .cases h;exact n (.br i true) B4
    .cases h;exact n (.br i false) B4
    .cases h
  obtain⟨b',h1,j⟩:=dU q rfl;have j:Ora.env i=.bool b':=j;rw[A]at j;cases j;exact h1
 .cases h
def pZ:∀ {a b:List U} {z:Bool},a.length%2=0->iK (a++b)=some z->∃ x y,iK a=some x/\iK b=some y/\z=(x && y)
 | [],b,z,_,h=>⟨true,z,rfl,h,rfl⟩
 | [_],_,_,hl,_=>by simp at hl
 | p::q::r,b,z,hl,h=>by
   simp only[Y1]at h;unfold iK at h;split at h
   .rename_i u v n j;cases h;obtain⟨x,y,h1,f,rfl⟩:=pZ (by simp only[I7]at hl;omega) j;exact⟨u && x,y,by simp only[iK,n,h1],f,by simp[Bool.and_assoc]⟩
   .cases h
def KU(h:cE P t x y=true)(D:VR ρ x x')(C:VR ρ y y'){b:Bool}(f:eqU (D4 Ora.env x) (D4 Ora.env y)=some b)(n:Nat)(w:World):(Op.equalIn (n+1) t x' y').run P w=.ok b w:=by
 unfold cE at h;split at h
 .rename_i hu;obtain⟨h1,j⟩:=B3 h;obtain⟨p,rfl,B⟩:=dU D (A0 h1);obtain⟨q,rfl,A⟩:=dU C (A0 j);rw[B,A]at f;cases f;simp[Op.equalIn,A3,C8 hu,Result.andThen]
 .rename_i k hu;obtain⟨h1,j⟩:=B3 h;have h1:=A0 h1;have j:=A0 j;obtain⟨E,p,rfl,B,f1⟩:=K5 D (by have:=J9 k;omega);obtain⟨F,q,rfl,A,f2⟩:=K5 C (by have:=J9 k;omega);have g1:E=k:=by cases E<;>cases k<;>first|rfl|(simp only[eF]at f1 h1;omega)
  have g2:F=k:=by cases F<;>cases k<;>first|rfl|(simp only[eF]at f2 j;omega)
  subst g1;subst g2;rw[B,A]at f;simp[eqU]at f;subst f;simp[Op.equalIn,A3,C8 hu,Result.andThen]
 .rename_i hu;obtain⟨h1,j⟩:=B3 h;obtain⟨p,rfl,B⟩:=c8 D (A0 h1);obtain⟨q,rfl,A⟩:=c8 C (A0 j);rw[B,A]at f;cases f
  have:=run_equalIn_string (P:=P) w n t ⟨⟨p⟩⟩ ⟨⟨q⟩⟩ hu;rw[this];simp[ByteArray.toList_eq]
 .cases h
mutual
def IY:∀ (d:Nat) (t:TypeId) (x y:Value) (l:List Value),eqS P d t x y=some l->l.length%2=0
 | 0,_,_,_,_,h=>by simp[eqS]at h
 | d+1,t,x,y,l,h=>by
   unfold eqS at h;cases hs:cE P t x y with
   | true=>rw[hs]at h;cases h;simp
   | false =>
     rw[hs]at h;simp only[D3]at h;split at h
     .rename_i fs xs ys hu;cases hst:P.stoodInHeld t with
      | true=>rw[hst]at h;cases h
      | false=>rw[hst]at h;exact tK d _ _ _ l h
     .split at h
      .exact tK d _ _ _ l h
      .cases h
     .cases h
def tK:∀ (d:Nat) (fs:List Field) (xs ys:List Value) (l:List Value),tL P d fs xs ys=some l->l.length%2=0
 | 0,_,_,_,_,h=>by simp[tL]at h
 | d+1,[],_,_,_,h=>by simp only[tL,C7]at h;subst h;rfl
 | d+1,f::fs,xs,ys,l,h=>by
   unfold tL at h;cases hnm:f.name == "_" with
   | true=>rw[hnm]at h;cases h
   | false =>
     rw[hnm]at h;simp only[D3]at h;split at h
     .split at h
      .rename_i a b ha hb;cases h
       have:=IY d _ _ _ a ha
       have:=tK d _ _ _ b hb;simp only[G8];omega
      .cases h
     .cases h
end
mutual
def GK:∀ (d:Nat) (t:TypeId) (x y x' y':Value) (l:List Value) (b:Bool),eqS P d t x y=some l->iK (l.map (D4 Ora.env))=some b->VR ρ x x'->VR ρ y y'->∀ (n:Nat),d<=n->∀ w:World,(Op.equalIn n t x' y').run P w=.ok b w
 | 0,_,_,_,_,_,_,_,h,_,_,_,_,_,_=>by simp[eqS]at h
 | d+1,t,x,y,x',y',l,b,h,hl,hx,hy,n,hn,w=>by
   obtain⟨n,rfl⟩:∃ k,n=k+1:=⟨n-1,A9⟩;have hn':d<=n:=A9;unfold eqS at h;cases hs:cE P t x y with
   | true =>
     rw[hs]at h;cases h;simp only[B8,E3,iK]at hl;split at hl
     .rename_i u v e1 e2;cases e2;cases hl;rw[kI];exact KU hs hx hy e1 n w
     .cases hl
   | false =>
     rw[hs]at h;simp only[D3]at h;split at h
     .rename_i fs xs ys hu;cases hst:P.stoodInHeld t with
      | true=>rw[hst]at h;cases h
      | false =>
        rw[hst]at h;obtain⟨xs',rfl,hx1⟩:=S0 hx;obtain⟨ys',rfl,hy1⟩:=S0 hy;have hf:P.fieldsOf t=fs:=by simp[Program.fieldsOf,hu]
        rw[run_equalIn_struct (P:=P) w n t _ _ (by rw[hf];exact hu) hst,hf];exact zP d fs.toList xs.toList ys.toList xs' ys' l b h hl hx1 hy1 n hn' w
     .rename_i k e xs ys hu;split at h
      .rename_i s hz;obtain⟨xs',rfl,hx1⟩:=S0 hx;obtain⟨ys',rfl,hy1⟩:=S0 hy;obtain⟨i,hi,rfl⟩:=vS hz;rw[run_equalIn_array (P:=P) (w:=w) n _ _ hu hi,show P.cellsOf e=i.size by simp[Program.cellsOf,hi],cG];exact zP d _ xs.toList ys.toList xs' ys' l b h hl hx1 hy1 n hn' w
      .cases h
     .cases h
def zP:∀ (d:Nat) (fs:List Field) (xs ys xs' ys':List Value) (l:List Value) (b:Bool),tL P d fs xs ys=some l->iK (l.map (D4 Ora.env))=some b->LR ρ xs xs'->LR ρ ys ys'->∀ (n:Nat),d<=n->∀ w:World,(Op.eqFields n ⟨xs'⟩ ⟨ys'⟩ fs).run P w=.ok b w
 | 0,_,_,_,_,_,_,_,h,_,_,_,_,_,_=>by simp[tL]at h
 | d+1,[],_,_,_,_,_,b,h,hl,_,_,_,_,_=>by
   simp only[tL,C7]at h;subst h;simp only[E3,iK,C7]at hl;subst hl;simp[Op.eqFields]
 | d+1,f::fs,xs,ys,xs',ys',l,b,h,hl,hx,hy,n,hn,w=>by
   unfold tL at h;cases hnm:f.name == "_" with
   | true=>rw[hnm]at h;cases h
   | false =>
     rw[hnm]at h;simp only[D3]at h;have hn':f.name ≠ "_":=by simpa using hnm
     split at h
     .rename_i x y h1 h2;obtain⟨x',g1,g2⟩:=eA h1 hx w;obtain⟨y',g3,g4⟩:=eA h2 hy w;split at h
      .rename_i a c ha hc;cases h;rw[M6]at hl;obtain⟨p,q,e1,e2,rfl⟩:=pZ (by have:=IY d _ _ _ a ha;simpa using this) hl;have ih:=GK d f.type x y x' y' a p ha e1 g2 g4 n A9 w;have ih2:=zP d fs xs ys xs' ys' c q hc e2 hx hy n A9 w;unfold Op.eqFields;rw[B2 hn'];cases p<;>simp[A3,g1,g3,Result.andThen,ih,ih2]
      .cases h
     .cases h
end
end
end
section
open Go
variable [Ora]
section
variable {P:Program} {base:Nat} {ρ:Ren} {m m':Mem} {w w':World}
def St.new0{ab:AB}(h:HR P base ρ m.H w)(R:W6 m ab k=some (v,m'))(Q:I2 ρ m.n m'.hi)(J:BR P (upd ρ m.n l') ab l' w)(F:l'.on=false)
  (M:∀ q,Tc ab l' q->Fp ρ m.H q/\∀ id,id<=G2->∀ a l,Hp.get m.H id=some a->ρ id=some l->a.rw=true->l.on=true->l.blk≠q):v=k m.n/\upd ρ m.n l' m.n=some l'/\St P base ρ (upd ρ m.n l') m m' w w:=by
 obtain⟨hle,O,rfl⟩:=J8 R;have D:ρ m.n=none:=Q m.n (A6 _) (J2 _ _).2;have A:=T8 (l:=l') D;refine⟨O,K0 _ _ _,A,fun b q h1 j=>?_,by simp,(J2 _ _).1,fun _=>V4 (J2 _ _).2,⟨fun b q L=>?_,fun id hid a f=>?_⟩,fun b J=>J,fun b h1 j=>absurd h1 j,fun q L _=>rfl,A6 _,⟨rfl,rfl,rfl⟩,fun b q h1 j B=>?_,fun id hid h1 j=>?_,fun q ⟨id,a,l,hid,f,E,N⟩=>.inr ?_⟩
 .obtain⟨rfl,rfl⟩:=R0 h1 j;exact⟨A6 _,H5 _⟩
 .cases h0:ρ b with
  | some S=>exact h.dom b S h0
  | none=>obtain⟨rfl,rfl⟩:=R0 L h0;exact hle
 .rw[E7 _ _ _ _ hle hid]at f;by_cases e:id=m.n
  .rw[B2 e]at f;have f:=A5 f;subst f;subst e;exact⟨l',K0 _ _ _,J,fun _ B=>(by rw[F]at B;cases B)⟩
  .rw[B1 e]at f;obtain⟨l0,h1,j,h3⟩:=h.at_ id hid a f;refine⟨l0,A _ _ h1,j.mono A (fun _ _=>rfl),fun hr B=>⟨(h3 hr B).1,fun G C K l2 g1 g2 g3=>?_⟩⟩;rw[E7 _ _ _ _ hle C]at g1;by_cases I:G=m.n
   .subst I;rw[K0]at g2
    have:=A5 g2;subst this;rw[B2 rfl]at g1;have g1:=A5 g1;subst g1;exact absurd rfl ((M _ g3).2 id hid a l0 f h1 hr B)
   .rw[B1 I]at g1;unfold upd at g2;rw[B1 I]at g2;exact(h3 hr B).2 G C K l2 g1 g2 g3
 .obtain⟨rfl,rfl⟩:=R0 h1 j;rw[F]at B;cases B
 .rw[E7 _ _ _ _ hle hid,B1];intro e;subst e;rcases j with j|j
  .omega
  .have j:upN m.hi m.n<=m.n:=j
   have:=(J2 m.hi m.n).2;omega
 .have f:Hp.get (m.H.set m.n (some ab)) id=some a:=f;rw[E7 _ _ _ _ hle hid]at f;by_cases e:id=m.n
  .subst e;rw[B2 rfl]at f;have f:=A5 f;subst f;rw[K0]at E;have E:=A5 E;subst E;exact(M q N.2).1
  .rw[B1 e]at f;unfold upd at E;rw[B1 e]at E;exact⟨id,a,l,hid,f,E,N⟩
def St.same0{ab:AB}{id:Nat}(h:HR P base ρ m.H w)(T:y4 m id ab'=some m')(L:Hp.get m.H id=some ab)(D:ab.rw=true)(G:ρ id=some l)(M:BR P ρ ab' l w)(O:∀ q,Tc ab' l q->Tc ab l q):St P base ρ ρ m m' w w:=by
 obtain⟨hle,rfl⟩:=R2 T;obtain⟨E,h3⟩:=h.atl G L;refine⟨fun _ _ h=>h,fun b k h1 E=>(by rw[h1]at E;cases E),A6 _,A6 _,fun h=>h,⟨h.dom,fun n f a A=>?_⟩,fun b M=>C5 _ M,fun b h1 E k I=>?_,fun k I S=>rfl,A6 _,⟨rfl,rfl,rfl⟩,fun b k h1 E=>(by rw[h1]at E;cases E),fun n f R U=>?_,fun k ⟨n,a,q,f,A,K,Q⟩=>.inr ?_⟩
 .rw[E7 _ _ _ _ hle f]at A;by_cases e:n=id
  .rw[B2 e]at A;have A:=A5 A;subst A;subst e;refine⟨l,G,M,fun _ C=>⟨(h3 D C).1,fun B j F N g1 g2 g3=>?_⟩⟩;rw[E7 _ _ _ _ hle j]at g1;by_cases J:B=n
   .exact J
   .rw[B1 J]at g1;exact(h3 D C).2 B j F N g1 g2 g3
  .rw[B1 e]at A;obtain⟨l2,g1,g2,g3⟩:=h.at_ n f a A;refine⟨l2,g1,g2.mono (fun _ _ h=>h) (fun k I=>rfl),fun hr C=>⟨(g3 hr C).1,fun B j F N f1 f2 f3=>?_⟩⟩;rw[E7 _ _ _ _ hle j]at f1;by_cases J:B=id
   .subst J;rw[G]at f2
    have:=A5 f2;subst this;have f1:=A5 (by simpa using f1);subst f1;exact(g3 hr C).2 B j ab l L G (O _ f3)
   .rw[B1 J]at f1;exact(g3 hr C).2 B j F N f1 f2 f3
 .rcases A8.1 h1 with rfl|h1
  .exact⟨ab,L,D⟩
  .exact absurd h1 E
 .rw[E7 _ _ _ _ hle f,B1];intro e;subst e;exact R B4
 .have A:Hp.get (m.H.set id (some ab')) n=some a:=A;rw[E7 _ _ _ _ hle f]at A;by_cases e:n=id
  .subst e;rw[B2 rfl]at A;have A:=A5 A;subst A;rw[G]at K;have K:=A5 K;subst K;exact⟨n,ab,l,f,L,G,AB.rw_fr D,O _ Q.2⟩
  .rw[B1 e]at A;exact⟨n,a,q,f,A,K,Q⟩
def St.move{ab:AB}{id:Nat}(h:HR P base ρ m.H w)(hle:id<=G2)(Z:Hp.get m.H id=some ab)(E:ab.rw=true)(U:ρ id=some l)
  (hn:W6 (fR m id) ab' k=some (v,m')) (hf:I2 ρ m.n m'.hi) (N:l'.on=true->l.on=true/\l'.blk=l.blk)
  (ho:w'.os=w.os/\w'.tape=w.tape/\w'.output=w.output) (aw:w'.heap.size=w.heap.size) (hk:∀ k,(l.on=true->k≠l.blk)->w'.heap[k]? = w.heap[k]?) (Q:BR P (upd ρ m.n l') ab' l' w') (az:ab'≠.frz) :
  v=k m.n/\upd ρ m.n l' m.n=some l'/\St P base ρ (upd ρ m.n l') m m' w w':=by
 rw[Z5]at hn;obtain⟨T,hv,rfl⟩:=J8 hn;have B:ρ m.n=none:=hf m.n (A6 _) (J2 _ _).2;have G:=T8 (l:=l') B;obtain⟨O,h3⟩:=h.atl U Z;have V:∀ k,Tc ab' l' k->l.on=true/\k=l.blk:=fun k hk=>by
  rcases hk with⟨_,h1,rfl⟩|⟨rfl,_⟩
  .exact N h1
  .exact absurd rfl az
 have av:id≠m.n:=fun e=>by subst e;rw[U]at B;cases B
 have A:∀ i,i<=G2->Hp.get ((m.H.set id none).set m.n (some ab')) i=if i=m.n then some ab' else if i=id then none else Hp.get m.H i:=fun i hi=>by
  rw[E7 _ _ _ _ T hi,E7 _ _ _ _ hle hi]
 refine⟨hv,K0 _ _ _,G,fun b q h1 O=>?_,W9 _,(J2 _ _).1,fun _=>V4 (J2 _ _).2,⟨fun b q D=>?_,fun i hi a f=>?_⟩,fun b Q=>C5 _ Q,fun b h1 O q D=>?_,fun q D ax=>hk q ?_,by rw[aw];exact A6 _,ho,fun b q h1 O C=>?_,fun i hi h4 W=>?_,fun k ⟨i,a,q,hi,f,D,ht⟩=>.inr ?_⟩
 .obtain⟨rfl,rfl⟩:=R0 h1 O;exact⟨A6 _,H5 _⟩
 .cases h0:ρ b with
  | some q0=>exact h.dom b q0 h0
  | none=>obtain⟨rfl,rfl⟩:=R0 D h0;exact T
 .have f:Hp.get ((m.H.set id none).set m.n (some ab')) i=some a:=f;rw[A i hi]at f;by_cases e:i=m.n
  .rw[B2 e]at f;have f:=A5 f;subst f;subst e;refine⟨l',K0 _ _ _,Q,fun au C=>?_⟩;obtain⟨j,hblk⟩:=N C;refine⟨by rw[hblk];exact(h3 E j).1,fun J L ay l2 g1 g2 g3=>?_⟩;rw[A J L]at g1;by_cases X:J=m.n
   .exact X
   .rw[B1 X]at g1;unfold upd at g2;rw[B1 X]at g2;by_cases I:J=id
    .rw[B2 I]at g1;cases g1
    .rw[B1 I]at g1;exact absurd ((h3 E j).2 J L ay l2 g1 g2 (hblk▸g3)) I
  .rw[B1 e]at f;by_cases I:i=id
   .rw[B2 I]at f;cases f
   .rw[B1 I]at f;obtain⟨l2,g1,g2,g3⟩:=h.at_ i hi a f;have S:∀ k,Tc a l2 k->l.on=true->k≠l.blk:=fun k M j hh=>I ((h3 E j).2 i hi a l2 f g1 (hh▸M))
    refine⟨l2,G _ _ g1,g2.mono G (fun k M=>hk _ (S k M)),fun hr C=>⟨(g3 hr C).1,fun F K R l3 f1 f2 f3=>?_⟩⟩;have f1:Hp.get ((m.H.set id none).set m.n (some ab')) F=some R:=f1;rw[A F K]at f1;by_cases e4:F=m.n
    .subst e4;rw[K0]at f2
     have:=A5 f2;subst this;rw[B2 rfl]at f1;have f1:=A5 f1;subst f1;obtain⟨j,D⟩:=V _ f3;exact absurd D (S _ (.inl ⟨AB.rw_on hr,C,rfl⟩) j)
    .rw[B1 e4]at f1;unfold upd at f2;rw[B1 e4]at f2;by_cases e5:F=id
     .rw[B2 e5]at f1;cases f1
     .rw[B1 e5]at f1;exact(g3 hr C).2 F K R l3 f1 f2 f3
 .rcases A8.1 h1 with rfl|h1
  .exact⟨ab,Z,E⟩
  .exact absurd h1 O
 .exact fun j e=>ax id B4 l U j e.symm
 .obtain⟨rfl,rfl⟩:=R0 h1 O;obtain⟨j,hblk⟩:=N C;exact .inr ⟨id,B4,l,U,j,hblk.symm⟩
 .have Y:=A i hi;show Hp.get ((m.H.set id none).set m.n (some ab')) i=_;rw[Y,B1,B1]
  .intro e;subst e;exact h4 B4
  .intro e;subst e;rcases W with W|W
   .omega
   .have W:upN m.hi m.n<=m.n:=W
    have:=(J2 m.hi m.n).2;omega
 .have f:Hp.get ((m.H.set id none).set m.n (some ab')) i=some a:=f;rw[A i hi]at f;by_cases e:i=m.n
  .rw[B2 e]at f;have f:=A5 f;subst f;subst e;rw[K0]at D;have D:=A5 D;subst D;obtain⟨j,Q⟩:=V k ht.2;exact⟨id,ab,l,hle,Z,U,AB.rw_fr E,.inl ⟨AB.rw_on E,j,Q.symm⟩⟩
  .rw[B1 e]at f;unfold upd at D;rw[B1 e]at D;by_cases I:i=id
   .rw[B2 I]at f;cases f
   .rw[B1 I]at f;exact⟨i,a,q,hi,f,D,ht⟩
end
end
section
open Go
variable [Ora]
def p8{m m':Mem}{ab:AB}(h:W6 m ab k=some (v,m')):m'.lg=m.lg:=by
 obtain⟨_,_,rfl⟩:=J8 h;rfl
def bC{m m':Mem}{id:Nat}{ab:AB}(h:y4 m id ab=some m'):m'.lg=m.lg:=by
 obtain⟨_,rfl⟩:=R2 h;rfl
def nX{m m':Mem}(h:kJ m a vs=some m'):m'.lg=m.lg:=by
 unfold kJ at h;split at h
 .obtain⟨_,h⟩:=A2 h;rw[G6]at h;exact bC h
 .cases h
def KN{P:Program}{m m':Mem}(h:rV P m t a v=some m'):m'.lg=m.lg:=by
 unfold rV at h;split at h
 .obtain⟨_,h⟩:=A2 h;exact nX h
 .cases h
def d9{m m':Mem}(h:noM o m=some (v,m')):m'.lg=m.lg:=by
 obtain⟨_,rfl⟩:=Z4 h;rfl
def uB{P:Program}{m m':Mem}{n:Nat}{ps:List (Nat×Value)}(h:aF P m t n ps=some (v,m')):m'.lg=m.lg:=by
 unfold aF at h;split at h
 .split at h
  .obtain⟨_,h⟩:=A2 h;split at h
   .exact p8 h
   .cases h
  .cases h
 .cases h
def uV{P:Program}{m m':Mem}{l:Value}(h:cA P m t l c=some (v,m')):m'.lg=m.lg:=by
 unfold cA at h;split at h
 .split at h
  .obtain⟨_,h⟩:=A2 h;split at h
   .rw[G6]at h;exact p8 h
   .cases h
  .cases h
 .cases h
def RG{P:Program}{m m':Mem}(h:xG P m s t x=some (v,m')):m'.lg=m.lg:=by
 unfold xG at h;split at h
 .cases h;rfl
 .cases h;rfl
 .cases h;rfl
 .split at h
  .split at h
   .rw[G6]at h;exact p8 h
   .cases h
  .cases h
 .split at h<;>cases h;rfl
 .split at h
  .split at h
   .split at h<;>cases h;rfl
   .cases h
  .cases h
 .cases h
def GU{P:Program}{m m':Mem}(h:nR P m t t2 x y=some (v,m')):m'.lg=m.lg:=by
 unfold nR at h;split at h
 .rename_i A d2 _ _;cases j:aP d2 with
  | false=>rw[j]at h;cases h
  | true =>
  rw[j]at h;simp only[N6,D3]at h;split at h
  .rename_i i a n c _;split at h
   .rename_i k new z _ _;obtain⟨_,h⟩:=A2 h;cases hk:Nat.beq k 0 with
    | true =>
      rw[hk]at h;simp only[D7]at h;split at h
      .obtain⟨_,h⟩:=A2 h;cases h;rfl
      .obtain⟨_,h⟩:=A2 h;cases h;rfl
    | false =>
      rw[hk]at h;simp only[D3]at h;split at h
      .obtain⟨_,h⟩:=A2 h;rw[G6]at h;exact p8 h
      .cases q:Nat.blt c K9 with
       | true =>
         rw[q]at h;simp only[D7]at h;cases f:Nat.ble (n+k) c with
         | true =>
           rw[f]at h;simp only[D7]at h;split at h
           .rename_i m1 _ hw;cases h;exact nX hw
           .cases h
         | false =>
           rw[f]at h;simp only[D3]at h;split at h
           .rw[G6]at h;exact p8 h
           .cases h
       | false =>
         rw[q]at h;simp only[D3]at h;obtain⟨_,h⟩:=A2 h;split at h
         .obtain⟨_,h⟩:=A2 h;rw[G6]at h;rw[p8 h,Z5]
         .cases h
   .cases h
  .cases h
 .cases h
def RD{P:Program}{m m':Mem}(h:DU P m t x y=some (v,m')):m'.lg=m.lg:=by
 unfold DU at h;split at h
 .split at h
  .split at h
   .split at h
    .obtain⟨_,h⟩:=A2 h;cases h;rfl
    .rename_i k cs j _ n;cases f:Nat.beq cs.length 0 with
     | true=>rw[f]at h;cases h;rfl
     | false =>
       rw[f]at h;simp only[D3]at h;obtain⟨_,h⟩:=A2 h;split at h
       .rename_i hw;cases h;exact nX hw
       .cases h
   .cases h
  .cases h
 .cases h
def uJ{P:Program}{m m':Mem}{l:Value}(h:bQ P m pt p l=some (v,m')):m'.lg=m.lg:=by
 unfold bQ at h;split at h
 .cases h;rfl
 .split at h
  .split at h
   .obtain⟨_,h⟩:=A2 h;split at h
    .split at h
     .rename_i U5;cases h;exact bC U5
     .cases h
    .cases h
   .cases h
  .cases h
 .cases h
def EE{P:Program}{m m':Mem}(h:eL P m b vs tys=some (v,m')):m'.lg=m.lg:=by
 unfold eL at h;split at h
 .exact d9 h
 .exact d9 h
 .exact GU h
 .exact RD h
 .exact d9 h
 .exact d9 h
 .unfold eP at h;split at h
  .cases h;rfl
  .rename_i a n c;cases f:Nat.beq n 0 || Nat.beq c 0 || Nat.beq c (K9+2)with
   | true=>rw[f]at h;cases h
   | false=>rw[f]at h;cases h;rfl
  .cases h
 .exact uJ h
 .cases h
def ZZ{P:Program}{fr:Fr}{m m':Mem}{o:Op}(h:opM P fr m o=some (v,m')):m'.lg=m.lg:=by
 unfold opM at h;split at h
 .cases h;rfl
 .cases h;rfl
 .unfold HY at h;split at h<;>cases h<;>rfl
 .unfold yX at h;split at h
  .exact p8 h
  .cases h
 .unfold PC at h;obtain⟨_,h⟩:=A2 h;exact p8 h
 .exact d9 h
 .exact uB h
 .unfold HZ at h;split at h
  .exact d9 h
  .cases h
 .unfold yV at h;split at h
  .obtain⟨h,_⟩:=jJ h;exact KN h
  .cases h
 .unfold PA at h;split at h<;>cases h<;>rfl
 .unfold UI at h;rename_i op t x y j;cases f:tB op with
  | true=>rw[f]at h;simp only[D7]at h;obtain⟨_,h⟩:=A2 h;exact d9 h
  | false=>rw[f]at h;exact d9 h
 .exact d9 h
 .exact RG h
 .unfold yW at h;split at h
  .split at h
   .cases h
   .obtain⟨_,h⟩:=A2 h;cases h;rfl
  .cases h
 .cases h;rfl
 .exact uV h
 .exact d9 h
 .exact d9 h
 .exact d9 h
 .exact d9 h
 .exact d9 h
 .unfold gZ at h;split at h
  .exact d9 h
  .cases h
 .exact EE h
 .cases h
def G3{m m':Mem}{t:Nat}{op:LOp}(h:Q2 m t op xs=some (v,m')):m.lg.le m'.lg:=by
 obtain⟨_,rfl⟩:=fA h;obtain⟨H,n,W,hi,l⟩:=m;exact⟨[_],rfl⟩
def I1(m m':Mem):Prop:=∃ lg,m'=m.wLg lg
def I1.refl(m:Mem):I1 m m:=⟨m.lg,by cases m;rfl⟩
def I1.trans{a b c:Mem}(h:I1 a b)(k:I1 b c):I1 a c:=by
 obtain⟨l,rfl⟩:=h;obtain⟨l2,rfl⟩:=k;exact⟨l2,by cases a;rfl⟩
def G0{m m':Mem}{t:Nat}{op:LOp}(h:Q2 m t op xs=some (v,m')):I1 m m':=⟨_,(fA h).2⟩
section
variable {P:Program} {base:Nat} {ρ:Ren} {m m':Mem} {w:World}
def ER{a b:Value}(h:qO m c a b=some (v,m')):m.lg.le m'.lg/\I1 m m':=by
 obtain⟨H,n,W,hi,lg⟩:=m;unfold qO at h;simp only at h;split at h
 .rename_i j f;cases h;exact⟨cJ f,⟨_,rfl⟩⟩
 .rename_i j f;cases h;exact⟨cJ f,⟨_,rfl⟩⟩
 .cases h
def KL{a b:Value}(h:kN P m op t a b=some (v,m')):m.lg.le m'.lg/\I1 m m':=by
 unfold kN at h;simp only at h;cases h1:(Nat.blt (F5 a) 8 && Nat.blt (F5 b) 8) || (Nat.beq (F5 a) 9 && Nat.beq (F5 b) 9)with
 | true=>rw[h1]at h;exact⟨G3 h,G0 h⟩
 | false =>
   rw[h1]at h;simp only[D3]at h;obtain⟨_,h⟩:=A2 h;exact⟨G3 h,G0 h⟩
def NH{x y:Operand}{a b:Value}(h:AX P m op t x y a b=some (v,m')):m.lg.le m'.lg/\I1 m m':=by
 unfold AX at h;obtain⟨_,h⟩:=A2 h;split at h
 .exact⟨G3 h,G0 h⟩
 .split at h
  .rename_i m1 h1;exact⟨(G3 h1).trans (G3 h),(G0 h1).trans (G0 h)⟩
  .cases h
 .cases h
def AW{i:Value}(h:Z1 P m t x i=some (v,m')):m.lg.le m'.lg/\I1 m m':=by
 unfold Z1 at h;cases f:!(Nat.blt (F5 i) 8)with
 | true=>rw[f]at h;cases h
 | false =>
   rw[f]at h;simp only[D3]at h;split at h
   .obtain⟨_,h⟩:=A2 h;exact⟨G3 h,G0 h⟩
   .split at h
    .obtain⟨_,h⟩:=A2 h;exact⟨G3 h,G0 h⟩
    .obtain⟨_,h⟩:=A2 h;exact⟨G3 h,G0 h⟩
    .cases h
   .cases h
def AU(h:gO P m t x lo hi mx=some (v,m')):m.lg.le m'.lg/\I1 m m':=by
 unfold gO at h;split at h
 .obtain⟨_,h⟩:=A2 h;split at h
  .cases h;exact⟨.refl _,.refl _⟩
  .obtain⟨_,h⟩:=A2 h;exact⟨G3 h,G0 h⟩
  .obtain⟨_,h⟩:=A2 h;exact⟨G3 h,G0 h⟩
  .obtain⟨_,h⟩:=A2 h;exact⟨G3 h,G0 h⟩
 .cases h
def ND{op:UnOp}(h:AS m op x=some (v,m')):m.lg.le m'.lg/\I1 m m':=by
 unfold AS at h;simp only at h;split at h
 .obtain⟨_,h⟩:=A2 h;exact⟨G3 h,G0 h⟩
 .obtain⟨_,h⟩:=A2 h;exact⟨G3 h,G0 h⟩
def EV(h:lY P m s t x=some (v,m')):m.lg.le m'.lg/\I1 m m':=by
 unfold lY at h;split at h
 .obtain⟨_,h⟩:=A2 h;exact⟨G3 h,G0 h⟩
 .obtain⟨_,h⟩:=A2 h;cases h;exact⟨.refl _,.refl _⟩
 .cases h
def uR(h:bT P m b vs tys=some (v,m')):m.lg.le m'.lg/\I1 m m':=by
 unfold bT at h;split at h
 .split at h
  .obtain⟨_,h⟩:=A2 h;exact⟨G3 h,G0 h⟩
  .cases h
 .obtain⟨_,h⟩:=A2 h;exact⟨G3 h,G0 h⟩
 .obtain⟨_,h⟩:=A2 h;exact⟨G3 h,G0 h⟩
 .cases h
def IR{s n:Nat}{i:Value}(h:LO m a s n i=some (v,m')):m.lg.le m'.lg/\I1 m m':=by
 unfold LO at h;cases j:!(Nat.blt (F5 i) 8)with
 | true=>rw[j]at h;cases h
 | false =>
   rw[j]at h;simp only[D3]at h;split at h
   .rename_i b H k W hi lg q;split at h
    .rename_i f A;cases h;have h1:=G3 q;obtain⟨l1,B⟩:=G0 q;refine⟨h1.trans (cJ A),f,?_⟩;obtain⟨H0,n0,D,C,l0⟩:=m;cases B;rfl
    .cases h
   .cases h
def uN{i:Value}(h:bR P m t x i=some (v,m')):m.lg.le m'.lg/\I1 m m':=by
 unfold bR at h;split at h
 .split at h
  .exact IR h
  .cases h
 .split at h
  .generalize f:Nat.beq _ (K9+2)=q at h;cases q with
   | true=>cases h
   | false=>exact IR h
  .cases h
 .cases h
def uP(h:bS P m s x i=some (v,m')):m.lg.le m'.lg/\I1 m m':=by
 unfold bS at h;split at h
 .split at h
  .split at h
   .split at h
    .cases h;exact⟨.refl _,.refl _⟩
    .cases h
   .cases h
  .cases h
 .cases h
def cV{cs:D0}{s n:Nat}{i:Value}:∀ {k o:Nat} {m m':Mem} {r:D0},y5 m cs s n i o k=some (r,m')->m.lg.le m'.lg/\I1 m m'
 | 0,o,m,m',r,h=>by cases h;exact⟨.refl _,.refl _⟩
 | k+1,o,m,m',r,h=>by
   unfold y5 at h;split at h
   .obtain⟨_,h⟩:=A2 h;split at h
    .rename_i m1 h1;split at h
     .rename_i f;cases h
      have:=cV f;exact⟨(G3 h1).trans this.1,(G0 h1).trans this.2⟩
     .cases h
    .cases h
   .cases h
def ET(h:lX P m t x=some (v,m')):m.lg.le m'.lg/\I1 m m':=by
 unfold lX at h;split at h
 .split at h
  .split at h
   .split at h
    .rename_i h1;cases h;exact cV h1
    .cases h
   .cases h
  .split at h
   .split at h
    .rename_i h1;cases h;exact cV h1
    .cases h
   .cases h
  .cases h
 .cases h
def HH{fr:Fr}{o:Op}(h:NE P fr m o=some (v,m')):m.lg.le m'.lg/\I1 m m':=by
 unfold NE at h;split at h
 .exact ER h
 .split at h
  .rename_i r hr;cases h;exact KL hr
  .exact NH h
 .exact ND h
 .exact EV h
 .exact AU h
 .exact AW h
 .exact uN h
 .exact uP h
 .exact ET h
 .exact uR h
 .cases h
def mR{j k:IntKind}(h:eF j=eF k):j=k:=by cases j<;>cases k<;>first|rfl|(simp only[eF]at h;omega)
def KK{x y:Operand}{a b:Value}(h:kN P m op t a b=some (v,m'))(G:VR ρ a a')(E:VR ρ b b')(J:Sat m'.lg)(w:World) :
  ∃ r,(do eqGuard op t x y a' b';binOp op t a' b':Sem Value).run P w=.ok r w/\VR ρ v r:=by
 have fin:∀ {r:Value} {p q:Value},sC p=true->sC q=true->nP P op t p q=some r->a'=p->b'=q->(do eqGuard op t x y a' b';binOp op t a' b':Sem Value).run P w=.ok r w:=fun{r p q} hp I hr f C=>by
  subst f;subst C;have v1:VR ρ a' a':=.pure (by cases a'<;>simp[sC]at hp<;>rfl);have v2:VR ρ b' b':=.pure (by cases b'<;>simp[sC]at I<;>rfl);have g:iF P t x y a' b'=true:=by
   cases a'<;>simp[sC]at hp<;>cases b'<;>simp[sC]at I<;>rfl
  have M:=mY (op:=op) (fun _=>g) v1 v2 w;obtain⟨A,_⟩:=rF hr v1 v2 w;simp[A3,M,A,Result.andThen]
 unfold kN at h;simp only at h;cases h1:(Nat.blt (F5 a) 8 && Nat.blt (F5 b) 8) || (Nat.beq (F5 a) 9 && Nat.beq (F5 b) 9)with
 | true =>
   rw[h1]at h;obtain⟨u,f,C,r,B,F,N⟩:=K3 h J;have K:F3 u<10:=by rw[C];exact N
   refine⟨r,?_,F ρ⟩;rcases F8 _ _▸h1 with h1|h1
   .obtain⟨p1,D⟩:=B3 h1;obtain⟨k,n,rfl,f1,_⟩:=K5 G (A1 p1);obtain⟨j,Q,rfl,f2,_⟩:=K5 E (A1 D);simp only[B8,E3,f1,f2,evU,evB]at f;subst f;obtain⟨O,g1,g2⟩:=yU K;rw[B]at g2;cases g2;exact fin rfl rfl (by unfold nP;exact g1) rfl rfl
   .obtain⟨p1,D⟩:=B3 h1;obtain⟨s1,rfl,f1⟩:=c8 G (A0 p1);obtain⟨s2,rfl,f2⟩:=c8 E (A0 D);simp only[B8,E3,f1,f2,evU,evB]at f;subst f;obtain⟨O,g1,g2⟩:=yU K;rw[B]at g2;cases g2;exact fin rfl rfl (by unfold nP;exact g1) rfl rfl
 | false =>
   rw[h1]at h;simp only[D3]at h;obtain⟨A,h⟩:=A2 h;obtain⟨A,L⟩:=B3 A;obtain⟨A,H⟩:=B3 A;obtain⟨A,h3⟩:=B3 A;have hu:P.underlying t=some .bool:=by
    split at L
    .assumption
    .cases L
   obtain⟨u,f,C,r,B,F,_⟩:=K3 h J;refine⟨r,?_,F ρ⟩;obtain⟨p,rfl,f1⟩:=dU G (A0 A);obtain⟨q,rfl,f2⟩:=dU E (A0 h3);simp only[B8,E3,f1,f2,evU,evB]at f;cases op<;>simp only[tB]at H<;>first
    | cases H
    | skip
   .subst f;cases B;exact fin rfl rfl (by simp[nP,wA,eqM,hu]) rfl rfl
   .subst f;cases B;exact fin rfl rfl (by simp[nP,wA,eqM,hu]) rfl rfl
def qF(e:Bool)(f:∃ cs,a'=.agg cs):binOp (bif e then .eql else .neq) t a' b'=(do let r <- Op.equal t a' b';pure (.bool (bif e then r else !r))):=by
 obtain⟨cs,rfl⟩:=f;cases e<;>cases b'<;>rfl
def NG{x y:Operand}{a b:Value}(h:AX P m op t x y a b=some (v,m'))(E:VR ρ a a')(J:VR ρ b b')(q:kN P m op t a b=none)(M:Sat m'.lg)(w:World) :
  ∃ r,(do eqGuard op t x y a' b';binOp op t a' b':Sem Value).run P w=.ok r w/\VR ρ v r:=by
 unfold AX at h;obtain⟨R,h⟩:=A2 h;have C:=mY (op:=op) (fun _=>R) E J w;have j:∀ {l},eqS P 20 t a b=some l->(op=.eql∨op=.neq)->∃ cs,a'=.agg cs:=fun{l} f L=>by
  unfold eqS at f;cases A:cE P t a b with
  | true =>
    unfold cE at A;unfold kN at q;simp only at q;split at A
    .rename_i hu;obtain⟨q1,q2⟩:=B3 A;rw[A0 q1,A0 q2,hu]at q;obtain⟨H,n,W,hi,⟨nx,pi,log⟩⟩:=m;rcases L with rfl|rfl<;>simp[tB,Q2,E1,G6]at q
    .rename_i k hu;obtain⟨q1,q2⟩:=B3 A;have q3:=J9 k;have q4:Nat.blt (eF k) 8=true:=C4 q3;rw[A0 q1,A0 q2,q4]at q;obtain⟨H,n,W,hi,⟨nx,pi,log⟩⟩:=m;simp[Q2,E1,G6]at q
    .obtain⟨q1,q2⟩:=B3 A;rw[A0 q1,A0 q2]at q;obtain⟨H,n,W,hi,⟨nx,pi,log⟩⟩:=m;simp[Q2,E1,G6]at q
    .cases A
  | false =>
    rw[A]at f;simp only[D3]at f;split at f
    .obtain⟨cs',rfl,_⟩:=S0 E;exact⟨_,rfl⟩
    .obtain⟨cs',rfl,_⟩:=S0 E;exact⟨_,rfl⟩
    .cases f
 split at h
 .rename_i l f _;obtain⟨u,B,Q,r,F,K,_⟩:=K3 h M;refine⟨r,?_,K ρ⟩;simp only[evU]at B;split at B
  .rename_i z O;subst B;cases F;have he:(Op.equal t a' b').run P w=.ok z w:=GK 20 t a b a' b' l z f O E J _ L8 w;have D:=qF (t:=t) (b':=b') true (j f (.inl rfl));simp only[D7]at D;rw[D];simp[A3,C,he,Result.andThen]
  .subst B;cases F
 .rename_i l f _;split at h
  .rename_i hh m1 h1;have N:Sat m1.lg:=M5.le M (G3 h);obtain⟨S,f1,f2,r1,f3,f4,_⟩:=K3 h1 N;obtain⟨u,B,Q,r,F,K,_⟩:=K3 h M;refine⟨r,?_,K ρ⟩;simp only[evU]at f1;split at f1
   .rename_i z O;subst f1;cases f3;have G:=m9 (ρ:=ρ) (f4 ρ) (by obtain⟨e,_⟩:=fA h1;rw[e];show 8<10;omega);have:D4 Ora.env hh=.bool z:=by
     cases hu:D4 Ora.env hh<;>rw[hu]at G<;>first|(cases G.1;done)|skip
     all_goals (obtain⟨I,_⟩:=G;cases I;rfl)
    simp only[B8,E3,this,evU,ev1,unM,ofV]at B;subst B;cases F;have he:(Op.equal t a' b').run P w=.ok z w:=GK 20 t a b a' b' l z f O E J _ L8 w;have D:=qF (t:=t) (b':=b') false (j f (.inr rfl));simp only[D3]at D;rw[D];simp[A3,C,he,Result.andThen]
   .subst f1;cases f3
  .cases h
 .cases h
end
end
end Go.Sx
