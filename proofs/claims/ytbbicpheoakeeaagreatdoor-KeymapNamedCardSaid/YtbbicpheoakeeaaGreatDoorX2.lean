import Derived.Test.YtbbicpheoakeeaaGreatDoorX1
import Derived.Laws.BytesString
set_option linter.all false
set_option maxRecDepth 100000
set_option maxHeartbeats 4000000
namespace Go.Sx
variable {e pt s t t2 ty:TypeId}{k:Nat->Value}{a' b' c c' p p' u v v' x x' y y' z:Value}{new new' old' vs vs' xs:C8}{d d2:TypeDesc}{a:Addr}{inf:TypeInfo}{ab':AB}{l l':Loc}{r:U9}{i:Nat}{op:BinOp}{tys:List TypeId}{b:Builtin}{hi lo mx o:P5}{g:Operand->Value}
section
open Go
variable [Ora]
def LN(a b:Nat)(h:b<a):Builtin.nextslicecap a b<=3*a+4000:=by
 have grow:∀ r c,Builtin.growBy a r c<=max (c) (2*a+800):=by
  intro r;induction r with
  | zero=>intro c;simp only[Builtin.growBy];exact Nat.le_max_left _ _
  | succ r f =>
    intro c;simp only[Builtin.growBy];split
    .exact Nat.le_max_left _ _
    .have:=f (c+(c+768) / 4);refine B9 this ?_;rw[Nat.max_le];constructor
     .refine B9 ?_ (Nat.le_max_right _ _);omega
     .exact Nat.le_max_right _ _
 unfold Builtin.nextslicecap;split
 .omega
 .split
  .omega
  .have:=grow 4 b;refine B9 this ?_;rw[Nat.max_le];omega
section
variable {P:Program} {base:Nat} {ρ:Ren} {m m':Mem} {w:World}
def aY{w wd:World}(h:wd.heap=w.heap)(a:Addr):wd.cell? a=w.cell? a:=by simp[World.cell?,h]
def uK(ρ:Ren):∀ l:List UInt8,LR ρ (O5 l) (O5 l)
 | []=>.nil
 | b::r=>.cons (.pure rfl) (uK ρ r)
def sY{s k:Nat}(h:HR P base ρ m.H w)(f:dT m s y=some (k,new))(A:VR ρ y y') :
  (∀ wd,(Builtin.lenOf y').run P wd=.ok k wd)/\∃ new',LR ρ new new'/\∀ wd:World,wd.heap=w.heap->(Builtin.firstCells s k y').run P wd=.ok ⟨new'⟩ wd:=by
 unfold dT at f;split at f
 .rename_i n c;obtain⟨h1,q⟩:=A3 f;have h1:=A0 h1;subst h1;cases q;cases O6 A;exact⟨fun _=>rfl,[],.nil,fun _ _=>rfl⟩
 .rename_i a n c;split at f
  .rename_i cs hr;cases f;rcases O1 A with⟨l,D,_,_,rfl⟩|⟨l,c',D,_,_,_,_,rfl⟩|⟨a',c',_,rfl,_,rfl⟩
   .obtain⟨B,h1,q,h3⟩:=Y5 h hr D;exact⟨fun _=>rfl,B,h1,fun wd hw=>J7 q fun j v C=>by rw[aY hw];exact h3 j v C⟩
   .obtain⟨B,h1,q,h3⟩:=Y5 h hr D;exact⟨fun _=>rfl,B,h1,fun wd hw=>J7 q fun j v C=>by rw[aY hw];exact h3 j v C⟩
   .have:new=[]:=by
     unfold m9 at hr;split at hr
     .have:=(iE hr).2;simp at this;exact this
     .cases hr
    subst this;refine⟨fun _=>rfl,[],.nil,fun wd _=>?_⟩;simp[Builtin.firstCells,loadCells,loadCellsFrom]
  .cases f
 .rename_i b;obtain⟨_,f⟩:=A3 f;cases f;cases T5 A;refine⟨fun _=>rfl,O5 b.data.toList,?_,fun wd _=>?_⟩
  .exact uK _ _
  .have e:((b.extract 0 b.size).data.map fun b=>Value.int .u8 b.toNat)=⟨O5 b.data.toList⟩:=by
    apply I3;simp[O5]
   show(pure ((b.extract 0 b.size).data.map fun b=>Value.int .u8 b.toNat):Sem U9).run P wd=_;rw[e];rfl
 .cases f
def A4u(h:cF d=true):(∃ e,d=.slice e)∨d=.string:=by cases d<;>first|cases h;done|exact .inl ⟨_,rfl⟩|exact .inr rfl
def fX{n k c:Nat}{a:Option Addr}(hu:P.underlying t=some (.slice e))(F:P.underlying t2=some d2)(D:cF d2=true)
  (hi:P.info? e=some inf) (I:∀ w,(zeroValue e).run P w=.ok z w) (hlen:∀ wd,(Builtin.lenOf x').run P wd=.ok k wd)
  (hold:∀ wd:World,wd.heap=w.heap->(Builtin.firstCells inf.size n (.slice a n c)).run P wd=.ok ⟨old'⟩ wd) (h:∀ wd:World,wd.heap=w.heap->(Builtin.firstCells inf.size k x').run P wd=.ok ⟨new'⟩ wd)
  (E:¬ n+k<=c) (K:(3*(n+k)+4000)*inf.bytes<=281474976710656) (hm:n+k<=1000000000) :
  ∃ nc,n+k<=nc/\(Builtin.append_ #[t,t2] ty #[.slice a n c,x']).run P w=.ok (.slice (some ⟨w.heap.size,0,none⟩) (n+k) nc) { w.drew with heap:=w.heap.push (.cells (⟨old'⟩++⟨new'⟩++Builtin.zeroCells z.cells (nc-(n+k))) e (0,0)) }:=by
 have H:G3 P e=some inf.size:=by simp[G3,hi]
 have f:Builtin.nextslicecap (n+k) c*inf.bytes<=281474976710656:=by
  have:=F3 inf.bytes (LN (n+k) c A2);omega
 let q:Question:=.appendCap (n+k) c e
 let nc:=q.cut (w.tape w.drawn q)
 have C:n+k<=nc:=by show n+k<=(n+k)+_;omega
 refine⟨nc,C,?_⟩;have B:(choose q).run P w=.ok nc w.drew:=by
  simp only[choose,Sem.run];rw[A7 (by simp[q,Question.forced])];rfl
 have A:∀ k w,(askRoom k).run P w=.ok () w:=fun k w=>by unfold askRoom;split<;>rfl
 unfold Builtin.append_;rcases A4u D with⟨J,rfl⟩|rfl
 all_goals simp only[I0,P8,P9,A4,C7 hu,C7 F,Result.andThen,K1 H,Sem.run_pure,I9,if_false,hlen]
 all_goals
  have j:¬ (((n+k:Nat):Int)>IntKind.i64.max):=by simp[IntKind.max,IntKind.bits,IntKind.signed];omega
  simp only[A7 E,j,false_and,if_false,A4,Result.andThen,U0 hi];rw[A7 (show ¬ (Builtin.nextslicecap (n+k) c*inf.bytes>2 ^ 48) by simpa using f)];have G:w.drew.heap=w.heap:=rfl;simp only[A4,Sem.run_pure,Result.andThen,show(choose (.appendCap (n+k) c e)).run P w=.ok nc w.drew from B,A,hold _ G,h _ G,I,U0 hi,Bool.not_false,if_true];rfl
def lR{n k c:Nat}{w':World}(hu:P.underlying t=some (.slice e))(h:P.underlying t2=some d2)(q:cF d2=true)
  (hi:P.info? e=some inf) (hlen:∀ wd,(Builtin.lenOf x').run P wd=.ok k wd) (f:(Builtin.firstCells inf.size k x').run P w=.ok ⟨new'⟩ w)
  (hle:n+k<=c) (j:(storeCells (a.add (n*inf.size)) new').run P w=.ok () w') :
  (Builtin.append_ #[t,t2] ty #[.slice (some a) n c,x']).run P w=.ok (.slice (some a) (n+k) c) w':=by
 have A:G3 P e=some inf.size:=by simp[G3,hi]
 unfold Builtin.append_;rcases A4u q with⟨B,rfl⟩|rfl
 all_goals simp only[I0,P8,P9,A4,C7 hu,C7 h,Result.andThen,K1 A,Sem.run_pure,I9,if_false,hlen]
 all_goals simp[A9 hle,A4,f,Result.andThen,j]
def sN(hu:P.underlying t=some (.slice e))(n:P.underlying t2=some d2)(j:cF d2=true)
  (hi:P.info? e=some inf) (hlen:∀ wd,(Builtin.lenOf x').run P wd=.ok 0 wd) (f:(Builtin.firstCells inf.size 0 x').run P w=.ok #[] w) :
  (Builtin.append_ #[t,t2] ty #[.slice none 0 0,x']).run P w=.ok (.slice none 0 0) w:=by
 have q:G3 P e=some inf.size:=by simp[G3,hi]
 unfold Builtin.append_;rcases A4u j with⟨h,rfl⟩|rfl
 all_goals simp only[I0,P8,P9,A4,C7 hu,C7 n,Result.andThen,K1 q,Sem.run_pure,I9,if_false,hlen]
 all_goals simp[A4,f,Result.andThen]
def St.kill{ab:AB}{id:Nat}(h:HR P base ρ m.H w)(hle:id<=H3)(G:Hp.get m.H id=some ab)(B:ab.rw=true):St P base ρ ρ m (iU m id) w w:=by
 rw[c9];refine⟨fun _ _ h=>h,fun b k h1 A=>(by rw[h1]at A;cases A),A6 _,A6 _,fun h=>h,h.sub fun j f a n=>?_,fun b E=>B8 _ E,fun b h1 A k C=>?_,fun k C D=>rfl,A6 _,⟨rfl,rfl,rfl⟩,fun b k h1 A=>(by rw[h1]at A;cases A),fun j f I K=>?_,fun k ⟨j,a,q,f,n,F,J⟩=>.inr ⟨j,a,q,f,?_,F,J⟩⟩
 .rw[E6 _ _ _ _ hle f]at n;by_cases e:j=id
  .rw[A9 e]at n;cases n
  .rw[A7 e]at n;exact n
 .rcases B3.1 h1 with rfl|h1
  .exact⟨ab,G,B⟩
  .exact absurd h1 A
 .rw[E6 _ _ _ _ hle f,A7];intro e;subst e;exact I B2
 .have n:Hp.get (m.H.set id none) j=some a:=n;rw[E6 _ _ _ _ hle f]at n;by_cases e:j=id
  .rw[A9 e]at n;cases n
  .rw[A7 e]at n;exact n
def St.grow{ab:AB}{id:Nat}{w':World}(h:HR P base ρ m.H w)(hle:id<=H3)(hg:Hp.get m.H id=some ab)(E:ab.rw=true)(V:ρ id=some l)(D:l.on=true)
  (hn:Y0 (iU m id) ab' k=some (v,m')) (hf:J6 ρ m.n m'.hi)
  (ho:w'.os=w.os/\w'.tape=w.tape/\w'.output=w.output) (az:w'.heap.size=w.heap.size) (X:∀ k,k≠l.blk->w'.heap[k]? = w.heap[k]?) (hb:BR P (upd ρ m.n l) ab' l w') (Z:ab'≠.frz:=by intro h;cases h) :
  v=k m.n/\St P base ρ (upd ρ m.n l) m m' w w':=by
 rw[c9]at hn;obtain⟨W,hv,rfl⟩:=K6 hn;have B:ρ m.n=none:=hf m.n (A6 _) (K2 _ _).2;have C:=V7 (l:=l) B;obtain⟨O,h3⟩:=h.atl V hg;have R:∀ k,Tc ab' l k->k=l.blk:=fun k X=>by
  rcases X with⟨_,_,rfl⟩|⟨rfl,_⟩
  .rfl
  .exact absurd rfl Z
 have ax:id≠m.n:=fun e=>by subst e;rw[V]at B;cases B
 have A:∀ i,i<=H3->Hp.get ((m.H.set id none).set m.n (some ab')) i=if i=m.n then some ab' else if i=id then none else Hp.get m.H i:=fun i hi=>by
  rw[E6 _ _ _ _ W hi,E6 _ _ _ _ hle hi]
 refine⟨hv,C,fun b q h1 O=>?_,Y2 _,(K2 _ _).1,fun _=>X5 (K2 _ _).2,⟨fun b q F=>?_,fun i hi a f=>?_⟩,fun b hb=>B8 _ hb,fun b h1 O q F=>?_,fun q F Y=>X q ?_,by rw[az];exact A6 _,ho,fun b q h1 O _=>?_,fun i hi h4 U=>?_,fun k ⟨i,a,q,hi,f,F,ht⟩=>.inr ?_⟩
 .obtain⟨rfl,rfl⟩:=S9 h1 O;exact⟨A6 _,I5 _⟩
 .cases h0:ρ b with
  | some q0 =>
    rw[C b q0 h0]at F
    have:=A8 F;subst this;exact h.dom b q0 h0
  | none=>obtain⟨rfl,rfl⟩:=S9 F h0;exact W
 .have f:Hp.get ((m.H.set id none).set m.n (some ab')) i=some a:=f;rw[A i hi]at f;have S:∀ j,j<=H3->∀ J l2,Hp.get ((m.H.set id none).set m.n (some ab')) j=some J->upd ρ m.n l j=some l2->Tc J l2 l.blk->j=m.n:=fun j L J l2 g1 g2 g3=>by
   rw[A j L]at g1;by_cases e2:j=m.n
   .exact e2
   .rw[A7 e2]at g1;unfold upd at g2;rw[A7 e2]at g2;by_cases I:j=id
    .rw[A9 I]at g1;cases g1
    .rw[A7 I]at g1;exact absurd ((h3 E D).2 j L J l2 g1 g2 g3) I
  by_cases e:i=m.n
  .rw[A9 e]at f;have f:=A8 f;subst f;subst e;exact⟨l,K8 _ _ _,hb,fun _ _=>⟨(h3 E D).1,S⟩⟩
  .rw[A7 e]at f;by_cases I:i=id
   .rw[A9 I]at f;cases f
   .rw[A7 I]at f;obtain⟨l2,g1,g2,g3⟩:=h.at_ i hi a f;have Q:∀ k,Tc a l2 k->k≠l.blk:=fun k M hh=>I ((h3 E D).2 i hi a l2 f g1 (hh▸M))
    refine⟨l2,C _ _ g1,g2.mono C (fun k M=>X _ (Q k M)),fun hr N=>⟨(g3 hr N).1,fun G K T l3 f1 f2 f3=>?_⟩⟩;have f1:Hp.get ((m.H.set id none).set m.n (some ab')) G=some T:=f1;rw[A G K]at f1;by_cases e4:G=m.n
    .subst e4;rw[K8]at f2
     have:=A8 f2;subst this;rw[A9 rfl]at f1;have f1:=A8 f1;subst f1;exact absurd (R _ f3) (Q _ (.inl ⟨AB.rw_on hr,N,rfl⟩))
    .rw[A7 e4]at f1;unfold upd at f2;rw[A7 e4]at f2;by_cases e5:G=id
     .rw[A9 e5]at f1;cases f1
     .rw[A7 e5]at f1;exact(g3 hr N).2 G K T l3 f1 f2 f3
 .rcases B3.1 h1 with rfl|h1
  .exact⟨ab,hg,E⟩
  .exact absurd h1 O
 .exact fun e=>Y id B2 l V D e.symm
 .obtain⟨rfl,rfl⟩:=S9 h1 O;exact .inr ⟨id,B2,q,V,D,rfl⟩
 .have ay:=A i hi;show Hp.get ((m.H.set id none).set m.n (some ab')) i=_;rw[ay,A7,A7]
  .intro e;subst e;exact h4 B2
  .intro e;subst e;rcases U with U|U
   .omega
   .have U:upN m.hi m.n<=m.n:=U
    have:=(K2 m.hi m.n).2;omega
 .have f:Hp.get ((m.H.set id none).set m.n (some ab')) i=some a:=f;rw[A i hi]at f;by_cases e:i=m.n
  .rw[A9 e]at f;have f:=A8 f;subst f;subst e;rw[K8]at F;have F:=A8 F;subst F;exact⟨id,ab,l,hle,hg,V,AB.rw_fr E,.inl ⟨AB.rw_on E,D,(R k ht.2).symm⟩⟩
  .rw[A7 e]at f;unfold upd at F;rw[A7 e]at F;by_cases I:i=id
   .rw[A9 I]at f;cases f
   .rw[A7 I]at f;exact⟨i,a,q,hi,f,F,ht⟩
def CW{s k:Nat}(h:HR P base ρ m.H w)(f:dT m s y=some (k,new))(n:z.cells.size=s):new.length=k*s:=by
 unfold dT at f;split at f
 .obtain⟨_,q⟩:=A3 f;cases q;simp
 .split at f
  .rename_i cs hr;cases f;unfold m9 at hr;split at hr
   .exact(iE hr).2
   .cases hr
  .cases f
 .rename_i b;obtain⟨j,f⟩:=A3 f;have j:=A0 j;subst j;cases f;simp[O5]
 .cases f
def IJ(h:new'[i]? = some u):(({ toList:=[] }:Array Value)++⟨new'⟩++r)[i]? = some u:=by
 have f:=(B0.1 h).1;rw[R6 (by simp;exact f)]
 simpa using h
def dD(h:(old'++new')[i]? = some u):(({ toList:=old' }:Array Value)++⟨new'⟩++r)[i]? = some u:=by
 have f:=(B0.1 h).1;rw[R6 (by simpa using f)]
 simpa using h
def dC{s k n nc:Nat}(h1:new'.length=k*s)(q:n+k<=nc)(f:z.cells.size=s)(j:old'.length=n*s) :
  nc*s<=(({ toList:=old' }:Array Value)++⟨new'⟩++Builtin.zeroCells z.cells (nc-(n+k))).size:=by
 simp[Builtin.zeroCells,j,h1,f];rw[<- H1,<- H1];exact F3 _ A2
def MW(h:HR P base ρ m.H w)(hb:base<=w.heap.size)(f:qO P m t t2 x y=some (v,m'))(hf:J6 ρ m.n m'.hi)(hx:VR ρ x x')(hy:VR ρ y y') :
  VOk P base ρ m w (Builtin.append_ #[t,t2] ty #[x',y']) v m':=by
 unfold qO at f;split at f
 .rename_i e d2 hu F;cases D:cF d2 with
  | false=>rw[D]at f;cases f
  | true =>
  rw[D]at f;simp only[P1,D4]at f;split at f
  .rename_i inf a n c hi;split at f
   .rename_i k new z V hz;obtain⟨g1,f⟩:=A3 f;obtain⟨g1,g4⟩:=B4 g1;obtain⟨g1,g3⟩:=B4 g1;obtain⟨g1,g2⟩:=B4 g1;have g1:=A1 g1;have g2:=A1 g2;have g3:=A0 g3;obtain⟨hlen,new',G,I⟩:=sY h V hy;have X:∀ w,(zeroValue e).run P w=.ok z w:=fun w=>s9 hz w
    have Q:new'.length=k*inf.size:=by rw[<- G.1];exact CW h V g3
    have av:L9=9223372036854775808:=rfl;cases hk:Nat.beq k 0 with
    | true =>
      have hk:=A0 hk;subst hk;have aq:Nat.beq 0 0=true:=rfl;simp only[aq,D7]at f;have au:new'=[]:=F8.1 (by rw[Q];simp);subst au;cases a with
      | none =>
        simp only at f;obtain⟨E,f⟩:=A3 f;obtain⟨E,J⟩:=B4 E;have E:=A0 E;have J:=A0 J;subst E;subst J;cases f;cases O6 hx;exact VOk.same h (sN hu F D hi hlen (I w rfl)) (.pure rfl)
      | some S =>
        simp only at f;obtain⟨E,f⟩:=A3 f;obtain⟨E,J⟩:=B4 E;have E:=A1 E;have J:=A1 J;cases f;rcases O1 hx with⟨l,U,O,hc,rfl⟩|⟨l,c',U,O,hc,hn,B,rfl⟩|⟨a',c',_,_,he,_⟩
        .exact VOk.same h (lR hu F D hi hlen (I w rfl) A2 rfl) (by simpa using hx)
        .exact VOk.same h (lR hu F D hi hlen (I w rfl) A2 rfl) (by simpa using hx)
        .omega
    | false =>
      have ag:k≠0:=fun e=>by subst e;cases hk
      simp only[hk,D4]at f;cases a with
      | none =>
        simp only at f;obtain⟨E,f⟩:=A3 f;obtain⟨E,J⟩:=B4 E;have E:=A0 E;have J:=A0 J;subst E;subst J;rw[H6]at f;cases O6 hx;obtain⟨nc,N,hr⟩:=fX (ty:=ty) (c:=0) (a:=none) (old':=[]) hu F D hi X hlen (fun _ _=>rfl) I A2 g1 g2;have ar:∀ A,P.info? e=some A->nc*A.size<=(({ toList:=[] }:Array Value)++⟨new'⟩++Builtin.zeroCells z.cells (nc-(0+k))).size:=fun A L=>by
         rw[hi]at L;cases L;exact dC Q N g3 (by simp)
        obtain⟨Y,e2,W⟩:=dB (wd:=w.drew) (fz:=(0,0)) (cap:=nc) h hb f hf G (fun i u hi=>by
         show(({ toList:=[] }:Array Value)++⟨new'⟩++Builtin.zeroCells z.cells (nc-(0+k)))[i]? = some u;exact IJ hi) NF.zero ar ⟨rfl,rfl,rfl⟩ rfl
        refine⟨_,_,_,hr,?_,W⟩;rw[Y,E9]
        have:=VR.op (ρ:=upd ρ m.n (lc w.heap.size 0 nc)) (b:=m.n) (o:=0) (n:=k) (m:=L9) (m':=nc) e2 (A6 _) A2 (fun _ _=>rfl)
        simpa using this
      | some S =>
        simp only at f;cases Z:Nat.blt c L9 with
        | true =>
          have aj:c<L9:=A1 Z;simp only[Z,D7]at f;rcases O1 hx with⟨l,U,O,hc,rfl⟩|⟨l,c',U,O,hc,hn,B,rfl⟩|⟨a',c',_,_,he,_⟩
          .cases q:Nat.ble (n+k) c with
           | true =>
             have M:=A1 q;simp only[q,D7]at f;split at f
             .rename_i m2 hw;cases f;rw[cV]at hw;obtain⟨w',h1,L⟩:=nY h hw U G;refine⟨_,ρ,w',lR hu F D hi hlen (I w rfl) M ?_,?_,L⟩
              .rw[W8,show S.off+l.sh+n*inf.size=S.off+n*inf.size+l.sh by omega];exact h1
              .obtain⟨ab,ao,ai⟩:=S;simp only at O;subst O;exact .sl U hc
             .cases f
           | false =>
             have M:¬ n+k<=c:=fun hle=>by rw[show Nat.ble (n+k) c=true from C4 hle]at q;cases q
             simp only[q,D4]at f;split at f
             .rename_i old hold;rw[H6]at f;obtain⟨old',o1,o2,o3⟩:=Y5 h hold U;have K:∀ wd:World,wd.heap=w.heap->(Builtin.firstCells inf.size n (.slice (some ⟨l.blk,S.off+l.sh,none⟩) n c)).run P wd=.ok ⟨old'⟩ wd:=fun wd hw=>J7 o2 fun j u hj=>by rw[aY hw];exact o3 j u hj
              obtain⟨nc,N,hr⟩:=fX (ty:=ty) hu F D hi X hlen K I M g1 g2;obtain⟨Y,e2,W⟩:=dB (wd:=w.drew) (fz:=(0,0)) (cap:=nc) (C:=⟨old'⟩++⟨new'⟩++Builtin.zeroCells z.cells (nc-(n+k))) h hb f hf (o1.append G) (fun i u hi=>dD hi) NF.zero
               (fun A L=>by rw[hi]at L;cases L;exact dC Q N g3 o2) ⟨rfl,rfl,rfl⟩ rfl
              refine⟨_,_,_,hr,?_,W⟩;rw[Y]
              have:=VR.op (ρ:=upd ρ m.n (lc w.heap.size 0 nc)) (b:=m.n) (o:=0) (n:=n+k) (m:=L9) (m':=nc) e2 (A6 _) N (fun _ _=>rfl)
              simpa using this
             .cases f
          .omega
          .omega
        | false =>
          simp only[Z,D4]at f;obtain⟨q0,ax⟩:=A3 f;clear f;have f:=ax;clear ax;obtain⟨E,J⟩:=B4 q0;replace E:=A0 E;replace J:=A0 J;clear q0;split at f
          .rename_i cs T O hg;obtain⟨p1,f⟩:=A3 f;rw[G4,G4,G4]at p1;obtain⟨⟨⟨p1,p2⟩,p3⟩,p4⟩:=p1;have p1:=A0 p1;have p2:=A0 p2;have p3:=A1 p3;have p4:S.block<m.n:=A1 p4;subst p2;rw[H6]at f;rcases O1 hx with⟨_,_,_,hc,_⟩|⟨l,c',U,_,_,hn,B,rfl⟩|⟨a',c',_,_,he,_⟩
           .omega
           .have B:=B E J;obtain⟨⟨ay,C,fz,T',z2,z3,z4⟩,z5⟩:=h.atl U hg;obtain⟨rfl,z6,z7⟩:=z4 rfl;have z8:=(z7 inf hi).2;have z7:=(z7 inf hi).1;by_cases q:n+k<=c'
            ·
             have az:(n+k)*inf.size<=c'*inf.size:=F3 _ q;rw[H1]at az;obtain⟨w',r1,r2,r3,r4,r5⟩:=X8 (P:=P) (b:=l.blk) (o:=n*inf.size+l.sh) (fz:=fz) new' 0 C w z2 (DS G g4) (by rw[Q];subst B;omega) z6;obtain⟨Y,W⟩:=St.grow (w':=w') (l:=l) h p3 hg rfl U ay f hf r2 r3 r5 (by
              have R:ρ m.n=none:=by
               rw[c9]at f;obtain⟨_,_,rfl⟩:=K6 f;exact hf m.n (A6 _) (K2 _ _).2
              refine⟨ay,_,fz,_,r4,fun i u hi=>?_,fun _=>⟨rfl,z6.sz (by simp[X9]),fun A L=>⟨by simpa [X9]using(by rw[hi]at L;cases L;exact z7:l.sh+l.cap*A.size<=C.size),by rw[hi]at L;cases L;exact z8⟩⟩⟩;show ∃ u',(Array.mk (bO C.toList (n*inf.size+l.sh+0) new'))[l.sh+i]? = some u'/\_;have af:C.toList.length=C.size:=by simp
              rw[I0,jZ _ _ _ _ (by rw[Q];subst B;omega)];by_cases al:i<cs.length
              .rw[E7 al]at hi;rw[A7 A2];obtain⟨u',y1,y2⟩:=z3 i u hi;exact⟨u',by simpa using y1,y2.mono (V7 R)⟩
              .rw[D5 A2]at hi;have ah:=(B0.1 hi).1;have ak:=G.1;rw[A9 A2];obtain⟨u',y1,y2⟩:=G.get hi;exact⟨u',by rw[show l.sh+i-(n*inf.size+l.sh+0)=i-cs.length by omega];exact y1,y2.mono (V7 R)⟩)
             refine⟨_,_,w',lR (ty:=ty) hu F D hi hlen (I w rfl) q ?_,?_,W⟩
             .rw[W8,J,show 0+l.sh+n*inf.size=n*inf.size+l.sh by omega];exact r1
             .rw[Y,J];exact .op (K8 _ _ _) (A6 _) q (fun _ _=>B)
            ·
             have aw:=St.kill h p3 hg rfl;have an:J6 ρ (iU m S.block).n m'.hi:=by rw[c9];exact hf
             obtain⟨old',o1,o2⟩:=dA (ρ:=ρ) (C:=C) (cs:=cs) (s:=l.sh) z3;have oL:old'.length=n*inf.size:=by rw[<- o1.1];exact p1
             have K:∀ wd:World,wd.heap=w.heap->(Builtin.firstCells inf.size n (.slice (some ⟨l.blk,S.off+l.sh,none⟩) n c')).run P wd=.ok ⟨old'⟩ wd:=fun wd hw=>J7 oL fun j u hj=>by
              rw[aY hw,J]
              have:=o2 j u hj;simp[World.cell?,z2,this]
             obtain⟨nc,N,hr⟩:=fX (ty:=ty) hu F D hi X hlen K I q g1 g2;obtain⟨Y,e2,W⟩:=dB (wd:=w.drew) (fz:=(0,0)) (cap:=nc) (C:=⟨old'⟩++⟨new'⟩++Builtin.zeroCells z.cells (nc-(n+k))) aw.hr hb f an (o1.append G) (fun i u hi=>dD hi) NF.zero
              (fun A L=>by rw[hi]at L;cases L;exact dC Q N g3 oL) ⟨rfl,rfl,rfl⟩ rfl
             refine⟨_,_,_,hr,?_,St.trans hf aw W⟩;rw[Y]
             have:=VR.op (ρ:=upd ρ (iU m S.block).n (lc w.heap.size 0 nc)) (b:=(iU m S.block).n) (o:=0) (n:=n+k) (m:=L9) (m':=nc) e2 (A6 _) N (fun _ _=>rfl)
             simpa using this
           .omega
          .cases f
   .cases f
  .cases f
 .cases f
end
end
section
open Go
variable [Ora]
section
variable {P:Program} {base:Nat} {ρ:Ren} {m m':Mem} {w:World}
def KG{op:UnOp}(h:unM op x=some v)(hx:VR ρ x x')(w:World):(Op.unary op x').run P w=.ok v w/\H9 v=true:=by
 unfold unM at h;split at h
 .cases I6 hx;cases h;exact⟨by simp[Op.unary,Op.intArith,u6],by simp[u6,H9]⟩
 .cases I6 hx;obtain⟨h1,f⟩:=w9 (P:=P) h w;exact⟨by simpa [Op.unary]using h1,f⟩
 .cases bR hx;cases h;exact⟨rfl,rfl⟩
 .cases h
def A2W(f:A6A P t x=some v)(hx:VR ρ x x')(w:World):(Builtin.cap_ ⟨t::tys⟩ ty #[x']).run P w=.ok v w/\H9 v=true:=by
 unfold A6A at f;split at f
 .rename_i hu;cases O6 hx;cases f;exact⟨by simp[Builtin.cap_,A4,C7 hu,Result.andThen,goInt],rfl⟩
 .rename_i hu;obtain⟨j,f⟩:=A3 f;have j:_<L9:=A1 j;cases f;rcases O1 hx with⟨l,_,_,_,rfl⟩|⟨l,c',_,_,_,_,_,rfl⟩|⟨a',c',_,_,he,_⟩
  .exact⟨by simp[Builtin.cap_,A4,C7 hu,Result.andThen,goInt],rfl⟩
  .omega
  .omega
 .cases f
def OW(h:HR P base ρ m.H w)(f:XF P m t x=some v)(hx:VR ρ x x'):(Builtin.len_ ⟨t::tys⟩ ty #[x']).run P w=.ok v w/\H9 v=true:=by
 unfold XF at f;split at f
 .rename_i hu;cases T5 hx;cases f;refine⟨?_,rfl⟩;simp[Builtin.len_,A4,C7 hu,Result.andThen,goInt]
 .rename_i hu;cases f;refine⟨?_,rfl⟩;simp[Builtin.len_,A4,C7 hu,Result.andThen,goInt]
 .rename_i n c hu;cases f;refine⟨?_,rfl⟩;have j:∃ a' c',x'=.slice a' n c':=by
   cases hx with
   | pure _=>exact⟨_,_,rfl⟩
   | sl _ _=>exact⟨_,_,rfl⟩
   | op _ _ _ _=>exact⟨_,_,rfl⟩
   | opE _=>exact⟨_,_,rfl⟩
  obtain⟨a',c',rfl⟩:=j;simp[Builtin.len_,A4,C7 hu,Result.andThen,goInt]
 .rename_i hu;cases hx with|pure _=>?_
  cases f;refine⟨?_,rfl⟩;simp[Builtin.len_,A4,C7 hu,Result.andThen,goInt]
 .cases f
def OQ{tys:Array TypeId}(f:A5N vs=some v)(hx:LR ρ vs vs')(w:World):(Builtin.max_ tys ty ⟨vs'⟩).run P w=.ok v w/\H9 v=true:=by
 unfold A5N at f;split at f
 .obtain⟨a',r1,rfl,h1,n⟩:=hx.tail;obtain⟨b',q,rfl,h3,j⟩:=n.tail;cases j.nil_inv;cases I6 h1;cases I6 h3;cases f;exact⟨by simp[Builtin.max_,Builtin.max2],rfl⟩
 .obtain⟨a',r1,rfl,h1,n⟩:=hx.tail;obtain⟨b',q,rfl,h3,j⟩:=n.tail;obtain⟨c',B,rfl,A,h⟩:=j.tail;cases h.nil_inv;rw[rT]at f;cases I6 h1;cases I6 h3;cases I6 A;cases f;exact⟨by simp[Builtin.max_,Builtin.max2],rfl⟩
 .cases f
def OO{tys:Array TypeId}(f:A5M vs=some v)(hx:LR ρ vs vs')(w:World):(Builtin.min_ tys ty ⟨vs'⟩).run P w=.ok v w/\H9 v=true:=by
 unfold A5M at f;split at f
 .obtain⟨a',r1,rfl,h1,n⟩:=hx.tail;obtain⟨b',q,rfl,h3,j⟩:=n.tail;cases j.nil_inv;cases I6 h1;cases I6 h3;cases f;exact⟨by simp[Builtin.min_,Builtin.min2],rfl⟩
 .obtain⟨a',r1,rfl,h1,n⟩:=hx.tail;obtain⟨b',q,rfl,h3,j⟩:=n.tail;obtain⟨c',B,rfl,A,h⟩:=j.tail;cases h.nil_inv;rw[rT]at f;cases I6 h1;cases I6 h3;cases I6 A;cases f;exact⟨by simp[Builtin.min_,Builtin.min2],rfl⟩
 .cases f
def yS{tys:Array TypeId}(h:HR P base ρ m.H w)(q:gW m x=some (v,m'))(hx:VR ρ x x'):VOk P base ρ m w (Builtin.unsafeSliceData_ tys ty #[x']) v m':=by
 unfold gW at q;split at q
 .cases q;cases O6 hx;exact VOk.same h rfl (.pure rfl)
 .rename_i a n c;cases A:Nat.beq n 0 || Nat.beq c 0 || Nat.beq c (L9+2)with
  | true=>rw[A]at q;cases q
  | false =>
    rw[A]at q;simp only[D4,C9,L1]at q;obtain⟨rfl,rfl⟩:=q;simp only[Y3]at A;obtain⟨⟨E,D⟩,J⟩:=A;have E:n≠0:=fun e=>by subst e;cases E
    have D:c≠0:=fun e=>by subst e;cases D
    rcases O1 hx with⟨l,C,f,G,rfl⟩|⟨l,c',C,f,G,K,F,rfl⟩|⟨a',c',_,he,_,_⟩
    .refine VOk.same (v':=.pointer (some ⟨l.blk,a.off+l.sh,none⟩)) h ?_ ?_
     .have j:Builtin.unsafeSliceData_ tys ty #[.slice (some ⟨l.blk,a.off+l.sh,none⟩) n c]=(do
        if c≠0 then pure (.pointer (some ⟨l.blk,a.off+l.sh,none⟩))
        else if(<- viewAt l.blk).isSome then pure (.pointer (some ⟨l.blk,a.off+l.sh,none⟩))
        else pure (.pointer (some ⟨<- newObj (.view ⟨l.blk,a.off+l.sh,none⟩ (<- elemOf ty)),0,none⟩))):=rfl
      rw[j,A9 D];rfl
     .obtain⟨ab,I,B⟩:=a;simp only at f;subst f;exact .ptr C
    .refine VOk.same (v':=.pointer (some ⟨l.blk,a.off+l.sh,none⟩)) h ?_ ?_
     .have:c'≠0:=A2;have j:Builtin.unsafeSliceData_ tys ty #[.slice (some ⟨l.blk,a.off+l.sh,none⟩) n c']=(do
        if c'≠0 then pure (.pointer (some ⟨l.blk,a.off+l.sh,none⟩))
        else if(<- viewAt l.blk).isSome then pure (.pointer (some ⟨l.blk,a.off+l.sh,none⟩))
        else pure (.pointer (some ⟨<- newObj (.view ⟨l.blk,a.off+l.sh,none⟩ (<- elemOf ty)),0,none⟩))):=rfl
      rw[j,A9 this];rfl
     .obtain⟨ab,I,B⟩:=a;simp only at f;subst f;exact .ptr C
    .omega
 .cases q
def RY(h:HR P base ρ m.H w)(f:CU P m t x=some (v,m'))(hx:VR ρ x x'):VOk P base ρ m w (Instr.makeInterface t x') v m':=by
 unfold CU at f;split at f
 .rename_i d q;have n:(∀ ms,d≠.interface ms)->(Instr.makeInterface t x').run P w=.ok (.iface t x') w:=fun j=>by
   simp only[Instr.makeInterface,A4,C7 q,Result.andThen];cases d<;>first|rfl|exact absurd rfl (j _)
  split at f
  .cases f
  .rename_i j;obtain⟨_,f⟩:=A3 f;cases f;exact VOk.same h (n fun ms e=>j ms e) (.iface hx)
 .cases f
def A1V(j:WG m x=some (v,m'))(hx:VR ρ x x'):m'=m/\VR ρ v x'/\((∃ a,x'=.pointer (some a))∨∃ f a b,x'=.func (.func f) a b):=by
 unfold WG at j;split at j
 .cases j;obtain⟨l,_,_,rfl⟩:=N6 hx;exact⟨rfl,hx,.inl ⟨_,rfl⟩⟩
 .cases j;cases hx with
  | pure hp=>simp[H9]at hp
  | func _ _ _ _=>exact⟨rfl,by constructor<;>assumption,.inr ⟨_,_,_,rfl⟩⟩
 .cases j
def A0D(h:HR P base ρ m.H w)(j:JE P m t x y=some (v,m'))(hx:VR ρ x x')(G:VR ρ y y'):VOk P base ρ m w (Builtin.copy_ ⟨t::tys⟩ ty #[x',y']) v m':=by
 unfold JE at j;split at j
 .rename_i e a n c hu;split at j
  .rename_i s R;split at j
   .rename_i k cs f;have K:∃ a' c',x'=.slice a' n c':=by
     cases hx with
     | pure _=>exact⟨_,_,rfl⟩
     | sl _ _=>exact⟨_,_,rfl⟩
     | op _ _ _ _=>exact⟨_,_,rfl⟩
     | opE _=>exact⟨_,_,rfl⟩
    obtain⟨a',c',rfl⟩:=K;have B:∃ L cs',(Builtin.lenOf y').run P w=.ok L w/\Nat.min L n=k/\LR ρ cs cs'/\(Builtin.firstCells s k y').run P w=.ok ⟨cs'⟩ w:=by
     split at f
     .rename_i O _;obtain⟨q,f⟩:=A3 f;have q:=A0 q;subst q;cases f;cases O6 G;exact⟨0,[],rfl,by simp,.nil,rfl⟩
     .rename_i b O X;split at f
      .rename_i r hr;cases f;rcases O1 G with⟨l,D,_,_,rfl⟩|⟨l,c',D,_,_,_,_,rfl⟩|⟨a',c',_,rfl,_,rfl⟩
       .obtain⟨I,h1,C,h3⟩:=Y5 h hr D;exact⟨O,I,rfl,rfl,h1,J7 C h3⟩
       .obtain⟨I,h1,C,h3⟩:=Y5 h hr D;exact⟨O,I,rfl,rfl,h1,J7 C h3⟩
       .have:cs=[]:=by
         unfold m9 at hr;split at hr
         .have:=(iE hr).2;simp at this;exact this
         .cases hr
        subst this;exact⟨0,[],rfl,rfl,.nil,by simp[Builtin.firstCells,loadCells,loadCellsFrom]⟩
      .cases f
     .rename_i b;cases f;cases T5 G;refine⟨b.size,O5 (b.data.toList.take (Nat.min b.size n)),rfl,rfl,uK _ _,?_⟩;have e:((b.extract 0 (Nat.min b.size n)).data.map fun b=>Value.int .u8 b.toNat)=⟨O5 (b.data.toList.take (Nat.min b.size n))⟩:=by
       apply I3;simp[O5,fL]
      show(pure ((b.extract 0 (Nat.min b.size n)).data.map fun b=>Value.int .u8 b.toNat):Sem U9).run P w=_;rw[e];rfl
     .cases f
    obtain⟨L,cs',r1,U,J,W⟩:=B;have A:(Builtin.copy_ ⟨t::tys⟩ ty #[.slice a' n c',y']).run P w=(match a' with|some a=>(do storeCells a cs';pure (goInt k):Sem Value)|none=>pure (goInt k)).run P w:=by
     unfold Builtin.copy_;simp only[I0,P8,P9,A4,C7 hu,K1 R,r1,U,W,Result.andThen];cases a' with
     | none=>rfl
     | some a=>rfl
    cases a with
    | none =>
      cases O6 hx;simp only at j;obtain⟨q,j⟩:=A3 j;have q:=A0 q;cases j;exact VOk.same h (by rw[A,q];rfl) (.pure rfl)
    | some Z =>
      simp only at j;cases F:Nat.beq cs.length 0 with
      | true =>
        rw[F]at j;cases j;have F:=A0 F;have:cs'=[]:=F8.1 (by rw[<- J.1];exact F);subst this;refine VOk.same h (v':=.int .i64 k) ?_ (.pure rfl);rw[A];cases a'<;>rfl
      | false =>
        rw[F]at j;simp only[D4]at j;obtain⟨E,j⟩:=A3 j;have E:=A1 E;split at j
        .rename_i m2 hw;cases j;rcases O1 hx with⟨l,D,N,S,he⟩|⟨l,c',D,N,S,V,Q,he⟩|⟨a2,Y,_,V,T,he⟩
         .cases he;obtain⟨w',h1,C⟩:=nY h hw D J;exact⟨.int .i64 k,ρ,w',by rw[A];simp[A4,h1,Result.andThen,goInt],.pure rfl,C⟩
         .cases he;obtain⟨w',h1,C⟩:=nY h hw D J;exact⟨.int .i64 k,ρ,w',by rw[A];simp[A4,h1,Result.andThen,goInt],.pure rfl,C⟩
         .have M:L9=9223372036854775808:=rfl;omega
        .cases j
   .cases j
  .cases j
 .cases j
def nS:∀ {cs:C8} {l:List UInt8},bytesOf cs=some l->∃ f:List Int,cs=f.map (Value.int .u8)/\l=f.map fun n=>UInt8.ofNat n.toNat
 | [],l,h=>by simp only[bytesOf,C9]at h;subst h;exact⟨[],rfl,rfl⟩
 | v::r,l,h=>by
   unfold bytesOf at h;split at h
   .rename_i he;cases he
   .rename_i n q he;cases he;split at h
    .rename_i l0 h0;cases h;obtain⟨f,h1,j⟩:=nS h0;exact⟨n::f,by rw[h1];rfl,by rw[j];rfl⟩
    .cases h
   .cases h
def pT:∀ {f:List Int} {cs':C8},LR ρ (f.map (Value.int .u8)) cs'->cs'=f.map (Value.int .u8)
 | [],cs',h=>h.nil_inv
 | n::r,cs',h=>by
   obtain⟨v',q,rfl,h1,j⟩:=h.tail;cases I6 h1;rw[pT j];rfl
def nL:∀ (f:List Int) (acc:List UInt8),(f.foldl (fun r n=>r.push (UInt8.ofNat n.toNat)) (ByteArray.mk ⟨acc⟩))=⟨⟨acc++f.map fun n=>UInt8.ofNat n.toNat⟩⟩
 | [],acc=>by simp
 | n::r,acc=>by
   rw[List.foldl_cons];have:(ByteArray.mk ⟨acc⟩).push (UInt8.ofNat n.toNat)=⟨⟨acc++[UInt8.ofNat n.toNat]⟩⟩:=by
    show ByteArray.mk (Array.push ⟨acc⟩ _)=_;simp
   rw[this,nL r];simp
def A0G(h:HR P base ρ m.H w)(W:base<=w.heap.size)(f:BC P m s t x=some (v,m'))(U:J6 ρ m.n m'.hi)(hx:VR ρ x x'):VOk P base ρ m w (convert s t x') v m':=by
 unfold BC at f;split at f
 .rename_i G k j n A D;cases I6 hx;simp only[C9,L1]at f;obtain⟨rfl,rfl⟩:=f;refine VOk.same (v':=.int k (k.wrap n)) h ?_ (by rw[u6,jL];exact .pure rfl);cases G<;>simp[convert,A4,C7 A,C7 D,Result.andThen,Conv.intToInt]
 .rename_i G b A D;cases T5 hx;cases f;refine VOk.same h ?_ (.pure rfl);cases G<;>simp[convert,A4,C7 A,C7 D,Result.andThen]
 .rename_i G j n A D;cases I6 hx;cases f;refine VOk.same (v':=.string (Utf8.encode n)) h ?_ (.pure rfl);cases G<;>simp[convert,A4,C7 A,C7 D,Result.andThen,Conv.intToString]
 .rename_i G e b A D;cases T5 hx;split at f
  .rename_i he;split at f
   .rename_i I;rw[H6]at f;let q:Question:=.appendCap b.size 0 e
    let cap:=q.cut (w.tape w.drawn q)
    have K:b.size<=cap:=by show b.size<=b.size+_;omega
    have R:(choose q).run P w=.ok cap w.drew:=by
     simp only[choose,Sem.run];rw[A7 (by simp[q,Question.forced])];rfl
    let C:U9:=(b.data.map fun b=>Value.int .u8 b.toNat)++Array.replicate (cap-b.size) (.int .u8 0)
    have hC:C.size=cap:=by
     have:b.data.size=b.size:=rfl;simp[C,this];omega
    obtain⟨Y,M,X⟩:=dB (wd:=w.drew) (fz:=(C.size,C.size+1)) (cap:=cap) (C:=C) h W f U (uK ρ b.data.toList) (fun i u hi=>by
      have N:=(B0.1 hi).1;simp[O5]at N;have T:i<(b.data.map fun b=>Value.int .u8 b.toNat).size:=by simpa using N
      show((b.data.map fun b=>Value.int .u8 b.toNat)++Array.replicate (cap-b.size) (.int .u8 0))[i]? = some u;rw[R6 T]
      simpa [O5]using hi) NF.end
     (fun inf J=>by
       have:inf.size=1:=by unfold G3 at I;rw[J]at I;exact A8 I
       rw[this,hC];omega) ⟨rfl,rfl,rfl⟩ rfl
    refine⟨.slice (some ⟨w.heap.size,0,none⟩) b.size cap,_,_,?_,?_,X⟩
    .have O:∀ w2:World,w2.heap[w.heap.size]? = some (.cells C e (0,0))->(markStringish ⟨w.heap.size,0,none⟩).run P w2=.ok () (w2.freeze { block:=w.heap.size,off:=C.size } 1):=fun w2 J=>by
      simp[markStringish,shape,freeze,Sem.run,World.shape?,J]
     have S:({ w.drew with heap:=w.heap.push (.cells C e (0,0)) }:World).freeze { block:=w.heap.size,off:=C.size } 1={ w.drew with heap:=w.heap.push (.cells C e (C.size,C.size+1)) }:=by
      unfold World.freeze;rw[A7 F1];congr 1;apply Array.ext_getElem?;intro i;rw[G7];by_cases hi:w.heap.size=i
      .subst hi;simp
      .rw[A7 hi];simp only[Z7];rw[A7 (fun h=>hi h.symm),A7 (fun h=>hi h.symm)]
     have F:(convert s t (.string b)).run P w=(Conv.stringToBytes e b).run P w:=by
      cases G<;>simp[convert,A4,C7 A,C7 D,C7 he,Result.andThen]
     rw[F];unfold Conv.stringToBytes;simp only[A4,show(choose (.appendCap b.size 0 e)).run P w=.ok cap w.drew from R,Result.andThen];have Q:(newRow e C).run P w.drew=.ok ⟨w.heap.size,0,none⟩ { w.drew with heap:=w.heap.push (.cells C e (0,0)) }:=rfl;rw[show(newRow e ((b.data.map fun b=>Value.int .u8 b.toNat)++Array.replicate (cap-b.size) (.int .u8 0))).run P w.drew=_ from Q];simp only[Result.andThen];rw[O _ (by simp),S];rfl
    .rw[Y];exact VR.op (o:=0) (m':=cap) M (A6 _) K (fun _ _=>rfl)
   .cases f
  .cases f
 .rename_i e n c A D;cases O6 hx;split at f
  .rename_i he;cases f;refine VOk.same h (v':=.string ByteArray.empty) ?_ (.pure rfl);simp[convert,A4,C7 A,C7 D,C7 he,Result.andThen,Conv.bytesToString]
  .cases f
 .rename_i e a n c A D;split at f
  .rename_i he;split at f
   .rename_i cs hr;split at f
    .rename_i l N;cases f;obtain⟨L,h1,J⟩:=nS N;have E:∀ a' c',(loadCells a' n).run P w=.ok (L.map (Value.int .u8)).toArray w->(convert s t (.slice (some a') n c')).run P w=.ok (.string ⟨⟨l⟩⟩) w:=fun a' c' B=>by
      have:=run_bytesToString w a' n c' L B;have M:=nL L [];simp only[G2]at M;simp only[convert,A4,C7 A,C7 D,C7 he,Result.andThen];rw[this,show ByteArray.empty=ByteArray.mk ⟨[]⟩from rfl,M,J]
     rcases O1 hx with⟨lc,B,_,_,rfl⟩|⟨lc,c',B,_,_,_,_,rfl⟩|⟨a',c',_,rfl,_,rfl⟩
     .obtain⟨V,g1,g2,g3⟩:=Y5 h hr B;rw[h1]at g1
      have:=pT g1;subst this;exact VOk.same h (E _ _ (J7 g2 g3)) (.pure rfl)
     .obtain⟨V,g1,g2,g3⟩:=Y5 h hr B;rw[h1]at g1
      have:=pT g1;subst this;exact VOk.same h (E _ _ (J7 g2 g3)) (.pure rfl)
     .have:cs=[]:=by
       unfold m9 at hr;split at hr
       .have:=(iE hr).2;simpa using this
       .cases hr
      subst this;have:L=[]:=by cases L with|nil=>rfl|cons _ _=>cases h1
      subst this;exact VOk.same h (E _ _ (by simp[loadCells,loadCellsFrom])) (.pure rfl)
    .cases f
   .cases f
  .cases f
 .cases f
end
end
section
open Go
variable [Ora]
section
variable {P:Program} {base:Nat} {ρ:Ren} {m m':Mem} {w:World}
def wJ(j:P.cellsOf e=1)(count off n:Nat)(q:off+n<=count):liesAt P P.depth e count off e n=true:=by
 have f:P.depth=(2*(P.types.size+Made.depth)+1)+1:=rfl;rw[f];simp only[liesAt,I1];left;rw[f];simp[rowAt,j,q,sameLayout,Nat.mod_one]
def dP:∀ (f:List Int) (b o:Nat) (acc:ByteArray),(∀ (j:Nat) (v:Value),(f.map (Value.int .u8))[j]? = some v->w.cell? ⟨b,o+j,none⟩=some v) ->
  (loadBytes ⟨b,o,none⟩ acc f.length).run P w=.ok ⟨acc.data++(f.map fun n=>UInt8.ofNat n.toNat).toArray⟩ w
 | [],b,o,acc,_=>by simp[loadBytes]
 | n::f,b,o,acc,h=>by
   have h0:w.cell? ⟨b,o,none⟩=some (.int .u8 n):=by simpa using h 0 _ rfl
   have A:=dP f b (o+1) (acc.push n.toNat.toUInt8) (fun j v q=>by
    have:=h (j+1) v (by simpa using q);rw[show o+1+j=o+(j+1) by omega];exact this)
   simp only[E5,loadBytes,A4,run_load,h0,Result.andThen,W8];rw[A];have:(acc.push n.toNat.toUInt8).data=acc.data.push n.toNat.toUInt8:=rfl;rw[this];congr 2;apply I3;simp
def yG{l l':Value}(h:HR P base ρ m.H w)(f:dK P m pt p l=some (v,m'))(hp:VR ρ p p')(hl:VR ρ l l') :
  VOk P base ρ m w (Builtin.unsafeString_ ⟨pt::tys⟩ ty #[p',l']) v m':=by
 have F:IntKind.i64.max=9223372036854775807:=rfl;unfold dK at f;split at f
 .cases hp with|pure _=>?_
  cases I6 hl;cases f;refine VOk.same h (v':=.string ByteArray.empty) ?_ (.pure rfl);rename_i k _;have E:Builtin.unsafeString_ ⟨pt::tys⟩ ty #[.pointer none,.int k (.ofNat 0)] =
    (do
      let n <- asInt (.int k (.ofNat 0))
      if n<0 then runtimePanic (.error "unsafe.String: len out of range")
      if n>IntKind.i64.max then unsupported (.unsafePointer "String: a length above the largest int")
      if n=0 then pure (.string .empty)
      else runtimePanic (.error "unsafe.String: ptr is nil and len is not zero")):=rfl
  rw[E];simp[asInt,asIntOf,F]
 .rename_i a k n;cases I6 hl;obtain⟨lc,K,az,rfl⟩:=N6 hp;split at f
  .rename_i cs T G Z;split at f
   .rename_i e Y N;obtain⟨q,f⟩:=A3 f;obtain⟨q,W⟩:=B4 q;obtain⟨q1,q2⟩:=B4 q;have q1:0<n:=A1 q1;have q2:=A1 q2;have W:=A0 W;subst W;split at f
    .rename_i r hr;split at f
     .rename_i bs m2 S W6;cases f;obtain⟨ns,h1,h2⟩:=nS S;have J:m9 m a n=some r:=by
       unfold m9;rw[G,Z];exact hr
      obtain⟨r',g1,g2,g3⟩:=Y5 h J K;rw[h1]at g1;have V:=pT g1;subst V;obtain⟨⟨L,C,fz,T',z2,z3,z4⟩,z5⟩:=h.atl K Z;have z2:w.heap[lc.blk]? = some (.cells C e fz):=by rw[z2,(z4 rfl).1]
      have Q:ns.length=n:=by simpa using g2
      have A:P.cellsOf e=1:=by
       unfold G3 at N;unfold Program.cellsOf;cases hi:P.info? e with
       | none=>rw[hi]at N;cases N
       | some i=>rw[hi]at N;have:=A8 N;simp[this]
      have U:a.off+lc.sh+n<=C.size:=by
       have B:=g3 (n-1) (.int .u8 ns[n-1]) (by simp[Q]);simp only[World.cell?,z2]at B
       have:=(C5.1 (by simpa using B)).1;omega
      have O:=dP (P:=P) (w:=w) ns lc.blk (a.off+lc.sh) .empty g3;rw[Q]at O;have X:w.shape? lc.blk=some (e,C.size):=by simp[World.shape?,z2]
      have I:=wJ (P:=P) A (C.size / P.cellsOf e) (a.off+lc.sh) n (by rw[A];simpa using U);have E:Builtin.unsafeString_ ⟨pt::tys⟩ ty #[.pointer (some ⟨lc.blk,a.off+lc.sh,none⟩),.int k (.ofNat n)] =
       (do
         let n <- asInt (.int k (.ofNat n))
         if n<0 then runtimePanic (.error "unsafe.String: len out of range")
         if n>IntKind.i64.max then unsupported (.unsafePointer "String: a length above the largest int")
         if n=0 then pure (.string .empty)
         else if <- variablesAt ⟨lc.blk,a.off+lc.sh,none⟩ (<- elemOf pt) n.toNat then do
          let s <- loadBytes ⟨lc.blk,a.off+lc.sh,none⟩ .empty n.toNat
          freeze ⟨lc.blk,a.off+lc.sh,none⟩ n.toNat
          pure (.string s)
         else unsupported (.unsafePointer "String: not so many bytes at ptr")):=rfl
      have e1:Int.ofNat n=(n:Int):=rfl;have R:¬ (n:Int)<0:=A2;have M:¬ (9223372036854775807:Int)<(n:Int):=A2;have hz:¬ (n:Int)=0:=A2;have D:n≠0:=A2;refine⟨.string ⟨⟨bs⟩⟩,ρ,w.freeze ⟨lc.blk,a.off+lc.sh,none⟩ n,?_,.pure rfl,St.write h W6 Z rfl K L ?_ ?_ ?_ ?_⟩
      .rw[E];simp[asInt,asIntOf,F,e1,R,M,hz,D,variablesAt,X,elemOf,C7 Y,I,O,freeze,Sem.run,A4,Result.andThen,h2]
      .simp[World.freeze,D]
      .simp[World.freeze,D]
      .intro j hj;simp only[World.freeze,D,if_false,G7];rw[A7 (fun e=>hj e.symm)]
      .refine⟨L,C,(if fz.1 == fz.2 then(a.off+lc.sh,a.off+lc.sh+n)else(min fz.1 (a.off+lc.sh),max fz.2 (a.off+lc.sh+n))),e,?_,z3,fun hc=>by cases hc⟩;simp only[World.freeze,D,if_false,G7,if_true,z2,K3]
     .cases f
    .cases f
   .cases f
  .cases f
 .cases f
def JR{ks:Array Bool}(h:HR P base ρ m.H w)(C:base<=w.heap.size)(f:gJ P m b vs tys=some (v,m'))(B:J6 ρ m.n m'.hi)(hx:LR ρ vs vs') :
  ∃ s:Sem Value,builtin b ⟨tys⟩ ty ks ⟨vs'⟩=(do pure (.value (<- s)))/\VOk P base ρ m w s v m':=by
 unfold gJ at f;split at f
 .obtain⟨x',r1,rfl,h1,j⟩:=hx.tail;cases j.nil_inv;unfold noM at f;split at f
  .rename_i u hu;cases f;obtain⟨g1,g2⟩:=OW h hu h1;exact⟨_,rfl,VOk.same h g1 (.pure g2)⟩
  .cases f
 .obtain⟨x',r1,rfl,h1,j⟩:=hx.tail;cases j.nil_inv;unfold noM at f;split at f
  .rename_i u hu;cases f;obtain⟨g1,g2⟩:=A2W hu h1 w;exact⟨_,rfl,VOk.same h g1 (.pure g2)⟩
  .cases f
 .obtain⟨x',r1,rfl,h1,j⟩:=hx.tail;obtain⟨y',A,rfl,h3,q⟩:=j.tail;cases q.nil_inv;rename_i t t2 rest;refine⟨Builtin.append_ ⟨t::t2::rest⟩ ty #[x',y'],rfl,?_⟩
  have:=MW (ty:=ty) h C f B h1 h3;have e:Builtin.append_ ⟨t::t2::rest⟩ ty #[x',y']=Builtin.append_ #[t,t2] ty #[x',y']:=rfl;rw[e];exact this
 .obtain⟨x',r1,rfl,h1,j⟩:=hx.tail;obtain⟨y',A,rfl,h3,q⟩:=j.tail;cases q.nil_inv;exact⟨_,rfl,A0D h f h1 h3⟩
 .unfold noM at f;split at f
  .rename_i u hu;cases f;obtain⟨g1,g2⟩:=OQ (P:=P) (ty:=ty) (tys:=⟨tys⟩) hu hx w;exact⟨_,rfl,VOk.same h g1 (.pure g2)⟩
  .cases f
 .unfold noM at f;split at f
  .rename_i u hu;cases f;obtain⟨g1,g2⟩:=OO (P:=P) (ty:=ty) (tys:=⟨tys⟩) hu hx w;exact⟨_,rfl,VOk.same h g1 (.pure g2)⟩
  .cases f
 .obtain⟨x',r1,rfl,h1,j⟩:=hx.tail;cases j.nil_inv;exact⟨_,rfl,yS h f h1⟩
 .obtain⟨x',r1,rfl,h1,j⟩:=hx.tail;obtain⟨y',A,rfl,h3,q⟩:=j.tail;cases q.nil_inv;exact⟨_,rfl,yG h f h1 h3⟩
 .cases f
def NOk(P:Program)(base:Nat)(ρ:Ren)(m:Mem)(w:World)(s:Sem Next)(v:Value)(m':Mem):Prop :=
 ∃ v' f w',(s.run P w=.ok (.value v') w'∨(s.run P w=.ok .skip w'/\v'=undef))/\VR f v v'/\St P base ρ f m m' w w'
def NOk.of{s:Sem Value}(h:VOk P base ρ m w s v m'):NOk P base ρ m w (do pure (.value (<- s))) v m':=by
 obtain⟨v',f,w',h1,j,h3⟩:=h;exact⟨v',f,w',.inl (by simp[A4,h1,Result.andThen]),j,h3⟩
def oE(ρ:Ren):VR ρ undef undef:=.tuple (a:=[]) (a':=[]) rfl (fun i v v' h=>by simp at h)
def NOk.ofU{s:Sem Unit}(h:UOk P base ρ m w s m'):NOk P base ρ m w (do s;pure .skip) undef m':=by
 obtain⟨f,w',h1,h3⟩:=h;exact⟨undef,f,w',.inr ⟨by simp[A4,h1,Result.andThen],rfl⟩,oE _,h3⟩
def NOk.same{s:Sem Value}(h:HR P base ρ m.H w)(hr:s.run P w=.ok v' w)(hv:VR ρ v v'):NOk P base ρ m w (do pure (.value (<- s))) v m:=NOk.of (VOk.same h hr hv)
def FR(ρ:Ren)(fr:Fr)(g:Operand->Value)(o:Op):Prop:=∀ x ∈ o.operands.toList,VR ρ (ev fr x) (g x)
def c8(h:noM o m=some (v,m')):o=some v/\m'=m:=by
 unfold noM at h;split at h
 .cases h;exact⟨rfl,rfl⟩
 .cases h
def lY{o:Option Mem}(h:LP o=some (v,m')):o=some m'/\v=undef:=by
 unfold LP at h;split at h
 .cases h;exact⟨rfl,rfl⟩
 .cases h
def cG{fr:Fr}{g:Operand->Value}:∀ {xs:List Operand},(∀ x ∈ xs,VR ρ (ev fr x) (g x))->LR ρ (evL fr xs) (xs.map g)
 | [],_=>.nil
 | x::r,h=>.cons (h x B2) (cG fun y f=>h y (B8 _ f))
def MH{fr:Fr}{g:Operand->Value}:∀ {xs:List (Nat×Operand)},(∀ x ∈ xs.map (·.2),VR ρ (ev fr x) (g x))->PR ρ (evP fr xs) (xs.map fun x=>(x.1,g x.2))
 | [],_=>trivial
 | (i,x)::r,h=>⟨rfl,h x (by simp),MH fun y f=>h y (by simp at f ⊢;exact .inr f)⟩
def iC{fr:Fr}{x:Option Operand}(h:∀ y ∈ x.toList,VR ρ (ev fr y) (g y)):OR ρ (evO fr x) (x.map g):=by
 cases x with
 | none=>trivial
 | some y=>exact h y (by simp)
set_option maxHeartbeats 1000000 in
def A5A{fr:Fr}{o:Oper}(h:HR P base ρ m.H w)(J:base<=w.heap.size)(q:opM P fr m o.op=some (v,m'))(I:J6 ρ m.n m'.hi)(U:FR ρ fr g o.op) :
  NOk P base ρ m w (execOp g o) v m':=by
 obtain⟨dst,op,ty,pos,V,S⟩:=o;simp only at q U;have j:∀ {x},x ∈ op.operands.toList->VR ρ (ev fr x) (g x):=fun hx=>U _ hx
 unfold opM at q;split at q
 .cases q;exact⟨_,ρ,w,.inl rfl,j (by simp[Op.operands]),.refl h⟩
 .cases q;exact⟨_,ρ,w,.inl rfl,j (by simp[Op.operands]),.refl h⟩
 .rename_i c a b;have K:=j (x:=c) (by simp[Op.operands]);unfold OH at q;split at q
  .rename_i G;rw[G]at K;cases q;exact⟨g a,ρ,w,.inl (by simp[execOp,bR K,asBool]),j (by simp[Op.operands]),.refl h⟩
  .rename_i G;rw[G]at K;cases q;exact⟨g b,ρ,w,.inl (by simp[execOp,bR K,asBool]),j (by simp[Op.operands]),.refl h⟩
  .cases q
 .exact NOk.of (RZ h J q I)
 .exact NOk.of (A1W h J q I (j (by simp[Op.operands])))
 .rename_i t ps;obtain⟨h1,rfl⟩:=c8 q;obtain⟨v',A,h3⟩:=SS h1 (MH (g:=g) (fun x hx=>j (by simpa [Op.operands]using hx))) w;have e:(ps.map fun(i,x)=>(i,g x))=⟨ps.toList.map fun x=>(x.1,g x.2)⟩:=by apply I3;simp
  exact NOk.same (s:=Instr.build t (ps.map fun(i,x)=>(i,g x))) h (by rw[e];exact A) h3
 .rename_i t n ps
  have:=xW h J q I (MH (g:=g) (fun x hx=>j (by simpa [Op.operands]using hx)));have e:(ps.map fun(i,x)=>(i,g x))=⟨ps.toList.map fun x=>(x.1,g x.2)⟩:=by apply I3;simp
  refine NOk.of (s:=Instr.buildSlice t n (ps.map fun(i,x)=>(i,g x))) ?_;rw[e];exact this
 .rename_i t x;have hx:=j (x:=x) (by simp[Op.operands]);unfold OI at q;split at q
  .rename_i a E;rw[E]at hx;obtain⟨l,N,O,D⟩:=N6 hx;obtain⟨h1,rfl⟩:=c8 q;obtain⟨v',A,h3⟩:=HP h h1 N;refine NOk.same (s:=Instr.loadAt t (g x)) h ?_ h3;rw[D]
   simpa [Instr.loadAt,Instr.sureAddr]using A
  .cases q
 .rename_i t x y;have hx:=j (x:=x) (by simp[Op.operands]);have B:=j (x:=y) (by simp[Op.operands]);unfold CT at q;split at q
  .rename_i a E;rw[E]at hx;obtain⟨l,N,O,D⟩:=N6 hx;obtain⟨h1,rfl⟩:=lY q
   have:=RA h h1 N B;refine NOk.ofU (s:=Instr.storeAt t (g x) (g y)) ?_;rw[D];obtain⟨L,w',r1,r2⟩:=this;exact⟨L,w',by simpa [Instr.storeAt,Instr.sureAddr]using r1,r2⟩
  .cases q
 .rename_i x;have hx:=j (x:=x) (by simp[Op.operands]);obtain⟨hm,h1,A⟩:=A1V q hx;subst hm;refine⟨g x,ρ,w,.inl ?_,h1,.refl h⟩;rcases A with⟨a,T⟩|⟨f,a,b,T⟩<;>simp[execOp,T]
 .rename_i op t x y X;have hx:=j (x:=x) (by simp[Op.operands]);have B:=j (x:=y) (by simp[Op.operands]);unfold A1X at q;have C:(wW op=true->kP P t x y (ev fr x) (ev fr y)=true)->noM (qM P op t (ev fr x) (ev fr y)) m=some (v,m')->NOk P base ρ m w (execOp g ⟨dst,.binOp op t x y X,ty,pos,V,S⟩) v m':=fun R hn=>by
   obtain⟨h1,rfl⟩:=c8 hn;obtain⟨A,h3⟩:=uP h1 hx B w;have Z:=pY R hx B w;refine NOk.same (s:=do eqGuard op t x y (g x) (g y);binOp op t (g x) (g y)) h ?_ (.pure h3);simp[A4,Z,A,Result.andThen]
  cases F:wW op with
  | true =>
    rw[F]at q;simp only[D7]at q;obtain⟨h1,A⟩:=A3 q;exact C (fun _=>h1) A
  | false =>
    rw[F]at q;simp only[D4]at q;exact C (fun h=>by rw[F]at h;cases h) q
 .rename_i op t x;obtain⟨h1,rfl⟩:=c8 q;obtain⟨A,h3⟩:=KG (P:=P) h1 (j (x:=x) (by simp[Op.operands])) w;exact NOk.same (s:=Op.unary op (g x)) h A (.pure h3)
 .exact NOk.of (A0G h J q I (j (by simp[Op.operands])))
 .exact NOk.of (RY h q (j (by simp[Op.operands])))
 .rename_i f first cap
  cases q;have l1:=cG (ρ:=ρ) (fr:=fr) (g:=g) (xs:=first.toList) fun x hx=>j (by simp[Op.operands];exact .inl (by simpa using hx))
  have l2:=cG (ρ:=ρ) (fr:=fr) (g:=g) (xs:=cap.toList) fun x hx=>j (by simp[Op.operands];exact .inr (by simpa using hx))
  refine⟨.func (.func f) ⟨first.toList.map g⟩ ⟨cap.toList.map g⟩,ρ,w,.inl ?_,.func l1.1 l2.1 l1.2 l2.2,.refl h⟩;have Q:first.map g=⟨first.toList.map g⟩:=by apply I3;simp
  have M:cap.map g=⟨cap.toList.map g⟩:=by apply I3;simp
  simp[execOp,Instr.makeFunc,Q,M]
 .exact NOk.of (yV h J q I (j (by simp[Op.operands])) (j (by simp[Op.operands])))
 .rename_i t x lo hi mx;obtain⟨h1,rfl⟩:=c8 q;obtain⟨v',A,h3⟩:=fV h1 (j (x:=x) (by simp[Op.operands])) (iC (g:=g) fun y B=>j (by simp[Op.operands]at B ⊢;exact .inr (.inl B))) (iC (g:=g) fun y B=>j (by simp[Op.operands]at B ⊢;exact .inr (.inr (.inl B)))) (iC (g:=g) fun y B=>j (by simp[Op.operands]at B ⊢;exact .inr (.inr (.inr B)))) w;exact NOk.same (s:=Instr.sliceAt t (g x) (lo.map g) (hi.map g) (mx.map g)) h A h3
 .obtain⟨h1,rfl⟩:=c8 q;obtain⟨v',A,h3⟩:=kT h1 (j (by simp[Op.operands])) w;exact NOk.same h A h3
 .obtain⟨h1,rfl⟩:=c8 q;obtain⟨v',A,h3⟩:=SJ h1 (j (by simp[Op.operands])) w;exact NOk.same h A h3
 .obtain⟨h1,rfl⟩:=c8 q;obtain⟨v',A,h3⟩:=bS h1 (j (by simp[Op.operands])) (j (by simp[Op.operands])) w;exact NOk.same h A h3
 .obtain⟨h1,rfl⟩:=c8 q;obtain⟨v',A,h3⟩:=rL h1 (j (by simp[Op.operands])) (j (by simp[Op.operands])) w;exact NOk.same h A h3
 .obtain⟨hm,v',A,h3⟩:=HF (P:=P) q (j (by simp[Op.operands])) w;subst hm;exact NOk.same h A h3
 .rename_i b xs tys;have l1:=cG (ρ:=ρ) (fr:=fr) (g:=g) (xs:=xs.toList) fun x hx=>j (by show x ∈ (#[]++xs:Array Operand).toList;simpa using hx)
  obtain⟨ks,M⟩:∃ ks,execOp g ⟨dst,.call ⟨.builtin b,xs,tys⟩,ty,pos,V,S⟩=builtin b tys ty ks (xs.map g):=⟨_,rfl⟩;obtain⟨s,e,W⟩:=JR (ty:=ty) (ks:=ks) h J q I l1;have Q:xs.map g=⟨xs.toList.map g⟩:=by apply I3;simp
  rw[M,Q];have Y:tys=⟨tys.toList⟩:=rfl;rw[Y,e];exact NOk.of W
 .cases q
end
end
section
open Go
def ofV:P5->U
 | some (.int k n)=>.int k n
 | some (.bool b)=>.bool b
 | some (.string s)=>.str s.data.toList
 | _=>.none
def D3(E:Nat->U):Value->U
 | .complex .f64 i _=>E i
 | .int k n=>.int k n
 | .bool b=>.bool b
 | .string s=>.str s.data.toList
 | _=>.none
def evB(op:BinOp):U->U->U
 | .int k a,.int j b=>ofV (v6 op k j a b)
 | .str a,.str b=>ofV (A07 op ⟨⟨a⟩⟩ ⟨⟨b⟩⟩)
 | .bool a,.bool b=>match op with
   | .eql=>.bool (a == b)
   | .neq=>.bool (!(a == b))
   | _=>.none
 | _,_=>.none
def ev1(op:UnOp):U->U
 | .int k n=>ofV (unM op (.int k n))
 | .bool b=>ofV (unM op (.bool b))
 | _=>.none
def eqU:U->U->Option Bool
 | .int k a,.int j b=>if k=j then some (a == b)else none
 | .bool a,.bool b=>some (a == b)
 | .str a,.str b=>some (a == b)
 | _,_=>none
def kW:List U->Option Bool
 | []=>some true
 | a::b::r=>match eqU a b,kW r with
   | some x,some y=>some (x && y)
   | _,_=>none
 | _=>none
def FV(s:List UInt8)(l h:Int):U :=
 match l,h with
 | .ofNat l,.ofNat h=>if l<=h/\h<=s.length then .str ((s.drop l).take (h-l))else .none
 | _,_=>.none
def sB:List U->Option (List UInt8)
 | []=>some []
 | .int .u8 (.ofNat n)::r=>if n<256 then match sB r with
   | some l=>some (UInt8.ofNat n::l)
   | none=>none else none
 | _::_=>none
def tY:List (List U)->Option (List UInt8)
 | []=>some []
 | [.int .u8 (.ofNat n)]::r=>if n<256 then match tY r with
   | some l=>some (UInt8.ofNat n::l)
   | none=>none else none
 | _::_=>none
def iQ(s:List UInt8):List (List U):=s.map fun b=>[.int .u8 b.toNat]
def Z5(w:Nat):Nat->List U->Option (List (List U))
 | 0,[]=>some []
 | 0,_::_=>none
 | n+1,l=>if w<=l.length then match Z5 w n (l.drop w)with
   | some r=>some (l.take w::r)
   | none=>none else none
def vS(row:List U)(o:Nat)(cells:List U):List U:=row.take o++cells++row.drop (o+cells.length)
def tZ:Nat:=1000000000
def qL(f:Bool)(w:Nat)(rows r:List (List U)):U:=if rows.length+r.length<=tZ then(match r with|[]=>.seq f w rows|r=>.seq false w (rows++r))else .none
def isU(a b:U):Bool :=
 match eqU a b with
 | some c=>c
 | none=>false
def S3:List U->List U->Bool
 | [],_=>true
 | a::k,b::r=>isU a b && S3 k r
 | _::_,[]=>false
def GW(kw:Nat)(c:List U):List (List U)->List (List U)
 | []=>[c]
 | r::rs=>if S3 (c.take kw) r then c::rs else r::GW kw c rs
def evU:LOp->List U->U
 | .mhas w kw,.seq _ v rows::k=>if v=w/\k.length=kw then .bool (rows.any (S3 k))else .none
 | .mget w kw o,.seq _ v rows::z::k=>if v=w/\k.length=kw then(match rows.find? (S3 k)with
   | some r=>r.getD o .none
   | none=>z)else .none
 | .mput w kw,.seq nul v rows::c=>if v=w/\c.length=w then .seq nul w (GW kw c rows)else .none
 | .len,[.seq _ _ rows]=>.int .i64 rows.length
 | .mks,l=>match sB l with
   | some s=>.str s
   | none=>.none
 | .inbs w,[.int _ i,.seq _ v rows]=>if v=w then .bool (decide (0<=i) && decide (i<rows.length))else .none
 | .get w o,[.seq false v rows,.int _ (.ofNat k)]=>if v=w then(rows.getD k []).getD o .none else .none
 | .mk w,l=>if w=0 then .none else match Z5 w (l.length / w) l with
   | some r=>.seq false w r
   | none=>.none
 | .nilw w,[]=>.seq true w []
 | .nilp,[.seq nul _ _]=>.bool nul
 | .snoc w,.seq nul v rows::l=>if v=w/\w≠0 then match Z5 w (l.length / w) l with
   | some r=>qL nul w rows r
   | none=>.none else .none
 | .cat w,[.seq nul v rows,.seq _ v2 r]=>if v=w/\v2=w then qL nul w rows r else .none
 | .cats,[.seq nul v rows,.str s]=>if v=1 then qL nul 1 rows (iQ s)else .none
 | .set w o,.seq false v rows::.int _ (.ofNat k)::l=>if v=w/\k<rows.length/\o+l.length<=w then .seq false w (rows.set k (vS (rows.getD k []) o l))else .none
 | .subs w,[.seq nul v rows,.int _ (.ofNat l),.int _ (.ofNat h)]=>if v=w/\l<=h/\h<=rows.length then .seq nul w ((rows.drop l).take (h-l))else .none
 | .str,[.seq _ v rows]=>if v=1 then match tY rows with
   | some s=>.str s
   | none=>.none else .none
 | .byt,[.str s]=>.seq false 1 (iQ s)
 | .ustr,[.seq _ v rows,.int _ (.ofNat n)]=>if v=1/\n<=rows.length/\n<=tZ then match tY (rows.take n)with
   | some s=>.str s
   | none=>.none else .none
 | .rep w,.int _ (.ofNat n)::l=>if l.length=w/\n<=tZ then .seq false w (List.replicate n l)else .none
 | .bin op,[a,b]=>evB op a b
 | .un op,[a]=>ev1 op a
 | .conv k,[.int _ n]=>.int k (k.wrap n)
 | .len,[.str s]=>.int .i64 s.length
 | .rune,[.str s,.int _ (.ofNat k)]=>.int .i32 (Utf8.decode ⟨⟨s⟩⟩ k).1
 | .rpos,[.str s,.int _ (.ofNat k)]=>.int .i64 (k+(Utf8.decode ⟨⟨s⟩⟩ k).2:Nat)
 | .idx,[.str s,.int _ (.ofNat k)]=>match s[k]? with
   | some b=>.int .u8 b.toNat
   | none=>.none
 | .sub,[.str s,.int _ l,.int _ h]=>FV s l h
 | .sub1,[.str s,.int _ l]=>FV s l s.length
 | .sel,.int _ (.ofNat k)::cs=>cs.getD k .none
 | .inb,[.int _ i,.int _ n]=>.bool (decide (0<=i) && decide (i<n))
 | .eqs,l=>match kW l with
   | some b=>.bool b
   | none=>.none
 | .max,[.int k a,.int _ b]=>.int k (if b>a then b else a)
 | .min,[.int k a,.int _ b]=>.int k (if b<a then b else a)
 | _,_=>.none
def d9.ok(E:Nat->U):d9->Prop
 | .lt i t op xs=>E i=evU op (xs.map (D3 E))/\F7 (E i)=t/\t<10
 | .dt i t op xs=>E i=evU op (xs.map (D3 E))/\F7 (E i)=t/\∃ f w rows,E i=.seq f w rows
 | .br i b=>E i=.bool b
 | .as op xs=>evU op (xs.map (D3 E))=.bool true
 | .con spec xs i d n=>∃ outs,spec (xs.map (D3 E))=some (d,outs)/\outs.length=n/\∀ j u,outs[j]? = some u->E (i+j)=u
def Q6(E:Nat->U)(l:List d9):Prop:=∀ e ∈ l,e.ok E
def Lg.le(a b:Lg):Prop:=a.log <:+ b.log
def Lg.le.refl(a:Lg):a.le a:=List.suffix_refl _
def Lg.le.trans{a b c:Lg}(h:a.le b)(k:b.le c):a.le c:=List.IsSuffix.trans h k
def Q6.le{E:Nat->U}{a b:Lg}(h:Q6 E b.log)(k:a.le b):Q6 E a.log:=fun e he=>h e (k.subset he)
variable [Ora]
abbrev Sat(lg:Lg):Prop:=Q6 Ora.env lg.log
omit [Ora] in
def NJ{u:U}(h:F7 u<10):∃ v,toV u=some v/\ofV (some v)=u/\G1 v=F7 u:=by
 cases u with
 | none=>simp[F7]at h
 | seq _ _ _=>simp only[F7]at h;omega
 | int k n=>exact⟨_,rfl,rfl,rfl⟩
 | bool b=>exact⟨_,rfl,rfl,rfl⟩
 | str s=>exact⟨_,rfl,rfl,rfl⟩
def CS(h:F7 (ofV o)<10):∃ v,o=some v/\toV (ofV o)=some v:=by
 unfold ofV at h;split at h
 .exact⟨_,rfl,rfl⟩
 .exact⟨_,rfl,rfl⟩
 .rename_i s;refine⟨_,rfl,?_⟩;simp[ofV,toV]
 .simp[F7]at h
def K7(k:IntKind):gD k<8:=by cases k<;>decide
theorem r9{ρ:Ren}{v v':Value}(h:VR ρ v v')(f:G1 v<10):toV (D3 Ora.env v)=some v'/\F7 (D3 Ora.env v)=G1 v:=by
 cases h with
 | pure hp =>
   cases v<;>simp only[G1]at f<;>first
    | exact⟨rfl,rfl⟩
    | (exfalso;omega)
    | (simp[H9]at hp)
 | hole h j=>exact⟨h,j⟩
 | junk=>simp[G1]at f
 | ixp _ _ _ _ _=>simp[G1,ixp]at f
 | dat _ _ _ _ _=>simp[G1,Go.Sx.dat]at f
 | clp _ _ _ _ _ _=>simp[G1,Go.Sx.clp]at f
 | own _ _ _=>simp[G1,Go.Sx.own]at f
 | dpt _ _ _=>simp[G1,Go.Sx.dpt]at f
 | opt _ _ _=>simp[G1,Go.Sx.opt]at f
 | yv _=>simp[G1,Go.Sx.yv]at f
 | sdt _=>simp[G1,Go.Sx.sdt]at f
 | _=>simp[G1]at f
def L6{ρ:Ren}(h:VR ρ v v')(j:G1 v<8):∃ k n,v'=.int k n/\D3 Ora.env v=.int k n/\G1 v=gD k:=by
 obtain⟨h1,f⟩:=r9 h A2;cases hu:D3 Ora.env v with
 | int k n=>rw[hu]at h1 f;cases h1;exact⟨k,n,rfl,rfl,f.symm⟩
 | bool b=>rw[hu]at f;simp only[F7]at f;omega
 | str s=>rw[hu]at f;simp only[F7]at f;omega
 | none=>rw[hu]at h1;cases h1
 | seq _ _ _=>rw[hu]at h1;cases h1
def fU{ρ:Ren}(h:VR ρ v v')(j:G1 v=8):∃ b,v'=.bool b/\D3 Ora.env v=.bool b:=by
 obtain⟨h1,f⟩:=r9 h A2;cases hu:D3 Ora.env v with
 | int k n=>rw[hu]at f;simp only[F7]at f;have:=K7 k;omega
 | bool b=>rw[hu]at h1;cases h1;exact⟨b,rfl,rfl⟩
 | str s=>rw[hu]at f;simp only[F7]at f;omega
 | none=>rw[hu]at h1;cases h1
 | seq _ _ _=>rw[hu]at h1;cases h1
def g9{ρ:Ren}(h:VR ρ v v')(j:G1 v=9):∃ s,v'=.string ⟨⟨s⟩⟩/\D3 Ora.env v=.str s:=by
 obtain⟨h1,f⟩:=r9 h A2;cases hu:D3 Ora.env v with
 | int k n=>rw[hu]at f;simp only[F7]at f;have:=K7 k;omega
 | bool b=>rw[hu]at f;simp only[F7]at f;omega
 | str s=>rw[hu]at h1;cases h1;exact⟨s,rfl,rfl⟩
 | none=>rw[hu]at h1;cases h1
 | seq _ _ _=>rw[hu]at h1;cases h1
def hZ{m m':Mem}{t:Nat}{op:LOp}(h:S5 m t op xs=some (v,m')):v=hole m.lg.nx t/\m'=m.wLg ⟨m.lg.nx+1,m.lg.pi,.lt m.lg.nx t op xs::m.lg.log⟩:=by
 obtain⟨H,n,W,hi,⟨nx,pi,log⟩⟩:=m;simp only[S5,E1,H6]at h;cases h;exact⟨rfl,rfl⟩
def L3{m m':Mem}{t:Nat}{op:LOp}(h:S5 m t op xs=some (v,m'))(n:Sat m'.lg):∃ u,evU op (xs.map (D3 Ora.env))=u/\F7 u=t/\∃ r,toV u=some r/\(∀ ρ,VR ρ v r)/\t<10:=by
 obtain⟨rfl,rfl⟩:=hZ h;obtain⟨h1,j,h3⟩:=n (.lt m.lg.nx t op xs) (by cases m;exact B2);refine⟨_,rfl,h1▸j,?_⟩;obtain⟨r,f,_⟩:=NJ (u:=Ora.env m.lg.nx) A2;exact⟨r,h1▸f,fun ρ=>.hole f j,h3⟩
section
variable {P:Program} {base:Nat} {ρ:Ren} {m m':Mem} {w:World}
def St.wLg(h:HR P base ρ m.H w)(lg:Lg):St P base ρ ρ m (m.wLg lg) w w:=by
 obtain⟨H,n,W,hi,l⟩:=m;have r:=St.refl (m:=⟨H,n,W,hi,l⟩) h;exact⟨r.ext,r.new,r.nle,r.hle,r.nhi,r.hr,r.wsub,r.wrw,r.keep,r.size,r.os,r.blk,r.same,r.tch⟩
def aW:∀ {l:List d9} {i:Nat} {b:Bool},xE l i=some b->d9.br i b ∈ l
 | [],_,_,h=>by cases h
 | .br j c::r,i,b,h=>by
   rw[xE]at h;cases f:Nat.beq j i with
   | true=>rw[f]at h;cases h;rw[A0 f];exact B2
   | false=>rw[f]at h;exact B8 _ (aW h)
 | .lt _ _ _ _::r,i,b,h=>B8 _ (aW (l:=r) h)
 | .dt _ _ _ _::r,i,b,h=>B8 _ (aW (l:=r) h)
 | .as _ _::r,i,b,h=>B8 _ (aW (l:=r) h)
 | .con _ _ _ _ _::r,i,b,h=>B8 _ (aW (l:=r) h)
def eF{lg f:Lg}{b:Bool}(h:brL lg c=some (b,f)):lg.le f:=by
 unfold brL at h;split at h
 .cases h;exact .refl _
 .obtain⟨nx,pi,log⟩:=lg;simp only at h;split at h
  .cases h;exact .refl _
  .split at h
   .cases h;exact⟨[_],rfl⟩
   .cases h;exact⟨[_],rfl⟩
   .cases h
 .cases h
def lC{lg f:Lg}{b:Bool}(h:brL lg c=some (b,f))(q:VR ρ c c')(n:Sat f):c'=.bool b:=by
 unfold brL at h;split at h
 .cases h;exact bR q
 .rename_i i;have A:Ora.env i=.bool b:=by
   obtain⟨nx,pi,log⟩:=lg;simp only at h;split at h
   .rename_i b' B;cases h;exact n _ (aW B)
   .split at h
    .cases h;exact n (.br i true) B2
    .cases h;exact n (.br i false) B2
    .cases h
  obtain⟨b',h1,j⟩:=fU q rfl;have j:Ora.env i=.bool b':=j;rw[A]at j;cases j;exact h1
 .cases h
def tD:∀ {a b:List U} {z:Bool},a.length%2=0->kW (a++b)=some z->∃ x y,kW a=some x/\kW b=some y/\z=(x && y)
 | [],b,z,_,h=>⟨true,z,rfl,h,rfl⟩
 | [_],_,_,hl,_=>by simp at hl
 | p::q::r,b,z,hl,h=>by
   simp only[R1]at h;unfold kW at h;split at h
   .rename_i u v f j;cases h;obtain⟨x,y,h1,n,rfl⟩:=tD (by simp only[E5]at hl;omega) j;exact⟨u && x,y,by simp only[kW,f,h1],n,by simp[Bool.and_assoc]⟩
   .cases h
def RJ(h:eA P t x y=true)(hx:VR ρ x x')(C:VR ρ y y'){b:Bool}(j:eqU (D3 Ora.env x) (D3 Ora.env y)=some b)(n:Nat)(w:World):(Op.equalIn (n+1) t x' y').run P w=.ok b w:=by
 unfold eA at h;split at h
 .rename_i hu;obtain⟨h1,f⟩:=B4 h;obtain⟨p,rfl,B⟩:=fU hx (A0 h1);obtain⟨q,rfl,A⟩:=fU C (A0 f);rw[B,A]at j;cases j;simp[Op.equalIn,A4,C7 hu,Result.andThen]
 .rename_i k hu;obtain⟨h1,f⟩:=B4 h;have h1:=A0 h1;have f:=A0 f;obtain⟨E,p,rfl,B,f1⟩:=L6 hx (by have:=K7 k;omega);obtain⟨D,q,rfl,A,f2⟩:=L6 C (by have:=K7 k;omega);have g1:E=k:=by cases E<;>cases k<;>first|rfl|(simp only[gD]at f1 h1;omega)
  have g2:D=k:=by cases D<;>cases k<;>first|rfl|(simp only[gD]at f2 f;omega)
  subst g1;subst g2;rw[B,A]at j;simp[eqU]at j;subst j;simp[Op.equalIn,A4,C7 hu,Result.andThen]
 .rename_i hu;obtain⟨h1,f⟩:=B4 h;obtain⟨p,rfl,B⟩:=g9 hx (A0 h1);obtain⟨q,rfl,A⟩:=g9 C (A0 f);rw[B,A]at j;cases j
  have:=run_equalIn_string (P:=P) w n t ⟨⟨p⟩⟩ ⟨⟨q⟩⟩ hu;rw[this];simp[ByteArray.toList_eq]
 .cases h
mutual
def QD:∀ (d:Nat) (t:TypeId) (x y:Value) (l:List Value),eqS P d t x y=some l->l.length%2=0
 | 0,_,_,_,_,h=>by simp[eqS]at h
 | d+1,t,x,y,l,h=>by
   unfold eqS at h;cases hs:eA P t x y with
   | true=>rw[hs]at h;cases h;simp
   | false =>
     rw[hs]at h;simp only[D4]at h;split at h
     .rename_i fs xs ys hu;cases hst:P.stoodInHeld t with
      | true=>rw[hst]at h;cases h
      | false=>rw[hst]at h;exact xH d _ _ _ l h
     .split at h
      .exact xH d _ _ _ l h
      .cases h
     .cases h
def xH:∀ (d:Nat) (fs:List Field) (xs ys:List Value) (l:List Value),xI P d fs xs ys=some l->l.length%2=0
 | 0,_,_,_,_,h=>by simp[xI]at h
 | d+1,[],_,_,_,h=>by simp only[xI,C9]at h;subst h;rfl
 | d+1,f::fs,xs,ys,l,h=>by
   unfold xI at h;cases hnm:f.name == "_" with
   | true=>rw[hnm]at h;cases h
   | false =>
     rw[hnm]at h;simp only[D4]at h;split at h
     .split at h
      .rename_i a b ha hb;cases h
       have:=QD d _ _ _ a ha
       have:=xH d _ _ _ b hb;simp only[D6];omega
      .cases h
     .cases h
end
mutual
def MI:∀ (d:Nat) (t:TypeId) (x y x' y':Value) (l:List Value) (b:Bool),eqS P d t x y=some l->kW (l.map (D3 Ora.env))=some b->VR ρ x x'->VR ρ y y'->∀ (n:Nat),d<=n->∀ w:World,(Op.equalIn n t x' y').run P w=.ok b w
 | 0,_,_,_,_,_,_,_,h,_,_,_,_,_,_=>by simp[eqS]at h
 | d+1,t,x,y,x',y',l,b,h,hl,hx,hy,n,hn,w=>by
   obtain⟨n,rfl⟩:∃ k,n=k+1:=⟨n-1,A2⟩;have hn':d<=n:=A2;unfold eqS at h;cases hs:eA P t x y with
   | true =>
     rw[hs]at h;cases h;simp only[C3,F6,kW]at hl;split at hl
     .rename_i u v e1 e2;cases e2;cases hl;rw[mY];exact RJ hs hx hy e1 n w
     .cases hl
   | false =>
     rw[hs]at h;simp only[D4]at h;split at h
     .rename_i fs xs ys hu;cases hst:P.stoodInHeld t with
      | true=>rw[hst]at h;cases h
      | false =>
        rw[hst]at h;obtain⟨xs',rfl,hx1⟩:=U5 hx;obtain⟨ys',rfl,hy1⟩:=U5 hy;have hf:P.fieldsOf t=fs:=by simp[Program.fieldsOf,hu]
        rw[run_equalIn_struct (P:=P) w n t _ _ (by rw[hf];exact hu) hst,hf];exact DX d fs.toList xs.toList ys.toList xs' ys' l b h hl hx1 hy1 n hn' w
     .rename_i k e xs ys hu;split at h
      .rename_i s hz;obtain⟨xs',rfl,hx1⟩:=U5 hx;obtain⟨ys',rfl,hy1⟩:=U5 hy;obtain⟨i,hi,rfl⟩:=zM hz;rw[run_equalIn_array (P:=P) (w:=w) n _ _ hu hi,show P.cellsOf e=i.size by simp[Program.cellsOf,hi],eD];exact DX d _ xs.toList ys.toList xs' ys' l b h hl hx1 hy1 n hn' w
      .cases h
     .cases h
def DX:∀ (d:Nat) (fs:List Field) (xs ys xs' ys':List Value) (l:List Value) (b:Bool),xI P d fs xs ys=some l->kW (l.map (D3 Ora.env))=some b->LR ρ xs xs'->LR ρ ys ys'->∀ (n:Nat),d<=n->∀ w:World,(Op.eqFields n ⟨xs'⟩ ⟨ys'⟩ fs).run P w=.ok b w
 | 0,_,_,_,_,_,_,_,h,_,_,_,_,_,_=>by simp[xI]at h
 | d+1,[],_,_,_,_,_,b,h,hl,_,_,_,_,_=>by
   simp only[xI,C9]at h;subst h;simp only[F6,kW,C9]at hl;subst hl;simp[Op.eqFields]
 | d+1,f::fs,xs,ys,xs',ys',l,b,h,hl,hx,hy,n,hn,w=>by
   unfold xI at h;cases hnm:f.name == "_" with
   | true=>rw[hnm]at h;cases h
   | false =>
     rw[hnm]at h;simp only[D4]at h;have hn':f.name ≠ "_":=by simpa using hnm
     split at h
     .rename_i x y h1 h2;obtain⟨x',g1,g2⟩:=fZ h1 hx w;obtain⟨y',g3,g4⟩:=fZ h2 hy w;split at h
      .rename_i a c ha hc;cases h;rw[S7]at hl;obtain⟨p,q,e1,e2,rfl⟩:=tD (by have:=QD d _ _ _ a ha;simpa using this) hl;have ih:=MI d f.type x y x' y' a p ha e1 g2 g4 n A2 w;have ih2:=DX d fs xs ys xs' ys' c q hc e2 hx hy n A2 w;unfold Op.eqFields;rw[A9 hn'];cases p<;>simp[A4,g1,g3,Result.andThen,ih,ih2]
      .cases h
     .cases h
end
end
end
section
open Go
variable [Ora]
section
variable {P:Program} {base:Nat} {ρ:Ren} {m m':Mem} {w w':World}
def St.new0{ab:AB}(h:HR P base ρ m.H w)(Q:Y0 m ab k=some (v,m'))(O:J6 ρ m.n m'.hi)(K:BR P (upd ρ m.n l') ab l' w)(G:l'.on=false)
  (L:∀ q,Tc ab l' q->Fp ρ m.H q/\∀ id,id<=H3->∀ a l,Hp.get m.H id=some a->ρ id=some l->a.rw=true->l.on=true->l.blk≠q):v=k m.n/\upd ρ m.n l' m.n=some l'/\St P base ρ (upd ρ m.n l') m m' w w:=by
 obtain⟨hle,hv,rfl⟩:=K6 Q;have E:ρ m.n=none:=O m.n (A6 _) (K2 _ _).2;have A:=V7 (l:=l') E;refine⟨hv,K8 _ _ _,A,fun b q h1 j=>?_,by simp,(K2 _ _).1,fun _=>X5 (K2 _ _).2,⟨fun b q M=>?_,fun id hid a f=>?_⟩,fun b K=>K,fun b h1 j=>absurd h1 j,fun q M _=>rfl,A6 _,⟨rfl,rfl,rfl⟩,fun b q h1 j B=>?_,fun id hid h1 j=>?_,fun q ⟨id,a,l,hid,f,D,N⟩=>.inr ?_⟩
 .obtain⟨rfl,rfl⟩:=S9 h1 j;exact⟨A6 _,I5 _⟩
 .cases h0:ρ b with
  | some R=>exact h.dom b R h0
  | none=>obtain⟨rfl,rfl⟩:=S9 M h0;exact hle
 .rw[E6 _ _ _ _ hle hid]at f;by_cases e:id=m.n
  .rw[A9 e]at f;have f:=A8 f;subst f;subst e;exact⟨l',K8 _ _ _,K,fun _ B=>(by rw[G]at B;cases B)⟩
  .rw[A7 e]at f;obtain⟨l0,h1,j,h3⟩:=h.at_ id hid a f;refine⟨l0,A _ _ h1,j.mono A (fun _ _=>rfl),fun hr B=>⟨(h3 hr B).1,fun F C I l2 g1 g2 g3=>?_⟩⟩;rw[E6 _ _ _ _ hle C]at g1;by_cases J:F=m.n
   .subst J;rw[K8]at g2
    have:=A8 g2;subst this;rw[A9 rfl]at g1;have g1:=A8 g1;subst g1;exact absurd rfl ((L _ g3).2 id hid a l0 f h1 hr B)
   .rw[A7 J]at g1;unfold upd at g2;rw[A7 J]at g2;exact(h3 hr B).2 F C I l2 g1 g2 g3
 .obtain⟨rfl,rfl⟩:=S9 h1 j;rw[G]at B;cases B
 .rw[E6 _ _ _ _ hle hid,A7];intro e;subst e;rcases j with j|j
  .omega
  .have j:upN m.hi m.n<=m.n:=j
   have:=(K2 m.hi m.n).2;omega
 .have f:Hp.get (m.H.set m.n (some ab)) id=some a:=f;rw[E6 _ _ _ _ hle hid]at f;by_cases e:id=m.n
  .subst e;rw[A9 rfl]at f;have f:=A8 f;subst f;rw[K8]at D;have D:=A8 D;subst D;exact(L q N.2).1
  .rw[A7 e]at f;unfold upd at D;rw[A7 e]at D;exact⟨id,a,l,hid,f,D,N⟩
def St.same0{ab:AB}{id:Nat}(h:HR P base ρ m.H w)(R:bM m id ab'=some m')(L:Hp.get m.H id=some ab)(D:ab.rw=true)(G:ρ id=some l)(N:BR P ρ ab' l w)(O:∀ q,Tc ab' l q->Tc ab l q):St P base ρ ρ m m' w w:=by
 obtain⟨hle,rfl⟩:=T4 R;obtain⟨E,h3⟩:=h.atl G L;refine⟨fun _ _ h=>h,fun b k h1 E=>(by rw[h1]at E;cases E),A6 _,A6 _,fun h=>h,⟨h.dom,fun n f a A=>?_⟩,fun b N=>B8 _ N,fun b h1 E k K=>?_,fun k K S=>rfl,A6 _,⟨rfl,rfl,rfl⟩,fun b k h1 E=>(by rw[h1]at E;cases E),fun n f T U=>?_,fun k ⟨n,a,q,f,A,J,Q⟩=>.inr ?_⟩
 .rw[E6 _ _ _ _ hle f]at A;by_cases e:n=id
  .rw[A9 e]at A;have A:=A8 A;subst A;subst e;refine⟨l,G,N,fun _ C=>⟨(h3 D C).1,fun B j F M g1 g2 g3=>?_⟩⟩;rw[E6 _ _ _ _ hle j]at g1;by_cases I:B=n
   .exact I
   .rw[A7 I]at g1;exact(h3 D C).2 B j F M g1 g2 g3
  .rw[A7 e]at A;obtain⟨l2,g1,g2,g3⟩:=h.at_ n f a A;refine⟨l2,g1,g2.mono (fun _ _ h=>h) (fun k K=>rfl),fun hr C=>⟨(g3 hr C).1,fun B j F M f1 f2 f3=>?_⟩⟩;rw[E6 _ _ _ _ hle j]at f1;by_cases I:B=id
   .subst I;rw[G]at f2
    have:=A8 f2;subst this;have f1:=A8 (by simpa using f1);subst f1;exact(g3 hr C).2 B j ab l L G (O _ f3)
   .rw[A7 I]at f1;exact(g3 hr C).2 B j F M f1 f2 f3
 .rcases B3.1 h1 with rfl|h1
  .exact⟨ab,L,D⟩
  .exact absurd h1 E
 .rw[E6 _ _ _ _ hle f,A7];intro e;subst e;exact T B2
 .have A:Hp.get (m.H.set id (some ab')) n=some a:=A;rw[E6 _ _ _ _ hle f]at A;by_cases e:n=id
  .subst e;rw[A9 rfl]at A;have A:=A8 A;subst A;rw[G]at J;have J:=A8 J;subst J;exact⟨n,ab,l,f,L,G,AB.rw_fr D,O _ Q.2⟩
  .rw[A7 e]at A;exact⟨n,a,q,f,A,J,Q⟩
def St.move{ab:AB}{id:Nat}(h:HR P base ρ m.H w)(hle:id<=H3)(hg:Hp.get m.H id=some ab)(E:ab.rw=true)(W:ρ id=some l)
  (hn:Y0 (iU m id) ab' k=some (v,m')) (hf:J6 ρ m.n m'.hi) (N:l'.on=true->l.on=true/\l'.blk=l.blk)
  (ho:w'.os=w.os/\w'.tape=w.tape/\w'.output=w.output) (ax:w'.heap.size=w.heap.size) (Y:∀ k,(l.on=true->k≠l.blk)->w'.heap[k]? = w.heap[k]?) (U:BR P (upd ρ m.n l') ab' l' w') (ay:ab'≠.frz) :
  v=k m.n/\upd ρ m.n l' m.n=some l'/\St P base ρ (upd ρ m.n l') m m' w w':=by
 rw[c9]at hn;obtain⟨X,hv,rfl⟩:=K6 hn;have B:ρ m.n=none:=hf m.n (A6 _) (K2 _ _).2;have G:=V7 (l:=l') B;obtain⟨Q,h3⟩:=h.atl W hg;have S:∀ k,Tc ab' l' k->l.on=true/\k=l.blk:=fun k Y=>by
  rcases Y with⟨_,h1,rfl⟩|⟨rfl,_⟩
  .exact N h1
  .exact absurd rfl ay
 have au:id≠m.n:=fun e=>by subst e;rw[W]at B;cases B
 have A:∀ i,i<=H3->Hp.get ((m.H.set id none).set m.n (some ab')) i=if i=m.n then some ab' else if i=id then none else Hp.get m.H i:=fun i hi=>by
  rw[E6 _ _ _ _ X hi,E6 _ _ _ _ hle hi]
 refine⟨hv,K8 _ _ _,G,fun b q h1 Q=>?_,Y2 _,(K2 _ _).1,fun _=>X5 (K2 _ _).2,⟨fun b q F=>?_,fun i hi a f=>?_⟩,fun b U=>B8 _ U,fun b h1 Q q F=>?_,fun q F az=>Y q ?_,by rw[ax];exact A6 _,ho,fun b q h1 Q C=>?_,fun i hi h4 V=>?_,fun k ⟨i,a,q,hi,f,F,ht⟩=>.inr ?_⟩
 .obtain⟨rfl,rfl⟩:=S9 h1 Q;exact⟨A6 _,I5 _⟩
 .cases h0:ρ b with
  | some q0=>exact h.dom b q0 h0
  | none=>obtain⟨rfl,rfl⟩:=S9 F h0;exact X
 .have f:Hp.get ((m.H.set id none).set m.n (some ab')) i=some a:=f;rw[A i hi]at f;by_cases e:i=m.n
  .rw[A9 e]at f;have f:=A8 f;subst f;subst e;refine⟨l',K8 _ _ _,U,fun av C=>?_⟩;obtain⟨j,D⟩:=N C;refine⟨by rw[D];exact(h3 E j).1,fun K M Z l2 g1 g2 g3=>?_⟩;rw[A K M]at g1;by_cases e2:K=m.n
   .exact e2
   .rw[A7 e2]at g1;unfold upd at g2;rw[A7 e2]at g2;by_cases J:K=id
    .rw[A9 J]at g1;cases g1
    .rw[A7 J]at g1;exact absurd ((h3 E j).2 K M Z l2 g1 g2 (D▸g3)) J
  .rw[A7 e]at f;by_cases J:i=id
   .rw[A9 J]at f;cases f
   .rw[A7 J]at f;obtain⟨l2,g1,g2,g3⟩:=h.at_ i hi a f;have R:∀ k,Tc a l2 k->l.on=true->k≠l.blk:=fun k O j hh=>J ((h3 E j).2 i hi a l2 f g1 (hh▸O))
    refine⟨l2,G _ _ g1,g2.mono G (fun k O=>Y _ (R k O)),fun hr C=>⟨(g3 hr C).1,fun I L T l3 f1 f2 f3=>?_⟩⟩;have f1:Hp.get ((m.H.set id none).set m.n (some ab')) I=some T:=f1;rw[A I L]at f1;by_cases e4:I=m.n
    .subst e4;rw[K8]at f2
     have:=A8 f2;subst this;rw[A9 rfl]at f1;have f1:=A8 f1;subst f1;obtain⟨j,F⟩:=S _ f3;exact absurd F (R _ (.inl ⟨AB.rw_on hr,C,rfl⟩) j)
    .rw[A7 e4]at f1;unfold upd at f2;rw[A7 e4]at f2;by_cases e5:I=id
     .rw[A9 e5]at f1;cases f1
     .rw[A7 e5]at f1;exact(g3 hr C).2 I L T l3 f1 f2 f3
 .rcases B3.1 h1 with rfl|h1
  .exact⟨ab,hg,E⟩
  .exact absurd h1 Q
 .exact fun j e=>az id B2 l W j e.symm
 .obtain⟨rfl,rfl⟩:=S9 h1 Q;obtain⟨j,D⟩:=N C;exact .inr ⟨id,B2,l,W,j,D.symm⟩
 .have aw:=A i hi;show Hp.get ((m.H.set id none).set m.n (some ab')) i=_;rw[aw,A7,A7]
  .intro e;subst e;exact h4 B2
  .intro e;subst e;rcases V with V|V
   .omega
   .have V:upN m.hi m.n<=m.n:=V
    have:=(K2 m.hi m.n).2;omega
 .have f:Hp.get ((m.H.set id none).set m.n (some ab')) i=some a:=f;rw[A i hi]at f;by_cases e:i=m.n
  .rw[A9 e]at f;have f:=A8 f;subst f;subst e;rw[K8]at F;have F:=A8 F;subst F;obtain⟨j,U⟩:=S k ht.2;exact⟨id,ab,l,hle,hg,W,AB.rw_fr E,.inl ⟨AB.rw_on E,j,U.symm⟩⟩
  .rw[A7 e]at f;unfold upd at F;rw[A7 e]at F;by_cases J:i=id
   .rw[A9 J]at f;cases f
   .rw[A7 J]at f;exact⟨i,a,q,hi,f,F,ht⟩
end
end
section
open Go
variable [Ora]
def t7{m m':Mem}{ab:AB}(h:Y0 m ab k=some (v,m')):m'.lg=m.lg:=by
 obtain⟨_,_,rfl⟩:=K6 h;rfl
def cU{m m':Mem}{id:Nat}{ab:AB}(h:bM m id ab=some m'):m'.lg=m.lg:=by
 obtain⟨_,rfl⟩:=T4 h;rfl
def qS{m m':Mem}(h:mZ m a vs=some m'):m'.lg=m.lg:=by
 unfold mZ at h;split at h
 .obtain⟨_,h⟩:=A3 h;rw[H6]at h;exact cU h
 .cases h
def RB{P:Program}{m m':Mem}(h:vB P m t a v=some m'):m'.lg=m.lg:=by
 unfold vB at h;split at h
 .obtain⟨_,h⟩:=A3 h;exact qS h
 .cases h
def j7{m m':Mem}(h:noM o m=some (v,m')):m'.lg=m.lg:=by
 obtain⟨_,rfl⟩:=c8 h;rfl
def xX{P:Program}{m m':Mem}{n:Nat}{ps:List (Nat×Value)}(h:bW P m t n ps=some (v,m')):m'.lg=m.lg:=by
 unfold bW at h;split at h
 .split at h
  .obtain⟨_,h⟩:=A3 h;split at h
   .exact t7 h
   .cases h
  .cases h
 .cases h
def yW{P:Program}{m m':Mem}{l:Value}(h:dU P m t l c=some (v,m')):m'.lg=m.lg:=by
 unfold dU at h;split at h
 .split at h
  .obtain⟨_,h⟩:=A3 h;split at h
   .rw[H6]at h;exact t7 h
   .cases h
  .cases h
 .cases h
def A0H{P:Program}{m m':Mem}(h:BC P m s t x=some (v,m')):m'.lg=m.lg:=by
 unfold BC at h;split at h
 .cases h;rfl
 .cases h;rfl
 .cases h;rfl
 .split at h
  .split at h
   .rw[H6]at h;exact t7 h
   .cases h
  .cases h
 .split at h<;>cases h;rfl
 .split at h
  .split at h
   .split at h<;>cases h;rfl
   .cases h
  .cases h
 .cases h
def MX{P:Program}{m m':Mem}(h:qO P m t t2 x y=some (v,m')):m'.lg=m.lg:=by
 unfold qO at h;split at h
 .rename_i B d2 _ _;cases j:cF d2 with
  | false=>rw[j]at h;cases h
  | true =>
  rw[j]at h;simp only[P1,D4]at h;split at h
  .rename_i i a n c _;split at h
   .rename_i k new z _ _;obtain⟨_,h⟩:=A3 h;cases q:Nat.beq k 0 with
    | true =>
      rw[q]at h;simp only[D7]at h;split at h
      .obtain⟨_,h⟩:=A3 h;cases h;rfl
      .obtain⟨_,h⟩:=A3 h;cases h;rfl
    | false =>
      rw[q]at h;simp only[D4]at h;split at h
      .obtain⟨_,h⟩:=A3 h;rw[H6]at h;exact t7 h
      .cases f:Nat.blt c L9 with
       | true =>
         rw[f]at h;simp only[D7]at h;cases A:Nat.ble (n+k) c with
         | true =>
           rw[A]at h;simp only[D7]at h;split at h
           .rename_i m1 _ hw;cases h;exact qS hw
           .cases h
         | false =>
           rw[A]at h;simp only[D4]at h;split at h
           .rw[H6]at h;exact t7 h
           .cases h
       | false =>
         rw[f]at h;simp only[D4]at h;obtain⟨_,h⟩:=A3 h;split at h
         .obtain⟨_,h⟩:=A3 h;rw[H6]at h;rw[t7 h,c9]
         .cases h
   .cases h
  .cases h
 .cases h
def A0E{P:Program}{m m':Mem}(h:JE P m t x y=some (v,m')):m'.lg=m.lg:=by
 unfold JE at h;split at h
 .split at h
  .split at h
   .split at h
    .obtain⟨_,h⟩:=A3 h;cases h;rfl
    .rename_i k cs j _ n;cases f:Nat.beq cs.length 0 with
     | true=>rw[f]at h;cases h;rfl
     | false =>
       rw[f]at h;simp only[D4]at h;obtain⟨_,h⟩:=A3 h;split at h
       .rename_i hw;cases h;exact qS hw
       .cases h
   .cases h
  .cases h
 .cases h
def yH{P:Program}{m m':Mem}{l:Value}(h:dK P m pt p l=some (v,m')):m'.lg=m.lg:=by
 unfold dK at h;split at h
 .cases h;rfl
 .split at h
  .split at h
   .obtain⟨_,h⟩:=A3 h;split at h
    .split at h
     .rename_i W6;cases h;exact cU W6
     .cases h
    .cases h
   .cases h
  .cases h
 .cases h
def JS{P:Program}{m m':Mem}(h:gJ P m b vs tys=some (v,m')):m'.lg=m.lg:=by
 unfold gJ at h;split at h
 .exact j7 h
 .exact j7 h
 .exact MX h
 .exact A0E h
 .exact j7 h
 .exact j7 h
 .unfold gW at h;split at h
  .cases h;rfl
  .rename_i a n c;cases f:Nat.beq n 0 || Nat.beq c 0 || Nat.beq c (L9+2)with
   | true=>rw[f]at h;cases h
   | false=>rw[f]at h;cases h;rfl
  .cases h
 .exact yH h
 .cases h
def A5B{P:Program}{fr:Fr}{m m':Mem}{o:Op}(h:opM P fr m o=some (v,m')):m'.lg=m.lg:=by
 unfold opM at h;split at h
 .cases h;rfl
 .cases h;rfl
 .unfold OH at h;split at h<;>cases h<;>rfl
 .unfold CV at h;split at h
  .exact t7 h
  .cases h
 .unfold WH at h;obtain⟨_,h⟩:=A3 h;exact t7 h
 .exact j7 h
 .exact xX h
 .unfold OI at h;split at h
  .exact j7 h
  .cases h
 .unfold CT at h;split at h
  .obtain⟨h,_⟩:=lY h;exact RB h
  .cases h
 .unfold WG at h;split at h<;>cases h<;>rfl
 .unfold A1X at h;rename_i op t x y j;cases f:wW op with
  | true=>rw[f]at h;simp only[D7]at h;obtain⟨_,h⟩:=A3 h;exact j7 h
  | false=>rw[f]at h;exact j7 h
 .exact j7 h
 .exact A0H h
 .unfold CU at h;split at h
  .split at h
   .cases h
   .obtain⟨_,h⟩:=A3 h;cases h;rfl
  .cases h
 .cases h;rfl
 .exact yW h
 .exact j7 h
 .exact j7 h
 .exact j7 h
 .exact j7 h
 .exact j7 h
 .unfold kB at h;split at h
  .exact j7 h
  .cases h
 .exact JS h
 .cases h
def H4{m m':Mem}{t:Nat}{op:LOp}(h:S5 m t op xs=some (v,m')):m.lg.le m'.lg:=by
 obtain⟨_,rfl⟩:=hZ h;obtain⟨H,n,W,hi,l⟩:=m;exact⟨[_],rfl⟩
def J1(m m':Mem):Prop:=∃ lg,m'=m.wLg lg
def J1.refl(m:Mem):J1 m m:=⟨m.lg,by cases m;rfl⟩
def J1.trans{a b c:Mem}(h:J1 a b)(k:J1 b c):J1 a c:=by
 obtain⟨l,rfl⟩:=h;obtain⟨l2,rfl⟩:=k;exact⟨l2,by cases a;rfl⟩
def G8{m m':Mem}{t:Nat}{op:LOp}(h:S5 m t op xs=some (v,m')):J1 m m':=⟨_,(hZ h).2⟩
section
variable {P:Program} {base:Nat} {ρ:Ren} {m m':Mem} {w:World}
def KK{a b:Value}(h:uE m c a b=some (v,m')):m.lg.le m'.lg/\J1 m m':=by
 obtain⟨H,n,W,hi,lg⟩:=m;unfold uE at h;simp only at h;split at h
 .rename_i j f;cases h;exact⟨eF f,⟨_,rfl⟩⟩
 .rename_i j f;cases h;exact⟨eF f,⟨_,rfl⟩⟩
 .cases h
def QZ{a b:Value}(h:nD P m op t a b=some (v,m')):m.lg.le m'.lg/\J1 m m':=by
 unfold nD at h;simp only at h;cases h1:(Nat.blt (G1 a) 8 && Nat.blt (G1 b) 8) || (Nat.beq (G1 a) 9 && Nat.beq (G1 b) 9)with
 | true=>rw[h1]at h;exact⟨H4 h,G8 h⟩
 | false =>
   rw[h1]at h;simp only[D4]at h;obtain⟨_,h⟩:=A3 h;exact⟨H4 h,G8 h⟩
def TU{x y:Operand}{a b:Value}(h:FU P m op t x y a b=some (v,m')):m.lg.le m'.lg/\J1 m m':=by
 unfold FU at h;obtain⟨_,h⟩:=A3 h;split at h
 .exact⟨H4 h,G8 h⟩
 .split at h
  .rename_i m1 h1;exact⟨(H4 h1).trans (H4 h),(G8 h1).trans (G8 h)⟩
  .cases h
 .cases h
def FT{i:Value}(h:Z8 P m t x i=some (v,m')):m.lg.le m'.lg/\J1 m m':=by
 unfold Z8 at h;cases f:!(Nat.blt (G1 i) 8)with
 | true=>rw[f]at h;cases h
 | false =>
   rw[f]at h;simp only[D4]at h;split at h
   .obtain⟨_,h⟩:=A3 h;exact⟨H4 h,G8 h⟩
   .split at h
    .obtain⟨_,h⟩:=A3 h;exact⟨H4 h,G8 h⟩
    .obtain⟨_,h⟩:=A3 h;exact⟨H4 h,G8 h⟩
    .cases h
   .cases h
def FQ(h:jQ P m t x lo hi mx=some (v,m')):m.lg.le m'.lg/\J1 m m':=by
 unfold jQ at h;split at h
 .obtain⟨_,h⟩:=A3 h;split at h
  .cases h;exact⟨.refl _,.refl _⟩
  .obtain⟨_,h⟩:=A3 h;exact⟨H4 h,G8 h⟩
  .obtain⟨_,h⟩:=A3 h;exact⟨H4 h,G8 h⟩
  .obtain⟨_,h⟩:=A3 h;exact⟨H4 h,G8 h⟩
 .cases h
def TR{op:UnOp}(h:FO m op x=some (v,m')):m.lg.le m'.lg/\J1 m m':=by
 unfold FO at h;simp only at h;split at h
 .obtain⟨_,h⟩:=A3 h;exact⟨H4 h,G8 h⟩
 .obtain⟨_,h⟩:=A3 h;exact⟨H4 h,G8 h⟩
def KO(h:oK P m s t x=some (v,m')):m.lg.le m'.lg/\J1 m m':=by
 unfold oK at h;split at h
 .obtain⟨_,h⟩:=A3 h;exact⟨H4 h,G8 h⟩
 .obtain⟨_,h⟩:=A3 h;cases h;exact⟨.refl _,.refl _⟩
 .cases h
def yQ(h:dO P m b vs tys=some (v,m')):m.lg.le m'.lg/\J1 m m':=by
 unfold dO at h;split at h
 .split at h
  .obtain⟨_,h⟩:=A3 h;exact⟨H4 h,G8 h⟩
  .cases h
 .obtain⟨_,h⟩:=A3 h;exact⟨H4 h,G8 h⟩
 .obtain⟨_,h⟩:=A3 h;exact⟨H4 h,G8 h⟩
 .cases h
def PL{s n:Nat}{i:Value}(h:SH m a s n i=some (v,m')):m.lg.le m'.lg/\J1 m m':=by
 unfold SH at h;cases j:!(Nat.blt (G1 i) 8)with
 | true=>rw[j]at h;cases h
 | false =>
   rw[j]at h;simp only[D4]at h;split at h
   .rename_i b H k W hi lg q;split at h
    .rename_i f C;cases h;have h1:=H4 q;obtain⟨l1,A⟩:=G8 q;refine⟨h1.trans (eF C),f,?_⟩;obtain⟨H0,n0,D,B,l0⟩:=m;cases A;rfl
    .cases h
   .cases h
def yM{i:Value}(h:dL P m t x i=some (v,m')):m.lg.le m'.lg/\J1 m m':=by
 unfold dL at h;split at h
 .split at h
  .exact PL h
  .cases h
 .split at h
  .generalize f:Nat.beq _ (L9+2)=q at h;cases q with
   | true=>cases h
   | false=>exact PL h
  .cases h
 .cases h
def yO(h:dN P m s x i=some (v,m')):m.lg.le m'.lg/\J1 m m':=by
 unfold dN at h;split at h
 .split at h
  .split at h
   .split at h
    .cases h;exact⟨.refl _,.refl _⟩
    .cases h
   .cases h
  .cases h
 .cases h
def eR{cs:C8}{s n:Nat}{i:Value}:∀ {k o:Nat} {m m':Mem} {r:C8},bN m cs s n i o k=some (r,m')->m.lg.le m'.lg/\J1 m m'
 | 0,o,m,m',r,h=>by cases h;exact⟨.refl _,.refl _⟩
 | k+1,o,m,m',r,h=>by
   unfold bN at h;split at h
   .obtain⟨_,h⟩:=A3 h;split at h
    .rename_i m1 h1;split at h
     .rename_i f;cases h
      have:=eR f;exact⟨(H4 h1).trans this.1,(G8 h1).trans this.2⟩
     .cases h
    .cases h
   .cases h
def KM(h:oJ P m t x=some (v,m')):m.lg.le m'.lg/\J1 m m':=by
 unfold oJ at h;split at h
 .split at h
  .split at h
   .split at h
    .rename_i h1;cases h;exact eR h1
    .cases h
   .cases h
  .split at h
   .split at h
    .rename_i h1;cases h;exact eR h1
    .cases h
   .cases h
  .cases h
 .cases h
def NK{fr:Fr}{o:Op}(h:TS P fr m o=some (v,m')):m.lg.le m'.lg/\J1 m m':=by
 unfold TS at h;split at h
 .exact KK h
 .split at h
  .rename_i r hr;cases h;exact QZ hr
  .exact TU h
 .exact TR h
 .exact KO h
 .exact FQ h
 .exact FT h
 .exact yM h
 .exact yO h
 .exact KM h
 .exact yQ h
 .cases h
def pM{j k:IntKind}(h:gD j=gD k):j=k:=by cases j<;>cases k<;>first|rfl|(simp only[gD]at h;omega)
def QY{x y:Operand}{a b:Value}(h:nD P m op t a b=some (v,m'))(H:VR ρ a a')(D:VR ρ b b')(K:Sat m'.lg)(w:World) :
  ∃ r,(do eqGuard op t x y a' b';binOp op t a' b':Sem Value).run P w=.ok r w/\VR ρ v r:=by
 have fin:∀ {r:Value} {p q:Value},vJ p=true->vJ q=true->qM P op t p q=some r->a'=p->b'=q->(do eqGuard op t x y a' b';binOp op t a' b':Sem Value).run P w=.ok r w:=fun{r p q} hp I hr f C=>by
  subst f;subst C;have v1:VR ρ a' a':=.pure (by cases a'<;>simp[vJ]at hp<;>rfl);have v2:VR ρ b' b':=.pure (by cases b'<;>simp[vJ]at I<;>rfl);have g:kP P t x y a' b'=true:=by
   cases a'<;>simp[vJ]at hp<;>cases b'<;>simp[vJ]at I<;>rfl
  have Q:=pY (op:=op) (fun _=>g) v1 v2 w;obtain⟨A,_⟩:=uP hr v1 v2 w;simp[A4,Q,A,Result.andThen]
 unfold nD at h;simp only at h;cases h1:(Nat.blt (G1 a) 8 && Nat.blt (G1 b) 8) || (Nat.beq (G1 a) 9 && Nat.beq (G1 b) 9)with
 | true =>
   rw[h1]at h;obtain⟨u,f,C,r,B,G,O⟩:=L3 h K;have M:F7 u<10:=by rw[C];exact O
   refine⟨r,?_,G ρ⟩;rcases I1 _ _▸h1 with h1|h1
   .obtain⟨E,F⟩:=B4 h1;obtain⟨k,n,rfl,f1,_⟩:=L6 H (A1 E);obtain⟨j,R,rfl,f2,_⟩:=L6 D (A1 F);simp only[C3,F6,f1,f2,evU,evB]at f;subst f;obtain⟨N,g1,g2⟩:=CS M;rw[B]at g2;cases g2;exact fin rfl rfl (by unfold qM;exact g1) rfl rfl
   .obtain⟨E,F⟩:=B4 h1;obtain⟨s1,rfl,f1⟩:=g9 H (A0 E);obtain⟨s2,rfl,f2⟩:=g9 D (A0 F);simp only[C3,F6,f1,f2,evU,evB]at f;subst f;obtain⟨N,g1,g2⟩:=CS M;rw[B]at g2;cases g2;exact fin rfl rfl (by unfold qM;exact g1) rfl rfl
 | false =>
   rw[h1]at h;simp only[D4]at h;obtain⟨A,h⟩:=A3 h;obtain⟨A,J⟩:=B4 A;obtain⟨A,L⟩:=B4 A;obtain⟨A,h3⟩:=B4 A;have hu:P.underlying t=some .bool:=by
    split at J
    .assumption
    .cases J
   obtain⟨u,f,C,r,B,G,_⟩:=L3 h K;refine⟨r,?_,G ρ⟩;obtain⟨p,rfl,f1⟩:=fU H (A0 A);obtain⟨q,rfl,f2⟩:=fU D (A0 h3);simp only[C3,F6,f1,f2,evU,evB]at f;cases op<;>simp only[wW]at L<;>first
    | cases L
    | skip
   .subst f;cases B;exact fin rfl rfl (by simp[qM,zU,eqM,hu]) rfl rfl
   .subst f;cases B;exact fin rfl rfl (by simp[qM,zU,eqM,hu]) rfl rfl
def tJ(e:Bool)(f:∃ cs,a'=.agg cs):binOp (bif e then .eql else .neq) t a' b'=(do let r <- Op.equal t a' b';pure (.bool (bif e then r else !r))):=by
 obtain⟨cs,rfl⟩:=f;cases e<;>cases b'<;>rfl
def TT{x y:Operand}{a b:Value}(h:FU P m op t x y a b=some (v,m'))(G:VR ρ a a')(M:VR ρ b b')(q:nD P m op t a b=none)(N:Sat m'.lg)(w:World) :
  ∃ r,(do eqGuard op t x y a' b';binOp op t a' b':Sem Value).run P w=.ok r w/\VR ρ v r:=by
 unfold FU at h;obtain⟨T,h⟩:=A3 h;have F:=pY (op:=op) (fun _=>T) G M w;have j:∀ {l},eqS P 20 t a b=some l->(op=.eql∨op=.neq)->∃ cs,a'=.agg cs:=fun{l} f L=>by
  unfold eqS at f;cases A:eA P t a b with
  | true =>
    unfold eA at A;unfold nD at q;simp only at q;split at A
    .rename_i hu;obtain⟨C,E⟩:=B4 A;rw[A0 C,A0 E,hu]at q;obtain⟨H,n,W,hi,⟨nx,pi,log⟩⟩:=m;rcases L with rfl|rfl<;>simp[wW,S5,E1,H6]at q
    .rename_i k hu;obtain⟨C,E⟩:=B4 A;have R:=K7 k;have U:Nat.blt (gD k) 8=true:=C4 R;rw[A0 C,A0 E,U]at q;obtain⟨H,n,W,hi,⟨nx,pi,log⟩⟩:=m;simp[S5,E1,H6]at q
    .obtain⟨C,E⟩:=B4 A;rw[A0 C,A0 E]at q;obtain⟨H,n,W,hi,⟨nx,pi,log⟩⟩:=m;simp[S5,E1,H6]at q
    .cases A
  | false =>
    rw[A]at f;simp only[D4]at f;split at f
    .obtain⟨cs',rfl,_⟩:=U5 G;exact⟨_,rfl⟩
    .obtain⟨cs',rfl,_⟩:=U5 G;exact⟨_,rfl⟩
    .cases f
 split at h
 .rename_i l f _;obtain⟨u,B,S,r,I,O,_⟩:=L3 h N;refine⟨r,?_,O ρ⟩;simp only[evU]at B;split at B
  .rename_i z J;subst B;cases I;have he:(Op.equal t a' b').run P w=.ok z w:=MI 20 t a b a' b' l z f J G M _ F1 w;have D:=tJ (t:=t) (b':=b') true (j f (.inl rfl));simp only[D7]at D;rw[D];simp[A4,F,he,Result.andThen]
  .subst B;cases I
 .rename_i l f _;split at h
  .rename_i hh m1 h1;have K:Sat m1.lg:=Q6.le N (H4 h);obtain⟨V,f1,f2,r1,f3,f4,_⟩:=L3 h1 K;obtain⟨u,B,S,r,I,O,_⟩:=L3 h N;refine⟨r,?_,O ρ⟩;simp only[evU]at f1;split at f1
   .rename_i z J;subst f1;cases f3;have hv:=r9 (ρ:=ρ) (f4 ρ) (by obtain⟨e,_⟩:=hZ h1;rw[e];show 8<10;omega);have:D3 Ora.env hh=.bool z:=by
     cases hu:D3 Ora.env hh<;>rw[hu]at hv<;>first|(cases hv.1;done)|skip
     all_goals (obtain⟨Q,_⟩:=hv;cases Q;rfl)
    simp only[C3,F6,this,evU,ev1,unM,ofV]at B;subst B;cases I;have he:(Op.equal t a' b').run P w=.ok z w:=MI 20 t a b a' b' l z f J G M _ F1 w;have D:=tJ (t:=t) (b':=b') false (j f (.inr rfl));simp only[D4]at D;rw[D];simp[A4,F,he,Result.andThen]
   .subst f1;cases f3
  .cases h
 .cases h
end
end
end Go.Sx
