import Derived.Test.YtbbicpheoakeeaaGreatDoorX1
import Derived.Laws.BytesString
set_option linter.all false
set_option maxRecDepth 100000
set_option maxHeartbeats 4000000
namespace Go.Sx
variable {e pt s t t2 ty:TypeId}{k:Nat->Value}{a' b' c c' p p' u v v' x x' y y' z:Value}{new new' old' vs vs' xs:D2}{d d2:TypeDesc}{a:Addr}{inf:TypeInfo}{ab':AB}{l l':Loc}{r:V9}{i:Nat}{op:BinOp}{tys:List TypeId}{b:Builtin}{hi lo mx o:Q6}{g:Operand->Value}
section
open Go
variable [Ora]
def NX(a b:Nat)(h:b<a):Builtin.nextslicecap a b<=3*a+4000:=by
 have grow:∀ r c,Builtin.growBy a r c<=max (c) (2*a+800):=by
  intro r;induction r with
  | zero=>intro c;simp only[Builtin.growBy];exact Nat.le_max_left _ _
  | succ r f =>
    intro c;simp only[Builtin.growBy];split
    .exact Nat.le_max_left _ _
    .have:=f (c+(c+768) / 4);refine C5 this ?_;rw[Nat.max_le];constructor
     .refine C5 ?_ (Nat.le_max_right _ _);omega
     .exact Nat.le_max_right _ _
 unfold Builtin.nextslicecap;split
 .omega
 .split
  .omega
  .have:=grow 4 b;refine C5 this ?_;rw[Nat.max_le];omega
section
variable {P:Program} {base:Nat} {ρ:Ren} {m m':Mem} {w:World}
def bM{w wd:World}(h:wd.heap=w.heap)(a:Addr):wd.cell? a=w.cell? a:=by simp[World.cell?,h]
def wK(ρ:Ren):∀ l:List UInt8,LR ρ (P6 l) (P6 l)
 | []=>.nil
 | b::r=>.cons (.pure rfl) (wK ρ r)
def uT{s k:Nat}(h:HR P base ρ m.H w)(f:eK m s y=some (k,new))(A:VR ρ y y') :
  (∀ wd,(Builtin.lenOf y').run P wd=.ok k wd)/\∃ new',LR ρ new new'/\∀ wd:World,wd.heap=w.heap->(Builtin.firstCells s k y').run P wd=.ok ⟨new'⟩ wd:=by
 unfold eK at f;split at f
 .rename_i n c;obtain⟨h1,q⟩:=A3 f;have h1:=A0 h1;subst h1;cases q;cases P8 A;exact⟨fun _=>rfl,[],.nil,fun _ _=>rfl⟩
 .rename_i a n c;split at f
  .rename_i cs hr;cases f;rcases P4 A with⟨l,D,_,_,rfl⟩|⟨l,c',D,_,_,_,_,rfl⟩|⟨a',c',_,rfl,_,rfl⟩
   .obtain⟨B,h1,q,h3⟩:=Z8 h hr D;exact⟨fun _=>rfl,B,h1,fun wd hw=>K2 q fun j v C=>by rw[bM hw];exact h3 j v C⟩
   .obtain⟨B,h1,q,h3⟩:=Z8 h hr D;exact⟨fun _=>rfl,B,h1,fun wd hw=>K2 q fun j v C=>by rw[bM hw];exact h3 j v C⟩
   .have:new=[]:=by
     unfold q8 at hr;split at hr
     .have:=(iZ hr).2;simp at this;exact this
     .cases hr
    subst this;refine⟨fun _=>rfl,[],.nil,fun wd _=>?_⟩;simp[Builtin.firstCells,loadCells,loadCellsFrom]
  .cases f
 .rename_i b;obtain⟨_,f⟩:=A3 f;cases f;cases U6 A;refine⟨fun _=>rfl,P6 b.data.toList,?_,fun wd _=>?_⟩
  .exact wK _ _
  .have e:((b.extract 0 b.size).data.map fun b=>Value.int .u8 b.toNat)=⟨P6 b.data.toList⟩:=by
    apply J1;simp[P6]
   show(pure ((b.extract 0 b.size).data.map fun b=>Value.int .u8 b.toNat):Sem V9).run P wd=_;rw[e];rfl
 .cases f
def A7B(h:cT d=true):(∃ e,d=.slice e)∨d=.string:=by cases d<;>first|cases h;done|exact .inl ⟨_,rfl⟩|exact .inr rfl
def gY{n k c:Nat}{a:Option Addr}(hu:P.underlying t=some (.slice e))(B:P.underlying t2=some d2)(C:cT d2=true)
  (hi:P.info? e=some inf) (H:∀ w,(zeroValue e).run P w=.ok z w) (hlen:∀ wd,(Builtin.lenOf x').run P wd=.ok k wd)
  (hold:∀ wd:World,wd.heap=w.heap->(Builtin.firstCells inf.size n (.slice a n c)).run P wd=.ok ⟨old'⟩ wd) (h:∀ wd:World,wd.heap=w.heap->(Builtin.firstCells inf.size k x').run P wd=.ok ⟨new'⟩ wd)
  (F:¬ n+k<=c) (J:(3*(n+k)+4000)*inf.bytes<=281474976710656) (hm:n+k<=1000000000) :
  ∃ nc,n+k<=nc/\(Builtin.append_ #[t,t2] ty #[.slice a n c,x']).run P w=.ok (.slice (some ⟨w.heap.size,0,none⟩) (n+k) nc) { w.drew with heap:=w.heap.push (.cells (⟨old'⟩++⟨new'⟩++Builtin.zeroCells z.cells (nc-(n+k))) e (0,0)) }:=by
 have I:G9 P e=some inf.size:=by simp[G9,hi]
 have A:Builtin.nextslicecap (n+k) c*inf.bytes<=281474976710656:=by
  have:=F6 inf.bytes (NX (n+k) c A2);omega
 let q:Question:=.appendCap (n+k) c e
 let nc:=q.cut (w.tape w.drawn q)
 have E:n+k<=nc:=by show n+k<=(n+k)+_;omega
 refine⟨nc,E,?_⟩;have D:(choose q).run P w=.ok nc w.drew:=by
  simp only[choose,Sem.run];rw[A7 (by simp[q,Question.forced])];rfl
 have j:∀ k w,(askRoom k).run P w=.ok () w:=fun k w=>by unfold askRoom;split<;>rfl
 unfold Builtin.append_;rcases A7B C with⟨K,rfl⟩|rfl
 all_goals simp only[I8,Q9,R0,A4,D1 hu,D1 B,Result.andThen,K9 I,Sem.run_pure,J6,if_false,hlen]
 all_goals
  have f:¬ (((n+k:Nat):Int)>IntKind.i64.max):=by simp[IntKind.max,IntKind.bits,IntKind.signed];omega
  simp only[A7 F,f,false_and,if_false,A4,Result.andThen,V1 hi];rw[A7 (show ¬ (Builtin.nextslicecap (n+k) c*inf.bytes>2 ^ 48) by simpa using A)];have G:w.drew.heap=w.heap:=rfl;simp only[A4,Sem.run_pure,Result.andThen,show(choose (.appendCap (n+k) c e)).run P w=.ok nc w.drew from D,j,hold _ G,h _ G,H,V1 hi,Bool.not_false,if_true];rfl
def mU{n k c:Nat}{w':World}(hu:P.underlying t=some (.slice e))(q:P.underlying t2=some d2)(j:cT d2=true)
  (hi:P.info? e=some inf) (hlen:∀ wd,(Builtin.lenOf x').run P wd=.ok k wd) (f:(Builtin.firstCells inf.size k x').run P w=.ok ⟨new'⟩ w)
  (hle:n+k<=c) (h:(storeCells (a.add (n*inf.size)) new').run P w=.ok () w') :
  (Builtin.append_ #[t,t2] ty #[.slice (some a) n c,x']).run P w=.ok (.slice (some a) (n+k) c) w':=by
 have A:G9 P e=some inf.size:=by simp[G9,hi]
 unfold Builtin.append_;rcases A7B j with⟨B,rfl⟩|rfl
 all_goals simp only[I8,Q9,R0,A4,D1 hu,D1 q,Result.andThen,K9 A,Sem.run_pure,J6,if_false,hlen]
 all_goals simp[A9 hle,A4,f,Result.andThen,h]
def uH(hu:P.underlying t=some (.slice e))(n:P.underlying t2=some d2)(j:cT d2=true)
  (hi:P.info? e=some inf) (hlen:∀ wd,(Builtin.lenOf x').run P wd=.ok 0 wd) (f:(Builtin.firstCells inf.size 0 x').run P w=.ok #[] w) :
  (Builtin.append_ #[t,t2] ty #[.slice none 0 0,x']).run P w=.ok (.slice none 0 0) w:=by
 have q:G9 P e=some inf.size:=by simp[G9,hi]
 unfold Builtin.append_;rcases A7B j with⟨h,rfl⟩|rfl
 all_goals simp only[I8,Q9,R0,A4,D1 hu,D1 n,Result.andThen,K9 q,Sem.run_pure,J6,if_false,hlen]
 all_goals simp[A4,f,Result.andThen]
def St.kill{ab:AB}{id:Nat}(h:HR P base ρ m.H w)(hle:id<=H6)(D:Hp.get m.H id=some ab)(C:ab.rw=true):St P base ρ ρ m (jS m id) w w:=by
 rw[i7];refine⟨fun _ _ h=>h,fun b k h1 A=>(by rw[h1]at A;cases A),A6 _,A6 _,fun h=>h,h.sub fun n f a j=>?_,fun b E=>C3 _ E,fun b h1 A k B=>?_,fun k B F=>rfl,A6 _,⟨rfl,rfl,rfl⟩,fun b k h1 A=>(by rw[h1]at A;cases A),fun n f J K=>?_,fun k ⟨n,a,q,f,j,G,I⟩=>.inr ⟨n,a,q,f,?_,G,I⟩⟩
 .rw[F0 _ _ _ _ hle f]at j;by_cases e:n=id
  .rw[A9 e]at j;cases j
  .rw[A7 e]at j;exact j
 .rcases B4.1 h1 with rfl|h1
  .exact⟨ab,D,C⟩
  .exact absurd h1 A
 .rw[F0 _ _ _ _ hle f,A7];intro e;subst e;exact J B3
 .have j:Hp.get (m.H.set id none) n=some a:=j;rw[F0 _ _ _ _ hle f]at j;by_cases e:n=id
  .rw[A9 e]at j;cases j
  .rw[A7 e]at j;exact j
def St.grow{ab:AB}{id:Nat}{w':World}(h:HR P base ρ m.H w)(hle:id<=H6)(Y:Hp.get m.H id=some ab)(F:ab.rw=true)(W:ρ id=some l)(D:l.on=true)
  (hn:Z3 (jS m id) ab' k=some (v,m')) (hf:K1 ρ m.n m'.hi)
  (ho:w'.os=w.os/\w'.tape=w.tape/\w'.output=w.output) (ax:w'.heap.size=w.heap.size) (X:∀ k,k≠l.blk->w'.heap[k]? = w.heap[k]?) (Z:BR P (upd ρ m.n l) ab' l w') (aw:ab'≠.frz:=by intro h;cases h) :
  v=k m.n/\St P base ρ (upd ρ m.n l) m m' w w':=by
 rw[i7]at hn;obtain⟨U,hv,rfl⟩:=L6 hn;have B:ρ m.n=none:=hf m.n (A6 _) (L1 _ _).2;have C:=W9 (l:=l) B;obtain⟨O,h3⟩:=h.atl W Y;have R:∀ k,Tc ab' l k->k=l.blk:=fun k X=>by
  rcases X with⟨_,_,rfl⟩|⟨rfl,_⟩
  .rfl
  .exact absurd rfl aw
 have av:id≠m.n:=fun e=>by subst e;rw[W]at B;cases B
 have A:∀ i,i<=H6->Hp.get ((m.H.set id none).set m.n (some ab')) i=if i=m.n then some ab' else if i=id then none else Hp.get m.H i:=fun i hi=>by
  rw[F0 _ _ _ _ U hi,F0 _ _ _ _ hle hi]
 refine⟨hv,C,fun b q h1 O=>?_,W7 _,(L1 _ _).1,fun _=>Y7 (L1 _ _).2,⟨fun b q E=>?_,fun i hi a f=>?_⟩,fun b Z=>C3 _ Z,fun b h1 O q E=>?_,fun q E az=>X q ?_,by rw[ax];exact A6 _,ho,fun b q h1 O _=>?_,fun i hi h4 S=>?_,fun k ⟨i,a,q,hi,f,E,ht⟩=>.inr ?_⟩
 .obtain⟨rfl,rfl⟩:=U4 h1 O;exact⟨A6 _,J2 _⟩
 .cases h0:ρ b with
  | some q0 =>
    rw[C b q0 h0]at E
    have:=A8 E;subst this;exact h.dom b q0 h0
  | none=>obtain⟨rfl,rfl⟩:=U4 E h0;exact U
 .have f:Hp.get ((m.H.set id none).set m.n (some ab')) i=some a:=f;rw[A i hi]at f;have T:∀ j,j<=H6->∀ J l2,Hp.get ((m.H.set id none).set m.n (some ab')) j=some J->upd ρ m.n l j=some l2->Tc J l2 l.blk->j=m.n:=fun j K J l2 g1 g2 g3=>by
   rw[A j K]at g1;by_cases e2:j=m.n
   .exact e2
   .rw[A7 e2]at g1;unfold upd at g2;rw[A7 e2]at g2;by_cases I:j=id
    .rw[A9 I]at g1;cases g1
    .rw[A7 I]at g1;exact absurd ((h3 F D).2 j K J l2 g1 g2 g3) I
  by_cases e:i=m.n
  .rw[A9 e]at f;have f:=A8 f;subst f;subst e;exact⟨l,L8 _ _ _,Z,fun _ _=>⟨(h3 F D).1,T⟩⟩
  .rw[A7 e]at f;by_cases I:i=id
   .rw[A9 I]at f;cases f
   .rw[A7 I]at f;obtain⟨l2,g1,g2,g3⟩:=h.at_ i hi a f;have Q:∀ k,Tc a l2 k->k≠l.blk:=fun k M hh=>I ((h3 F D).2 i hi a l2 f g1 (hh▸M))
    refine⟨l2,C _ _ g1,g2.mono C (fun k M=>X _ (Q k M)),fun hr N=>⟨(g3 hr N).1,fun G L V l3 f1 f2 f3=>?_⟩⟩;have f1:Hp.get ((m.H.set id none).set m.n (some ab')) G=some V:=f1;rw[A G L]at f1;by_cases e4:G=m.n
    .subst e4;rw[L8]at f2
     have:=A8 f2;subst this;rw[A9 rfl]at f1;have f1:=A8 f1;subst f1;exact absurd (R _ f3) (Q _ (.inl ⟨AB.rw_on hr,N,rfl⟩))
    .rw[A7 e4]at f1;unfold upd at f2;rw[A7 e4]at f2;by_cases e5:G=id
     .rw[A9 e5]at f1;cases f1
     .rw[A7 e5]at f1;exact(g3 hr N).2 G L V l3 f1 f2 f3
 .rcases B4.1 h1 with rfl|h1
  .exact⟨ab,Y,F⟩
  .exact absurd h1 O
 .exact fun e=>az id B3 l W D e.symm
 .obtain⟨rfl,rfl⟩:=U4 h1 O;exact .inr ⟨id,B3,q,W,D,rfl⟩
 .have ay:=A i hi;show Hp.get ((m.H.set id none).set m.n (some ab')) i=_;rw[ay,A7,A7]
  .intro e;subst e;exact h4 B3
  .intro e;subst e;rcases S with S|S
   .omega
   .have S:upN m.hi m.n<=m.n:=S
    have:=(L1 m.hi m.n).2;omega
 .have f:Hp.get ((m.H.set id none).set m.n (some ab')) i=some a:=f;rw[A i hi]at f;by_cases e:i=m.n
  .rw[A9 e]at f;have f:=A8 f;subst f;subst e;rw[L8]at E;have E:=A8 E;subst E;exact⟨id,ab,l,hle,Y,W,AB.rw_fr F,.inl ⟨AB.rw_on F,D,(R k ht.2).symm⟩⟩
  .rw[A7 e]at f;unfold upd at E;rw[A7 e]at E;by_cases I:i=id
   .rw[A9 I]at f;cases f
   .rw[A7 I]at f;exact⟨i,a,q,hi,f,E,ht⟩
def FE{s k:Nat}(h:HR P base ρ m.H w)(f:eK m s y=some (k,new))(n:z.cells.size=s):new.length=k*s:=by
 unfold eK at f;split at f
 .obtain⟨_,q⟩:=A3 f;cases q;simp
 .split at f
  .rename_i cs hr;cases f;unfold q8 at hr;split at hr
   .exact(iZ hr).2
   .cases hr
  .cases f
 .rename_i b;obtain⟨j,f⟩:=A3 f;have j:=A0 j;subst j;cases f;simp[P6]
 .cases f
def KR(h:new'[i]? = some u):(({ toList:=[] }:Array Value)++⟨new'⟩++r)[i]? = some u:=by
 have f:=(B0.1 h).1;rw[S9 (by simp;exact f)]
 simpa using h
def dW(h:(old'++new')[i]? = some u):(({ toList:=old' }:Array Value)++⟨new'⟩++r)[i]? = some u:=by
 have f:=(B0.1 h).1;rw[S9 (by simpa using f)]
 simpa using h
def dV{s k n nc:Nat}(h1:new'.length=k*s)(f:n+k<=nc)(j:z.cells.size=s)(q:old'.length=n*s) :
  nc*s<=(({ toList:=old' }:Array Value)++⟨new'⟩++Builtin.zeroCells z.cells (nc-(n+k))).size:=by
 simp[Builtin.zeroCells,q,h1,j];rw[<- H5,<- H5];exact F6 _ A2
def PI(h:HR P base ρ m.H w)(hb:base<=w.heap.size)(f:sL P m t t2 x y=some (v,m'))(hf:K1 ρ m.n m'.hi)(hx:VR ρ x x')(hy:VR ρ y y') :
  VOk P base ρ m w (Builtin.append_ #[t,t2] ty #[x',y']) v m':=by
 unfold sL at f;split at f
 .rename_i e d2 hu I;cases D:cT d2 with
  | false=>rw[D]at f;cases f
  | true =>
  rw[D]at f;simp only[Q3,D7]at f;split at f
  .rename_i inf a n c hi;split at f
   .rename_i k new z V hz;obtain⟨g1,f⟩:=A3 f;obtain⟨g1,g4⟩:=B6 g1;obtain⟨g1,g3⟩:=B6 g1;obtain⟨g1,g2⟩:=B6 g1;have g1:=A1 g1;have g2:=A1 g2;have g3:=A0 g3;obtain⟨hlen,new',J,F⟩:=uT h V hy;have Z:∀ w,(zeroValue e).run P w=.ok z w:=fun w=>v7 hz w
    have O:new'.length=k*inf.size:=by rw[<- J.1];exact FE h V g3
    have au:M9=9223372036854775808:=rfl;cases hk:Nat.beq k 0 with
    | true =>
      have hk:=A0 hk;subst hk;have an:Nat.beq 0 0=true:=rfl;simp only[an,E3]at f;have av:new'=[]:=F8.1 (by rw[O];simp);subst av;cases a with
      | none =>
        simp only at f;obtain⟨E,f⟩:=A3 f;obtain⟨E,G⟩:=B6 E;have E:=A0 E;have G:=A0 G;subst E;subst G;cases f;cases P8 hx;exact VOk.same h (uH hu I D hi hlen (F w rfl)) (.pure rfl)
      | some S =>
        simp only at f;obtain⟨E,f⟩:=A3 f;obtain⟨E,G⟩:=B6 E;have E:=A1 E;have G:=A1 G;cases f;rcases P4 hx with⟨l,U,Q,hc,rfl⟩|⟨l,c',U,Q,hc,hn,A,rfl⟩|⟨a',c',_,_,he,_⟩
        .exact VOk.same h (mU hu I D hi hlen (F w rfl) A2 rfl) (by simpa using hx)
        .exact VOk.same h (mU hu I D hi hlen (F w rfl) A2 rfl) (by simpa using hx)
        .omega
    | false =>
      have ai:k≠0:=fun e=>by subst e;cases hk
      simp only[hk,D7]at f;cases a with
      | none =>
        simp only at f;obtain⟨E,f⟩:=A3 f;obtain⟨E,G⟩:=B6 E;have E:=A0 E;have G:=A0 G;subst E;subst G;rw[H9]at f;cases P8 hx;obtain⟨nc,K,hr⟩:=gY (ty:=ty) (c:=0) (a:=none) (old':=[]) hu I D hi Z hlen (fun _ _=>rfl) F A2 g1 g2;have aq:∀ B,P.info? e=some B->nc*B.size<=(({ toList:=[] }:Array Value)++⟨new'⟩++Builtin.zeroCells z.cells (nc-(0+k))).size:=fun B L=>by
         rw[hi]at L;cases L;exact dV O K g3 (by simp)
        obtain⟨Y,e2,X⟩:=dU (wd:=w.drew) (fz:=(0,0)) (cap:=nc) h hb f hf J (fun i u hi=>by
         show(({ toList:=[] }:Array Value)++⟨new'⟩++Builtin.zeroCells z.cells (nc-(0+k)))[i]? = some u;exact KR hi) NF.zero aq ⟨rfl,rfl,rfl⟩ rfl
        refine⟨_,_,_,hr,?_,X⟩;rw[Y,F4]
        have:=VR.op (ρ:=upd ρ m.n (lc w.heap.size 0 nc)) (b:=m.n) (o:=0) (n:=k) (m:=M9) (m':=nc) e2 (A6 _) A2 (fun _ _=>rfl)
        simpa using this
      | some S =>
        simp only at f;cases W:Nat.blt c M9 with
        | true =>
          have aj:c<M9:=A1 W;simp only[W,E3]at f;rcases P4 hx with⟨l,U,Q,hc,rfl⟩|⟨l,c',U,Q,hc,hn,A,rfl⟩|⟨a',c',_,_,he,_⟩
          .cases q:Nat.ble (n+k) c with
           | true =>
             have N:=A1 q;simp only[q,E3]at f;split at f
             .rename_i m2 hw;cases f;rw[dN]at hw;obtain⟨w',h1,L⟩:=pB h hw U J;refine⟨_,ρ,w',mU hu I D hi hlen (F w rfl) N ?_,?_,L⟩
              .rw[Y0,show S.off+l.sh+n*inf.size=S.off+n*inf.size+l.sh by omega];exact h1
              .obtain⟨ab,ao,ag⟩:=S;simp only at Q;subst Q;exact .sl U hc
             .cases f
           | false =>
             have N:¬ n+k<=c:=fun hle=>by rw[show Nat.ble (n+k) c=true from C6 hle]at q;cases q
             simp only[q,D7]at f;split at f
             .rename_i old hold;rw[H9]at f;obtain⟨old',o1,o2,o3⟩:=Z8 h hold U;have M:∀ wd:World,wd.heap=w.heap->(Builtin.firstCells inf.size n (.slice (some ⟨l.blk,S.off+l.sh,none⟩) n c)).run P wd=.ok ⟨old'⟩ wd:=fun wd hw=>K2 o2 fun j u hj=>by rw[bM hw];exact o3 j u hj
              obtain⟨nc,K,hr⟩:=gY (ty:=ty) hu I D hi Z hlen M F N g1 g2;obtain⟨Y,e2,X⟩:=dU (wd:=w.drew) (fz:=(0,0)) (cap:=nc) (C:=⟨old'⟩++⟨new'⟩++Builtin.zeroCells z.cells (nc-(n+k))) h hb f hf (o1.append J) (fun i u hi=>dW hi) NF.zero
               (fun B L=>by rw[hi]at L;cases L;exact dV O K g3 o2) ⟨rfl,rfl,rfl⟩ rfl
              refine⟨_,_,_,hr,?_,X⟩;rw[Y]
              have:=VR.op (ρ:=upd ρ m.n (lc w.heap.size 0 nc)) (b:=m.n) (o:=0) (n:=n+k) (m:=M9) (m':=nc) e2 (A6 _) K (fun _ _=>rfl)
              simpa using this
             .cases f
          .omega
          .omega
        | false =>
          simp only[W,D7]at f;obtain⟨q0,ax⟩:=A3 f;clear f;have f:=ax;clear ax;obtain⟨E,G⟩:=B6 q0;replace E:=A0 E;replace G:=A0 G;clear q0;split at f
          .rename_i cs T Q hg;obtain⟨p1,f⟩:=A3 f;rw[G6,G6,G6]at p1;obtain⟨⟨⟨p1,p2⟩,p3⟩,p4⟩:=p1;have p1:=A0 p1;have p2:=A0 p2;have p3:=A1 p3;have p4:S.block<m.n:=A1 p4;subst p2;rw[H9]at f;rcases P4 hx with⟨_,_,_,hc,_⟩|⟨l,c',U,_,_,hn,A,rfl⟩|⟨a',c',_,_,he,_⟩
           .omega
           .have A:=A E G;obtain⟨⟨az,C,fz,T',z2,z3,z4⟩,z5⟩:=h.atl U hg;obtain⟨rfl,z6,z7⟩:=z4 rfl;have z8:=(z7 inf hi).2;have z7:=(z7 inf hi).1;by_cases q:n+k<=c'
            ·
             have ay:(n+k)*inf.size<=c'*inf.size:=F6 _ q;rw[H5]at ay;obtain⟨w',r1,r2,r3,r4,r5⟩:=Z1 (P:=P) (b:=l.blk) (o:=n*inf.size+l.sh) (fz:=fz) new' 0 C w z2 (GE J g4) (by rw[O];subst A;omega) z6;obtain⟨Y,X⟩:=St.grow (w':=w') (l:=l) h p3 hg rfl U az f hf r2 r3 r5 (by
              have R:ρ m.n=none:=by
               rw[i7]at f;obtain⟨_,_,rfl⟩:=L6 f;exact hf m.n (A6 _) (L1 _ _).2
              refine⟨az,_,fz,_,r4,fun i u hi=>?_,fun _=>⟨rfl,z6.sz (by simp[Z2]),fun B L=>⟨by simpa [Z2]using(by rw[hi]at L;cases L;exact z7:l.sh+l.cap*B.size<=C.size),by rw[hi]at L;cases L;exact z8⟩⟩⟩;show ∃ u',(Array.mk (cB C.toList (n*inf.size+l.sh+0) new'))[l.sh+i]? = some u'/\_;have af:C.toList.length=C.size:=by simp
              rw[I8,lD _ _ _ _ (by rw[O];subst A;omega)];by_cases al:i<cs.length
              .rw[F2 al]at hi;rw[A7 A2];obtain⟨u',y1,y2⟩:=z3 i u hi;exact⟨u',by simpa using y1,y2.mono (W9 R)⟩
              .rw[E0 A2]at hi;have ah:=(B0.1 hi).1;have ak:=J.1;rw[A9 A2];obtain⟨u',y1,y2⟩:=J.get hi;exact⟨u',by rw[show l.sh+i-(n*inf.size+l.sh+0)=i-cs.length by omega];exact y1,y2.mono (W9 R)⟩)
             refine⟨_,_,w',mU (ty:=ty) hu I D hi hlen (F w rfl) q ?_,?_,X⟩
             .rw[Y0,G,show 0+l.sh+n*inf.size=n*inf.size+l.sh by omega];exact r1
             .rw[Y,G];exact .op (L8 _ _ _) (A6 _) q (fun _ _=>A)
            ·
             have aw:=St.kill h p3 hg rfl;have ar:K1 ρ (jS m S.block).n m'.hi:=by rw[i7];exact hf
             obtain⟨old',o1,o2⟩:=dT (ρ:=ρ) (C:=C) (cs:=cs) (s:=l.sh) z3;have oL:old'.length=n*inf.size:=by rw[<- o1.1];exact p1
             have M:∀ wd:World,wd.heap=w.heap->(Builtin.firstCells inf.size n (.slice (some ⟨l.blk,S.off+l.sh,none⟩) n c')).run P wd=.ok ⟨old'⟩ wd:=fun wd hw=>K2 oL fun j u hj=>by
              rw[bM hw,G]
              have:=o2 j u hj;simp[World.cell?,z2,this]
             obtain⟨nc,K,hr⟩:=gY (ty:=ty) hu I D hi Z hlen M F q g1 g2;obtain⟨Y,e2,X⟩:=dU (wd:=w.drew) (fz:=(0,0)) (cap:=nc) (C:=⟨old'⟩++⟨new'⟩++Builtin.zeroCells z.cells (nc-(n+k))) aw.hr hb f ar (o1.append J) (fun i u hi=>dW hi) NF.zero
              (fun B L=>by rw[hi]at L;cases L;exact dV O K g3 oL) ⟨rfl,rfl,rfl⟩ rfl
             refine⟨_,_,_,hr,?_,St.trans hf aw X⟩;rw[Y]
             have:=VR.op (ρ:=upd ρ (jS m S.block).n (lc w.heap.size 0 nc)) (b:=(jS m S.block).n) (o:=0) (n:=n+k) (m:=M9) (m':=nc) e2 (A6 _) K (fun _ _=>rfl)
             simpa using this
           .omega
          .cases f
   .cases f
  .cases f
 .cases f
end
end
section
open Go
variable [Ora]
section
variable {P:Program} {base:Nat} {ρ:Ren} {m m':Mem} {w:World}
def MM{op:UnOp}(h:unM op x=some v)(hx:VR ρ x x')(w:World):(Op.unary op x').run P w=.ok v w/\I4 v=true:=by
 unfold unM at h;split at h
 .cases J3 hx;cases h;exact⟨by simp[Op.unary,Op.intArith,y9],by simp[y9,I4]⟩
 .cases J3 hx;obtain⟨h1,f⟩:=aO (P:=P) h w;exact⟨by simpa [Op.unary]using h1,f⟩
 .cases cE hx;cases h;exact⟨rfl,rfl⟩
 .cases h
def A4H(f:A8T P t x=some v)(hx:VR ρ x x')(w:World):(Builtin.cap_ ⟨t::tys⟩ ty #[x']).run P w=.ok v w/\I4 v=true:=by
 unfold A8T at f;split at f
 .rename_i hu;cases P8 hx;cases f;exact⟨by simp[Builtin.cap_,A4,D1 hu,Result.andThen,goInt],rfl⟩
 .rename_i hu;obtain⟨j,f⟩:=A3 f;have j:_<M9:=A1 j;cases f;rcases P4 hx with⟨l,_,_,_,rfl⟩|⟨l,c',_,_,_,_,_,rfl⟩|⟨a',c',_,_,he,_⟩
  .exact⟨by simp[Builtin.cap_,A4,D1 hu,Result.andThen,goInt],rfl⟩
  .omega
  .omega
 .cases f
def RO(h:HR P base ρ m.H w)(f:A0V P m t x=some v)(hx:VR ρ x x'):(Builtin.len_ ⟨t::tys⟩ ty #[x']).run P w=.ok v w/\I4 v=true:=by
 unfold A0V at f;split at f
 .rename_i hu;cases U6 hx;cases f;refine⟨?_,rfl⟩;simp[Builtin.len_,A4,D1 hu,Result.andThen,goInt]
 .rename_i hu;cases f;refine⟨?_,rfl⟩;simp[Builtin.len_,A4,D1 hu,Result.andThen,goInt]
 .rename_i n c hu;cases f;refine⟨?_,rfl⟩;have j:∃ a' c',x'=.slice a' n c':=by
   cases hx with
   | pure _=>exact⟨_,_,rfl⟩
   | sl _ _=>exact⟨_,_,rfl⟩
   | op _ _ _ _=>exact⟨_,_,rfl⟩
   | opE _=>exact⟨_,_,rfl⟩
  obtain⟨a',c',rfl⟩:=j;simp[Builtin.len_,A4,D1 hu,Result.andThen,goInt]
 .rename_i hu;cases hx with|pure _=>?_
  cases f;refine⟨?_,rfl⟩;simp[Builtin.len_,A4,D1 hu,Result.andThen,goInt]
 .cases f
def RH{tys:Array TypeId}(f:A7i vs=some v)(hx:LR ρ vs vs')(w:World):(Builtin.max_ tys ty ⟨vs'⟩).run P w=.ok v w/\I4 v=true:=by
 unfold A7i at f;split at f
 .obtain⟨a',r1,rfl,h1,n⟩:=hx.tail;obtain⟨b',h,rfl,h3,j⟩:=n.tail;cases j.nil_inv;cases J3 h1;cases J3 h3;cases f;exact⟨by simp[Builtin.max_,Builtin.max2],rfl⟩
 .obtain⟨a',r1,rfl,h1,n⟩:=hx.tail;obtain⟨b',h,rfl,h3,j⟩:=n.tail;obtain⟨c',B,rfl,q,A⟩:=j.tail;cases A.nil_inv;rw[tM]at f;cases J3 h1;cases J3 h3;cases J3 q;cases f;exact⟨by simp[Builtin.max_,Builtin.max2],rfl⟩
 .cases f
def RF{tys:Array TypeId}(f:A7h vs=some v)(hx:LR ρ vs vs')(w:World):(Builtin.min_ tys ty ⟨vs'⟩).run P w=.ok v w/\I4 v=true:=by
 unfold A7h at f;split at f
 .obtain⟨a',r1,rfl,h1,n⟩:=hx.tail;obtain⟨b',h,rfl,h3,j⟩:=n.tail;cases j.nil_inv;cases J3 h1;cases J3 h3;cases f;exact⟨by simp[Builtin.min_,Builtin.min2],rfl⟩
 .obtain⟨a',r1,rfl,h1,n⟩:=hx.tail;obtain⟨b',h,rfl,h3,j⟩:=n.tail;obtain⟨c',B,rfl,q,A⟩:=j.tail;cases A.nil_inv;rw[tM]at f;cases J3 h1;cases J3 h3;cases J3 q;cases f;exact⟨by simp[Builtin.min_,Builtin.min2],rfl⟩
 .cases f
def AZ{tys:Array TypeId}(h:HR P base ρ m.H w)(q:iL m x=some (v,m'))(hx:VR ρ x x'):VOk P base ρ m w (Builtin.unsafeSliceData_ tys ty #[x']) v m':=by
 unfold iL at q;split at q
 .cases q;cases P8 hx;exact VOk.same h rfl (.pure rfl)
 .rename_i a n c;cases A:Nat.beq n 0 || Nat.beq c 0 || Nat.beq c (M9+2)with
  | true=>rw[A]at q;cases q
  | false =>
    rw[A]at q;simp only[D7,D3,L5]at q;obtain⟨rfl,rfl⟩:=q;simp only[Z6]at A;obtain⟨⟨E,C⟩,J⟩:=A;have E:n≠0:=fun e=>by subst e;cases E
    have C:c≠0:=fun e=>by subst e;cases C
    rcases P4 hx with⟨l,D,f,I,rfl⟩|⟨l,c',D,f,I,K,F,rfl⟩|⟨a',c',_,he,_,_⟩
    .refine VOk.same (v':=.pointer (some ⟨l.blk,a.off+l.sh,none⟩)) h ?_ ?_
     .have j:Builtin.unsafeSliceData_ tys ty #[.slice (some ⟨l.blk,a.off+l.sh,none⟩) n c]=(do
        if c≠0 then pure (.pointer (some ⟨l.blk,a.off+l.sh,none⟩))
        else if(<- viewAt l.blk).isSome then pure (.pointer (some ⟨l.blk,a.off+l.sh,none⟩))
        else pure (.pointer (some ⟨<- newObj (.view ⟨l.blk,a.off+l.sh,none⟩ (<- elemOf ty)),0,none⟩))):=rfl
      rw[j,A9 C];rfl
     .obtain⟨ab,G,B⟩:=a;simp only at f;subst f;exact .ptr D
    .refine VOk.same (v':=.pointer (some ⟨l.blk,a.off+l.sh,none⟩)) h ?_ ?_
     .have:c'≠0:=A2;have j:Builtin.unsafeSliceData_ tys ty #[.slice (some ⟨l.blk,a.off+l.sh,none⟩) n c']=(do
        if c'≠0 then pure (.pointer (some ⟨l.blk,a.off+l.sh,none⟩))
        else if(<- viewAt l.blk).isSome then pure (.pointer (some ⟨l.blk,a.off+l.sh,none⟩))
        else pure (.pointer (some ⟨<- newObj (.view ⟨l.blk,a.off+l.sh,none⟩ (<- elemOf ty)),0,none⟩))):=rfl
      rw[j,A9 this];rfl
     .obtain⟨ab,G,B⟩:=a;simp only at f;subst f;exact .ptr D
    .omega
 .cases q
def UO(h:HR P base ρ m.H w)(f:FC P m t x=some (v,m'))(hx:VR ρ x x'):VOk P base ρ m w (Instr.makeInterface t x') v m':=by
 unfold FC at f;split at f
 .rename_i d q;have n:(∀ ms,d≠.interface ms)->(Instr.makeInterface t x').run P w=.ok (.iface t x') w:=fun j=>by
   simp only[Instr.makeInterface,A4,D1 q,Result.andThen];cases d<;>first|rfl|exact absurd rfl (j _)
  split at f
  .cases f
  .rename_i j;obtain⟨_,f⟩:=A3 f;cases f;exact VOk.same h (n fun ms e=>j ms e) (.iface hx)
 .cases f
def A3F(j:ZW m x=some (v,m'))(hx:VR ρ x x'):m'=m/\VR ρ v x'/\((∃ a,x'=.pointer (some a))∨∃ f a b,x'=.func (.func f) a b):=by
 unfold ZW at j;split at j
 .cases j;obtain⟨l,_,_,rfl⟩:=O9 hx;exact⟨rfl,hx,.inl ⟨_,rfl⟩⟩
 .cases j;cases hx with
  | pure hp=>simp[I4]at hp
  | func _ _ _ _=>exact⟨rfl,by constructor<;>assumption,.inr ⟨_,_,_,rfl⟩⟩
 .cases j
def A1m(h:HR P base ρ m.H w)(j:LL P m t x y=some (v,m'))(hx:VR ρ x x')(G:VR ρ y y'):VOk P base ρ m w (Builtin.copy_ ⟨t::tys⟩ ty #[x',y']) v m':=by
 unfold LL at j;split at j
 .rename_i e a n c hu;split at j
  .rename_i s W;split at j
   .rename_i k cs f;have I:∃ a' c',x'=.slice a' n c':=by
     cases hx with
     | pure _=>exact⟨_,_,rfl⟩
     | sl _ _=>exact⟨_,_,rfl⟩
     | op _ _ _ _=>exact⟨_,_,rfl⟩
     | opE _=>exact⟨_,_,rfl⟩
    obtain⟨a',c',rfl⟩:=I;have D:∃ L cs',(Builtin.lenOf y').run P w=.ok L w/\Nat.min L n=k/\LR ρ cs cs'/\(Builtin.firstCells s k y').run P w=.ok ⟨cs'⟩ w:=by
     split at f
     .rename_i K _;obtain⟨q,f⟩:=A3 f;have q:=A0 q;subst q;cases f;cases P8 G;exact⟨0,[],rfl,by simp,.nil,rfl⟩
     .rename_i b K Y;split at f
      .rename_i r hr;cases f;rcases P4 G with⟨l,C,_,_,rfl⟩|⟨l,c',C,_,_,_,_,rfl⟩|⟨a',c',_,rfl,_,rfl⟩
       .obtain⟨J,h1,B,h3⟩:=Z8 h hr C;exact⟨K,J,rfl,rfl,h1,K2 B h3⟩
       .obtain⟨J,h1,B,h3⟩:=Z8 h hr C;exact⟨K,J,rfl,rfl,h1,K2 B h3⟩
       .have:cs=[]:=by
         unfold q8 at hr;split at hr
         .have:=(iZ hr).2;simp at this;exact this
         .cases hr
        subst this;exact⟨0,[],rfl,rfl,.nil,by simp[Builtin.firstCells,loadCells,loadCellsFrom]⟩
      .cases f
     .rename_i b;cases f;cases U6 G;refine⟨b.size,P6 (b.data.toList.take (Nat.min b.size n)),rfl,rfl,wK _ _,?_⟩;have e:((b.extract 0 (Nat.min b.size n)).data.map fun b=>Value.int .u8 b.toNat)=⟨P6 (b.data.toList.take (Nat.min b.size n))⟩:=by
       apply J1;simp[P6,gI]
      show(pure ((b.extract 0 (Nat.min b.size n)).data.map fun b=>Value.int .u8 b.toNat):Sem V9).run P w=_;rw[e];rfl
     .cases f
    obtain⟨L,cs',r1,T,N,U⟩:=D;have A:(Builtin.copy_ ⟨t::tys⟩ ty #[.slice a' n c',y']).run P w=(match a' with|some a=>(do storeCells a cs';pure (goInt k):Sem Value)|none=>pure (goInt k)).run P w:=by
     unfold Builtin.copy_;simp only[I8,Q9,R0,A4,D1 hu,K9 W,r1,T,U,Result.andThen];cases a' with
     | none=>rfl
     | some a=>rfl
    cases a with
    | none =>
      cases P8 hx;simp only at j;obtain⟨q,j⟩:=A3 j;have q:=A0 q;cases j;exact VOk.same h (by rw[A,q];rfl) (.pure rfl)
    | some Z =>
      simp only at j;cases E:Nat.beq cs.length 0 with
      | true =>
        rw[E]at j;cases j;have E:=A0 E;have:cs'=[]:=F8.1 (by rw[<- N.1];exact E);subst this;refine VOk.same h (v':=.int .i64 k) ?_ (.pure rfl);rw[A];cases a'<;>rfl
      | false =>
        rw[E]at j;simp only[D7]at j;obtain⟨F,j⟩:=A3 j;have F:=A1 F;split at j
        .rename_i m2 hw;cases j;rcases P4 hx with⟨l,C,M,V,he⟩|⟨l,c',C,M,V,R,Q,he⟩|⟨a2,X,_,R,S,he⟩
         .cases he;obtain⟨w',h1,B⟩:=pB h hw C N;exact⟨.int .i64 k,ρ,w',by rw[A];simp[A4,h1,Result.andThen,goInt],.pure rfl,B⟩
         .cases he;obtain⟨w',h1,B⟩:=pB h hw C N;exact⟨.int .i64 k,ρ,w',by rw[A];simp[A4,h1,Result.andThen,goInt],.pure rfl,B⟩
         .have O:M9=9223372036854775808:=rfl;omega
        .cases j
   .cases j
  .cases j
 .cases j
def oU:∀ {cs:D2} {l:List UInt8},bytesOf cs=some l->∃ f:List Int,cs=f.map (Value.int .u8)/\l=f.map fun n=>UInt8.ofNat n.toNat
 | [],l,h=>by simp only[bytesOf,D3]at h;subst h;exact⟨[],rfl,rfl⟩
 | v::r,l,h=>by
   unfold bytesOf at h;split at h
   .rename_i he;cases he
   .rename_i n q he;cases he;split at h
    .rename_i l0 h0;cases h;obtain⟨f,h1,j⟩:=oU h0;exact⟨n::f,by rw[h1];rfl,by rw[j];rfl⟩
    .cases h
   .cases h
def rL:∀ {f:List Int} {cs':D2},LR ρ (f.map (Value.int .u8)) cs'->cs'=f.map (Value.int .u8)
 | [],cs',h=>h.nil_inv
 | n::r,cs',h=>by
   obtain⟨v',q,rfl,h1,j⟩:=h.tail;cases J3 h1;rw[rL j];rfl
def oM:∀ (f:List Int) (acc:List UInt8),(f.foldl (fun r n=>r.push (UInt8.ofNat n.toNat)) (ByteArray.mk ⟨acc⟩))=⟨⟨acc++f.map fun n=>UInt8.ofNat n.toNat⟩⟩
 | [],acc=>by simp
 | n::r,acc=>by
   rw[List.foldl_cons];have:(ByteArray.mk ⟨acc⟩).push (UInt8.ofNat n.toNat)=⟨⟨acc++[UInt8.ofNat n.toNat]⟩⟩:=by
    show ByteArray.mk (Array.push ⟨acc⟩ _)=_;simp
   rw[this,oM r];simp
def A1p(h:HR P base ρ m.H w)(U:base<=w.heap.size)(f:DL P m s t x=some (v,m'))(Y:K1 ρ m.n m'.hi)(hx:VR ρ x x'):VOk P base ρ m w (convert s t x') v m':=by
 unfold DL at f;split at f
 .rename_i G k j n E B;cases J3 hx;simp only[D3,L5]at f;obtain⟨rfl,rfl⟩:=f;refine VOk.same (v':=.int k (k.wrap n)) h ?_ (by rw[y9,kK];exact .pure rfl);cases G<;>simp[convert,A4,D1 E,D1 B,Result.andThen,Conv.intToInt]
 .rename_i G b E B;cases U6 hx;cases f;refine VOk.same h ?_ (.pure rfl);cases G<;>simp[convert,A4,D1 E,D1 B,Result.andThen]
 .rename_i G j n E B;cases J3 hx;cases f;refine VOk.same (v':=.string (Utf8.encode n)) h ?_ (.pure rfl);cases G<;>simp[convert,A4,D1 E,D1 B,Result.andThen,Conv.intToString]
 .rename_i G e b E B;cases U6 hx;split at f
  .rename_i he;split at f
   .rename_i I;rw[H9]at f;let q:Question:=.appendCap b.size 0 e
    let cap:=q.cut (w.tape w.drawn q)
    have K:b.size<=cap:=by show b.size<=b.size+_;omega
    have S:(choose q).run P w=.ok cap w.drew:=by
     simp only[choose,Sem.run];rw[A7 (by simp[q,Question.forced])];rfl
    let C:V9:=(b.data.map fun b=>Value.int .u8 b.toNat)++Array.replicate (cap-b.size) (.int .u8 0)
    have hC:C.size=cap:=by
     have:b.data.size=b.size:=rfl;simp[C,this];omega
    obtain⟨V,M,X⟩:=dU (wd:=w.drew) (fz:=(C.size,C.size+1)) (cap:=cap) (C:=C) h U f Y (wK ρ b.data.toList) (fun i u hi=>by
      have N:=(B0.1 hi).1;simp[P6]at N;have O:i<(b.data.map fun b=>Value.int .u8 b.toNat).size:=by simpa using N
      show((b.data.map fun b=>Value.int .u8 b.toNat)++Array.replicate (cap-b.size) (.int .u8 0))[i]? = some u;rw[S9 O]
      simpa [P6]using hi) NF.end
     (fun inf J=>by
       have:inf.size=1:=by unfold G9 at I;rw[J]at I;exact A8 I
       rw[this,hC];omega) ⟨rfl,rfl,rfl⟩ rfl
    refine⟨.slice (some ⟨w.heap.size,0,none⟩) b.size cap,_,_,?_,?_,X⟩
    .have T:∀ w2:World,w2.heap[w.heap.size]? = some (.cells C e (0,0))->(markStringish ⟨w.heap.size,0,none⟩).run P w2=.ok () (w2.freeze { block:=w.heap.size,off:=C.size } 1):=fun w2 J=>by
      simp[markStringish,shape,freeze,Sem.run,World.shape?,J]
     have R:({ w.drew with heap:=w.heap.push (.cells C e (0,0)) }:World).freeze { block:=w.heap.size,off:=C.size } 1={ w.drew with heap:=w.heap.push (.cells C e (C.size,C.size+1)) }:=by
      unfold World.freeze;rw[A7 E6];congr 1;apply Array.ext_getElem?;intro i;rw[H3];by_cases hi:w.heap.size=i
      .subst hi;simp
      .rw[A7 hi];simp only[g7];rw[A7 (fun h=>hi h.symm),A7 (fun h=>hi h.symm)]
     have F:(convert s t (.string b)).run P w=(Conv.stringToBytes e b).run P w:=by
      cases G<;>simp[convert,A4,D1 E,D1 B,D1 he,Result.andThen]
     rw[F];unfold Conv.stringToBytes;simp only[A4,show(choose (.appendCap b.size 0 e)).run P w=.ok cap w.drew from S,Result.andThen];have Q:(newRow e C).run P w.drew=.ok ⟨w.heap.size,0,none⟩ { w.drew with heap:=w.heap.push (.cells C e (0,0)) }:=rfl;rw[show(newRow e ((b.data.map fun b=>Value.int .u8 b.toNat)++Array.replicate (cap-b.size) (.int .u8 0))).run P w.drew=_ from Q];simp only[Result.andThen];rw[T _ (by simp),R];rfl
    .rw[V];exact VR.op (o:=0) (m':=cap) M (A6 _) K (fun _ _=>rfl)
   .cases f
  .cases f
 .rename_i e n c E B;cases P8 hx;split at f
  .rename_i he;cases f;refine VOk.same h (v':=.string ByteArray.empty) ?_ (.pure rfl);simp[convert,A4,D1 E,D1 B,D1 he,Result.andThen,Conv.bytesToString]
  .cases f
 .rename_i e a n c E B;split at f
  .rename_i he;split at f
   .rename_i cs hr;split at f
    .rename_i l N;cases f;obtain⟨L,h1,J⟩:=oU N;have A:∀ a' c',(loadCells a' n).run P w=.ok (L.map (Value.int .u8)).toArray w->(convert s t (.slice (some a') n c')).run P w=.ok (.string ⟨⟨l⟩⟩) w:=fun a' c' D=>by
      have:=run_bytesToString w a' n c' L D;have M:=oM L [];simp only[G4]at M;simp only[convert,A4,D1 E,D1 B,D1 he,Result.andThen];rw[this,show ByteArray.empty=ByteArray.mk ⟨[]⟩from rfl,M,J]
     rcases P4 hx with⟨lc,D,_,_,rfl⟩|⟨lc,c',D,_,_,_,_,rfl⟩|⟨a',c',_,rfl,_,rfl⟩
     .obtain⟨W,g1,g2,g3⟩:=Z8 h hr D;rw[h1]at g1
      have:=rL g1;subst this;exact VOk.same h (A _ _ (K2 g2 g3)) (.pure rfl)
     .obtain⟨W,g1,g2,g3⟩:=Z8 h hr D;rw[h1]at g1
      have:=rL g1;subst this;exact VOk.same h (A _ _ (K2 g2 g3)) (.pure rfl)
     .have:cs=[]:=by
       unfold q8 at hr;split at hr
       .have:=(iZ hr).2;simpa using this
       .cases hr
      subst this;have:L=[]:=by cases L with|nil=>rfl|cons _ _=>cases h1
      subst this;exact VOk.same h (A _ _ (by simp[loadCells,loadCellsFrom])) (.pure rfl)
    .cases f
   .cases f
  .cases f
 .cases f
end
end
section
open Go
variable [Ora]
section
variable {P:Program} {base:Nat} {ρ:Ren} {m m':Mem} {w:World}
def yM(q:P.cellsOf e=1)(count off n:Nat)(j:off+n<=count):liesAt P P.depth e count off e n=true:=by
 have f:P.depth=(2*(P.types.size+Made.depth)+1)+1:=rfl;rw[f];simp only[liesAt,I9];left;rw[f];simp[rowAt,q,j,sameLayout,Nat.mod_one]
def eG:∀ (f:List Int) (b o:Nat) (acc:ByteArray),(∀ (j:Nat) (v:Value),(f.map (Value.int .u8))[j]? = some v->w.cell? ⟨b,o+j,none⟩=some v) ->
  (loadBytes ⟨b,o,none⟩ acc f.length).run P w=.ok ⟨acc.data++(f.map fun n=>UInt8.ofNat n.toNat).toArray⟩ w
 | [],b,o,acc,_=>by simp[loadBytes]
 | n::f,b,o,acc,h=>by
   have h0:w.cell? ⟨b,o,none⟩=some (.int .u8 n):=by simpa using h 0 _ rfl
   have A:=eG f b (o+1) (acc.push n.toNat.toUInt8) (fun j v q=>by
    have:=h (j+1) v (by simpa using q);rw[show o+1+j=o+(j+1) by omega];exact this)
   simp only[C7,loadBytes,A4,run_load,h0,Result.andThen,Y0];rw[A];have:(acc.push n.toNat.toUInt8).data=acc.data.push n.toNat.toUInt8:=rfl;rw[this];congr 2;apply J1;simp
def AM{l l':Value}(h:HR P base ρ m.H w)(f:eB P m pt p l=some (v,m'))(hp:VR ρ p p')(hl:VR ρ l l') :
  VOk P base ρ m w (Builtin.unsafeString_ ⟨pt::tys⟩ ty #[p',l']) v m':=by
 have F:IntKind.i64.max=9223372036854775807:=rfl;unfold eB at f;split at f
 .cases hp with|pure _=>?_
  cases J3 hl;cases f;refine VOk.same h (v':=.string ByteArray.empty) ?_ (.pure rfl);rename_i k _;have B:Builtin.unsafeString_ ⟨pt::tys⟩ ty #[.pointer none,.int k (.ofNat 0)] =
    (do
      let n <- asInt (.int k (.ofNat 0))
      if n<0 then runtimePanic (.error "unsafe.String: len out of range")
      if n>IntKind.i64.max then unsupported (.unsafePointer "String: a length above the largest int")
      if n=0 then pure (.string .empty)
      else runtimePanic (.error "unsafe.String: ptr is nil and len is not zero")):=rfl
  rw[B];simp[asInt,asIntOf,F]
 .rename_i a k n;cases J3 hl;obtain⟨lc,J,az,rfl⟩:=O9 hp;split at f
  .rename_i cs T G U;split at f
   .rename_i e S L;obtain⟨q,f⟩:=A3 f;obtain⟨q,Y⟩:=B6 q;obtain⟨q1,q2⟩:=B6 q;have q1:0<n:=A1 q1;have q2:=A1 q2;have Y:=A0 Y;subst Y;split at f
    .rename_i r hr;split at f
     .rename_i bs m2 Z X8;cases f;obtain⟨ns,h1,h2⟩:=oU Z;have K:q8 m a n=some r:=by
       unfold q8;rw[G,U];exact hr
      obtain⟨r',g1,g2,g3⟩:=Z8 h K J;rw[h1]at g1;have V:=rL g1;subst V;obtain⟨⟨O,C,fz,T',z2,z3,z4⟩,z5⟩:=h.atl J U;have z2:w.heap[lc.blk]? = some (.cells C e fz):=by rw[z2,(z4 rfl).1]
      have Q:ns.length=n:=by simpa using g2
      have A:P.cellsOf e=1:=by
       unfold G9 at L;unfold Program.cellsOf;cases hi:P.info? e with
       | none=>rw[hi]at L;cases L
       | some i=>rw[hi]at L;have:=A8 L;simp[this]
      have W:a.off+lc.sh+n<=C.size:=by
       have D:=g3 (n-1) (.int .u8 ns[n-1]) (by simp[Q]);simp only[World.cell?,z2]at D
       have:=(C9.1 (by simpa using D)).1;omega
      have M:=eG (P:=P) (w:=w) ns lc.blk (a.off+lc.sh) .empty g3;rw[Q]at M;have X:w.shape? lc.blk=some (e,C.size):=by simp[World.shape?,z2]
      have I:=yM (P:=P) A (C.size / P.cellsOf e) (a.off+lc.sh) n (by rw[A];simpa using W);have B:Builtin.unsafeString_ ⟨pt::tys⟩ ty #[.pointer (some ⟨lc.blk,a.off+lc.sh,none⟩),.int k (.ofNat n)] =
       (do
         let n <- asInt (.int k (.ofNat n))
         if n<0 then runtimePanic (.error "unsafe.String: len out of range")
         if n>IntKind.i64.max then unsupported (.unsafePointer "String: a length above the largest int")
         if n=0 then pure (.string .empty)
         else if <- variablesAt ⟨lc.blk,a.off+lc.sh,none⟩ (<- elemOf pt) n.toNat then do
          let s <- loadBytes ⟨lc.blk,a.off+lc.sh,none⟩ .empty n.toNat
          freeze ⟨lc.blk,a.off+lc.sh,none⟩ n.toNat
          pure (.string s)
         else unsupported (.unsafePointer "String: not so many bytes at ptr")):=rfl
      have e1:Int.ofNat n=(n:Int):=rfl;have R:¬ (n:Int)<0:=A2;have N:¬ (9223372036854775807:Int)<(n:Int):=A2;have hz:¬ (n:Int)=0:=A2;have E:n≠0:=A2;refine⟨.string ⟨⟨bs⟩⟩,ρ,w.freeze ⟨lc.blk,a.off+lc.sh,none⟩ n,?_,.pure rfl,St.write h X8 U rfl J O ?_ ?_ ?_ ?_⟩
      .rw[B];simp[asInt,asIntOf,F,e1,R,N,hz,E,variablesAt,X,elemOf,D1 S,I,M,freeze,Sem.run,A4,Result.andThen,h2]
      .simp[World.freeze,E]
      .simp[World.freeze,E]
      .intro j hj;simp only[World.freeze,E,if_false,H3];rw[A7 (fun e=>hj e.symm)]
      .refine⟨O,C,(if fz.1 == fz.2 then(a.off+lc.sh,a.off+lc.sh+n)else(min fz.1 (a.off+lc.sh),max fz.2 (a.off+lc.sh+n))),e,?_,z3,fun hc=>by cases hc⟩;simp only[World.freeze,E,if_false,H3,if_true,z2,L3]
     .cases f
    .cases f
   .cases f
  .cases f
 .cases f
def LW{ks:Array Bool}(h:HR P base ρ m.H w)(B:base<=w.heap.size)(f:iE P m b vs tys=some (v,m'))(C:K1 ρ m.n m'.hi)(hx:LR ρ vs vs') :
  ∃ s:Sem Value,builtin b ⟨tys⟩ ty ks ⟨vs'⟩=(do pure (.value (<- s)))/\VOk P base ρ m w s v m':=by
 unfold iE at f;split at f
 .obtain⟨x',r1,rfl,h1,j⟩:=hx.tail;cases j.nil_inv;unfold noM at f;split at f
  .rename_i u hu;cases f;obtain⟨g1,g2⟩:=RO h hu h1;exact⟨_,rfl,VOk.same h g1 (.pure g2)⟩
  .cases f
 .obtain⟨x',r1,rfl,h1,j⟩:=hx.tail;cases j.nil_inv;unfold noM at f;split at f
  .rename_i u hu;cases f;obtain⟨g1,g2⟩:=A4H hu h1 w;exact⟨_,rfl,VOk.same h g1 (.pure g2)⟩
  .cases f
 .obtain⟨x',r1,rfl,h1,j⟩:=hx.tail;obtain⟨y',A,rfl,h3,q⟩:=j.tail;cases q.nil_inv;rename_i t t2 rest;refine⟨Builtin.append_ ⟨t::t2::rest⟩ ty #[x',y'],rfl,?_⟩
  have:=PI (ty:=ty) h B f C h1 h3;have e:Builtin.append_ ⟨t::t2::rest⟩ ty #[x',y']=Builtin.append_ #[t,t2] ty #[x',y']:=rfl;rw[e];exact this
 .obtain⟨x',r1,rfl,h1,j⟩:=hx.tail;obtain⟨y',A,rfl,h3,q⟩:=j.tail;cases q.nil_inv;exact⟨_,rfl,A1m h f h1 h3⟩
 .unfold noM at f;split at f
  .rename_i u hu;cases f;obtain⟨g1,g2⟩:=RH (P:=P) (ty:=ty) (tys:=⟨tys⟩) hu hx w;exact⟨_,rfl,VOk.same h g1 (.pure g2)⟩
  .cases f
 .unfold noM at f;split at f
  .rename_i u hu;cases f;obtain⟨g1,g2⟩:=RF (P:=P) (ty:=ty) (tys:=⟨tys⟩) hu hx w;exact⟨_,rfl,VOk.same h g1 (.pure g2)⟩
  .cases f
 .obtain⟨x',r1,rfl,h1,j⟩:=hx.tail;cases j.nil_inv;exact⟨_,rfl,AZ h f h1⟩
 .obtain⟨x',r1,rfl,h1,j⟩:=hx.tail;obtain⟨y',A,rfl,h3,q⟩:=j.tail;cases q.nil_inv;exact⟨_,rfl,AM h f h1 h3⟩
 .cases f
def NOk(P:Program)(base:Nat)(ρ:Ren)(m:Mem)(w:World)(s:Sem Next)(v:Value)(m':Mem):Prop :=
 ∃ v' f w',(s.run P w=.ok (.value v') w'∨(s.run P w=.ok .skip w'/\v'=undef))/\VR f v v'/\St P base ρ f m m' w w'
def NOk.of{s:Sem Value}(h:VOk P base ρ m w s v m'):NOk P base ρ m w (do pure (.value (<- s))) v m':=by
 obtain⟨v',f,w',h1,j,h3⟩:=h;exact⟨v',f,w',.inl (by simp[A4,h1,Result.andThen]),j,h3⟩
def pL(ρ:Ren):VR ρ undef undef:=.tuple (a:=[]) (a':=[]) rfl (fun i v v' h=>by simp at h)
def NOk.ofU{s:Sem Unit}(h:UOk P base ρ m w s m'):NOk P base ρ m w (do s;pure .skip) undef m':=by
 obtain⟨f,w',h1,h3⟩:=h;exact⟨undef,f,w',.inr ⟨by simp[A4,h1,Result.andThen],rfl⟩,pL _,h3⟩
def NOk.same{s:Sem Value}(h:HR P base ρ m.H w)(hr:s.run P w=.ok v' w)(hv:VR ρ v v'):NOk P base ρ m w (do pure (.value (<- s))) v m:=NOk.of (VOk.same h hr hv)
def FR(ρ:Ren)(fr:Fr)(g:Operand->Value)(o:Op):Prop:=∀ x ∈ o.operands.toList,VR ρ (ev fr x) (g x)
def i6(h:noM o m=some (v,m')):o=some v/\m'=m:=by
 unfold noM at h;split at h
 .cases h;exact⟨rfl,rfl⟩
 .cases h
def nC{o:Option Mem}(h:OA o=some (v,m')):o=some m'/\v=undef:=by
 unfold OA at h;split at h
 .cases h;exact⟨rfl,rfl⟩
 .cases h
def cU{fr:Fr}{g:Operand->Value}:∀ {xs:List Operand},(∀ x ∈ xs,VR ρ (ev fr x) (g x))->LR ρ (evL fr xs) (xs.map g)
 | [],_=>.nil
 | x::r,h=>.cons (h x B3) (cU fun y f=>h y (C3 _ f))
def OV{fr:Fr}{g:Operand->Value}:∀ {xs:List (Nat×Operand)},(∀ x ∈ xs.map (·.2),VR ρ (ev fr x) (g x))->PR ρ (evP fr xs) (xs.map fun x=>(x.1,g x.2))
 | [],_=>trivial
 | (i,x)::r,h=>⟨rfl,h x (by simp),OV fun y f=>h y (by simp at f ⊢;exact .inr f)⟩
def iX{fr:Fr}{x:Option Operand}(h:∀ y ∈ x.toList,VR ρ (ev fr y) (g y)):OR ρ (evO fr x) (x.map g):=by
 cases x with
 | none=>trivial
 | some y=>exact h y (by simp)
set_option maxHeartbeats 1000000 in
def A7Y{fr:Fr}{o:Oper}(h:HR P base ρ m.H w)(I:base<=w.heap.size)(q:opM P fr m o.op=some (v,m'))(J:K1 ρ m.n m'.hi)(S:FR ρ fr g o.op) :
  NOk P base ρ m w (execOp g o) v m':=by
 obtain⟨dst,op,ty,pos,U,V⟩:=o;simp only at q S;have j:∀ {x},x ∈ op.operands.toList->VR ρ (ev fr x) (g x):=fun hx=>S _ hx
 unfold opM at q;split at q
 .cases q;exact⟨_,ρ,w,.inl rfl,j (by simp[Op.operands]),.refl h⟩
 .cases q;exact⟨_,ρ,w,.inl rfl,j (by simp[Op.operands]),.refl h⟩
 .rename_i c a b;have K:=j (x:=c) (by simp[Op.operands]);unfold QY at q;split at q
  .rename_i D;rw[D]at K;cases q;exact⟨g a,ρ,w,.inl (by simp[execOp,cE K,asBool]),j (by simp[Op.operands]),.refl h⟩
  .rename_i D;rw[D]at K;cases q;exact⟨g b,ρ,w,.inl (by simp[execOp,cE K,asBool]),j (by simp[Op.operands]),.refl h⟩
  .cases q
 .exact NOk.of (UP h I q J)
 .exact NOk.of (A3G h I q J (j (by simp[Op.operands])))
 .rename_i t ps;obtain⟨h1,rfl⟩:=i6 q;obtain⟨v',A,h3⟩:=VJ h1 (OV (g:=g) (fun x hx=>j (by simpa [Op.operands]using hx))) w;have e:(ps.map fun(i,x)=>(i,g x))=⟨ps.toList.map fun x=>(x.1,g x.2)⟩:=by apply J1;simp
  exact NOk.same (s:=Instr.build t (ps.map fun(i,x)=>(i,g x))) h (by rw[e];exact A) h3
 .rename_i t n ps
  have:=AC h I q J (OV (g:=g) (fun x hx=>j (by simpa [Op.operands]using hx)));have e:(ps.map fun(i,x)=>(i,g x))=⟨ps.toList.map fun x=>(x.1,g x.2)⟩:=by apply J1;simp
  refine NOk.of (s:=Instr.buildSlice t n (ps.map fun(i,x)=>(i,g x))) ?_;rw[e];exact this
 .rename_i t x;have hx:=j (x:=x) (by simp[Op.operands]);unfold QZ at q;split at q
  .rename_i a G;rw[G]at hx;obtain⟨l,R,O,F⟩:=O9 hx;obtain⟨h1,rfl⟩:=i6 q;obtain⟨v',A,h3⟩:=JY h h1 R;refine NOk.same (s:=Instr.loadAt t (g x)) h ?_ h3;rw[F]
   simpa [Instr.loadAt,Instr.sureAddr]using A
  .cases q
 .rename_i t x y;have hx:=j (x:=x) (by simp[Op.operands]);have B:=j (x:=y) (by simp[Op.operands]);unfold FB at q;split at q
  .rename_i a G;rw[G]at hx;obtain⟨l,R,O,F⟩:=O9 hx;obtain⟨h1,rfl⟩:=nC q
   have:=TR h h1 R B;refine NOk.ofU (s:=Instr.storeAt t (g x) (g y)) ?_;rw[F];obtain⟨Q,w',r1,Z⟩:=this;exact⟨Q,w',by simpa [Instr.storeAt,Instr.sureAddr]using r1,Z⟩
  .cases q
 .rename_i x;have hx:=j (x:=x) (by simp[Op.operands]);obtain⟨hm,h1,A⟩:=A3F q hx;subst hm;refine⟨g x,ρ,w,.inl ?_,h1,.refl h⟩;rcases A with⟨a,T⟩|⟨f,a,b,T⟩<;>simp[execOp,T]
 .rename_i op t x y W;have hx:=j (x:=x) (by simp[Op.operands]);have B:=j (x:=y) (by simp[Op.operands]);unfold A3H at q;have C:(yY op=true->lT P t x y (ev fr x) (ev fr y)=true)->noM (sI P op t (ev fr x) (ev fr y)) m=some (v,m')->NOk P base ρ m w (execOp g ⟨dst,.binOp op t x y W,ty,pos,U,V⟩) v m':=fun M X=>by
   obtain⟨h1,rfl⟩:=i6 X;obtain⟨A,h3⟩:=wQ h1 hx B w;have hq:=rR M hx B w;refine NOk.same (s:=do eqGuard op t x y (g x) (g y);binOp op t (g x) (g y)) h ?_ (.pure h3);simp[A4,hq,A,Result.andThen]
  cases E:yY op with
  | true =>
    rw[E]at q;simp only[E3]at q;obtain⟨h1,A⟩:=A3 q;exact C (fun _=>h1) A
  | false =>
    rw[E]at q;simp only[D7]at q;exact C (fun h=>by rw[E]at h;cases h) q
 .rename_i op t x;obtain⟨h1,rfl⟩:=i6 q;obtain⟨A,h3⟩:=MM (P:=P) h1 (j (x:=x) (by simp[Op.operands])) w;exact NOk.same (s:=Op.unary op (g x)) h A (.pure h3)
 .exact NOk.of (A1p h I q J (j (by simp[Op.operands])))
 .exact NOk.of (UO h q (j (by simp[Op.operands])))
 .rename_i f first cap
  cases q;have l1:=cU (ρ:=ρ) (fr:=fr) (g:=g) (xs:=first.toList) fun x hx=>j (by simp[Op.operands];exact .inl (by simpa using hx))
  have l2:=cU (ρ:=ρ) (fr:=fr) (g:=g) (xs:=cap.toList) fun x hx=>j (by simp[Op.operands];exact .inr (by simpa using hx))
  refine⟨.func (.func f) ⟨first.toList.map g⟩ ⟨cap.toList.map g⟩,ρ,w,.inl ?_,.func l1.1 l2.1 l1.2 l2.2,.refl h⟩;have L:first.map g=⟨first.toList.map g⟩:=by apply J1;simp
  have N:cap.map g=⟨cap.toList.map g⟩:=by apply J1;simp
  simp[execOp,Instr.makeFunc,L,N]
 .exact NOk.of (BC h I q J (j (by simp[Op.operands])) (j (by simp[Op.operands])))
 .rename_i t x lo hi mx;obtain⟨h1,rfl⟩:=i6 q;obtain⟨v',A,h3⟩:=gW h1 (j (x:=x) (by simp[Op.operands])) (iX (g:=g) fun y B=>j (by simp[Op.operands]at B ⊢;exact .inr (.inl B))) (iX (g:=g) fun y B=>j (by simp[Op.operands]at B ⊢;exact .inr (.inr (.inl B)))) (iX (g:=g) fun y B=>j (by simp[Op.operands]at B ⊢;exact .inr (.inr (.inr B)))) w;exact NOk.same (s:=Instr.sliceAt t (g x) (lo.map g) (hi.map g) (mx.map g)) h A h3
 .obtain⟨h1,rfl⟩:=i6 q;obtain⟨v',A,h3⟩:=lV h1 (j (by simp[Op.operands])) w;exact NOk.same h A h3
 .obtain⟨h1,rfl⟩:=i6 q;obtain⟨v',A,h3⟩:=VA h1 (j (by simp[Op.operands])) w;exact NOk.same h A h3
 .obtain⟨h1,rfl⟩:=i6 q;obtain⟨v',A,h3⟩:=cF h1 (j (by simp[Op.operands])) (j (by simp[Op.operands])) w;exact NOk.same h A h3
 .obtain⟨h1,rfl⟩:=i6 q;obtain⟨v',A,h3⟩:=tG h1 (j (by simp[Op.operands])) (j (by simp[Op.operands])) w;exact NOk.same h A h3
 .obtain⟨hm,v',A,h3⟩:=JO (P:=P) q (j (by simp[Op.operands])) w;subst hm;exact NOk.same h A h3
 .rename_i b xs tys;have l1:=cU (ρ:=ρ) (fr:=fr) (g:=g) (xs:=xs.toList) fun x hx=>j (by show x ∈ (#[]++xs:Array Operand).toList;simpa using hx)
  obtain⟨ks,N⟩:∃ ks,execOp g ⟨dst,.call ⟨.builtin b,xs,tys⟩,ty,pos,U,V⟩=builtin b tys ty ks (xs.map g):=⟨_,rfl⟩;obtain⟨s,e,hs⟩:=LW (ty:=ty) (ks:=ks) h I q J l1;have L:xs.map g=⟨xs.toList.map g⟩:=by apply J1;simp
  rw[N,L];have Y:tys=⟨tys.toList⟩:=rfl;rw[Y,e];exact NOk.of hs
 .cases q
end
end
section
open Go
def ofV:Q6->U
 | some (.int k n)=>.int k n
 | some (.bool b)=>.bool b
 | some (.string s)=>.str s.data.toList
 | _=>.none
def D6(E:Nat->U):Value->U
 | .complex .f64 i _=>E i
 | .int k n=>.int k n
 | .bool b=>.bool b
 | .string s=>.str s.data.toList
 | _=>.none
def evB(op:BinOp):U->U->U
 | .int k a,.int j b=>ofV (aF op k j a b)
 | .str a,.str b=>ofV (A2k op ⟨⟨a⟩⟩ ⟨⟨b⟩⟩)
 | .bool a,.bool b=>match op with
   | .eql=>.bool (a == b)
   | .neq=>.bool (!(a == b))
   | _=>.none
 | _,_=>.none
def ev1(op:UnOp):U->U
 | .int k n=>ofV (unM op (.int k n))
 | .bool b=>ofV (unM op (.bool b))
 | _=>.none
def eqU:U->U->Option Bool
 | .int k a,.int j b=>if k=j then some (a == b)else none
 | .bool a,.bool b=>some (a == b)
 | .str a,.str b=>some (a == b)
 | _,_=>none
def lY:List U->Option Bool
 | []=>some true
 | a::b::r=>match eqU a b,lY r with
   | some x,some y=>some (x && y)
   | _,_=>none
 | _=>none
def IF(s:List UInt8)(l h:Int):U :=
 match l,h with
 | .ofNat l,.ofNat h=>if l<=h/\h<=s.length then .str ((s.drop l).take (h-l))else .none
 | _,_=>.none
def tV:List U->Option (List UInt8)
 | []=>some []
 | .int .u8 (.ofNat n)::r=>if n<256 then match tV r with
   | some l=>some (UInt8.ofNat n::l)
   | none=>none else none
 | _::_=>none
def tW:List (List U)->Option (List UInt8)
 | []=>some []
 | [.int .u8 (.ofNat n)]::r=>if n<256 then match tW r with
   | some l=>some (UInt8.ofNat n::l)
   | none=>none else none
 | _::_=>none
def jM(s:List UInt8):List (List U):=s.map fun b=>[.int .u8 b.toNat]
def d9(w:Nat):Nat->List U->Option (List (List U))
 | 0,[]=>some []
 | 0,_::_=>none
 | n+1,l=>if w<=l.length then match d9 w n (l.drop w)with
   | some r=>some (l.take w::r)
   | none=>none else none
def xW(row:List U)(o:Nat)(cells:List U):List U:=row.take o++cells++row.drop (o+cells.length)
def sK:Nat:=1000000000
def mB(f:Bool)(w:Nat)(rows r:List (List U)):U:=if rows.length+r.length<=sK then(match r with|[]=>.seq f w rows|r=>.seq false w (rows++r))else .none
def isU(a b:U):Bool :=
 match eqU a b with
 | some c=>c
 | none=>false
def T8:List U->List U->Bool
 | [],_=>true
 | a::k,b::r=>isU a b && T8 k r
 | _::_,[]=>false
def JE(kw:Nat)(c:List U):List (List U)->List (List U)
 | []=>[c]
 | r::rs=>if T8 (c.take kw) r then c::rs else r::JE kw c rs
def evU:LOp->List U->U
 | .mhas w kw,.seq _ v rows::k=>if v=w/\k.length=kw then .bool (rows.any (T8 k))else .none
 | .mget w kw o,.seq _ v rows::z::k=>if v=w/\k.length=kw then(match rows.find? (T8 k)with
   | some r=>r.getD o .none
   | none=>z)else .none
 | .mput w kw,.seq nul v rows::c=>if v=w/\c.length=w then .seq nul w (JE kw c rows)else .none
 | .len,[.seq _ _ rows]=>.int .i64 rows.length
 | .mks,l=>match tV l with
   | some s=>.str s
   | none=>.none
 | .inbs w,[.int _ i,.seq _ v rows]=>if v=w then .bool (decide (0<=i) && decide (i<rows.length))else .none
 | .get w o,[.seq false v rows,.int _ (.ofNat k)]=>if v=w then(rows.getD k []).getD o .none else .none
 | .mk w,l=>if w=0 then .none else match d9 w (l.length / w) l with
   | some r=>.seq false w r
   | none=>.none
 | .nilw w,[]=>.seq true w []
 | .nilp,[.seq nul _ _]=>.bool nul
 | .snoc w,.seq nul v rows::l=>if v=w/\w≠0 then match d9 w (l.length / w) l with
   | some r=>mB nul w rows r
   | none=>.none else .none
 | .cat w,[.seq nul v rows,.seq _ v2 r]=>if v=w/\v2=w then mB nul w rows r else .none
 | .cats,[.seq nul v rows,.str s]=>if v=1 then mB nul 1 rows (jM s)else .none
 | .set w o,.seq false v rows::.int _ (.ofNat k)::l=>if v=w/\k<rows.length/\o+l.length<=w then .seq false w (rows.set k (xW (rows.getD k []) o l))else .none
 | .subs w,[.seq nul v rows,.int _ (.ofNat l),.int _ (.ofNat h)]=>if v=w/\l<=h/\h<=rows.length then .seq nul w ((rows.drop l).take (h-l))else .none
 | .str,[.seq _ v rows]=>if v=1 then match tW rows with
   | some s=>.str s
   | none=>.none else .none
 | .byt,[.str s]=>.seq false 1 (jM s)
 | .ustr,[.seq _ v rows,.int _ (.ofNat n)]=>if v=1/\n<=rows.length/\n<=sK then match tW (rows.take n)with
   | some s=>.str s
   | none=>.none else .none
 | .rep w,.int _ (.ofNat n)::l=>if l.length=w/\n<=sK then .seq false w (List.replicate n l)else .none
 | .bin op,[a,b]=>evB op a b
 | .un op,[a]=>ev1 op a
 | .conv k,[.int _ n]=>.int k (k.wrap n)
 | .len,[.str s]=>.int .i64 s.length
 | .rune,[.str s,.int _ (.ofNat k)]=>.int .i32 (Utf8.decode ⟨⟨s⟩⟩ k).1
 | .rpos,[.str s,.int _ (.ofNat k)]=>.int .i64 (k+(Utf8.decode ⟨⟨s⟩⟩ k).2:Nat)
 | .idx,[.str s,.int _ (.ofNat k)]=>match s[k]? with
   | some b=>.int .u8 b.toNat
   | none=>.none
 | .sub,[.str s,.int _ l,.int _ h]=>IF s l h
 | .sub1,[.str s,.int _ l]=>IF s l s.length
 | .sel,.int _ (.ofNat k)::cs=>cs.getD k .none
 | .inb,[.int _ i,.int _ n]=>.bool (decide (0<=i) && decide (i<n))
 | .eqs,l=>match lY l with
   | some b=>.bool b
   | none=>.none
 | .max,[.int k a,.int _ b]=>.int k (if b>a then b else a)
 | .min,[.int k a,.int _ b]=>.int k (if b<a then b else a)
 | _,_=>.none
def j8.ok(E:Nat->U):j8->Prop
 | .lt i t op xs=>E i=evU op (xs.map (D6 E))/\G1 (E i)=t/\t<10
 | .dt i t op xs=>E i=evU op (xs.map (D6 E))/\G1 (E i)=t/\∃ f w rows,E i=.seq f w rows
 | .br i b=>E i=.bool b
 | .as op xs=>evU op (xs.map (D6 E))=.bool true
 | .con spec xs i d n=>∃ outs,spec (xs.map (D6 E))=some (d,outs)/\outs.length=n/\∀ j u,outs[j]? = some u->E (i+j)=u
def R6(E:Nat->U)(l:List j8):Prop:=∀ e ∈ l,e.ok E
def Lg.le(a b:Lg):Prop:=a.log <:+ b.log
def Lg.le.refl(a:Lg):a.le a:=List.suffix_refl _
def Lg.le.trans{a b c:Lg}(h:a.le b)(k:b.le c):a.le c:=List.IsSuffix.trans h k
def R6.le{E:Nat->U}{a b:Lg}(h:R6 E b.log)(k:a.le b):R6 E a.log:=fun e he=>h e (k.subset he)
variable [Ora]
abbrev Sat(lg:Lg):Prop:=R6 Ora.env lg.log
omit [Ora] in
def PW{u:U}(h:G1 u<10):∃ v,toV u=some v/\ofV (some v)=u/\G5 v=G1 u:=by
 cases u with
 | none=>simp[G1]at h
 | seq _ _ _=>simp only[G1]at h;omega
 | int k n=>exact⟨_,rfl,rfl,rfl⟩
 | bool b=>exact⟨_,rfl,rfl,rfl⟩
 | str s=>exact⟨_,rfl,rfl,rfl⟩
def FA(h:G1 (ofV o)<10):∃ v,o=some v/\toV (ofV o)=some v:=by
 unfold ofV at h;split at h
 .exact⟨_,rfl,rfl⟩
 .exact⟨_,rfl,rfl⟩
 .rename_i s;refine⟨_,rfl,?_⟩;simp[ofV,toV]
 .simp[G1]at h
def L7(k:IntKind):hP k<8:=by cases k<;>decide
theorem u7{ρ:Ren}{v v':Value}(h:VR ρ v v')(f:G5 v<10):toV (D6 Ora.env v)=some v'/\G1 (D6 Ora.env v)=G5 v:=by
 cases h with
 | pure hp =>
   cases v<;>simp only[G5]at f<;>first
    | exact⟨rfl,rfl⟩
    | (exfalso;omega)
    | (simp[I4]at hp)
 | hole h j=>exact⟨h,j⟩
 | junk=>simp[G5]at f
 | ixp _ _ _ _ _=>simp[G5,ixp]at f
 | dat _ _ _ _ _=>simp[G5,Go.Sx.dat]at f
 | clp _ _ _ _ _ _=>simp[G5,Go.Sx.clp]at f
 | own _ _ _=>simp[G5,Go.Sx.own]at f
 | dpt _ _ _=>simp[G5,Go.Sx.dpt]at f
 | opt _ _ _=>simp[G5,Go.Sx.opt]at f
 | yv _=>simp[G5,Go.Sx.yv]at f
 | sdt _=>simp[G5,Go.Sx.sdt]at f
 | _=>simp[G5]at f
def M6{ρ:Ren}(h:VR ρ v v')(j:G5 v<8):∃ k n,v'=.int k n/\D6 Ora.env v=.int k n/\G5 v=hP k:=by
 obtain⟨h1,f⟩:=u7 h A2;cases hu:D6 Ora.env v with
 | int k n=>rw[hu]at h1 f;cases h1;exact⟨k,n,rfl,rfl,f.symm⟩
 | bool b=>rw[hu]at f;simp only[G1]at f;omega
 | str s=>rw[hu]at f;simp only[G1]at f;omega
 | none=>rw[hu]at h1;cases h1
 | seq _ _ _=>rw[hu]at h1;cases h1
def gV{ρ:Ren}(h:VR ρ v v')(j:G5 v=8):∃ b,v'=.bool b/\D6 Ora.env v=.bool b:=by
 obtain⟨h1,f⟩:=u7 h A2;cases hu:D6 Ora.env v with
 | int k n=>rw[hu]at f;simp only[G1]at f;have:=L7 k;omega
 | bool b=>rw[hu]at h1;cases h1;exact⟨b,rfl,rfl⟩
 | str s=>rw[hu]at f;simp only[G1]at f;omega
 | none=>rw[hu]at h1;cases h1
 | seq _ _ _=>rw[hu]at h1;cases h1
def l6{ρ:Ren}(h:VR ρ v v')(j:G5 v=9):∃ s,v'=.string ⟨⟨s⟩⟩/\D6 Ora.env v=.str s:=by
 obtain⟨h1,f⟩:=u7 h A2;cases hu:D6 Ora.env v with
 | int k n=>rw[hu]at f;simp only[G1]at f;have:=L7 k;omega
 | bool b=>rw[hu]at f;simp only[G1]at f;omega
 | str s=>rw[hu]at h1;cases h1;exact⟨s,rfl,rfl⟩
 | none=>rw[hu]at h1;cases h1
 | seq _ _ _=>rw[hu]at h1;cases h1
def iU{m m':Mem}{t:Nat}{op:LOp}(h:U1 m t op xs=some (v,m')):v=hole m.lg.nx t/\m'=m.wLg ⟨m.lg.nx+1,m.lg.pi,.lt m.lg.nx t op xs::m.lg.log⟩:=by
 obtain⟨H,n,W,hi,⟨nx,pi,log⟩⟩:=m;simp only[U1,E7,H9]at h;cases h;exact⟨rfl,rfl⟩
def M4{m m':Mem}{t:Nat}{op:LOp}(h:U1 m t op xs=some (v,m'))(n:Sat m'.lg):∃ u,evU op (xs.map (D6 Ora.env))=u/\G1 u=t/\∃ r,toV u=some r/\(∀ ρ,VR ρ v r)/\t<10:=by
 obtain⟨rfl,rfl⟩:=iU h;obtain⟨h1,j,h3⟩:=n (.lt m.lg.nx t op xs) (by cases m;exact B3);refine⟨_,rfl,h1▸j,?_⟩;obtain⟨r,f,_⟩:=PW (u:=Ora.env m.lg.nx) A2;exact⟨r,h1▸f,fun ρ=>.hole f j,h3⟩
section
variable {P:Program} {base:Nat} {ρ:Ren} {m m':Mem} {w:World}
def St.wLg(h:HR P base ρ m.H w)(lg:Lg):St P base ρ ρ m (m.wLg lg) w w:=by
 obtain⟨H,n,W,hi,l⟩:=m;have r:=St.refl (m:=⟨H,n,W,hi,l⟩) h;exact⟨r.ext,r.new,r.nle,r.hle,r.nhi,r.hr,r.wsub,r.wrw,r.keep,r.size,r.os,r.blk,r.same,r.tch⟩
def bL:∀ {l:List j8} {i:Nat} {b:Bool},zF l i=some b->j8.br i b ∈ l
 | [],_,_,h=>by cases h
 | .br j c::r,i,b,h=>by
   rw[zF]at h;cases f:Nat.beq j i with
   | true=>rw[f]at h;cases h;rw[A0 f];exact B3
   | false=>rw[f]at h;exact C3 _ (bL h)
 | .lt _ _ _ _::r,i,b,h=>C3 _ (bL (l:=r) h)
 | .dt _ _ _ _::r,i,b,h=>C3 _ (bL (l:=r) h)
 | .as _ _::r,i,b,h=>C3 _ (bL (l:=r) h)
 | .con _ _ _ _ _::r,i,b,h=>C3 _ (bL (l:=r) h)
def eX{lg f:Lg}{b:Bool}(h:brL lg c=some (b,f)):lg.le f:=by
 unfold brL at h;split at h
 .cases h;exact .refl _
 .obtain⟨nx,pi,log⟩:=lg;simp only at h;split at h
  .cases h;exact .refl _
  .split at h
   .cases h;exact⟨[_],rfl⟩
   .cases h;exact⟨[_],rfl⟩
   .cases h
 .cases h
def mC{lg f:Lg}{b:Bool}(h:brL lg c=some (b,f))(q:VR ρ c c')(n:Sat f):c'=.bool b:=by
 unfold brL at h;split at h
 .cases h;exact cE q
 .rename_i i;have A:Ora.env i=.bool b:=by
   obtain⟨nx,pi,log⟩:=lg;simp only at h;split at h
   .rename_i b' B;cases h;exact n _ (bL B)
   .split at h
    .cases h;exact n (.br i true) B3
    .cases h;exact n (.br i false) B3
    .cases h
  obtain⟨b',h1,j⟩:=gV q rfl;have j:Ora.env i=.bool b':=j;rw[A]at j;cases j;exact h1
 .cases h
def uZ:∀ {a b:List U} {z:Bool},a.length%2=0->lY (a++b)=some z->∃ x y,lY a=some x/\lY b=some y/\z=(x && y)
 | [],b,z,_,h=>⟨true,z,rfl,h,rfl⟩
 | [_],_,_,hl,_=>by simp at hl
 | p::q::r,b,z,hl,h=>by
   simp only[S4]at h;unfold lY at h;split at h
   .rename_i u v f j;cases h;obtain⟨x,y,h1,n,rfl⟩:=uZ (by simp only[C7]at hl;omega) j;exact⟨u && x,y,by simp only[lY,f,h1],n,by simp[Bool.and_assoc]⟩
   .cases h
def UA(h:eQ P t x y=true)(hx:VR ρ x x')(C:VR ρ y y'){b:Bool}(f:eqU (D6 Ora.env x) (D6 Ora.env y)=some b)(n:Nat)(w:World):(Op.equalIn (n+1) t x' y').run P w=.ok b w:=by
 unfold eQ at h;split at h
 .rename_i hu;obtain⟨h1,j⟩:=B6 h;obtain⟨p,rfl,A⟩:=gV hx (A0 h1);obtain⟨q,rfl,B⟩:=gV C (A0 j);rw[A,B]at f;cases f;simp[Op.equalIn,A4,D1 hu,Result.andThen]
 .rename_i k hu;obtain⟨h1,j⟩:=B6 h;have h1:=A0 h1;have j:=A0 j;obtain⟨D,p,rfl,A,f1⟩:=M6 hx (by have:=L7 k;omega);obtain⟨E,q,rfl,B,f2⟩:=M6 C (by have:=L7 k;omega);have g1:D=k:=by cases D<;>cases k<;>first|rfl|(simp only[hP]at f1 h1;omega)
  have g2:E=k:=by cases E<;>cases k<;>first|rfl|(simp only[hP]at f2 j;omega)
  subst g1;subst g2;rw[A,B]at f;simp[eqU]at f;subst f;simp[Op.equalIn,A4,D1 hu,Result.andThen]
 .rename_i hu;obtain⟨h1,j⟩:=B6 h;obtain⟨p,rfl,A⟩:=l6 hx (A0 h1);obtain⟨q,rfl,B⟩:=l6 C (A0 j);rw[A,B]at f;cases f
  have:=run_equalIn_string (P:=P) w n t ⟨⟨p⟩⟩ ⟨⟨q⟩⟩ hu;rw[this];simp[ByteArray.toList_eq]
 .cases h
mutual
def SR:∀ (d:Nat) (t:TypeId) (x y:Value) (l:List Value),eqS P d t x y=some l->l.length%2=0
 | 0,_,_,_,_,h=>by simp[eqS]at h
 | d+1,t,x,y,l,h=>by
   unfold eqS at h;cases hs:eQ P t x y with
   | true=>rw[hs]at h;cases h;simp
   | false =>
     rw[hs]at h;simp only[D7]at h;split at h
     .rename_i fs xs ys hu;cases hst:P.stoodInHeld t with
      | true=>rw[hst]at h;cases h
      | false=>rw[hst]at h;exact zK d _ _ _ l h
     .split at h
      .exact zK d _ _ _ l h
      .cases h
     .cases h
def zK:∀ (d:Nat) (fs:List Field) (xs ys:List Value) (l:List Value),zL P d fs xs ys=some l->l.length%2=0
 | 0,_,_,_,_,h=>by simp[zL]at h
 | d+1,[],_,_,_,h=>by simp only[zL,D3]at h;subst h;rfl
 | d+1,f::fs,xs,ys,l,h=>by
   unfold zL at h;cases hnm:f.name == "_" with
   | true=>rw[hnm]at h;cases h
   | false =>
     rw[hnm]at h;simp only[D7]at h;split at h
     .split at h
      .rename_i a b ha hb;cases h
       have:=SR d _ _ _ a ha
       have:=zK d _ _ _ b hb;simp only[B8];omega
      .cases h
     .cases h
end
mutual
def OW:∀ (d:Nat) (t:TypeId) (x y x' y':Value) (l:List Value) (b:Bool),eqS P d t x y=some l->lY (l.map (D6 Ora.env))=some b->VR ρ x x'->VR ρ y y'->∀ (n:Nat),d<=n->∀ w:World,(Op.equalIn n t x' y').run P w=.ok b w
 | 0,_,_,_,_,_,_,_,h,_,_,_,_,_,_=>by simp[eqS]at h
 | d+1,t,x,y,x',y',l,b,h,hl,hx,hy,n,hn,w=>by
   obtain⟨n,rfl⟩:∃ k,n=k+1:=⟨n-1,A2⟩;have hn':d<=n:=A2;unfold eqS at h;cases hs:eQ P t x y with
   | true =>
     rw[hs]at h;cases h;simp only[C4,G0,lY]at hl;split at hl
     .rename_i u v e1 e2;cases e2;cases hl;rw[oC];exact UA hs hx hy e1 n w
     .cases hl
   | false =>
     rw[hs]at h;simp only[D7]at h;split at h
     .rename_i fs xs ys hu;cases hst:P.stoodInHeld t with
      | true=>rw[hst]at h;cases h
      | false =>
        rw[hst]at h;obtain⟨xs',rfl,hx1⟩:=V6 hx;obtain⟨ys',rfl,hy1⟩:=V6 hy;have hf:P.fieldsOf t=fs:=by simp[Program.fieldsOf,hu]
        rw[run_equalIn_struct (P:=P) w n t _ _ (by rw[hf];exact hu) hst,hf];exact GH d fs.toList xs.toList ys.toList xs' ys' l b h hl hx1 hy1 n hn' w
     .rename_i k e xs ys hu;split at h
      .rename_i s hz;obtain⟨xs',rfl,hx1⟩:=V6 hx;obtain⟨ys',rfl,hy1⟩:=V6 hy;obtain⟨i,hi,rfl⟩:=BU hz;rw[run_equalIn_array (P:=P) (w:=w) n _ _ hu hi,show P.cellsOf e=i.size by simp[Program.cellsOf,hi],eV];exact GH d _ xs.toList ys.toList xs' ys' l b h hl hx1 hy1 n hn' w
      .cases h
     .cases h
def GH:∀ (d:Nat) (fs:List Field) (xs ys xs' ys':List Value) (l:List Value) (b:Bool),zL P d fs xs ys=some l->lY (l.map (D6 Ora.env))=some b->LR ρ xs xs'->LR ρ ys ys'->∀ (n:Nat),d<=n->∀ w:World,(Op.eqFields n ⟨xs'⟩ ⟨ys'⟩ fs).run P w=.ok b w
 | 0,_,_,_,_,_,_,_,h,_,_,_,_,_,_=>by simp[zL]at h
 | d+1,[],_,_,_,_,_,b,h,hl,_,_,_,_,_=>by
   simp only[zL,D3]at h;subst h;simp only[G0,lY,D3]at hl;subst hl;simp[Op.eqFields]
 | d+1,f::fs,xs,ys,xs',ys',l,b,h,hl,hx,hy,n,hn,w=>by
   unfold zL at h;cases hnm:f.name == "_" with
   | true=>rw[hnm]at h;cases h
   | false =>
     rw[hnm]at h;simp only[D7]at h;have hn':f.name ≠ "_":=by simpa using hnm
     split at h
     .rename_i x y h1 h2;obtain⟨x',g1,g2⟩:=hH h1 hx w;obtain⟨y',g3,g4⟩:=hH h2 hy w;split at h
      .rename_i a c ha hc;cases h;rw[N0]at hl;obtain⟨p,q,e1,e2,rfl⟩:=uZ (by have:=SR d _ _ _ a ha;simpa using this) hl;have ih:=OW d f.type x y x' y' a p ha e1 g2 g4 n A2 w;have ih2:=GH d fs xs ys xs' ys' c q hc e2 hx hy n A2 w;unfold Op.eqFields;rw[A9 hn'];cases p<;>simp[A4,g1,g3,Result.andThen,ih,ih2]
      .cases h
     .cases h
end
end
end
section
open Go
variable [Ora]
section
variable {P:Program} {base:Nat} {ρ:Ren} {m m':Mem} {w w':World}
def St.new0{ab:AB}(h:HR P base ρ m.H w)(Q:Z3 m ab k=some (v,m'))(R:K1 ρ m.n m'.hi)(I:BR P (upd ρ m.n l') ab l' w)(F:l'.on=false)
  (L:∀ q,Tc ab l' q->Fp ρ m.H q/\∀ id,id<=H6->∀ a l,Hp.get m.H id=some a->ρ id=some l->a.rw=true->l.on=true->l.blk≠q):v=k m.n/\upd ρ m.n l' m.n=some l'/\St P base ρ (upd ρ m.n l') m m' w w:=by
 obtain⟨hle,hv,rfl⟩:=L6 Q;have D:ρ m.n=none:=R m.n (A6 _) (L1 _ _).2;have A:=W9 (l:=l') D;refine⟨hv,L8 _ _ _,A,fun b q h1 j=>?_,by simp,(L1 _ _).1,fun _=>Y7 (L1 _ _).2,⟨fun b q M=>?_,fun id hid a f=>?_⟩,fun b I=>I,fun b h1 j=>absurd h1 j,fun q M _=>rfl,A6 _,⟨rfl,rfl,rfl⟩,fun b q h1 j B=>?_,fun id hid h1 j=>?_,fun q ⟨id,a,l,hid,f,E,N⟩=>.inr ?_⟩
 .obtain⟨rfl,rfl⟩:=U4 h1 j;exact⟨A6 _,J2 _⟩
 .cases h0:ρ b with
  | some O=>exact h.dom b O h0
  | none=>obtain⟨rfl,rfl⟩:=U4 M h0;exact hle
 .rw[F0 _ _ _ _ hle hid]at f;by_cases e:id=m.n
  .rw[A9 e]at f;have f:=A8 f;subst f;subst e;exact⟨l',L8 _ _ _,I,fun _ B=>(by rw[F]at B;cases B)⟩
  .rw[A7 e]at f;obtain⟨l0,h1,j,h3⟩:=h.at_ id hid a f;refine⟨l0,A _ _ h1,j.mono A (fun _ _=>rfl),fun hr B=>⟨(h3 hr B).1,fun G C J l2 g1 g2 g3=>?_⟩⟩;rw[F0 _ _ _ _ hle C]at g1;by_cases K:G=m.n
   .subst K;rw[L8]at g2
    have:=A8 g2;subst this;rw[A9 rfl]at g1;have g1:=A8 g1;subst g1;exact absurd rfl ((L _ g3).2 id hid a l0 f h1 hr B)
   .rw[A7 K]at g1;unfold upd at g2;rw[A7 K]at g2;exact(h3 hr B).2 G C J l2 g1 g2 g3
 .obtain⟨rfl,rfl⟩:=U4 h1 j;rw[F]at B;cases B
 .rw[F0 _ _ _ _ hle hid,A7];intro e;subst e;rcases j with j|j
  .omega
  .have j:upN m.hi m.n<=m.n:=j
   have:=(L1 m.hi m.n).2;omega
 .have f:Hp.get (m.H.set m.n (some ab)) id=some a:=f;rw[F0 _ _ _ _ hle hid]at f;by_cases e:id=m.n
  .subst e;rw[A9 rfl]at f;have f:=A8 f;subst f;rw[L8]at E;have E:=A8 E;subst E;exact(L q N.2).1
  .rw[A7 e]at f;unfold upd at E;rw[A7 e]at E;exact⟨id,a,l,hid,f,E,N⟩
def St.same0{ab:AB}{id:Nat}(h:HR P base ρ m.H w)(T:bZ m id ab'=some m')(L:Hp.get m.H id=some ab)(D:ab.rw=true)(G:ρ id=some l)(M:BR P ρ ab' l w)(O:∀ q,Tc ab' l q->Tc ab l q):St P base ρ ρ m m' w w:=by
 obtain⟨hle,rfl⟩:=U5 T;obtain⟨E,h3⟩:=h.atl G L;refine⟨fun _ _ h=>h,fun b k h1 E=>(by rw[h1]at E;cases E),A6 _,A6 _,fun h=>h,⟨h.dom,fun n f a A=>?_⟩,fun b M=>C3 _ M,fun b h1 E k J=>?_,fun k J R=>rfl,A6 _,⟨rfl,rfl,rfl⟩,fun b k h1 E=>(by rw[h1]at E;cases E),fun n f S U=>?_,fun k ⟨n,a,q,f,A,K,Q⟩=>.inr ?_⟩
 .rw[F0 _ _ _ _ hle f]at A;by_cases e:n=id
  .rw[A9 e]at A;have A:=A8 A;subst A;subst e;refine⟨l,G,M,fun _ C=>⟨(h3 D C).1,fun B j F N g1 g2 g3=>?_⟩⟩;rw[F0 _ _ _ _ hle j]at g1;by_cases I:B=n
   .exact I
   .rw[A7 I]at g1;exact(h3 D C).2 B j F N g1 g2 g3
  .rw[A7 e]at A;obtain⟨l2,g1,g2,g3⟩:=h.at_ n f a A;refine⟨l2,g1,g2.mono (fun _ _ h=>h) (fun k J=>rfl),fun hr C=>⟨(g3 hr C).1,fun B j F N f1 f2 f3=>?_⟩⟩;rw[F0 _ _ _ _ hle j]at f1;by_cases I:B=id
   .subst I;rw[G]at f2
    have:=A8 f2;subst this;have f1:=A8 (by simpa using f1);subst f1;exact(g3 hr C).2 B j ab l L G (O _ f3)
   .rw[A7 I]at f1;exact(g3 hr C).2 B j F N f1 f2 f3
 .rcases B4.1 h1 with rfl|h1
  .exact⟨ab,L,D⟩
  .exact absurd h1 E
 .rw[F0 _ _ _ _ hle f,A7];intro e;subst e;exact S B3
 .have A:Hp.get (m.H.set id (some ab')) n=some a:=A;rw[F0 _ _ _ _ hle f]at A;by_cases e:n=id
  .subst e;rw[A9 rfl]at A;have A:=A8 A;subst A;rw[G]at K;have K:=A8 K;subst K;exact⟨n,ab,l,f,L,G,AB.rw_fr D,O _ Q.2⟩
  .rw[A7 e]at A;exact⟨n,a,q,f,A,K,Q⟩
def St.move{ab:AB}{id:Nat}(h:HR P base ρ m.H w)(hle:id<=H6)(Z:Hp.get m.H id=some ab)(F:ab.rw=true)(X:ρ id=some l)
  (hn:Z3 (jS m id) ab' k=some (v,m')) (hf:K1 ρ m.n m'.hi) (O:l'.on=true->l.on=true/\l'.blk=l.blk)
  (ho:w'.os=w.os/\w'.tape=w.tape/\w'.output=w.output) (aw:w'.heap.size=w.heap.size) (Y:∀ k,(l.on=true->k≠l.blk)->w'.heap[k]? = w.heap[k]?) (S:BR P (upd ρ m.n l') ab' l' w') (av:ab'≠.frz) :
  v=k m.n/\upd ρ m.n l' m.n=some l'/\St P base ρ (upd ρ m.n l') m m' w w':=by
 rw[i7]at hn;obtain⟨V,hv,rfl⟩:=L6 hn;have B:ρ m.n=none:=hf m.n (A6 _) (L1 _ _).2;have I:=W9 (l:=l') B;obtain⟨Q,h3⟩:=h.atl X Z;have T:∀ k,Tc ab' l' k->l.on=true/\k=l.blk:=fun k Y=>by
  rcases Y with⟨_,h1,rfl⟩|⟨rfl,_⟩
  .exact O h1
  .exact absurd rfl av
 have ar:id≠m.n:=fun e=>by subst e;rw[X]at B;cases B
 have A:∀ i,i<=H6->Hp.get ((m.H.set id none).set m.n (some ab')) i=if i=m.n then some ab' else if i=id then none else Hp.get m.H i:=fun i hi=>by
  rw[F0 _ _ _ _ V hi,F0 _ _ _ _ hle hi]
 refine⟨hv,L8 _ _ _,I,fun b q h1 Q=>?_,W7 _,(L1 _ _).1,fun _=>Y7 (L1 _ _).2,⟨fun b q E=>?_,fun i hi a f=>?_⟩,fun b S=>C3 _ S,fun b h1 Q q E=>?_,fun q E ay=>Y q ?_,by rw[aw];exact A6 _,ho,fun b q h1 Q C=>?_,fun i hi h4 U=>?_,fun k ⟨i,a,q,hi,f,E,ht⟩=>.inr ?_⟩
 .obtain⟨rfl,rfl⟩:=U4 h1 Q;exact⟨A6 _,J2 _⟩
 .cases h0:ρ b with
  | some q0=>exact h.dom b q0 h0
  | none=>obtain⟨rfl,rfl⟩:=U4 E h0;exact V
 .have f:Hp.get ((m.H.set id none).set m.n (some ab')) i=some a:=f;rw[A i hi]at f;by_cases e:i=m.n
  .rw[A9 e]at f;have f:=A8 f;subst f;subst e;refine⟨l',L8 _ _ _,S,fun au C=>?_⟩;obtain⟨j,D⟩:=O C;refine⟨by rw[D];exact(h3 F j).1,fun K L az l2 g1 g2 g3=>?_⟩;rw[A K L]at g1;by_cases e2:K=m.n
   .exact e2
   .rw[A7 e2]at g1;unfold upd at g2;rw[A7 e2]at g2;by_cases J:K=id
    .rw[A9 J]at g1;cases g1
    .rw[A7 J]at g1;exact absurd ((h3 F j).2 K L az l2 g1 g2 (D▸g3)) J
  .rw[A7 e]at f;by_cases J:i=id
   .rw[A9 J]at f;cases f
   .rw[A7 J]at f;obtain⟨l2,g1,g2,g3⟩:=h.at_ i hi a f;have R:∀ k,Tc a l2 k->l.on=true->k≠l.blk:=fun k N j hh=>J ((h3 F j).2 i hi a l2 f g1 (hh▸N))
    refine⟨l2,I _ _ g1,g2.mono I (fun k N=>Y _ (R k N)),fun hr C=>⟨(g3 hr C).1,fun G M W l3 f1 f2 f3=>?_⟩⟩;have f1:Hp.get ((m.H.set id none).set m.n (some ab')) G=some W:=f1;rw[A G M]at f1;by_cases e4:G=m.n
    .subst e4;rw[L8]at f2
     have:=A8 f2;subst this;rw[A9 rfl]at f1;have f1:=A8 f1;subst f1;obtain⟨j,E⟩:=T _ f3;exact absurd E (R _ (.inl ⟨AB.rw_on hr,C,rfl⟩) j)
    .rw[A7 e4]at f1;unfold upd at f2;rw[A7 e4]at f2;by_cases e5:G=id
     .rw[A9 e5]at f1;cases f1
     .rw[A7 e5]at f1;exact(g3 hr C).2 G M W l3 f1 f2 f3
 .rcases B4.1 h1 with rfl|h1
  .exact⟨ab,Z,F⟩
  .exact absurd h1 Q
 .exact fun j e=>ay id B3 l X j e.symm
 .obtain⟨rfl,rfl⟩:=U4 h1 Q;obtain⟨j,D⟩:=O C;exact .inr ⟨id,B3,l,X,j,D.symm⟩
 .have ax:=A i hi;show Hp.get ((m.H.set id none).set m.n (some ab')) i=_;rw[ax,A7,A7]
  .intro e;subst e;exact h4 B3
  .intro e;subst e;rcases U with U|U
   .omega
   .have U:upN m.hi m.n<=m.n:=U
    have:=(L1 m.hi m.n).2;omega
 .have f:Hp.get ((m.H.set id none).set m.n (some ab')) i=some a:=f;rw[A i hi]at f;by_cases e:i=m.n
  .rw[A9 e]at f;have f:=A8 f;subst f;subst e;rw[L8]at E;have E:=A8 E;subst E;obtain⟨j,S⟩:=T k ht.2;exact⟨id,ab,l,hle,Z,X,AB.rw_fr F,.inl ⟨AB.rw_on F,j,S.symm⟩⟩
  .rw[A7 e]at f;unfold upd at E;rw[A7 e]at E;by_cases J:i=id
   .rw[A9 J]at f;cases f
   .rw[A7 J]at f;exact⟨i,a,q,hi,f,E,ht⟩
end
end
section
open Go
variable [Ora]
def w9{m m':Mem}{ab:AB}(h:Z3 m ab k=some (v,m')):m'.lg=m.lg:=by
 obtain⟨_,_,rfl⟩:=L6 h;rfl
def dL{m m':Mem}{id:Nat}{ab:AB}(h:bZ m id ab=some m'):m'.lg=m.lg:=by
 obtain⟨_,rfl⟩:=U5 h;rfl
def sP{m m':Mem}(h:oD m a vs=some m'):m'.lg=m.lg:=by
 unfold oD at h;split at h
 .obtain⟨_,h⟩:=A3 h;rw[H9]at h;exact dL h
 .cases h
def TS{P:Program}{m m':Mem}(h:xC P m t a v=some m'):m'.lg=m.lg:=by
 unfold xC at h;split at h
 .obtain⟨_,h⟩:=A3 h;exact sP h
 .cases h
def m7{m m':Mem}(h:noM o m=some (v,m')):m'.lg=m.lg:=by
 obtain⟨_,rfl⟩:=i6 h;rfl
def AD{P:Program}{m m':Mem}{n:Nat}{ps:List (Nat×Value)}(h:cJ P m t n ps=some (v,m')):m'.lg=m.lg:=by
 unfold cJ at h;split at h
 .split at h
  .obtain⟨_,h⟩:=A3 h;split at h
   .exact w9 h
   .cases h
  .cases h
 .cases h
def BD{P:Program}{m m':Mem}{l:Value}(h:eL P m t l c=some (v,m')):m'.lg=m.lg:=by
 unfold eL at h;split at h
 .split at h
  .obtain⟨_,h⟩:=A3 h;split at h
   .rw[H9]at h;exact w9 h
   .cases h
  .cases h
 .cases h
def A1q{P:Program}{m m':Mem}(h:DL P m s t x=some (v,m')):m'.lg=m.lg:=by
 unfold DL at h;split at h
 .cases h;rfl
 .cases h;rfl
 .cases h;rfl
 .split at h
  .split at h
   .rw[H9]at h;exact w9 h
   .cases h
  .cases h
 .split at h<;>cases h;rfl
 .split at h
  .split at h
   .split at h<;>cases h;rfl
   .cases h
  .cases h
 .cases h
def PJ{P:Program}{m m':Mem}(h:sL P m t t2 x y=some (v,m')):m'.lg=m.lg:=by
 unfold sL at h;split at h
 .rename_i B d2 _ _;cases j:cT d2 with
  | false=>rw[j]at h;cases h
  | true =>
  rw[j]at h;simp only[Q3,D7]at h;split at h
  .rename_i i a n c _;split at h
   .rename_i k new z _ _;obtain⟨_,h⟩:=A3 h;cases q:Nat.beq k 0 with
    | true =>
      rw[q]at h;simp only[E3]at h;split at h
      .obtain⟨_,h⟩:=A3 h;cases h;rfl
      .obtain⟨_,h⟩:=A3 h;cases h;rfl
    | false =>
      rw[q]at h;simp only[D7]at h;split at h
      .obtain⟨_,h⟩:=A3 h;rw[H9]at h;exact w9 h
      .cases A:Nat.blt c M9 with
       | true =>
         rw[A]at h;simp only[E3]at h;cases f:Nat.ble (n+k) c with
         | true =>
           rw[f]at h;simp only[E3]at h;split at h
           .rename_i m1 _ hw;cases h;exact sP hw
           .cases h
         | false =>
           rw[f]at h;simp only[D7]at h;split at h
           .rw[H9]at h;exact w9 h
           .cases h
       | false =>
         rw[A]at h;simp only[D7]at h;obtain⟨_,h⟩:=A3 h;split at h
         .obtain⟨_,h⟩:=A3 h;rw[H9]at h;rw[w9 h,i7]
         .cases h
   .cases h
  .cases h
 .cases h
def A1n{P:Program}{m m':Mem}(h:LL P m t x y=some (v,m')):m'.lg=m.lg:=by
 unfold LL at h;split at h
 .split at h
  .split at h
   .split at h
    .obtain⟨_,h⟩:=A3 h;cases h;rfl
    .rename_i k cs j _ n;cases f:Nat.beq cs.length 0 with
     | true=>rw[f]at h;cases h;rfl
     | false =>
       rw[f]at h;simp only[D7]at h;obtain⟨_,h⟩:=A3 h;split at h
       .rename_i hw;cases h;exact sP hw
       .cases h
   .cases h
  .cases h
 .cases h
def AN{P:Program}{m m':Mem}{l:Value}(h:eB P m pt p l=some (v,m')):m'.lg=m.lg:=by
 unfold eB at h;split at h
 .cases h;rfl
 .split at h
  .split at h
   .obtain⟨_,h⟩:=A3 h;split at h
    .split at h
     .rename_i X8;cases h;exact dL X8
     .cases h
    .cases h
   .cases h
  .cases h
 .cases h
def LX{P:Program}{m m':Mem}(h:iE P m b vs tys=some (v,m')):m'.lg=m.lg:=by
 unfold iE at h;split at h
 .exact m7 h
 .exact m7 h
 .exact PJ h
 .exact A1n h
 .exact m7 h
 .exact m7 h
 .unfold iL at h;split at h
  .cases h;rfl
  .rename_i a n c;cases f:Nat.beq n 0 || Nat.beq c 0 || Nat.beq c (M9+2)with
   | true=>rw[f]at h;cases h
   | false=>rw[f]at h;cases h;rfl
  .cases h
 .exact AN h
 .cases h
def A7Z{P:Program}{fr:Fr}{m m':Mem}{o:Op}(h:opM P fr m o=some (v,m')):m'.lg=m.lg:=by
 unfold opM at h;split at h
 .cases h;rfl
 .cases h;rfl
 .unfold QY at h;split at h<;>cases h<;>rfl
 .unfold FD at h;split at h
  .exact w9 h
  .cases h
 .unfold ZX at h;obtain⟨_,h⟩:=A3 h;exact w9 h
 .exact m7 h
 .exact AD h
 .unfold QZ at h;split at h
  .exact m7 h
  .cases h
 .unfold FB at h;split at h
  .obtain⟨h,_⟩:=nC h;exact TS h
  .cases h
 .unfold ZW at h;split at h<;>cases h<;>rfl
 .unfold A3H at h;rename_i op t x y j;cases f:yY op with
  | true=>rw[f]at h;simp only[E3]at h;obtain⟨_,h⟩:=A3 h;exact m7 h
  | false=>rw[f]at h;exact m7 h
 .exact m7 h
 .exact A1q h
 .unfold FC at h;split at h
  .split at h
   .cases h
   .obtain⟨_,h⟩:=A3 h;cases h;rfl
  .cases h
 .cases h;rfl
 .exact BD h
 .exact m7 h
 .exact m7 h
 .exact m7 h
 .exact m7 h
 .exact m7 h
 .unfold lF at h;split at h
  .exact m7 h
  .cases h
 .exact LX h
 .cases h
def H7{m m':Mem}{t:Nat}{op:LOp}(h:U1 m t op xs=some (v,m')):m.lg.le m'.lg:=by
 obtain⟨_,rfl⟩:=iU h;obtain⟨H,n,W,hi,l⟩:=m;exact⟨[_],rfl⟩
def J9(m m':Mem):Prop:=∃ lg,m'=m.wLg lg
def J9.refl(m:Mem):J9 m m:=⟨m.lg,by cases m;rfl⟩
def J9.trans{a b c:Mem}(h:J9 a b)(k:J9 b c):J9 a c:=by
 obtain⟨l,rfl⟩:=h;obtain⟨l2,rfl⟩:=k;exact⟨l2,by cases a;rfl⟩
def H4{m m':Mem}{t:Nat}{op:LOp}(h:U1 m t op xs=some (v,m')):J9 m m':=⟨_,(iU h).2⟩
section
variable {P:Program} {base:Nat} {ρ:Ren} {m m':Mem} {w:World}
def MQ{a b:Value}(h:vZ m c a b=some (v,m')):m.lg.le m'.lg/\J9 m m':=by
 obtain⟨H,n,W,hi,lg⟩:=m;unfold vZ at h;simp only at h;split at h
 .rename_i j f;cases h;exact⟨eX f,⟨_,rfl⟩⟩
 .rename_i j f;cases h;exact⟨eX f,⟨_,rfl⟩⟩
 .cases h
def TQ{a b:Value}(h:oE P m op t a b=some (v,m')):m.lg.le m'.lg/\J9 m m':=by
 unfold oE at h;simp only at h;cases h1:(Nat.blt (G5 a) 8 && Nat.blt (G5 b) 8) || (Nat.beq (G5 a) 9 && Nat.beq (G5 b) 9)with
 | true=>rw[h1]at h;exact⟨H7 h,H4 h⟩
 | false =>
   rw[h1]at h;simp only[D7]at h;obtain⟨_,h⟩:=A3 h;exact⟨H7 h,H4 h⟩
def WM{x y:Operand}{a b:Value}(h:IE P m op t x y a b=some (v,m')):m.lg.le m'.lg/\J9 m m':=by
 unfold IE at h;obtain⟨_,h⟩:=A3 h;split at h
 .exact⟨H7 h,H4 h⟩
 .split at h
  .rename_i m1 h1;exact⟨(H7 h1).trans (H7 h),(H4 h1).trans (H4 h)⟩
  .cases h
 .cases h
def ID{i:Value}(h:g8 P m t x i=some (v,m')):m.lg.le m'.lg/\J9 m m':=by
 unfold g8 at h;cases f:!(Nat.blt (G5 i) 8)with
 | true=>rw[f]at h;cases h
 | false =>
   rw[f]at h;simp only[D7]at h;split at h
   .obtain⟨_,h⟩:=A3 h;exact⟨H7 h,H4 h⟩
   .split at h
    .obtain⟨_,h⟩:=A3 h;exact⟨H7 h,H4 h⟩
    .obtain⟨_,h⟩:=A3 h;exact⟨H7 h,H4 h⟩
    .cases h
   .cases h
def IB(h:kS P m t x lo hi mx=some (v,m')):m.lg.le m'.lg/\J9 m m':=by
 unfold kS at h;split at h
 .obtain⟨_,h⟩:=A3 h;split at h
  .cases h;exact⟨.refl _,.refl _⟩
  .obtain⟨_,h⟩:=A3 h;exact⟨H7 h,H4 h⟩
  .obtain⟨_,h⟩:=A3 h;exact⟨H7 h,H4 h⟩
  .obtain⟨_,h⟩:=A3 h;exact⟨H7 h,H4 h⟩
 .cases h
def WJ{op:UnOp}(h:HZ m op x=some (v,m')):m.lg.le m'.lg/\J9 m m':=by
 unfold HZ at h;simp only at h;split at h
 .obtain⟨_,h⟩:=A3 h;exact⟨H7 h,H4 h⟩
 .obtain⟨_,h⟩:=A3 h;exact⟨H7 h,H4 h⟩
def MU(h:pW P m s t x=some (v,m')):m.lg.le m'.lg/\J9 m m':=by
 unfold pW at h;split at h
 .obtain⟨_,h⟩:=A3 h;exact⟨H7 h,H4 h⟩
 .obtain⟨_,h⟩:=A3 h;cases h;exact⟨.refl _,.refl _⟩
 .cases h
def AX(h:eF P m b vs tys=some (v,m')):m.lg.le m'.lg/\J9 m m':=by
 unfold eF at h;split at h
 .split at h
  .obtain⟨_,h⟩:=A3 h;exact⟨H7 h,H4 h⟩
  .cases h
 .obtain⟨_,h⟩:=A3 h;exact⟨H7 h,H4 h⟩
 .obtain⟨_,h⟩:=A3 h;exact⟨H7 h,H4 h⟩
 .cases h
def SB{s n:Nat}{i:Value}(h:UY m a s n i=some (v,m')):m.lg.le m'.lg/\J9 m m':=by
 unfold UY at h;cases j:!(Nat.blt (G5 i) 8)with
 | true=>rw[j]at h;cases h
 | false =>
   rw[j]at h;simp only[D7]at h;split at h
   .rename_i b H k W hi lg q;split at h
    .rename_i f A;cases h;have h1:=H7 q;obtain⟨l1,B⟩:=H4 q;refine⟨h1.trans (eX A),f,?_⟩;obtain⟨H0,n0,D,C,l0⟩:=m;cases B;rfl
    .cases h
   .cases h
def AT{i:Value}(h:eD P m t x i=some (v,m')):m.lg.le m'.lg/\J9 m m':=by
 unfold eD at h;split at h
 .split at h
  .exact SB h
  .cases h
 .split at h
  .generalize f:Nat.beq _ (M9+2)=q at h;cases q with
   | true=>cases h
   | false=>exact SB h
  .cases h
 .cases h
def AV(h:eE P m s x i=some (v,m')):m.lg.le m'.lg/\J9 m m':=by
 unfold eE at h;split at h
 .split at h
  .split at h
   .split at h
    .cases h;exact⟨.refl _,.refl _⟩
    .cases h
   .cases h
  .cases h
 .cases h
def fM{cs:D2}{s n:Nat}{i:Value}:∀ {k o:Nat} {m m':Mem} {r:D2},cA m cs s n i o k=some (r,m')->m.lg.le m'.lg/\J9 m m'
 | 0,o,m,m',r,h=>by cases h;exact⟨.refl _,.refl _⟩
 | k+1,o,m,m',r,h=>by
   unfold cA at h;split at h
   .obtain⟨_,h⟩:=A3 h;split at h
    .rename_i m1 h1;split at h
     .rename_i f;cases h
      have:=fM f;exact⟨(H7 h1).trans this.1,(H4 h1).trans this.2⟩
     .cases h
    .cases h
   .cases h
def MS(h:pV P m t x=some (v,m')):m.lg.le m'.lg/\J9 m m':=by
 unfold pV at h;split at h
 .split at h
  .split at h
   .split at h
    .rename_i h1;cases h;exact fM h1
    .cases h
   .cases h
  .split at h
   .split at h
    .rename_i h1;cases h;exact fM h1
    .cases h
   .cases h
  .cases h
 .cases h
def PX{fr:Fr}{o:Op}(h:WK P fr m o=some (v,m')):m.lg.le m'.lg/\J9 m m':=by
 unfold WK at h;split at h
 .exact MQ h
 .split at h
  .rename_i r hr;cases h;exact TQ hr
  .exact WM h
 .exact WJ h
 .exact MU h
 .exact IB h
 .exact ID h
 .exact AT h
 .exact AV h
 .exact MS h
 .exact AX h
 .cases h
def rE{j k:IntKind}(h:hP j=hP k):j=k:=by cases j<;>cases k<;>first|rfl|(simp only[hP]at h;omega)
def TP{x y:Operand}{a b:Value}(h:oE P m op t a b=some (v,m'))(H:VR ρ a a')(D:VR ρ b b')(M:Sat m'.lg)(w:World) :
  ∃ r,(do eqGuard op t x y a' b';binOp op t a' b':Sem Value).run P w=.ok r w/\VR ρ v r:=by
 have fin:∀ {r:Value} {p q:Value},xL p=true->xL q=true->sI P op t p q=some r->a'=p->b'=q->(do eqGuard op t x y a' b';binOp op t a' b':Sem Value).run P w=.ok r w:=fun{r p q} hp J hr f C=>by
  subst f;subst C;have v1:VR ρ a' a':=.pure (by cases a'<;>simp[xL]at hp<;>rfl);have v2:VR ρ b' b':=.pure (by cases b'<;>simp[xL]at J<;>rfl);have g:lT P t x y a' b'=true:=by
   cases a'<;>simp[xL]at hp<;>cases b'<;>simp[xL]at J<;>rfl
  have N:=rR (op:=op) (fun _=>g) v1 v2 w;obtain⟨A,_⟩:=wQ hr v1 v2 w;simp[A4,N,A,Result.andThen]
 unfold oE at h;simp only at h;cases h1:(Nat.blt (G5 a) 8 && Nat.blt (G5 b) 8) || (Nat.beq (G5 a) 9 && Nat.beq (G5 b) 9)with
 | true =>
   rw[h1]at h;obtain⟨u,f,C,r,B,G,Q⟩:=M4 h M;have K:G1 u<10:=by rw[C];exact Q
   refine⟨r,?_,G ρ⟩;rcases I9 _ _▸h1 with h1|h1
   .obtain⟨F,E⟩:=B6 h1;obtain⟨k,n,rfl,f1,_⟩:=M6 H (A1 F);obtain⟨j,R,rfl,f2,_⟩:=M6 D (A1 E);simp only[C4,G0,f1,f2,evU,evB]at f;subst f;obtain⟨O,g1,g2⟩:=FA K;rw[B]at g2;cases g2;exact fin rfl rfl (by unfold sI;exact g1) rfl rfl
   .obtain⟨F,E⟩:=B6 h1;obtain⟨s1,rfl,f1⟩:=l6 H (A0 F);obtain⟨s2,rfl,f2⟩:=l6 D (A0 E);simp only[C4,G0,f1,f2,evU,evB]at f;subst f;obtain⟨O,g1,g2⟩:=FA K;rw[B]at g2;cases g2;exact fin rfl rfl (by unfold sI;exact g1) rfl rfl
 | false =>
   rw[h1]at h;simp only[D7]at h;obtain⟨A,h⟩:=A3 h;obtain⟨A,I⟩:=B6 A;obtain⟨A,L⟩:=B6 A;obtain⟨A,h3⟩:=B6 A;have hu:P.underlying t=some .bool:=by
    split at I
    .assumption
    .cases I
   obtain⟨u,f,C,r,B,G,_⟩:=M4 h M;refine⟨r,?_,G ρ⟩;obtain⟨p,rfl,f1⟩:=gV H (A0 A);obtain⟨q,rfl,f2⟩:=gV D (A0 h3);simp only[C4,G0,f1,f2,evU,evB]at f;cases op<;>simp only[yY]at L<;>first
    | cases L
    | skip
   .subst f;cases B;exact fin rfl rfl (by simp[sI,CD,eqM,hu]) rfl rfl
   .subst f;cases B;exact fin rfl rfl (by simp[sI,CD,eqM,hu]) rfl rfl
def vF(e:Bool)(f:∃ cs,a'=.agg cs):binOp (bif e then .eql else .neq) t a' b'=(do let r <- Op.equal t a' b';pure (.bool (bif e then r else !r))):=by
 obtain⟨cs,rfl⟩:=f;cases e<;>cases b'<;>rfl
def WL{x y:Operand}{a b:Value}(h:IE P m op t x y a b=some (v,m'))(G:VR ρ a a')(J:VR ρ b b')(j:oE P m op t a b=none)(O:Sat m'.lg)(w:World) :
  ∃ r,(do eqGuard op t x y a' b';binOp op t a' b':Sem Value).run P w=.ok r w/\VR ρ v r:=by
 unfold IE at h;obtain⟨R,h⟩:=A3 h;have C:=rR (op:=op) (fun _=>R) G J w;have q:∀ {l},eqS P 20 t a b=some l->(op=.eql∨op=.neq)->∃ cs,a'=.agg cs:=fun{l} f Q=>by
  unfold eqS at f;cases B:eQ P t a b with
  | true =>
    unfold eQ at B;unfold oE at j;simp only at j;split at B
    .rename_i hu;obtain⟨D,E⟩:=B6 B;rw[A0 D,A0 E,hu]at j;obtain⟨H,n,W,hi,⟨nx,pi,log⟩⟩:=m;rcases Q with rfl|rfl<;>simp[yY,U1,E7,H9]at j
    .rename_i k hu;obtain⟨D,E⟩:=B6 B;have S:=L7 k;have U:Nat.blt (hP k) 8=true:=C6 S;rw[A0 D,A0 E,U]at j;obtain⟨H,n,W,hi,⟨nx,pi,log⟩⟩:=m;simp[U1,E7,H9]at j
    .obtain⟨D,E⟩:=B6 B;rw[A0 D,A0 E]at j;obtain⟨H,n,W,hi,⟨nx,pi,log⟩⟩:=m;simp[U1,E7,H9]at j
    .cases B
  | false =>
    rw[B]at f;simp only[D7]at f;split at f
    .obtain⟨cs',rfl,_⟩:=V6 G;exact⟨_,rfl⟩
    .obtain⟨cs',rfl,_⟩:=V6 G;exact⟨_,rfl⟩
    .cases f
 split at h
 .rename_i l f _;obtain⟨u,A,T,r,I,K,_⟩:=M4 h O;refine⟨r,?_,K ρ⟩;simp only[evU]at A;split at A
  .rename_i z M;subst A;cases I;have he:(Op.equal t a' b').run P w=.ok z w:=OW 20 t a b a' b' l z f M G J _ E6 w;have F:=vF (t:=t) (b':=b') true (q f (.inl rfl));simp only[E3]at F;rw[F];simp[A4,C,he,Result.andThen]
  .subst A;cases I
 .rename_i l f _;split at h
  .rename_i hh m1 h1;have N:Sat m1.lg:=R6.le O (H7 h);obtain⟨V,f1,f2,r1,f3,f4,_⟩:=M4 h1 N;obtain⟨u,A,T,r,I,K,_⟩:=M4 h O;refine⟨r,?_,K ρ⟩;simp only[evU]at f1;split at f1
   .rename_i z M;subst f1;cases f3;have hv:=u7 (ρ:=ρ) (f4 ρ) (by obtain⟨e,_⟩:=iU h1;rw[e];show 8<10;omega);have:D6 Ora.env hh=.bool z:=by
     cases hu:D6 Ora.env hh<;>rw[hu]at hv<;>first|(cases hv.1;done)|skip
     all_goals (obtain⟨L,_⟩:=hv;cases L;rfl)
    simp only[C4,G0,this,evU,ev1,unM,ofV]at A;subst A;cases I;have he:(Op.equal t a' b').run P w=.ok z w:=OW 20 t a b a' b' l z f M G J _ E6 w;have F:=vF (t:=t) (b':=b') false (q f (.inr rfl));simp only[D7]at F;rw[F];simp[A4,C,he,Result.andThen]
   .subst f1;cases f3
  .cases h
 .cases h
end
end
end Go.Sx
