import Derived.Test.YtdimocjaepnifaaGreatDoorX1
import Derived.Laws.BytesString
set_option linter.all false
set_option maxRecDepth 100000
set_option maxHeartbeats 4000000
namespace Go.Sx
variable {e pt s t t2 ty:TypeId}{k:Nat->Value}{a' b' c c' p p' u v v' x x' y y' z:Value}{new new' old' vs vs' xs:D6}{d d2:TypeDesc}{a:Addr}{inf:TypeInfo}{ab':AB}{l l':Loc}{r:r7}{i:Nat}{op:BinOp}{tys:List TypeId}{b:Builtin}{hi lo mx o:W4}{g:Operand->Value}
section
open Go
variable [Ora]
def XJ(a b:Nat)(h:b<a):Builtin.nextslicecap a b<=3*a+4000:=by
 have grow:∀ r c,Builtin.growBy a r c<=max (c) (2*a+800):=by
  intro r;induction r with
  | zero=>intro c;simp only[Builtin.growBy];exact Nat.le_max_left _ _
  | succ r f =>
    intro c;simp only[Builtin.growBy];split
    .exact Nat.le_max_left _ _
    .have:=f (c+(c+768) / 4);refine B9 this ?_;rw[Nat.max_le];constructor
     .refine B9 ?_ (Nat.le_max_right _ _);omega
     .exact Nat.le_max_right _ _
 unfold Builtin.nextslicecap;split
 .omega
 .split
  .omega
  .have:=grow 4 b;refine B9 this ?_;rw[Nat.max_le];omega
section
variable {P:Program} {base:Nat} {ρ:Ren} {m m':Mem} {w:World}
def eM{w wd:World}(h:wd.heap=w.heap)(a:Addr):wd.cell? a=w.cell? a:=by simp[World.cell?,h]
def CD(ρ:Ren):∀ l:List UInt8,LR ρ (U8 l) (U8 l)
 | []=>.nil
 | b::r=>.cons (.pure rfl) (CD ρ r)
def zZ{s k:Nat}(h:HR P base ρ m.H w)(f:iS m s y=some (k,new))(B:VR ρ y y') :
  (∀ wd,(Builtin.lenOf y').run P wd=.ok k wd)/\∃ new',LR ρ new new'/\∀ wd:World,wd.heap=w.heap->(Builtin.firstCells s k y').run P wd=.ok ⟨new'⟩ wd:=by
 unfold iS at f;split at f
 .rename_i n c;obtain⟨h1,q⟩:=A6 f;have h1:=A1 h1;subst h1;cases q;cases V5 B;exact⟨fun _=>rfl,[],.nil,fun _ _=>rfl⟩
 .rename_i a n c;split at f
  .rename_i cs hr;cases f;rcases U4 B with⟨l,D,_,_,rfl⟩|⟨l,c',D,_,_,_,_,rfl⟩|⟨a',c',_,rfl,_,rfl⟩
   .obtain⟨C,h1,q,h3⟩:=aY h hr D;exact⟨fun _=>rfl,C,h1,fun wd hw=>N7 q fun j v A=>by rw[eM hw];exact h3 j v A⟩
   .obtain⟨C,h1,q,h3⟩:=aY h hr D;exact⟨fun _=>rfl,C,h1,fun wd hw=>N7 q fun j v A=>by rw[eM hw];exact h3 j v A⟩
   .have:new=[]:=by
     unfold cO at hr;split at hr
     .have:=(nR hr).2;simp at this;exact this
     .cases hr
    subst this;refine⟨fun _=>rfl,[],.nil,fun wd _=>?_⟩;simp[Builtin.firstCells,loadCells,loadCellsFrom]
  .cases f
 .rename_i b;obtain⟨_,f⟩:=A6 f;cases f;cases o8 B;refine⟨fun _=>rfl,U8 b.data.toList,?_,fun wd _=>?_⟩
  .exact CD _ _
  .have e:((b.extract 0 b.size).data.map fun b=>Value.int .u8 b.toNat)=⟨U8 b.data.toList⟩:=by
    apply L3;simp[U8]
   show(pure ((b.extract 0 b.size).data.map fun b=>Value.int .u8 b.toNat):Sem r7).run P wd=_;rw[e];rfl
 .cases f
def B4n(h:fV d=true):(∃ e,d=.slice e)∨d=.string:=by cases d<;>first|cases h;done|exact .inl ⟨_,rfl⟩|exact .inr rfl
def lN{n k c:Nat}{a:Option Addr}(hu:P.underlying t=some (.slice e))(B:P.underlying t2=some d2)(C:fV d2=true)
  (hi:P.info? e=some inf) (I:∀ w,(zeroValue e).run P w=.ok z w) (hlen:∀ wd,(Builtin.lenOf x').run P wd=.ok k wd)
  (hold:∀ wd:World,wd.heap=w.heap->(Builtin.firstCells inf.size n (.slice a n c)).run P wd=.ok ⟨old'⟩ wd) (f:∀ wd:World,wd.heap=w.heap->(Builtin.firstCells inf.size k x').run P wd=.ok ⟨new'⟩ wd)
  (E:¬ n+k<=c) (K:(3*(n+k)+4000)*inf.bytes<=281474976710656) (hm:n+k<=1000000000) :
  ∃ nc,n+k<=nc/\(Builtin.append_ #[t,t2] ty #[.slice a n c,x']).run P w=.ok (.slice (some ⟨w.heap.size,0,none⟩) (n+k) nc) { w.drew with heap:=w.heap.push (.cells (⟨old'⟩++⟨new'⟩++Builtin.zeroCells z.cells (nc-(n+k))) e (0,0)) }:=by
 have H:I4 P e=some inf.size:=by simp[I4,hi]
 have h:Builtin.nextslicecap (n+k) c*inf.bytes<=281474976710656:=by
  have:=G8 inf.bytes (XJ (n+k) c A0);omega
 let q:Question:=.appendCap (n+k) c e
 let nc:=q.cut (w.tape w.drawn q)
 have F:n+k<=nc:=by show n+k<=(n+k)+_;omega
 refine⟨nc,F,?_⟩;have D:(choose q).run P w=.ok nc w.drew:=by
  simp only[choose,Sem.run];rw[A3 (by simp[q,Question.forced])];rfl
 have A:∀ k w,(askRoom k).run P w=.ok () w:=fun k w=>by unfold askRoom;split<;>rfl
 unfold Builtin.append_;rcases B4n C with⟨J,rfl⟩|rfl
 all_goals simp only[M3,W7,W8,A8,D8 hu,D8 B,Result.andThen,P0 H,Sem.run_pure,L2,if_false,hlen]
 all_goals
  have j:¬ (((n+k:Nat):Int)>IntKind.i64.max):=by simp[IntKind.max,IntKind.bits,IntKind.signed];omega
  simp only[A3 E,j,false_and,if_false,A8,Result.andThen,j7 hi];rw[A3 (show ¬ (Builtin.nextslicecap (n+k) c*inf.bytes>2 ^ 48) by simpa using h)];have G:w.drew.heap=w.heap:=rfl;simp only[A8,Sem.run_pure,Result.andThen,show(choose (.appendCap (n+k) c e)).run P w=.ok nc w.drew from D,A,hold _ G,f _ G,I,j7 hi,Bool.not_false,if_true];rfl
def rT{n k c:Nat}{w':World}(hu:P.underlying t=some (.slice e))(q:P.underlying t2=some d2)(h:fV d2=true)
  (hi:P.info? e=some inf) (hlen:∀ wd,(Builtin.lenOf x').run P wd=.ok k wd) (f:(Builtin.firstCells inf.size k x').run P w=.ok ⟨new'⟩ w)
  (hle:n+k<=c) (j:(storeCells (a.add (n*inf.size)) new').run P w=.ok () w') :
  (Builtin.append_ #[t,t2] ty #[.slice (some a) n c,x']).run P w=.ok (.slice (some a) (n+k) c) w':=by
 have A:I4 P e=some inf.size:=by simp[I4,hi]
 unfold Builtin.append_;rcases B4n h with⟨B,rfl⟩|rfl
 all_goals simp only[M3,W7,W8,A8,D8 hu,D8 q,Result.andThen,P0 A,Sem.run_pure,L2,if_false,hlen]
 all_goals simp[A4 hle,A8,f,Result.andThen,j]
def zG(hu:P.underlying t=some (.slice e))(j:P.underlying t2=some d2)(n:fV d2=true)
  (hi:P.info? e=some inf) (hlen:∀ wd,(Builtin.lenOf x').run P wd=.ok 0 wd) (f:(Builtin.firstCells inf.size 0 x').run P w=.ok #[] w) :
  (Builtin.append_ #[t,t2] ty #[.slice none 0 0,x']).run P w=.ok (.slice none 0 0) w:=by
 have q:I4 P e=some inf.size:=by simp[I4,hi]
 unfold Builtin.append_;rcases B4n n with⟨h,rfl⟩|rfl
 all_goals simp only[M3,W7,W8,A8,D8 hu,D8 j,Result.andThen,P0 q,Sem.run_pure,L2,if_false,hlen]
 all_goals simp[A8,f,Result.andThen]
def St.kill{ab:AB}{id:Nat}(h:HR P base ρ m.H w)(hle:id<=J0)(D:Hp.get m.H id=some ab)(C:ab.rw=true):St P base ρ ρ m (oG m id) w w:=by
 rw[bP];refine⟨fun _ _ h=>h,fun b k h1 A=>(by rw[h1]at A;cases A),B0 _,B0 _,fun h=>h,h.sub fun j f a n=>?_,fun b G=>D1 _ G,fun b h1 A k B=>?_,fun k B I=>rfl,B0 _,⟨rfl,rfl,rfl⟩,fun b k h1 A=>(by rw[h1]at A;cases A),fun j f F K=>?_,fun k ⟨j,a,q,f,n,E,J⟩=>.inr ⟨j,a,q,f,?_,E,J⟩⟩
 .rw[F5 _ _ _ _ hle f]at n;by_cases e:j=id
  .rw[A4 e]at n;cases n
  .rw[A3 e]at n;exact n
 .rcases B7.1 h1 with rfl|h1
  .exact⟨ab,D,C⟩
  .exact absurd h1 A
 .rw[F5 _ _ _ _ hle f,A3];intro e;subst e;exact F C7
 .have n:Hp.get (m.H.set id none) j=some a:=n;rw[F5 _ _ _ _ hle f]at n;by_cases e:j=id
  .rw[A4 e]at n;cases n
  .rw[A3 e]at n;exact n
def St.grow{ab:AB}{id:Nat}{w':World}(h:HR P base ρ m.H w)(hle:id<=J0)(Y:Hp.get m.H id=some ab)(F:ab.rw=true)(W:ρ id=some l)(E:l.on=true)
  (hn:y6 (oG m id) ab' k=some (v,m')) (hf:M8 ρ m.n m'.hi)
  (ho:w'.os=w.os/\w'.tape=w.tape/\w'.output=w.output) (ay:w'.heap.size=w.heap.size) (X:∀ k,k≠l.blk->w'.heap[k]? = w.heap[k]?) (hb:BR P (upd ρ m.n l) ab' l w') (az:ab'≠.frz:=by intro h;cases h) :
  v=k m.n/\St P base ρ (upd ρ m.n l) m m' w w':=by
 rw[bP]at hn;obtain⟨V,hv,rfl⟩:=N1 hn;have B:ρ m.n=none:=hf m.n (B0 _) (L9 _ _).2;have C:=u5 (l:=l) B;obtain⟨O,h3⟩:=h.atl W Y;have R:∀ k,Tc ab' l k->k=l.blk:=fun k X=>by
  rcases X with⟨_,_,rfl⟩|⟨rfl,_⟩
  .rfl
  .exact absurd rfl az
 have aw:id≠m.n:=fun e=>by subst e;rw[W]at B;cases B
 have A:∀ i,i<=J0->Hp.get ((m.H.set id none).set m.n (some ab')) i=if i=m.n then some ab' else if i=id then none else Hp.get m.H i:=fun i hi=>by
  rw[F5 _ _ _ _ V hi,F5 _ _ _ _ hle hi]
 refine⟨hv,C,fun b q h1 O=>?_,t8 _,(L9 _ _).1,fun _=>g9 (L9 _ _).2,⟨fun b q D=>?_,fun i hi a f=>?_⟩,fun b hb=>D1 _ hb,fun b h1 O q D=>?_,fun q D ax=>X q ?_,by rw[ay];exact B0 _,ho,fun b q h1 O _=>?_,fun i hi h4 Q=>?_,fun k ⟨i,a,q,hi,f,D,ht⟩=>.inr ?_⟩
 .obtain⟨rfl,rfl⟩:=W5 h1 O;exact⟨B0 _,K4 _⟩
 .cases h0:ρ b with
  | some q0 =>
    rw[C b q0 h0]at D
    have:=A9 D;subst this;exact h.dom b q0 h0
  | none=>obtain⟨rfl,rfl⟩:=W5 D h0;exact V
 .have f:Hp.get ((m.H.set id none).set m.n (some ab')) i=some a:=f;rw[A i hi]at f;have S:∀ j,j<=J0->∀ J l2,Hp.get ((m.H.set id none).set m.n (some ab')) j=some J->upd ρ m.n l j=some l2->Tc J l2 l.blk->j=m.n:=fun j K J l2 g1 g2 g3=>by
   rw[A j K]at g1;by_cases e2:j=m.n
   .exact e2
   .rw[A3 e2]at g1;unfold upd at g2;rw[A3 e2]at g2;by_cases I:j=id
    .rw[A4 I]at g1;cases g1
    .rw[A3 I]at g1;exact absurd ((h3 F E).2 j K J l2 g1 g2 g3) I
  by_cases e:i=m.n
  .rw[A4 e]at f;have f:=A9 f;subst f;subst e;exact⟨l,M7 _ _ _,hb,fun _ _=>⟨(h3 F E).1,S⟩⟩
  .rw[A3 e]at f;by_cases I:i=id
   .rw[A4 I]at f;cases f
   .rw[A3 I]at f;obtain⟨l2,g1,g2,g3⟩:=h.at_ i hi a f;have T:∀ k,Tc a l2 k->k≠l.blk:=fun k M hh=>I ((h3 F E).2 i hi a l2 f g1 (hh▸M))
    refine⟨l2,C _ _ g1,g2.mono C (fun k M=>X _ (T k M)),fun hr N=>⟨(g3 hr N).1,fun G L U l3 f1 f2 f3=>?_⟩⟩;have f1:Hp.get ((m.H.set id none).set m.n (some ab')) G=some U:=f1;rw[A G L]at f1;by_cases e4:G=m.n
    .subst e4;rw[M7]at f2
     have:=A9 f2;subst this;rw[A4 rfl]at f1;have f1:=A9 f1;subst f1;exact absurd (R _ f3) (T _ (.inl ⟨AB.rw_on hr,N,rfl⟩))
    .rw[A3 e4]at f1;unfold upd at f2;rw[A3 e4]at f2;by_cases e5:G=id
     .rw[A4 e5]at f1;cases f1
     .rw[A3 e5]at f1;exact(g3 hr N).2 G L U l3 f1 f2 f3
 .rcases B7.1 h1 with rfl|h1
  .exact⟨ab,Y,F⟩
  .exact absurd h1 O
 .exact fun e=>ax id C7 l W E e.symm
 .obtain⟨rfl,rfl⟩:=W5 h1 O;exact .inr ⟨id,C7,q,W,E,rfl⟩
 .have Z:=A i hi;show Hp.get ((m.H.set id none).set m.n (some ab')) i=_;rw[Z,A3,A3]
  .intro e;subst e;exact h4 C7
  .intro e;subst e;rcases Q with Q|Q
   .omega
   .have Q:upN m.hi m.n<=m.n:=Q
    have:=(L9 m.hi m.n).2;omega
 .have f:Hp.get ((m.H.set id none).set m.n (some ab')) i=some a:=f;rw[A i hi]at f;by_cases e:i=m.n
  .rw[A4 e]at f;have f:=A9 f;subst f;subst e;rw[M7]at D;have D:=A9 D;subst D;exact⟨id,ab,l,hle,Y,W,AB.rw_fr F,.inl ⟨AB.rw_on F,E,(R k ht.2).symm⟩⟩
  .rw[A3 e]at f;unfold upd at D;rw[A3 e]at D;by_cases I:i=id
   .rw[A4 I]at f;cases f
   .rw[A3 I]at f;exact⟨i,a,q,hi,f,D,ht⟩
def NI{s k:Nat}(h:HR P base ρ m.H w)(f:iS m s y=some (k,new))(n:z.cells.size=s):new.length=k*s:=by
 unfold iS at f;split at f
 .obtain⟨_,q⟩:=A6 f;cases q;simp
 .split at f
  .rename_i cs hr;cases f;unfold cO at hr;split at hr
   .exact(nR hr).2
   .cases hr
  .cases f
 .rename_i b;obtain⟨j,f⟩:=A6 f;have j:=A1 j;subst j;cases f;simp[U8]
 .cases f
def TQ(h:new'[i]? = some u):(({ toList:=[] }:Array Value)++⟨new'⟩++r)[i]? = some u:=by
 have f:=(B3.1 h).1;rw[Z2 (by simp;exact f)]
 simpa using h
def gZ(h:(old'++new')[i]? = some u):(({ toList:=old' }:Array Value)++⟨new'⟩++r)[i]? = some u:=by
 have f:=(B3.1 h).1;rw[Z2 (by simpa using f)]
 simpa using h
def gY{s k n nc:Nat}(h1:new'.length=k*s)(f:n+k<=nc)(j:z.cells.size=s)(q:old'.length=n*s) :
  nc*s<=(({ toList:=old' }:Array Value)++⟨new'⟩++Builtin.zeroCells z.cells (nc-(n+k))).size:=by
 simp[Builtin.zeroCells,q,h1,j];rw[<- J4,<- J4];exact G8 _ A0
def YR(h:HR P base ρ m.H w)(hb:base<=w.heap.size)(f:xF P m t t2 x y=some (v,m'))(hf:M8 ρ m.n m'.hi)(Y:VR ρ x x')(hy:VR ρ y y') :
  VOk P base ρ m w (Builtin.append_ #[t,t2] ty #[x',y']) v m':=by
 unfold xF at f;split at f
 .rename_i e d2 hu G;cases D:fV d2 with
  | false=>rw[D]at f;cases f
  | true =>
  rw[D]at f;simp only[V8,E8]at f;split at f
  .rename_i inf a n c hi;split at f
   .rename_i k new z V hz;obtain⟨g1,f⟩:=A6 f;obtain⟨g1,g4⟩:=C5 g1;obtain⟨g1,g3⟩:=C5 g1;obtain⟨g1,g2⟩:=C5 g1;have g1:=A2 g1;have g2:=A2 g2;have g3:=A1 g3;obtain⟨hlen,new',I,F⟩:=zZ h V hy;have az:∀ w,(zeroValue e).run P w=.ok z w:=fun w=>dB hz w
    have Q:new'.length=k*inf.size:=by rw[<- I.1];exact NI h V g3
    have al:R5=9223372036854775808:=rfl;cases hk:Nat.beq k 0 with
    | true =>
      have hk:=A1 hk;subst hk;have ar:Nat.beq 0 0=true:=rfl;simp only[ar,F7]at f;have an:new'=[]:=D5.1 (by rw[Q];simp);subst an;cases a with
      | none =>
        simp only at f;obtain⟨E,f⟩:=A6 f;obtain⟨E,J⟩:=C5 E;have E:=A1 E;have J:=A1 J;subst E;subst J;cases f;cases V5 Y;exact VOk.same h (zG hu G D hi hlen (F w rfl)) (.pure rfl)
      | some S =>
        simp only at f;obtain⟨E,f⟩:=A6 f;obtain⟨E,J⟩:=C5 E;have E:=A2 E;have J:=A2 J;cases f;rcases U4 Y with⟨l,U,O,hc,rfl⟩|⟨l,c',U,O,hc,hn,A,rfl⟩|⟨a',c',_,_,he,_⟩
        .exact VOk.same h (rT hu G D hi hlen (F w rfl) A0 rfl) (by simpa using Y)
        .exact VOk.same h (rT hu G D hi hlen (F w rfl) A0 rfl) (by simpa using Y)
        .omega
    | false =>
      have ah:k≠0:=fun e=>by subst e;cases hk
      simp only[hk,E8]at f;cases a with
      | none =>
        simp only at f;obtain⟨E,f⟩:=A6 f;obtain⟨E,J⟩:=C5 E;have E:=A1 E;have J:=A1 J;subst E;subst J;rw[J2]at f;cases V5 Y;obtain⟨nc,M,hr⟩:=lN (ty:=ty) (c:=0) (a:=none) (old':=[]) hu G D hi az hlen (fun _ _=>rfl) F A0 g1 g2;have au:∀ B,P.info? e=some B->nc*B.size<=(({ toList:=[] }:Array Value)++⟨new'⟩++Builtin.zeroCells z.cells (nc-(0+k))).size:=fun B N=>by
         rw[hi]at N;cases N;exact gY Q M g3 (by simp)
        obtain⟨W,e2,Z⟩:=gW (wd:=w.drew) (fz:=(0,0)) (cap:=nc) h hb f hf I (fun i u hi=>by
         show(({ toList:=[] }:Array Value)++⟨new'⟩++Builtin.zeroCells z.cells (nc-(0+k)))[i]? = some u;exact TQ hi) NF.zero au ⟨rfl,rfl,rfl⟩ rfl
        refine⟨_,_,_,hr,?_,Z⟩;rw[W,G0]
        have:=VR.op (ρ:=upd ρ m.n (lc w.heap.size 0 nc)) (b:=m.n) (o:=0) (n:=k) (m:=R5) (m':=nc) e2 (B0 _) A0 (fun _ _=>rfl)
        simpa using this
      | some S =>
        simp only at f;cases X:Nat.blt c R5 with
        | true =>
          have ai:c<R5:=A2 X;simp only[X,F7]at f;rcases U4 Y with⟨l,U,O,hc,rfl⟩|⟨l,c',U,O,hc,hn,A,rfl⟩|⟨a',c',_,_,he,_⟩
          .cases q:Nat.ble (n+k) c with
           | true =>
             have L:=A2 q;simp only[q,F7]at f;split at f
             .rename_i m2 hw;cases f;rw[gN]at hw;obtain⟨w',h1,N⟩:=uH h hw U I;refine⟨_,ρ,w',rT hu G D hi hlen (F w rfl) L ?_,?_,N⟩
              .rw[w9,show S.off+l.sh+n*inf.size=S.off+n*inf.size+l.sh by omega];exact h1
              .obtain⟨ab,ao,ag⟩:=S;simp only at O;subst O;exact .sl U hc
             .cases f
           | false =>
             have L:¬ n+k<=c:=fun hle=>by rw[show Nat.ble (n+k) c=true from D2 hle]at q;cases q
             simp only[q,E8]at f;split at f
             .rename_i old hold;rw[J2]at f;obtain⟨old',o1,o2,o3⟩:=aY h hold U;have K:∀ wd:World,wd.heap=w.heap->(Builtin.firstCells inf.size n (.slice (some ⟨l.blk,S.off+l.sh,none⟩) n c)).run P wd=.ok ⟨old'⟩ wd:=fun wd hw=>N7 o2 fun j u hj=>by rw[eM hw];exact o3 j u hj
              obtain⟨nc,M,hr⟩:=lN (ty:=ty) hu G D hi az hlen K F L g1 g2;obtain⟨W,e2,Z⟩:=gW (wd:=w.drew) (fz:=(0,0)) (cap:=nc) (C:=⟨old'⟩++⟨new'⟩++Builtin.zeroCells z.cells (nc-(n+k))) h hb f hf (o1.append I) (fun i u hi=>gZ hi) NF.zero
               (fun B N=>by rw[hi]at N;cases N;exact gY Q M g3 o2) ⟨rfl,rfl,rfl⟩ rfl
              refine⟨_,_,_,hr,?_,Z⟩;rw[W]
              have:=VR.op (ρ:=upd ρ m.n (lc w.heap.size 0 nc)) (b:=m.n) (o:=0) (n:=n+k) (m:=R5) (m':=nc) e2 (B0 _) M (fun _ _=>rfl)
              simpa using this
             .cases f
          .omega
          .omega
        | false =>
          simp only[X,E8]at f;obtain⟨q0,ax⟩:=A6 f;clear f;have f:=ax;clear ax;obtain⟨E,J⟩:=C5 q0;replace E:=A1 E;replace J:=A1 J;clear q0;split at f
          .rename_i cs T O hg;obtain⟨p1,f⟩:=A6 f;rw[I3,I3,I3]at p1;obtain⟨⟨⟨p1,p2⟩,p3⟩,p4⟩:=p1;have p1:=A1 p1;have p2:=A1 p2;have p3:=A2 p3;have p4:S.block<m.n:=A2 p4;subst p2;rw[J2]at f;rcases U4 Y with⟨_,_,_,hc,_⟩|⟨l,c',U,_,_,hn,A,rfl⟩|⟨a',c',_,_,he,_⟩
           .omega
           .have A:=A E J;obtain⟨⟨ay,C,fz,T',z2,z3,z4⟩,z5⟩:=h.atl U hg;obtain⟨rfl,z6,z7⟩:=z4 rfl;have z8:=(z7 inf hi).2;have z7:=(z7 inf hi).1;by_cases q:n+k<=c'
            ·
             have aw:(n+k)*inf.size<=c'*inf.size:=G8 _ q;rw[J4]at aw;obtain⟨w',r1,r2,r3,r4,r5⟩:=aF (P:=P) (b:=l.blk) (o:=n*inf.size+l.sh) (fz:=fz) new' 0 C w z2 (OF I g4) (by rw[Q];subst A;omega) z6;obtain⟨W,Z⟩:=St.grow (w':=w') (l:=l) h p3 hg rfl U ay f hf r2 r3 r5 (by
              have R:ρ m.n=none:=by
               rw[bP]at f;obtain⟨_,_,rfl⟩:=N1 f;exact hf m.n (B0 _) (L9 _ _).2
              refine⟨ay,_,fz,_,r4,fun i u hi=>?_,fun _=>⟨rfl,z6.sz (by simp[aJ]),fun B N=>⟨by simpa [aJ]using(by rw[hi]at N;cases N;exact z7:l.sh+l.cap*B.size<=C.size),by rw[hi]at N;cases N;exact z8⟩⟩⟩;show ∃ u',(Array.mk (fF C.toList (n*inf.size+l.sh+0) new'))[l.sh+i]? = some u'/\_;have ae:C.toList.length=C.size:=by simp
              rw[M3,pN _ _ _ _ (by rw[Q];subst A;omega)];by_cases aq:i<cs.length
              .rw[F8 aq]at hi;rw[A3 A0];obtain⟨u',y1,y2⟩:=z3 i u hi;exact⟨u',by simpa using y1,y2.mono (u5 R)⟩
              .rw[E9 A0]at hi;have af:=(B3.1 hi).1;have aj:=I.1;rw[A4 A0];obtain⟨u',y1,y2⟩:=I.get hi;exact⟨u',by rw[show l.sh+i-(n*inf.size+l.sh+0)=i-cs.length by omega];exact y1,y2.mono (u5 R)⟩)
             refine⟨_,_,w',rT (ty:=ty) hu G D hi hlen (F w rfl) q ?_,?_,Z⟩
             .rw[w9,J,show 0+l.sh+n*inf.size=n*inf.size+l.sh by omega];exact r1
             .rw[W,J];exact .op (M7 _ _ _) (B0 _) q (fun _ _=>A)
            ·
             have av:=St.kill h p3 hg rfl;have ak:M8 ρ (oG m S.block).n m'.hi:=by rw[bP];exact hf
             obtain⟨old',o1,o2⟩:=gV (ρ:=ρ) (C:=C) (cs:=cs) (s:=l.sh) z3;have oL:old'.length=n*inf.size:=by rw[<- o1.1];exact p1
             have K:∀ wd:World,wd.heap=w.heap->(Builtin.firstCells inf.size n (.slice (some ⟨l.blk,S.off+l.sh,none⟩) n c')).run P wd=.ok ⟨old'⟩ wd:=fun wd hw=>N7 oL fun j u hj=>by
              rw[eM hw,J]
              have:=o2 j u hj;simp[World.cell?,z2,this]
             obtain⟨nc,M,hr⟩:=lN (ty:=ty) hu G D hi az hlen K F q g1 g2;obtain⟨W,e2,Z⟩:=gW (wd:=w.drew) (fz:=(0,0)) (cap:=nc) (C:=⟨old'⟩++⟨new'⟩++Builtin.zeroCells z.cells (nc-(n+k))) av.hr hb f ak (o1.append I) (fun i u hi=>gZ hi) NF.zero
              (fun B N=>by rw[hi]at N;cases N;exact gY Q M g3 oL) ⟨rfl,rfl,rfl⟩ rfl
             refine⟨_,_,_,hr,?_,St.trans hf av Z⟩;rw[W]
             have:=VR.op (ρ:=upd ρ (oG m S.block).n (lc w.heap.size 0 nc)) (b:=(oG m S.block).n) (o:=0) (n:=n+k) (m:=R5) (m':=nc) e2 (B0 _) M (fun _ _=>rfl)
             simpa using this
           .omega
          .cases f
   .cases f
  .cases f
 .cases f
end
end
section
open Go
variable [Ora]
section
variable {P:Program} {base:Nat} {ρ:Ren} {m m':Mem} {w:World}
def VU{op:UnOp}(h:unM op x=some v)(f:VR ρ x x')(w:World):(Op.unary op x').run P w=.ok v w/\K5 v=true:=by
 unfold unM at h;split at h
 .cases M2 f;cases h;exact⟨by simp[Op.unary,Op.intArith,cF],by simp[cF,K5]⟩
 .cases M2 f;obtain⟨h1,j⟩:=dK (P:=P) h w;exact⟨by simpa [Op.unary]using h1,j⟩
 .cases fH f;cases h;exact⟨rfl,rfl⟩
 .cases h
def A9t(f:B56 P t x=some v)(n:VR ρ x x')(w:World):(Builtin.cap_ ⟨t::tys⟩ ty #[x']).run P w=.ok v w/\K5 v=true:=by
 unfold B56 at f;split at f
 .rename_i hu;cases V5 n;cases f;exact⟨by simp[Builtin.cap_,A8,D8 hu,Result.andThen,goInt],rfl⟩
 .rename_i hu;obtain⟨j,f⟩:=A6 f;have j:_<R5:=A2 j;cases f;rcases U4 n with⟨l,_,_,_,rfl⟩|⟨l,c',_,_,_,_,_,rfl⟩|⟨a',c',_,_,he,_⟩
  .exact⟨by simp[Builtin.cap_,A8,D8 hu,Result.andThen,goInt],rfl⟩
  .omega
  .omega
 .cases f
def A0n(h:HR P base ρ m.H w)(f:A5k P m t x=some v)(q:VR ρ x x'):(Builtin.len_ ⟨t::tys⟩ ty #[x']).run P w=.ok v w/\K5 v=true:=by
 unfold A5k at f;split at f
 .rename_i hu;cases o8 q;cases f;refine⟨?_,rfl⟩;simp[Builtin.len_,A8,D8 hu,Result.andThen,goInt]
 .rename_i hu;cases f;refine⟨?_,rfl⟩;simp[Builtin.len_,A8,D8 hu,Result.andThen,goInt]
 .rename_i n c hu;cases f;refine⟨?_,rfl⟩;have j:∃ a' c',x'=.slice a' n c':=by
   cases q with
   | pure _=>exact⟨_,_,rfl⟩
   | sl _ _=>exact⟨_,_,rfl⟩
   | op _ _ _ _=>exact⟨_,_,rfl⟩
   | opE _=>exact⟨_,_,rfl⟩
  obtain⟨a',c',rfl⟩:=j;simp[Builtin.len_,A8,D8 hu,Result.andThen,goInt]
 .rename_i hu;cases q with|pure _=>?_
  cases f;refine⟨?_,rfl⟩;simp[Builtin.len_,A8,D8 hu,Result.andThen,goInt]
 .cases f
def A0g{tys:Array TypeId}(f:B5M vs=some v)(q:LR ρ vs vs')(w:World):(Builtin.max_ tys ty ⟨vs'⟩).run P w=.ok v w/\K5 v=true:=by
 unfold B5M at f;split at f
 .obtain⟨a',r1,rfl,h1,n⟩:=q.tail;obtain⟨b',A,rfl,h3,j⟩:=n.tail;cases j.nil_inv;cases M2 h1;cases M2 h3;cases f;exact⟨by simp[Builtin.max_,Builtin.max2],rfl⟩
 .obtain⟨a',r1,rfl,h1,n⟩:=q.tail;obtain⟨b',A,rfl,h3,j⟩:=n.tail;obtain⟨c',C,rfl,B,h⟩:=j.tail;cases h.nil_inv;rw[yM]at f;cases M2 h1;cases M2 h3;cases M2 B;cases f;exact⟨by simp[Builtin.max_,Builtin.max2],rfl⟩
 .cases f
def A0e{tys:Array TypeId}(f:B5L vs=some v)(q:LR ρ vs vs')(w:World):(Builtin.min_ tys ty ⟨vs'⟩).run P w=.ok v w/\K5 v=true:=by
 unfold B5L at f;split at f
 .obtain⟨a',r1,rfl,h1,n⟩:=q.tail;obtain⟨b',A,rfl,h3,j⟩:=n.tail;cases j.nil_inv;cases M2 h1;cases M2 h3;cases f;exact⟨by simp[Builtin.min_,Builtin.min2],rfl⟩
 .obtain⟨a',r1,rfl,h1,n⟩:=q.tail;obtain⟨b',A,rfl,h3,j⟩:=n.tail;obtain⟨c',C,rfl,B,h⟩:=j.tail;cases h.nil_inv;rw[yM]at f;cases M2 h1;cases M2 h3;cases M2 B;cases f;exact⟨by simp[Builtin.min_,Builtin.min2],rfl⟩
 .cases f
def HJ{tys:Array TypeId}(h:HR P base ρ m.H w)(q:mX m x=some (v,m'))(G:VR ρ x x'):VOk P base ρ m w (Builtin.unsafeSliceData_ tys ty #[x']) v m':=by
 unfold mX at q;split at q
 .cases q;cases V5 G;exact VOk.same h rfl (.pure rfl)
 .rename_i a n c;cases A:Nat.beq n 0 || Nat.beq c 0 || Nat.beq c (R5+2)with
  | true=>rw[A]at q;cases q
  | false =>
    rw[A]at q;simp only[E8,D9,R6]at q;obtain⟨rfl,rfl⟩:=q;simp only[P1]at A;obtain⟨⟨F,C⟩,L⟩:=A;have F:n≠0:=fun e=>by subst e;cases F
    have C:c≠0:=fun e=>by subst e;cases C
    rcases U4 G with⟨l,D,j,I,rfl⟩|⟨l,c',D,j,I,K,E,rfl⟩|⟨a',c',_,he,_,_⟩
    .refine VOk.same (v':=.pointer (some ⟨l.blk,a.off+l.sh,none⟩)) h ?_ ?_
     .have f:Builtin.unsafeSliceData_ tys ty #[.slice (some ⟨l.blk,a.off+l.sh,none⟩) n c]=(do
        if c≠0 then pure (.pointer (some ⟨l.blk,a.off+l.sh,none⟩))
        else if(<- viewAt l.blk).isSome then pure (.pointer (some ⟨l.blk,a.off+l.sh,none⟩))
        else pure (.pointer (some ⟨<- newObj (.view ⟨l.blk,a.off+l.sh,none⟩ (<- elemOf ty)),0,none⟩))):=rfl
      rw[f,A4 C];rfl
     .obtain⟨ab,J,B⟩:=a;simp only at j;subst j;exact .ptr D
    .refine VOk.same (v':=.pointer (some ⟨l.blk,a.off+l.sh,none⟩)) h ?_ ?_
     .have:c'≠0:=A0;have f:Builtin.unsafeSliceData_ tys ty #[.slice (some ⟨l.blk,a.off+l.sh,none⟩) n c']=(do
        if c'≠0 then pure (.pointer (some ⟨l.blk,a.off+l.sh,none⟩))
        else if(<- viewAt l.blk).isSome then pure (.pointer (some ⟨l.blk,a.off+l.sh,none⟩))
        else pure (.pointer (some ⟨<- newObj (.view ⟨l.blk,a.off+l.sh,none⟩ (<- elemOf ty)),0,none⟩))):=rfl
      rw[f,A4 this];rfl
     .obtain⟨ab,J,B⟩:=a;simp only at j;subst j;exact .ptr D
    .omega
 .cases q
def A2D(h:HR P base ρ m.H w)(f:NG P m t x=some (v,m'))(A:VR ρ x x'):VOk P base ρ m w (Instr.makeInterface t x') v m':=by
 unfold NG at f;split at f
 .rename_i d q;have n:(∀ ms,d≠.interface ms)->(Instr.makeInterface t x').run P w=.ok (.iface t x') w:=fun j=>by
   simp only[Instr.makeInterface,A8,D8 q,Result.andThen];cases d<;>first|rfl|exact absurd rfl (j _)
  split at f
  .cases f
  .rename_i j;obtain⟨_,f⟩:=A6 f;cases f;exact VOk.same h (n fun ms e=>j ms e) (.iface A)
 .cases f
def A8j(j:A5K m x=some (v,m'))(n:VR ρ x x'):m'=m/\VR ρ v x'/\((∃ a,x'=.pointer (some a))∨∃ f a b,x'=.func (.func f) a b):=by
 unfold A5K at j;split at j
 .cases j;obtain⟨l,_,_,rfl⟩:=V0 n;exact⟨rfl,n,.inl ⟨_,rfl⟩⟩
 .cases j;cases n with
  | pure hp=>simp[K5]at hp
  | func _ _ _ _=>exact⟨rfl,by constructor<;>assumption,.inr ⟨_,_,_,rfl⟩⟩
 .cases j
def A6w(h:HR P base ρ m.H w)(j:UN P m t x y=some (v,m'))(K:VR ρ x x')(I:VR ρ y y'):VOk P base ρ m w (Builtin.copy_ ⟨t::tys⟩ ty #[x',y']) v m':=by
 unfold UN at j;split at j
 .rename_i e a n c hu;split at j
  .rename_i s S;split at j
   .rename_i k cs f;have G:∃ a' c',x'=.slice a' n c':=by
     cases K with
     | pure _=>exact⟨_,_,rfl⟩
     | sl _ _=>exact⟨_,_,rfl⟩
     | op _ _ _ _=>exact⟨_,_,rfl⟩
     | opE _=>exact⟨_,_,rfl⟩
    obtain⟨a',c',rfl⟩:=G;have B:∃ L cs',(Builtin.lenOf y').run P w=.ok L w/\Nat.min L n=k/\LR ρ cs cs'/\(Builtin.firstCells s k y').run P w=.ok ⟨cs'⟩ w:=by
     split at f
     .rename_i N _;obtain⟨q,f⟩:=A6 f;have q:=A1 q;subst q;cases f;cases V5 I;exact⟨0,[],rfl,by simp,.nil,rfl⟩
     .rename_i b N Z;split at f
      .rename_i r hr;cases f;rcases U4 I with⟨l,D,_,_,rfl⟩|⟨l,c',D,_,_,_,_,rfl⟩|⟨a',c',_,rfl,_,rfl⟩
       .obtain⟨O,h1,C,h3⟩:=aY h hr D;exact⟨N,O,rfl,rfl,h1,N7 C h3⟩
       .obtain⟨O,h1,C,h3⟩:=aY h hr D;exact⟨N,O,rfl,rfl,h1,N7 C h3⟩
       .have:cs=[]:=by
         unfold cO at hr;split at hr
         .have:=(nR hr).2;simp at this;exact this
         .cases hr
        subst this;exact⟨0,[],rfl,rfl,.nil,by simp[Builtin.firstCells,loadCells,loadCellsFrom]⟩
      .cases f
     .rename_i b;cases f;cases o8 I;refine⟨b.size,U8 (b.data.toList.take (Nat.min b.size n)),rfl,rfl,CD _ _,?_⟩;have e:((b.extract 0 (Nat.min b.size n)).data.map fun b=>Value.int .u8 b.toNat)=⟨U8 (b.data.toList.take (Nat.min b.size n))⟩:=by
       apply L3;simp[U8,kW]
      show(pure ((b.extract 0 (Nat.min b.size n)).data.map fun b=>Value.int .u8 b.toNat):Sem r7).run P w=_;rw[e];rfl
     .cases f
    obtain⟨L,cs',r1,V,J,X⟩:=B;have A:(Builtin.copy_ ⟨t::tys⟩ ty #[.slice a' n c',y']).run P w=(match a' with|some a=>(do storeCells a cs';pure (goInt k):Sem Value)|none=>pure (goInt k)).run P w:=by
     unfold Builtin.copy_;simp only[M3,W7,W8,A8,D8 hu,P0 S,r1,V,X,Result.andThen];cases a' with
     | none=>rfl
     | some a=>rfl
    cases a with
    | none =>
      cases V5 K;simp only at j;obtain⟨q,j⟩:=A6 j;have q:=A1 q;cases j;exact VOk.same h (by rw[A,q];rfl) (.pure rfl)
    | some Y =>
      simp only at j;cases F:Nat.beq cs.length 0 with
      | true =>
        rw[F]at j;cases j;have F:=A1 F;have:cs'=[]:=D5.1 (by rw[<- J.1];exact F);subst this;refine VOk.same h (v':=.int .i64 k) ?_ (.pure rfl);rw[A];cases a'<;>rfl
      | false =>
        rw[F]at j;simp only[E8]at j;obtain⟨E,j⟩:=A6 j;have E:=A2 E;split at j
        .rename_i m2 hw;cases j;rcases U4 K with⟨l,D,Q,T,he⟩|⟨l,c',D,Q,T,U,R,he⟩|⟨a2,c2,_,U,W,he⟩
         .cases he;obtain⟨w',h1,C⟩:=uH h hw D J;exact⟨.int .i64 k,ρ,w',by rw[A];simp[A8,h1,Result.andThen,goInt],.pure rfl,C⟩
         .cases he;obtain⟨w',h1,C⟩:=uH h hw D J;exact⟨.int .i64 k,ρ,w',by rw[A];simp[A8,h1,Result.andThen,goInt],.pure rfl,C⟩
         .have M:R5=9223372036854775808:=rfl;omega
        .cases j
   .cases j
  .cases j
 .cases j
def tX:∀ {cs:D6} {l:List UInt8},bytesOf cs=some l->∃ f:List Int,cs=f.map (Value.int .u8)/\l=f.map fun n=>UInt8.ofNat n.toNat
 | [],l,h=>by simp only[bytesOf,D9]at h;subst h;exact⟨[],rfl,rfl⟩
 | v::r,l,h=>by
   unfold bytesOf at h;split at h
   .rename_i he;cases he
   .rename_i n q he;cases he;split at h
    .rename_i l0 h0;cases h;obtain⟨f,h1,j⟩:=tX h0;exact⟨n::f,by rw[h1];rfl,by rw[j];rfl⟩
    .cases h
   .cases h
def wH:∀ {f:List Int} {cs':D6},LR ρ (f.map (Value.int .u8)) cs'->cs'=f.map (Value.int .u8)
 | [],cs',h=>h.nil_inv
 | n::r,cs',h=>by
   obtain⟨v',q,rfl,h1,j⟩:=h.tail;cases M2 h1;rw[wH j];rfl
def tQ:∀ (f:List Int) (acc:List UInt8),(f.foldl (fun r n=>r.push (UInt8.ofNat n.toNat)) (ByteArray.mk ⟨acc⟩))=⟨⟨acc++f.map fun n=>UInt8.ofNat n.toNat⟩⟩
 | [],acc=>by simp
 | n::r,acc=>by
   rw[List.foldl_cons];have:(ByteArray.mk ⟨acc⟩).push (UInt8.ofNat n.toNat)=⟨⟨acc++[UInt8.ofNat n.toNat]⟩⟩:=by
    show ByteArray.mk (Array.push ⟨acc⟩ _)=_;simp
   rw[this,tQ r];simp
def A6z(h:HR P base ρ m.H w)(Y:base<=w.heap.size)(f:KN P m s t x=some (v,m'))(X:M8 ρ m.n m'.hi)(J:VR ρ x x'):VOk P base ρ m w (convert s t x') v m':=by
 unfold KN at f;split at f
 .rename_i F k j n A E;cases M2 J;simp only[D9,R6]at f;obtain⟨rfl,rfl⟩:=f;refine VOk.same (v':=.int k (k.wrap n)) h ?_ (by rw[cF,oT];exact .pure rfl);cases F<;>simp[convert,A8,D8 A,D8 E,Result.andThen,Conv.intToInt]
 .rename_i F b A E;cases o8 J;cases f;refine VOk.same h ?_ (.pure rfl);cases F<;>simp[convert,A8,D8 A,D8 E,Result.andThen]
 .rename_i F j n A E;cases M2 J;cases f;refine VOk.same (v':=.string (Utf8.encode n)) h ?_ (.pure rfl);cases F<;>simp[convert,A8,D8 A,D8 E,Result.andThen,Conv.intToString]
 .rename_i F e b A E;cases o8 J;split at f
  .rename_i he;split at f
   .rename_i G;rw[J2]at f;let q:Question:=.appendCap b.size 0 e
    let cap:=q.cut (w.tape w.drawn q)
    have K:b.size<=cap:=by show b.size<=b.size+_;omega
    have T:(choose q).run P w=.ok cap w.drew:=by
     simp only[choose,Sem.run];rw[A3 (by simp[q,Question.forced])];rfl
    let C:r7:=(b.data.map fun b=>Value.int .u8 b.toNat)++Array.replicate (cap-b.size) (.int .u8 0)
    have hC:C.size=cap:=by
     have:b.data.size=b.size:=rfl;simp[C,this];omega
    obtain⟨W,N,V⟩:=gW (wd:=w.drew) (fz:=(C.size,C.size+1)) (cap:=cap) (C:=C) h Y f X (CD ρ b.data.toList) (fun i u hi=>by
      have O:=(B3.1 hi).1;simp[U8]at O;have R:i<(b.data.map fun b=>Value.int .u8 b.toNat).size:=by simpa using O
      show((b.data.map fun b=>Value.int .u8 b.toNat)++Array.replicate (cap-b.size) (.int .u8 0))[i]? = some u;rw[Z2 R]
      simpa [U8]using hi) NF.end
     (fun inf L=>by
       have:inf.size=1:=by unfold I4 at G;rw[L]at G;exact A9 G
       rw[this,hC];omega) ⟨rfl,rfl,rfl⟩ rfl
    refine⟨.slice (some ⟨w.heap.size,0,none⟩) b.size cap,_,_,?_,?_,V⟩
    .have U:∀ w2:World,w2.heap[w.heap.size]? = some (.cells C e (0,0))->(markStringish ⟨w.heap.size,0,none⟩).run P w2=.ok () (w2.freeze { block:=w.heap.size,off:=C.size } 1):=fun w2 L=>by
      simp[markStringish,shape,freeze,Sem.run,World.shape?,L]
     have S:({ w.drew with heap:=w.heap.push (.cells C e (0,0)) }:World).freeze { block:=w.heap.size,off:=C.size } 1={ w.drew with heap:=w.heap.push (.cells C e (C.size,C.size+1)) }:=by
      unfold World.freeze;rw[A3 B8];congr 1;apply Array.ext_getElem?;intro i;rw[J1];by_cases hi:w.heap.size=i
      .subst hi;simp
      .rw[A3 hi];simp only[bJ];rw[A3 (fun h=>hi h.symm),A3 (fun h=>hi h.symm)]
     have I:(convert s t (.string b)).run P w=(Conv.stringToBytes e b).run P w:=by
      cases F<;>simp[convert,A8,D8 A,D8 E,D8 he,Result.andThen]
     rw[I];unfold Conv.stringToBytes;simp only[A8,show(choose (.appendCap b.size 0 e)).run P w=.ok cap w.drew from T,Result.andThen];have Q:(newRow e C).run P w.drew=.ok ⟨w.heap.size,0,none⟩ { w.drew with heap:=w.heap.push (.cells C e (0,0)) }:=rfl;rw[show(newRow e ((b.data.map fun b=>Value.int .u8 b.toNat)++Array.replicate (cap-b.size) (.int .u8 0))).run P w.drew=_ from Q];simp only[Result.andThen];rw[U _ (by simp),S];rfl
    .rw[W];exact VR.op (o:=0) (m':=cap) N (B0 _) K (fun _ _=>rfl)
   .cases f
  .cases f
 .rename_i e n c A E;cases V5 J;split at f
  .rename_i he;cases f;refine VOk.same h (v':=.string ByteArray.empty) ?_ (.pure rfl);simp[convert,A8,D8 A,D8 E,D8 he,Result.andThen,Conv.bytesToString]
  .cases f
 .rename_i e a n c A E;split at f
  .rename_i he;split at f
   .rename_i cs hr;split at f
    .rename_i l O;cases f;obtain⟨M,h1,L⟩:=tX O;have B:∀ a' c',(loadCells a' n).run P w=.ok (M.map (Value.int .u8)).toArray w->(convert s t (.slice (some a') n c')).run P w=.ok (.string ⟨⟨l⟩⟩) w:=fun a' c' D=>by
      have:=run_bytesToString w a' n c' M D;have N:=tQ M [];simp only[X4]at N;simp only[convert,A8,D8 A,D8 E,D8 he,Result.andThen];rw[this,show ByteArray.empty=ByteArray.mk ⟨[]⟩from rfl,N,L]
     rcases U4 J with⟨lc,D,_,_,rfl⟩|⟨lc,c',D,_,_,_,_,rfl⟩|⟨a',c',_,rfl,_,rfl⟩
     .obtain⟨Z,g1,g2,g3⟩:=aY h hr D;rw[h1]at g1
      have:=wH g1;subst this;exact VOk.same h (B _ _ (N7 g2 g3)) (.pure rfl)
     .obtain⟨Z,g1,g2,g3⟩:=aY h hr D;rw[h1]at g1
      have:=wH g1;subst this;exact VOk.same h (B _ _ (N7 g2 g3)) (.pure rfl)
     .have:cs=[]:=by
       unfold cO at hr;split at hr
       .have:=(nR hr).2;simpa using this
       .cases hr
      subst this;have:M=[]:=by cases M with|nil=>rfl|cons _ _=>cases h1
      subst this;exact VOk.same h (B _ _ (by simp[loadCells,loadCellsFrom])) (.pure rfl)
    .cases f
   .cases f
  .cases f
 .cases f
end
end
section
open Go
variable [Ora]
section
variable {P:Program} {base:Nat} {ρ:Ren} {m m':Mem} {w:World}
def ER(j:P.cellsOf e=1)(count off n:Nat)(q:off+n<=count):liesAt P P.depth e count off e n=true:=by
 have f:P.depth=(2*(P.types.size+Made.depth)+1)+1:=rfl;rw[f];simp only[liesAt,K6];left;rw[f];simp[rowAt,j,q,sameLayout,Nat.mod_one]
def iK:∀ (f:List Int) (b o:Nat) (acc:ByteArray),(∀ (j:Nat) (v:Value),(f.map (Value.int .u8))[j]? = some v->w.cell? ⟨b,o+j,none⟩=some v) ->
  (loadBytes ⟨b,o,none⟩ acc f.length).run P w=.ok ⟨acc.data++(f.map fun n=>UInt8.ofNat n.toNat).toArray⟩ w
 | [],b,o,acc,_=>by simp[loadBytes]
 | n::f,b,o,acc,h=>by
   have h0:w.cell? ⟨b,o,none⟩=some (.int .u8 n):=by simpa using h 0 _ rfl
   have q:=iK f b (o+1) (acc.push n.toNat.toUInt8) (fun j v A=>by
    have:=h (j+1) v (by simpa using A);rw[show o+1+j=o+(j+1) by omega];exact this)
   simp only[B6,loadBytes,A8,run_load,h0,Result.andThen,w9];rw[q];have:(acc.push n.toNat.toUInt8).data=acc.data.push n.toNat.toUInt8:=rfl;rw[this];congr 2;apply L3;simp
def GY{l l':Value}(h:HR P base ρ m.H w)(f:iA P m pt p l=some (v,m'))(hp:VR ρ p p')(hl:VR ρ l l') :
  VOk P base ρ m w (Builtin.unsafeString_ ⟨pt::tys⟩ ty #[p',l']) v m':=by
 have F:IntKind.i64.max=9223372036854775807:=rfl;unfold iA at f;split at f
 .cases hp with|pure _=>?_
  cases M2 hl;cases f;refine VOk.same h (v':=.string ByteArray.empty) ?_ (.pure rfl);rename_i k _;have A:Builtin.unsafeString_ ⟨pt::tys⟩ ty #[.pointer none,.int k (.ofNat 0)] =
    (do
      let n <- asInt (.int k (.ofNat 0))
      if n<0 then runtimePanic (.error "unsafe.String: len out of range")
      if n>IntKind.i64.max then unsupported (.unsafePointer "String: a length above the largest int")
      if n=0 then pure (.string .empty)
      else runtimePanic (.error "unsafe.String: ptr is nil and len is not zero")):=rfl
  rw[A];simp[asInt,asIntOf,F]
 .rename_i a k n;cases M2 hl;obtain⟨lc,K,az,rfl⟩:=V0 hp;split at f
  .rename_i cs T G S;split at f
   .rename_i e Y R;obtain⟨q,f⟩:=A6 f;obtain⟨q,q3⟩:=C5 q;obtain⟨q1,q2⟩:=C5 q;have q1:0<n:=A2 q1;have q2:=A2 q2;have q3:=A1 q3;subst q3;split at f
    .rename_i r hr;split at f
     .rename_i bs m2 Z eF;cases f;obtain⟨X,h1,h2⟩:=tX Z;have J:cO m a n=some r:=by
       unfold cO;rw[G,S];exact hr
      obtain⟨r',g1,g2,g3⟩:=aY h J K;rw[h1]at g1;have W:=wH g1;subst W;obtain⟨⟨M,C,fz,T',z2,z3,z4⟩,z5⟩:=h.atl K S;have z2:w.heap[lc.blk]? = some (.cells C e fz):=by rw[z2,(z4 rfl).1]
      have O:X.length=n:=by simpa using g2
      have B:P.cellsOf e=1:=by
       unfold I4 at R;unfold Program.cellsOf;cases hi:P.info? e with
       | none=>rw[hi]at R;cases R
       | some i=>rw[hi]at R;have:=A9 R;simp[this]
      have V:a.off+lc.sh+n<=C.size:=by
       have D:=g3 (n-1) (.int .u8 X[n-1]) (by simp[O]);simp only[World.cell?,z2]at D
       have:=(E4.1 (by simpa using D)).1;omega
      have Q:=iK (P:=P) (w:=w) X lc.blk (a.off+lc.sh) .empty g3;rw[O]at Q;have U:w.shape? lc.blk=some (e,C.size):=by simp[World.shape?,z2]
      have I:=ER (P:=P) B (C.size / P.cellsOf e) (a.off+lc.sh) n (by rw[B];simpa using V);have A:Builtin.unsafeString_ ⟨pt::tys⟩ ty #[.pointer (some ⟨lc.blk,a.off+lc.sh,none⟩),.int k (.ofNat n)] =
       (do
         let n <- asInt (.int k (.ofNat n))
         if n<0 then runtimePanic (.error "unsafe.String: len out of range")
         if n>IntKind.i64.max then unsupported (.unsafePointer "String: a length above the largest int")
         if n=0 then pure (.string .empty)
         else if <- variablesAt ⟨lc.blk,a.off+lc.sh,none⟩ (<- elemOf pt) n.toNat then do
          let s <- loadBytes ⟨lc.blk,a.off+lc.sh,none⟩ .empty n.toNat
          freeze ⟨lc.blk,a.off+lc.sh,none⟩ n.toNat
          pure (.string s)
         else unsupported (.unsafePointer "String: not so many bytes at ptr")):=rfl
      have e1:Int.ofNat n=(n:Int):=rfl;have L:¬ (n:Int)<0:=A0;have N:¬ (9223372036854775807:Int)<(n:Int):=A0;have hz:¬ (n:Int)=0:=A0;have E:n≠0:=A0;refine⟨.string ⟨⟨bs⟩⟩,ρ,w.freeze ⟨lc.blk,a.off+lc.sh,none⟩ n,?_,.pure rfl,St.write h eF S rfl K M ?_ ?_ ?_ ?_⟩
      .rw[A];simp[asInt,asIntOf,F,e1,L,N,hz,E,variablesAt,U,elemOf,D8 Y,I,Q,freeze,Sem.run,A8,Result.andThen,h2]
      .simp[World.freeze,E]
      .simp[World.freeze,E]
      .intro j hj;simp only[World.freeze,E,if_false,J1];rw[A3 (fun e=>hj e.symm)]
      .refine⟨M,C,(if fz.1 == fz.2 then(a.off+lc.sh,a.off+lc.sh+n)else(min fz.1 (a.off+lc.sh),max fz.2 (a.off+lc.sh+n))),e,?_,z3,fun hc=>by cases hc⟩;simp only[World.freeze,E,if_false,J1,if_true,z2,P3]
     .cases f
    .cases f
   .cases f
  .cases f
 .cases f
def VB{ks:Array Bool}(h:HR P base ρ m.H w)(D:base<=w.heap.size)(f:mH P m b vs tys=some (v,m'))(C:M8 ρ m.n m'.hi)(q:LR ρ vs vs') :
  ∃ s:Sem Value,builtin b ⟨tys⟩ ty ks ⟨vs'⟩=(do pure (.value (<- s)))/\VOk P base ρ m w s v m':=by
 unfold mH at f;split at f
 .obtain⟨x',r1,rfl,h1,j⟩:=q.tail;cases j.nil_inv;unfold noM at f;split at f
  .rename_i u hu;cases f;obtain⟨g1,g2⟩:=A0n h hu h1;exact⟨_,rfl,VOk.same h g1 (.pure g2)⟩
  .cases f
 .obtain⟨x',r1,rfl,h1,j⟩:=q.tail;cases j.nil_inv;unfold noM at f;split at f
  .rename_i u hu;cases f;obtain⟨g1,g2⟩:=A9t hu h1 w;exact⟨_,rfl,VOk.same h g1 (.pure g2)⟩
  .cases f
 .obtain⟨x',r1,rfl,h1,j⟩:=q.tail;obtain⟨y',B,rfl,h3,A⟩:=j.tail;cases A.nil_inv;rename_i t t2 rest;refine⟨Builtin.append_ ⟨t::t2::rest⟩ ty #[x',y'],rfl,?_⟩
  have:=YR (ty:=ty) h D f C h1 h3;have e:Builtin.append_ ⟨t::t2::rest⟩ ty #[x',y']=Builtin.append_ #[t,t2] ty #[x',y']:=rfl;rw[e];exact this
 .obtain⟨x',r1,rfl,h1,j⟩:=q.tail;obtain⟨y',B,rfl,h3,A⟩:=j.tail;cases A.nil_inv;exact⟨_,rfl,A6w h f h1 h3⟩
 .unfold noM at f;split at f
  .rename_i u hu;cases f;obtain⟨g1,g2⟩:=A0g (P:=P) (ty:=ty) (tys:=⟨tys⟩) hu q w;exact⟨_,rfl,VOk.same h g1 (.pure g2)⟩
  .cases f
 .unfold noM at f;split at f
  .rename_i u hu;cases f;obtain⟨g1,g2⟩:=A0e (P:=P) (ty:=ty) (tys:=⟨tys⟩) hu q w;exact⟨_,rfl,VOk.same h g1 (.pure g2)⟩
  .cases f
 .obtain⟨x',r1,rfl,h1,j⟩:=q.tail;cases j.nil_inv;exact⟨_,rfl,HJ h f h1⟩
 .obtain⟨x',r1,rfl,h1,j⟩:=q.tail;obtain⟨y',B,rfl,h3,A⟩:=j.tail;cases A.nil_inv;exact⟨_,rfl,GY h f h1 h3⟩
 .cases f
def NOk(P:Program)(base:Nat)(ρ:Ren)(m:Mem)(w:World)(s:Sem Next)(v:Value)(m':Mem):Prop :=
 ∃ v' f w',(s.run P w=.ok (.value v') w'∨(s.run P w=.ok .skip w'/\v'=undef))/\VR f v v'/\St P base ρ f m m' w w'
def NOk.of{s:Sem Value}(h:VOk P base ρ m w s v m'):NOk P base ρ m w (do pure (.value (<- s))) v m':=by
 obtain⟨v',f,w',h1,j,h3⟩:=h;exact⟨v',f,w',.inl (by simp[A8,h1,Result.andThen]),j,h3⟩
def uM(ρ:Ren):VR ρ undef undef:=.tuple (a:=[]) (a':=[]) rfl (fun i v v' h=>by simp at h)
def NOk.ofU{s:Sem Unit}(h:UOk P base ρ m w s m'):NOk P base ρ m w (do s;pure .skip) undef m':=by
 obtain⟨f,w',h1,h3⟩:=h;exact⟨undef,f,w',.inr ⟨by simp[A8,h1,Result.andThen],rfl⟩,uM _,h3⟩
def NOk.same{s:Sem Value}(h:HR P base ρ m.H w)(hr:s.run P w=.ok v' w)(f:VR ρ v v'):NOk P base ρ m w (do pure (.value (<- s))) v m:=NOk.of (VOk.same h hr f)
def FR(ρ:Ren)(fr:Fr)(g:Operand->Value)(o:Op):Prop:=∀ x ∈ o.operands.toList,VR ρ (ev fr x) (g x)
def bN(h:noM o m=some (v,m')):o=some v/\m'=m:=by
 unfold noM at h;split at h
 .cases h;exact⟨rfl,rfl⟩
 .cases h
def sC{o:Option Mem}(h:XL o=some (v,m')):o=some m'/\v=undef:=by
 unfold XL at h;split at h
 .cases h;exact⟨rfl,rfl⟩
 .cases h
def fW{fr:Fr}{g:Operand->Value}:∀ {xs:List Operand},(∀ x ∈ xs,VR ρ (ev fr x) (g x))->LR ρ (evL fr xs) (xs.map g)
 | [],_=>.nil
 | x::r,h=>.cons (h x C7) (fW fun y f=>h y (D1 _ f))
def YA{fr:Fr}{g:Operand->Value}:∀ {xs:List (Nat×Operand)},(∀ x ∈ xs.map (·.2),VR ρ (ev fr x) (g x))->PR ρ (evP fr xs) (xs.map fun x=>(x.1,g x.2))
 | [],_=>trivial
 | (i,x)::r,h=>⟨rfl,h x (by simp),YA fun y f=>h y (by simp at f ⊢;exact .inr f)⟩
def nQ{fr:Fr}{x:Option Operand}(h:∀ y ∈ x.toList,VR ρ (ev fr y) (g y)):OR ρ (evO fr x) (x.map g):=by
 cases x with
 | none=>trivial
 | some y=>exact h y (by simp)
set_option maxHeartbeats 1000000 in
def B5D{fr:Fr}{o:Oper}(h:HR P base ρ m.H w)(K:base<=w.heap.size)(q:opM P fr m o.op=some (v,m'))(J:M8 ρ m.n m'.hi)(U:FR ρ fr g o.op) :
  NOk P base ρ m w (execOp g o) v m':=by
 obtain⟨dst,op,ty,pos,W,T⟩:=o;simp only at q U;have j:∀ {x},x ∈ op.operands.toList->VR ρ (ev fr x) (g x):=fun B=>U _ B
 unfold opM at q;split at q
 .cases q;exact⟨_,ρ,w,.inl rfl,j (by simp[Op.operands]),.refl h⟩
 .cases q;exact⟨_,ρ,w,.inl rfl,j (by simp[Op.operands]),.refl h⟩
 .rename_i c a b;have L:=j (x:=c) (by simp[Op.operands]);unfold A0Z at q;split at q
  .rename_i F;rw[F]at L;cases q;exact⟨g a,ρ,w,.inl (by simp[execOp,fH L,asBool]),j (by simp[Op.operands]),.refl h⟩
  .rename_i F;rw[F]at L;cases q;exact⟨g b,ρ,w,.inl (by simp[execOp,fH L,asBool]),j (by simp[Op.operands]),.refl h⟩
  .cases q
 .exact NOk.of (A2E h K q J)
 .exact NOk.of (A8k h K q J (j (by simp[Op.operands])))
 .rename_i t ps;obtain⟨h1,rfl⟩:=bN q;obtain⟨v',A,h3⟩:=A2b h1 (YA (g:=g) (fun x B=>j (by simpa [Op.operands]using B))) w;have e:(ps.map fun(i,x)=>(i,g x))=⟨ps.toList.map fun x=>(x.1,g x.2)⟩:=by apply L3;simp
  exact NOk.same (s:=Instr.build t (ps.map fun(i,x)=>(i,g x))) h (by rw[e];exact A) h3
 .rename_i t n ps
  have:=GH h K q J (YA (g:=g) (fun x B=>j (by simpa [Op.operands]using B)));have e:(ps.map fun(i,x)=>(i,g x))=⟨ps.toList.map fun x=>(x.1,g x.2)⟩:=by apply L3;simp
  refine NOk.of (s:=Instr.buildSlice t n (ps.map fun(i,x)=>(i,g x))) ?_;rw[e];exact this
 .rename_i t x;have B:=j (x:=x) (by simp[Op.operands]);unfold A0a at q;split at q
  .rename_i a G;rw[G]at B;obtain⟨l,R,S,I⟩:=V0 B;obtain⟨h1,rfl⟩:=bN q;obtain⟨v',A,h3⟩:=SV h h1 R;refine NOk.same (s:=Instr.loadAt t (g x)) h ?_ h3;rw[I]
   simpa [Instr.loadAt,Instr.sureAddr]using A
  .cases q
 .rename_i t x y;have B:=j (x:=x) (by simp[Op.operands]);have C:=j (x:=y) (by simp[Op.operands]);unfold NE at q;split at q
  .rename_i a G;rw[G]at B;obtain⟨l,R,S,I⟩:=V0 B;obtain⟨h1,rfl⟩:=sC q
   have:=A1o h h1 R C;refine NOk.ofU (s:=Instr.storeAt t (g x) (g y)) ?_;rw[I];obtain⟨Q,w',r1,r2⟩:=this;exact⟨Q,w',by simpa [Instr.storeAt,Instr.sureAddr]using r1,r2⟩
  .cases q
 .rename_i x;have B:=j (x:=x) (by simp[Op.operands]);obtain⟨hm,h1,A⟩:=A8j q B;subst hm;refine⟨g x,ρ,w,.inl ?_,h1,.refl h⟩;rcases A with⟨a,V⟩|⟨f,a,b,V⟩<;>simp[execOp,V]
 .rename_i op t x y yt;have B:=j (x:=x) (by simp[Op.operands]);have C:=j (x:=y) (by simp[Op.operands]);unfold A8l at q;have D:(FA op=true->qE P t x y (ev fr x) (ev fr y)=true)->noM (xD P op t (ev fr x) (ev fr y)) m=some (v,m')->NOk P base ρ m w (execOp g ⟨dst,.binOp op t x y yt,ty,pos,W,T⟩) v m':=fun O hn=>by
   obtain⟨h1,rfl⟩:=bN hn;obtain⟨A,h3⟩:=CQ h1 B C w;have Z:=wO O B C w;refine NOk.same (s:=do eqGuard op t x y (g x) (g y);binOp op t (g x) (g y)) h ?_ (.pure h3);simp[A8,Z,A,Result.andThen]
  cases E:FA op with
  | true =>
    rw[E]at q;simp only[F7]at q;obtain⟨h1,A⟩:=A6 q;exact D (fun _=>h1) A
  | false =>
    rw[E]at q;simp only[E8]at q;exact D (fun h=>by rw[E]at h;cases h) q
 .rename_i op t x;obtain⟨h1,rfl⟩:=bN q;obtain⟨A,h3⟩:=VU (P:=P) h1 (j (x:=x) (by simp[Op.operands])) w;exact NOk.same (s:=Op.unary op (g x)) h A (.pure h3)
 .exact NOk.of (A6z h K q J (j (by simp[Op.operands])))
 .exact NOk.of (A2D h q (j (by simp[Op.operands])))
 .rename_i f first cap
  cases q;have l1:=fW (ρ:=ρ) (fr:=fr) (g:=g) (xs:=first.toList) fun x B=>j (by simp[Op.operands];exact .inl (by simpa using B))
  have l2:=fW (ρ:=ρ) (fr:=fr) (g:=g) (xs:=cap.toList) fun x B=>j (by simp[Op.operands];exact .inr (by simpa using B))
  refine⟨.func (.func f) ⟨first.toList.map g⟩ ⟨cap.toList.map g⟩,ρ,w,.inl ?_,.func l1.1 l2.1 l1.2 l2.2,.refl h⟩;have N:first.map g=⟨first.toList.map g⟩:=by apply L3;simp
  have M:cap.map g=⟨cap.toList.map g⟩:=by apply L3;simp
  simp[execOp,Instr.makeFunc,N,M]
 .exact NOk.of (HL h K q J (j (by simp[Op.operands])) (j (by simp[Op.operands])))
 .rename_i t x lo hi mx;obtain⟨h1,rfl⟩:=bN q;obtain⟨v',A,h3⟩:=lL h1 (j (x:=x) (by simp[Op.operands])) (nQ (g:=g) fun y C=>j (by simp[Op.operands]at C ⊢;exact .inr (.inl C))) (nQ (g:=g) fun y C=>j (by simp[Op.operands]at C ⊢;exact .inr (.inr (.inl C)))) (nQ (g:=g) fun y C=>j (by simp[Op.operands]at C ⊢;exact .inr (.inr (.inr C)))) w;exact NOk.same (s:=Instr.sliceAt t (g x) (lo.map g) (hi.map g) (mx.map g)) h A h3
 .obtain⟨h1,rfl⟩:=bN q;obtain⟨v',A,h3⟩:=qH h1 (j (by simp[Op.operands])) w;exact NOk.same h A h3
 .obtain⟨h1,rfl⟩:=bN q;obtain⟨v',A,h3⟩:=A2R h1 (j (by simp[Op.operands])) w;exact NOk.same h A h3
 .obtain⟨h1,rfl⟩:=bN q;obtain⟨v',A,h3⟩:=fI h1 (j (by simp[Op.operands])) (j (by simp[Op.operands])) w;exact NOk.same h A h3
 .obtain⟨h1,rfl⟩:=bN q;obtain⟨v',A,h3⟩:=yF h1 (j (by simp[Op.operands])) (j (by simp[Op.operands])) w;exact NOk.same h A h3
 .obtain⟨hm,v',A,h3⟩:=SK (P:=P) q (j (by simp[Op.operands])) w;subst hm;exact NOk.same h A h3
 .rename_i b xs tys;have l1:=fW (ρ:=ρ) (fr:=fr) (g:=g) (xs:=xs.toList) fun x B=>j (by show x ∈ (#[]++xs:Array Operand).toList;simpa using B)
  obtain⟨ks,M⟩:∃ ks,execOp g ⟨dst,.call ⟨.builtin b,xs,tys⟩,ty,pos,W,T⟩=builtin b tys ty ks (xs.map g):=⟨_,rfl⟩;obtain⟨s,e,Y⟩:=VB (ty:=ty) (ks:=ks) h K q J l1;have N:xs.map g=⟨xs.toList.map g⟩:=by apply L3;simp
  rw[M,N];have X:tys=⟨tys.toList⟩:=rfl;rw[X,e];exact NOk.of Y
 .cases q
end
end
section
open Go
def ofV:W4->U
 | some (.int k n)=>.int k n
 | some (.bool b)=>.bool b
 | some (.string s)=>.str s.data.toList
 | _=>.none
def E7(E:Nat->U):Value->U
 | .complex .f64 i _=>E i
 | .int k n=>.int k n
 | .bool b=>.bool b
 | .string s=>.str s.data.toList
 | _=>.none
def evB(op:BinOp):U->U->U
 | .int k a,.int j b=>ofV (dG op k j a b)
 | .str a,.str b=>ofV (A3I op ⟨⟨a⟩⟩ ⟨⟨b⟩⟩)
 | .bool a,.bool b=>match op with
   | .eql=>.bool (a == b)
   | .neq=>.bool (!(a == b))
   | _=>.none
 | _,_=>.none
def ev1(op:UnOp):U->U
 | .int k n=>ofV (unM op (.int k n))
 | .bool b=>ofV (unM op (.bool b))
 | _=>.none
def eqU:U->U->Option Bool
 | .int k a,.int j b=>if k=j then some (a == b)else none
 | .bool a,.bool b=>some (a == b)
 | .str a,.str b=>some (a == b)
 | _,_=>none
def qM:List U->Option Bool
 | []=>some true
 | a::b::r=>match eqU a b,qM r with
   | some x,some y=>some (x && y)
   | _,_=>none
 | _=>none
def QL(s:List UInt8)(l h:Int):U :=
 match l,h with
 | .ofNat l,.ofNat h=>if l<=h/\h<=s.length then .str ((s.drop l).take (h-l))else .none
 | _,_=>.none
def yS:List U->Option (List UInt8)
 | []=>some []
 | .int .u8 (.ofNat n)::r=>if n<256 then match yS r with
   | some l=>some (UInt8.ofNat n::l)
   | none=>none else none
 | _::_=>none
def BC:List (List U)->Option (List UInt8)
 | []=>some []
 | [.int .u8 (.ofNat n)]::r=>if n<256 then match BC r with
   | some l=>some (UInt8.ofNat n::l)
   | none=>none else none
 | _::_=>none
def oC(s:List UInt8):List (List U):=s.map fun b=>[.int .u8 b.toNat]
def bF(w:Nat):Nat->List U->Option (List (List U))
 | 0,[]=>some []
 | 0,_::_=>none
 | n+1,l=>if w<=l.length then match bF w n (l.drop w)with
   | some r=>some (l.take w::r)
   | none=>none else none
def EB(row:List U)(o:Nat)(cells:List U):List U:=row.take o++cells++row.drop (o+cells.length)
def BD:Nat:=1000000000
def qT(f:Bool)(w:Nat)(rows r:List (List U)):U:=if rows.length+r.length<=BD then(match r with|[]=>.seq f w rows|r=>.seq false w (rows++r))else .none
def isU(a b:U):Bool :=
 match eqU a b with
 | some c=>c
 | none=>false
def Z7:List U->List U->Bool
 | [],_=>true
 | a::k,b::r=>isU a b && Z7 k r
 | _::_,[]=>false
def RZ(kw:Nat)(c:List U):List (List U)->List (List U)
 | []=>[c]
 | r::rs=>if Z7 (c.take kw) r then c::rs else r::RZ kw c rs
def evU:LOp->List U->U
 | .mhas w kw,.seq _ v rows::k=>if v=w/\k.length=kw then .bool (rows.any (Z7 k))else .none
 | .mget w kw o,.seq _ v rows::z::k=>if v=w/\k.length=kw then(match rows.find? (Z7 k)with
   | some r=>r.getD o .none
   | none=>z)else .none
 | .mput w kw,.seq nul v rows::c=>if v=w/\c.length=w then .seq nul w (RZ kw c rows)else .none
 | .len,[.seq _ _ rows]=>.int .i64 rows.length
 | .mks,l=>match yS l with
   | some s=>.str s
   | none=>.none
 | .inbs w,[.int _ i,.seq _ v rows]=>if v=w then .bool (decide (0<=i) && decide (i<rows.length))else .none
 | .get w o,[.seq false v rows,.int _ (.ofNat k)]=>if v=w then(rows.getD k []).getD o .none else .none
 | .mk w,l=>if w=0 then .none else match bF w (l.length / w) l with
   | some r=>.seq false w r
   | none=>.none
 | .nilw w,[]=>.seq true w []
 | .nilp,[.seq nul _ _]=>.bool nul
 | .snoc w,.seq nul v rows::l=>if v=w/\w≠0 then match bF w (l.length / w) l with
   | some r=>qT nul w rows r
   | none=>.none else .none
 | .cat w,[.seq nul v rows,.seq _ v2 r]=>if v=w/\v2=w then qT nul w rows r else .none
 | .cats,[.seq nul v rows,.str s]=>if v=1 then qT nul 1 rows (oC s)else .none
 | .set w o,.seq false v rows::.int _ (.ofNat k)::l=>if v=w/\k<rows.length/\o+l.length<=w then .seq false w (rows.set k (EB (rows.getD k []) o l))else .none
 | .subs w,[.seq nul v rows,.int _ (.ofNat l),.int _ (.ofNat h)]=>if v=w/\l<=h/\h<=rows.length then .seq nul w ((rows.drop l).take (h-l))else .none
 | .str,[.seq _ v rows]=>if v=1 then match BC rows with
   | some s=>.str s
   | none=>.none else .none
 | .byt,[.str s]=>.seq false 1 (oC s)
 | .ustr,[.seq _ v rows,.int _ (.ofNat n)]=>if v=1/\n<=rows.length/\n<=BD then match BC (rows.take n)with
   | some s=>.str s
   | none=>.none else .none
 | .rep w,.int _ (.ofNat n)::l=>if l.length=w/\n<=BD then .seq false w (List.replicate n l)else .none
 | .bin op,[a,b]=>evB op a b
 | .un op,[a]=>ev1 op a
 | .conv k,[.int _ n]=>.int k (k.wrap n)
 | .len,[.str s]=>.int .i64 s.length
 | .idx,[.str s,.int _ (.ofNat k)]=>match s[k]? with
   | some b=>.int .u8 b.toNat
   | none=>.none
 | .sub,[.str s,.int _ l,.int _ h]=>QL s l h
 | .sub1,[.str s,.int _ l]=>QL s l s.length
 | .sel,.int _ (.ofNat k)::cs=>cs.getD k .none
 | .inb,[.int _ i,.int _ n]=>.bool (decide (0<=i) && decide (i<n))
 | .eqs,l=>match qM l with
   | some b=>.bool b
   | none=>.none
 | .max,[.int k a,.int _ b]=>.int k (if b>a then b else a)
 | .min,[.int k a,.int _ b]=>.int k (if b<a then b else a)
 | _,_=>.none
def t6.ok(E:Nat->U):t6->Prop
 | .lt i t op xs=>E i=evU op (xs.map (E7 E))/\G9 (E i)=t/\t<10
 | .dt i t op xs=>E i=evU op (xs.map (E7 E))/\G9 (E i)=t/\∃ f w rows,E i=.seq f w rows
 | .br i b=>E i=.bool b
 | .as op xs=>evU op (xs.map (E7 E))=.bool true
 | .con spec xs i d n=>∃ outs,spec (xs.map (E7 E))=some (d,outs)/\outs.length=n/\∀ j u,outs[j]? = some u->E (i+j)=u
def V3(E:Nat->U)(l:List t6):Prop:=∀ e ∈ l,e.ok E
def Lg.le(a b:Lg):Prop:=a.log <:+ b.log
def Lg.le.refl(a:Lg):a.le a:=List.suffix_refl _
def Lg.le.trans{a b c:Lg}(h:a.le b)(k:b.le c):a.le c:=List.IsSuffix.trans h k
def V3.le{E:Nat->U}{a b:Lg}(h:V3 E b.log)(k:a.le b):V3 E a.log:=fun e he=>h e (k.subset he)
variable [Ora]
abbrev Sat(lg:Lg):Prop:=V3 Ora.env lg.log
omit [Ora] in
def ZK{u:U}(h:G9 u<10):∃ v,toV u=some v/\ofV (some v)=u/\I2 v=G9 u:=by
 cases u with
 | none=>simp[G9]at h
 | seq _ _ _=>simp only[G9]at h;omega
 | int k n=>exact⟨_,rfl,rfl,rfl⟩
 | bool b=>exact⟨_,rfl,rfl,rfl⟩
 | str s=>exact⟨_,rfl,rfl,rfl⟩
def ND(h:G9 (ofV o)<10):∃ v,o=some v/\toV (ofV o)=some v:=by
 unfold ofV at h;split at h
 .exact⟨_,rfl,rfl⟩
 .exact⟨_,rfl,rfl⟩
 .rename_i s;refine⟨_,rfl,?_⟩;simp[ofV,toV]
 .simp[G9]at h
def Q2(k:IntKind):lT k<8:=by cases k<;>decide
theorem cZ{ρ:Ren}{v v':Value}(h:VR ρ v v')(f:I2 v<10):toV (E7 Ora.env v)=some v'/\G9 (E7 Ora.env v)=I2 v:=by
 cases h with
 | pure hp =>
   cases v<;>simp only[I2]at f<;>first
    | exact⟨rfl,rfl⟩
    | (exfalso;omega)
    | (simp[K5]at hp)
 | hole h j=>exact⟨h,j⟩
 | junk=>simp[I2]at f
 | ixp _ _ _ _ _=>simp[I2,ixp]at f
 | dat _ _ _ _ _=>simp[I2,Go.Sx.dat]at f
 | clp _ _ _ _ _ _=>simp[I2,Go.Sx.clp]at f
 | own _ _ _=>simp[I2,Go.Sx.own]at f
 | dpt _ _ _=>simp[I2,Go.Sx.dpt]at f
 | opt _ _ _=>simp[I2,Go.Sx.opt]at f
 | yv _=>simp[I2,Go.Sx.yv]at f
 | sdt _=>simp[I2,Go.Sx.sdt]at f
 | _=>simp[I2]at f
def S8{ρ:Ren}(h:VR ρ v v')(j:I2 v<8):∃ k n,v'=.int k n/\E7 Ora.env v=.int k n/\I2 v=lT k:=by
 obtain⟨h1,f⟩:=cZ h A0;cases hu:E7 Ora.env v with
 | int k n=>rw[hu]at h1 f;cases h1;exact⟨k,n,rfl,rfl,f.symm⟩
 | bool b=>rw[hu]at f;simp only[G9]at f;omega
 | str s=>rw[hu]at f;simp only[G9]at f;omega
 | none=>rw[hu]at h1;cases h1
 | seq _ _ _=>rw[hu]at h1;cases h1
def lJ{ρ:Ren}(h:VR ρ v v')(j:I2 v=8):∃ b,v'=.bool b/\E7 Ora.env v=.bool b:=by
 obtain⟨h1,f⟩:=cZ h A0;cases hu:E7 Ora.env v with
 | int k n=>rw[hu]at f;simp only[G9]at f;have:=Q2 k;omega
 | bool b=>rw[hu]at h1;cases h1;exact⟨b,rfl,rfl⟩
 | str s=>rw[hu]at f;simp only[G9]at f;omega
 | none=>rw[hu]at h1;cases h1
 | seq _ _ _=>rw[hu]at h1;cases h1
def eS{ρ:Ren}(h:VR ρ v v')(j:I2 v=9):∃ s,v'=.string ⟨⟨s⟩⟩/\E7 Ora.env v=.str s:=by
 obtain⟨h1,f⟩:=cZ h A0;cases hu:E7 Ora.env v with
 | int k n=>rw[hu]at f;simp only[G9]at f;have:=Q2 k;omega
 | bool b=>rw[hu]at f;simp only[G9]at f;omega
 | str s=>rw[hu]at h1;cases h1;exact⟨s,rfl,rfl⟩
 | none=>rw[hu]at h1;cases h1
 | seq _ _ _=>rw[hu]at h1;cases h1
def sG{m m':Mem}{t:Nat}{op:LOp}(h:p8 m t op xs=some (v,m')):v=hole m.lg.nx t/\m'=m.wLg ⟨m.lg.nx+1,m.lg.pi,.lt m.lg.nx t op xs::m.lg.log⟩:=by
 obtain⟨H,n,W,hi,⟨nx,pi,log⟩⟩:=m;simp only[p8,G5,J2]at h;cases h;exact⟨rfl,rfl⟩
def Q8{m m':Mem}{t:Nat}{op:LOp}(h:p8 m t op xs=some (v,m'))(n:Sat m'.lg):∃ u,evU op (xs.map (E7 Ora.env))=u/\G9 u=t/\∃ r,toV u=some r/\(∀ ρ,VR ρ v r)/\t<10:=by
 obtain⟨rfl,rfl⟩:=sG h;obtain⟨h1,j,h3⟩:=n (.lt m.lg.nx t op xs) (by cases m;exact C7);refine⟨_,rfl,h1▸j,?_⟩;obtain⟨r,f,_⟩:=ZK (u:=Ora.env m.lg.nx) A0;exact⟨r,h1▸f,fun ρ=>.hole f j,h3⟩
section
variable {P:Program} {base:Nat} {ρ:Ren} {m m':Mem} {w:World}
def St.wLg(h:HR P base ρ m.H w)(lg:Lg):St P base ρ ρ m (m.wLg lg) w w:=by
 obtain⟨H,n,W,hi,l⟩:=m;have r:=St.refl (m:=⟨H,n,W,hi,l⟩) h;exact⟨r.ext,r.new,r.nle,r.hle,r.nhi,r.hr,r.wsub,r.wrw,r.keep,r.size,r.os,r.blk,r.same,r.tch⟩
def eI:∀ {l:List t6} {i:Nat} {b:Bool},FJ l i=some b->t6.br i b ∈ l
 | [],_,_,h=>by cases h
 | .br j c::r,i,b,h=>by
   rw[FJ]at h;cases f:Nat.beq j i with
   | true=>rw[f]at h;cases h;rw[A1 f];exact C7
   | false=>rw[f]at h;exact D1 _ (eI h)
 | .lt _ _ _ _::r,i,b,h=>D1 _ (eI (l:=r) h)
 | .dt _ _ _ _::r,i,b,h=>D1 _ (eI (l:=r) h)
 | .as _ _::r,i,b,h=>D1 _ (eI (l:=r) h)
 | .con _ _ _ _ _::r,i,b,h=>D1 _ (eI (l:=r) h)
def qU{lg f:Lg}{b:Bool}(h:brL lg c=some (b,f)):lg.le f:=by
 unfold brL at h;split at h
 .cases h;exact .refl _
 .obtain⟨nx,pi,log⟩:=lg;simp only at h;split at h
  .cases h;exact .refl _
  .split at h
   .cases h;exact⟨[_],rfl⟩
   .cases h;exact⟨[_],rfl⟩
   .cases h
 .cases h
def tY{lg f:Lg}{b:Bool}(h:brL lg c=some (b,f))(q:VR ρ c c')(n:Sat f):c'=.bool b:=by
 unfold brL at h;split at h
 .cases h;exact fH q
 .rename_i i;have A:Ora.env i=.bool b:=by
   obtain⟨nx,pi,log⟩:=lg;simp only at h;split at h
   .rename_i b' B;cases h;exact n _ (eI B)
   .split at h
    .cases h;exact n (.br i true) C7
    .cases h;exact n (.br i false) C7
    .cases h
  obtain⟨b',h1,j⟩:=lJ q rfl;have j:Ora.env i=.bool b':=j;rw[A]at j;cases j;exact h1
 .cases h
def AG:∀ {a b:List U} {z:Bool},a.length%2=0->qM (a++b)=some z->∃ x y,qM a=some x/\qM b=some y/\z=(x && y)
 | [],b,z,_,h=>⟨true,z,rfl,h,rfl⟩
 | [_],_,_,hl,_=>by simp at hl
 | p::q::r,b,z,hl,h=>by
   simp only[Y6]at h;unfold qM at h;split at h
   .rename_i u v f n;cases h;obtain⟨x,y,h1,j,rfl⟩:=AG (by simp only[B6]at hl;omega) n;exact⟨u && x,y,by simp only[qM,f,h1],j,by simp[Bool.and_assoc]⟩
   .cases h
def A11(h:iY P t x y=true)(D:VR ρ x x')(C:VR ρ y y'){b:Bool}(j:eqU (E7 Ora.env x) (E7 Ora.env y)=some b)(n:Nat)(w:World):(Op.equalIn (n+1) t x' y').run P w=.ok b w:=by
 unfold iY at h;split at h
 .rename_i hu;obtain⟨h1,f⟩:=C5 h;obtain⟨p,rfl,B⟩:=lJ D (A1 h1);obtain⟨q,rfl,A⟩:=lJ C (A1 f);rw[B,A]at j;cases j;simp[Op.equalIn,A8,D8 hu,Result.andThen]
 .rename_i k hu;obtain⟨h1,f⟩:=C5 h;have h1:=A1 h1;have f:=A1 f;obtain⟨F,p,rfl,B,f1⟩:=S8 D (by have:=Q2 k;omega);obtain⟨E,q,rfl,A,f2⟩:=S8 C (by have:=Q2 k;omega);have g1:F=k:=by cases F<;>cases k<;>first|rfl|(simp only[lT]at f1 h1;omega)
  have g2:E=k:=by cases E<;>cases k<;>first|rfl|(simp only[lT]at f2 f;omega)
  subst g1;subst g2;rw[B,A]at j;simp[eqU]at j;subst j;simp[Op.equalIn,A8,D8 hu,Result.andThen]
 .rename_i hu;obtain⟨h1,f⟩:=C5 h;obtain⟨p,rfl,B⟩:=eS D (A1 h1);obtain⟨q,rfl,A⟩:=eS C (A1 f);rw[B,A]at j;cases j
  have:=run_equalIn_string (P:=P) w n t ⟨⟨p⟩⟩ ⟨⟨q⟩⟩ hu;rw[this];simp[ByteArray.toList_eq]
 .cases h
mutual
def A1C:∀ (d:Nat) (t:TypeId) (x y:Value) (l:List Value),eqS P d t x y=some l->l.length%2=0
 | 0,_,_,_,_,h=>by simp[eqS]at h
 | d+1,t,x,y,l,h=>by
   unfold eqS at h;cases hs:iY P t x y with
   | true=>rw[hs]at h;cases h;simp
   | false =>
     rw[hs]at h;simp only[E8]at h;split at h
     .rename_i fs xs ys hu;cases hst:P.stoodInHeld t with
      | true=>rw[hst]at h;cases h
      | false=>rw[hst]at h;exact FN d _ _ _ l h
     .split at h
      .exact FN d _ _ _ l h
      .cases h
     .cases h
def FN:∀ (d:Nat) (fs:List Field) (xs ys:List Value) (l:List Value),FO P d fs xs ys=some l->l.length%2=0
 | 0,_,_,_,_,h=>by simp[FO]at h
 | d+1,[],_,_,_,h=>by simp only[FO,D9]at h;subst h;rfl
 | d+1,f::fs,xs,ys,l,h=>by
   unfold FO at h;cases hnm:f.name == "_" with
   | true=>rw[hnm]at h;cases h
   | false =>
     rw[hnm]at h;simp only[E8]at h;split at h
     .split at h
      .rename_i a b ha hb;cases h
       have:=A1C d _ _ _ a ha
       have:=FN d _ _ _ b hb;simp only[B1];omega
      .cases h
     .cases h
end
mutual
def YB:∀ (d:Nat) (t:TypeId) (x y x' y':Value) (l:List Value) (b:Bool),eqS P d t x y=some l->qM (l.map (E7 Ora.env))=some b->VR ρ x x'->VR ρ y y'->∀ (n:Nat),d<=n->∀ w:World,(Op.equalIn n t x' y').run P w=.ok b w
 | 0,_,_,_,_,_,_,_,h,_,_,_,_,_,_=>by simp[eqS]at h
 | d+1,t,x,y,x',y',l,b,h,hl,hx,hy,n,hn,w=>by
   obtain⟨n,rfl⟩:∃ k,n=k+1:=⟨n-1,A0⟩;have hn':d<=n:=A0;unfold eqS at h;cases hs:iY P t x y with
   | true =>
     rw[hs]at h;cases h;simp only[F0,K7,qM]at hl;split at hl
     .rename_i u v e1 e2;cases e2;cases hl;rw[lC];exact A11 hs hx hy e1 n w
     .cases hl
   | false =>
     rw[hs]at h;simp only[E8]at h;split at h
     .rename_i fs xs ys hu;cases hst:P.stoodInHeld t with
      | true=>rw[hst]at h;cases h
      | false =>
        rw[hst]at h;obtain⟨xs',rfl,hx1⟩:=o9 hx;obtain⟨ys',rfl,hy1⟩:=o9 hy;have hf:P.fieldsOf t=fs:=by simp[Program.fieldsOf,hu]
        rw[run_equalIn_struct (P:=P) w n t _ _ (by rw[hf];exact hu) hst,hf];exact OK d fs.toList xs.toList ys.toList xs' ys' l b h hl hx1 hy1 n hn' w
     .rename_i k e xs ys hu;split at h
      .rename_i s hz;obtain⟨xs',rfl,hx1⟩:=o9 hx;obtain⟨ys',rfl,hy1⟩:=o9 hy;obtain⟨i,hi,rfl⟩:=IL hz;rw[run_equalIn_array (P:=P) (w:=w) n _ _ hu hi,show P.cellsOf e=i.size by simp[Program.cellsOf,hi],jC];exact OK d _ xs.toList ys.toList xs' ys' l b h hl hx1 hy1 n hn' w
      .cases h
     .cases h
def OK:∀ (d:Nat) (fs:List Field) (xs ys xs' ys':List Value) (l:List Value) (b:Bool),FO P d fs xs ys=some l->qM (l.map (E7 Ora.env))=some b->LR ρ xs xs'->LR ρ ys ys'->∀ (n:Nat),d<=n->∀ w:World,(Op.eqFields n ⟨xs'⟩ ⟨ys'⟩ fs).run P w=.ok b w
 | 0,_,_,_,_,_,_,_,h,_,_,_,_,_,_=>by simp[FO]at h
 | d+1,[],_,_,_,_,_,b,h,hl,_,_,_,_,_=>by
   simp only[FO,D9]at h;subst h;simp only[K7,qM,D9]at hl;subst hl;simp[Op.eqFields]
 | d+1,f::fs,xs,ys,xs',ys',l,b,h,hl,hx,hy,n,hn,w=>by
   unfold FO at h;cases hnm:f.name == "_" with
   | true=>rw[hnm]at h;cases h
   | false =>
     rw[hnm]at h;simp only[E8]at h;have hn':f.name ≠ "_":=by simpa using hnm
     split at h
     .rename_i x y h1 h2;obtain⟨x',g1,g2⟩:=lQ h1 hx w;obtain⟨y',g3,g4⟩:=lQ h2 hy w;split at h
      .rename_i a c ha hc;cases h;rw[O2]at hl;obtain⟨p,q,e1,e2,rfl⟩:=AG (by have:=A1C d _ _ _ a ha;simpa using this) hl;have ih:=YB d f.type x y x' y' a p ha e1 g2 g4 n A0 w;have ih2:=OK d fs xs ys xs' ys' c q hc e2 hx hy n A0 w;unfold Op.eqFields;rw[A4 hn'];cases p<;>simp[A8,g1,g3,Result.andThen,ih,ih2]
      .cases h
     .cases h
end
end
end
section
open Go
variable [Ora]
section
variable {P:Program} {base:Nat} {ρ:Ren} {m m':Mem} {w w':World}
def St.new0{ab:AB}(h:HR P base ρ m.H w)(O:y6 m ab k=some (v,m'))(R:M8 ρ m.n m'.hi)(K:BR P (upd ρ m.n l') ab l' w)(F:l'.on=false)
  (N:∀ q,Tc ab l' q->Fp ρ m.H q/\∀ id,id<=J0->∀ a l,Hp.get m.H id=some a->ρ id=some l->a.rw=true->l.on=true->l.blk≠q):v=k m.n/\upd ρ m.n l' m.n=some l'/\St P base ρ (upd ρ m.n l') m m' w w:=by
 obtain⟨hle,Q,rfl⟩:=N1 O;have D:ρ m.n=none:=R m.n (B0 _) (L9 _ _).2;have A:=u5 (l:=l') D;refine⟨Q,M7 _ _ _,A,fun b q h1 j=>?_,by simp,(L9 _ _).1,fun _=>g9 (L9 _ _).2,⟨fun b q L=>?_,fun id hid a f=>?_⟩,fun b K=>K,fun b h1 j=>absurd h1 j,fun q L _=>rfl,B0 _,⟨rfl,rfl,rfl⟩,fun b q h1 j B=>?_,fun id hid h1 j=>?_,fun q ⟨id,a,l,hid,f,E,M⟩=>.inr ?_⟩
 .obtain⟨rfl,rfl⟩:=W5 h1 j;exact⟨B0 _,K4 _⟩
 .cases h0:ρ b with
  | some S=>exact h.dom b S h0
  | none=>obtain⟨rfl,rfl⟩:=W5 L h0;exact hle
 .rw[F5 _ _ _ _ hle hid]at f;by_cases e:id=m.n
  .rw[A4 e]at f;have f:=A9 f;subst f;subst e;exact⟨l',M7 _ _ _,K,fun _ B=>(by rw[F]at B;cases B)⟩
  .rw[A3 e]at f;obtain⟨l0,h1,j,h3⟩:=h.at_ id hid a f;refine⟨l0,A _ _ h1,j.mono A (fun _ _=>rfl),fun hr B=>⟨(h3 hr B).1,fun G C I l2 g1 g2 g3=>?_⟩⟩;rw[F5 _ _ _ _ hle C]at g1;by_cases J:G=m.n
   .subst J;rw[M7]at g2
    have:=A9 g2;subst this;rw[A4 rfl]at g1;have g1:=A9 g1;subst g1;exact absurd rfl ((N _ g3).2 id hid a l0 f h1 hr B)
   .rw[A3 J]at g1;unfold upd at g2;rw[A3 J]at g2;exact(h3 hr B).2 G C I l2 g1 g2 g3
 .obtain⟨rfl,rfl⟩:=W5 h1 j;rw[F]at B;cases B
 .rw[F5 _ _ _ _ hle hid,A3];intro e;subst e;rcases j with j|j
  .omega
  .have j:upN m.hi m.n<=m.n:=j
   have:=(L9 m.hi m.n).2;omega
 .have f:Hp.get (m.H.set m.n (some ab)) id=some a:=f;rw[F5 _ _ _ _ hle hid]at f;by_cases e:id=m.n
  .subst e;rw[A4 rfl]at f;have f:=A9 f;subst f;rw[M7]at E;have E:=A9 E;subst E;exact(N q M.2).1
  .rw[A3 e]at f;unfold upd at E;rw[A3 e]at E;exact⟨id,a,l,hid,f,E,M⟩
def St.same0{ab:AB}{id:Nat}(h:HR P base ρ m.H w)(Q:iJ m id ab'=some m')(L:Hp.get m.H id=some ab)(D:ab.rw=true)(G:ρ id=some l)(M:BR P ρ ab' l w)(N:∀ q,Tc ab' l q->Tc ab l q):St P base ρ ρ m m' w w:=by
 obtain⟨hle,rfl⟩:=d8 Q;obtain⟨E,h3⟩:=h.atl G L;refine⟨fun _ _ h=>h,fun b k h1 E=>(by rw[h1]at E;cases E),B0 _,B0 _,fun h=>h,⟨h.dom,fun n f a A=>?_⟩,fun b M=>D1 _ M,fun b h1 E k J=>?_,fun k J S=>rfl,B0 _,⟨rfl,rfl,rfl⟩,fun b k h1 E=>(by rw[h1]at E;cases E),fun n f R T=>?_,fun k ⟨n,a,q,f,A,K,O⟩=>.inr ?_⟩
 .rw[F5 _ _ _ _ hle f]at A;by_cases e:n=id
  .rw[A4 e]at A;have A:=A9 A;subst A;subst e;refine⟨l,G,M,fun _ C=>⟨(h3 D C).1,fun B j F l3 g1 g2 g3=>?_⟩⟩;rw[F5 _ _ _ _ hle j]at g1;by_cases I:B=n
   .exact I
   .rw[A3 I]at g1;exact(h3 D C).2 B j F l3 g1 g2 g3
  .rw[A3 e]at A;obtain⟨l2,g1,g2,g3⟩:=h.at_ n f a A;refine⟨l2,g1,g2.mono (fun _ _ h=>h) (fun k J=>rfl),fun hr C=>⟨(g3 hr C).1,fun B j F l3 f1 f2 f3=>?_⟩⟩;rw[F5 _ _ _ _ hle j]at f1;by_cases I:B=id
   .subst I;rw[G]at f2
    have:=A9 f2;subst this;have f1:=A9 (by simpa using f1);subst f1;exact(g3 hr C).2 B j ab l L G (N _ f3)
   .rw[A3 I]at f1;exact(g3 hr C).2 B j F l3 f1 f2 f3
 .rcases B7.1 h1 with rfl|h1
  .exact⟨ab,L,D⟩
  .exact absurd h1 E
 .rw[F5 _ _ _ _ hle f,A3];intro e;subst e;exact R C7
 .have A:Hp.get (m.H.set id (some ab')) n=some a:=A;rw[F5 _ _ _ _ hle f]at A;by_cases e:n=id
  .subst e;rw[A4 rfl]at A;have A:=A9 A;subst A;rw[G]at K;have K:=A9 K;subst K;exact⟨n,ab,l,f,L,G,AB.rw_fr D,N _ O.2⟩
  .rw[A3 e]at A;exact⟨n,a,q,f,A,K,O⟩
def St.move{ab:AB}{id:Nat}(h:HR P base ρ m.H w)(hle:id<=J0)(Z:Hp.get m.H id=some ab)(F:ab.rw=true)(X:ρ id=some l)
  (hn:y6 (oG m id) ab' k=some (v,m')) (hf:M8 ρ m.n m'.hi) (O:l'.on=true->l.on=true/\l'.blk=l.blk)
  (ho:w'.os=w.os/\w'.tape=w.tape/\w'.output=w.output) (aw:w'.heap.size=w.heap.size) (Y:∀ k,(l.on=true->k≠l.blk)->w'.heap[k]? = w.heap[k]?) (V:BR P (upd ρ m.n l') ab' l' w') (ax:ab'≠.frz) :
  v=k m.n/\upd ρ m.n l' m.n=some l'/\St P base ρ (upd ρ m.n l') m m' w w':=by
 rw[bP]at hn;obtain⟨W,hv,rfl⟩:=N1 hn;have B:ρ m.n=none:=hf m.n (B0 _) (L9 _ _).2;have I:=u5 (l:=l') B;obtain⟨Q,h3⟩:=h.atl X Z;have S:∀ k,Tc ab' l' k->l.on=true/\k=l.blk:=fun k Y=>by
  rcases Y with⟨_,h1,rfl⟩|⟨rfl,_⟩
  .exact O h1
  .exact absurd rfl ax
 have au:id≠m.n:=fun e=>by subst e;rw[X]at B;cases B
 have A:∀ i,i<=J0->Hp.get ((m.H.set id none).set m.n (some ab')) i=if i=m.n then some ab' else if i=id then none else Hp.get m.H i:=fun i hi=>by
  rw[F5 _ _ _ _ W hi,F5 _ _ _ _ hle hi]
 refine⟨hv,M7 _ _ _,I,fun b q h1 Q=>?_,t8 _,(L9 _ _).1,fun _=>g9 (L9 _ _).2,⟨fun b q E=>?_,fun i hi a f=>?_⟩,fun b V=>D1 _ V,fun b h1 Q q E=>?_,fun q E av=>Y q ?_,by rw[aw];exact B0 _,ho,fun b q h1 Q C=>?_,fun i hi h4 R=>?_,fun k ⟨i,a,q,hi,f,E,ht⟩=>.inr ?_⟩
 .obtain⟨rfl,rfl⟩:=W5 h1 Q;exact⟨B0 _,K4 _⟩
 .cases h0:ρ b with
  | some q0=>exact h.dom b q0 h0
  | none=>obtain⟨rfl,rfl⟩:=W5 E h0;exact W
 .have f:Hp.get ((m.H.set id none).set m.n (some ab')) i=some a:=f;rw[A i hi]at f;by_cases e:i=m.n
  .rw[A4 e]at f;have f:=A9 f;subst f;subst e;refine⟨l',M7 _ _ _,V,fun ar C=>?_⟩;obtain⟨j,D⟩:=O C;refine⟨by rw[D];exact(h3 F j).1,fun K L ay l2 g1 g2 g3=>?_⟩;rw[A K L]at g1;by_cases e2:K=m.n
   .exact e2
   .rw[A3 e2]at g1;unfold upd at g2;rw[A3 e2]at g2;by_cases J:K=id
    .rw[A4 J]at g1;cases g1
    .rw[A3 J]at g1;exact absurd ((h3 F j).2 K L ay l2 g1 g2 (D▸g3)) J
  .rw[A3 e]at f;by_cases J:i=id
   .rw[A4 J]at f;cases f
   .rw[A3 J]at f;obtain⟨l2,g1,g2,g3⟩:=h.at_ i hi a f;have T:∀ k,Tc a l2 k->l.on=true->k≠l.blk:=fun k N j hh=>J ((h3 F j).2 i hi a l2 f g1 (hh▸N))
    refine⟨l2,I _ _ g1,g2.mono I (fun k N=>Y _ (T k N)),fun hr C=>⟨(g3 hr C).1,fun G M U l3 f1 f2 f3=>?_⟩⟩;have f1:Hp.get ((m.H.set id none).set m.n (some ab')) G=some U:=f1;rw[A G M]at f1;by_cases e4:G=m.n
    .subst e4;rw[M7]at f2
     have:=A9 f2;subst this;rw[A4 rfl]at f1;have f1:=A9 f1;subst f1;obtain⟨j,E⟩:=S _ f3;exact absurd E (T _ (.inl ⟨AB.rw_on hr,C,rfl⟩) j)
    .rw[A3 e4]at f1;unfold upd at f2;rw[A3 e4]at f2;by_cases e5:G=id
     .rw[A4 e5]at f1;cases f1
     .rw[A3 e5]at f1;exact(g3 hr C).2 G M U l3 f1 f2 f3
 .rcases B7.1 h1 with rfl|h1
  .exact⟨ab,Z,F⟩
  .exact absurd h1 Q
 .exact fun j e=>av id C7 l X j e.symm
 .obtain⟨rfl,rfl⟩:=W5 h1 Q;obtain⟨j,D⟩:=O C;exact .inr ⟨id,C7,l,X,j,D.symm⟩
 .have az:=A i hi;show Hp.get ((m.H.set id none).set m.n (some ab')) i=_;rw[az,A3,A3]
  .intro e;subst e;exact h4 C7
  .intro e;subst e;rcases R with R|R
   .omega
   .have R:upN m.hi m.n<=m.n:=R
    have:=(L9 m.hi m.n).2;omega
 .have f:Hp.get ((m.H.set id none).set m.n (some ab')) i=some a:=f;rw[A i hi]at f;by_cases e:i=m.n
  .rw[A4 e]at f;have f:=A9 f;subst f;subst e;rw[M7]at E;have E:=A9 E;subst E;obtain⟨j,V⟩:=S k ht.2;exact⟨id,ab,l,hle,Z,X,AB.rw_fr F,.inl ⟨AB.rw_on F,j,V.symm⟩⟩
  .rw[A3 e]at f;unfold upd at E;rw[A3 e]at E;by_cases J:i=id
   .rw[A4 J]at f;cases f
   .rw[A3 J]at f;exact⟨i,a,q,hi,f,E,ht⟩
end
end
section
open Go
variable [Ora]
def eW{m m':Mem}{ab:AB}(h:y6 m ab k=some (v,m')):m'.lg=m.lg:=by
 obtain⟨_,_,rfl⟩:=N1 h;rfl
def rO{m m':Mem}{id:Nat}{ab:AB}(h:iJ m id ab=some m'):m'.lg=m.lg:=by
 obtain⟨_,rfl⟩:=d8 h;rfl
def xM{m m':Mem}(h:tI m a vs=some m'):m'.lg=m.lg:=by
 unfold tI at h;split at h
 .obtain⟨_,h⟩:=A6 h;rw[J2]at h;exact rO h
 .cases h
def A1p{P:Program}{m m':Mem}(h:DD P m t a v=some m'):m'.lg=m.lg:=by
 unfold DD at h;split at h
 .obtain⟨_,h⟩:=A6 h;exact xM h
 .cases h
def cD{m m':Mem}(h:noM o m=some (v,m')):m'.lg=m.lg:=by
 obtain⟨_,rfl⟩:=bN h;rfl
def GI{P:Program}{m m':Mem}{n:Nat}{ps:List (Nat×Value)}(h:fL P m t n ps=some (v,m')):m'.lg=m.lg:=by
 unfold fL at h;split at h
 .split at h
  .obtain⟨_,h⟩:=A6 h;split at h
   .exact eW h
   .cases h
  .cases h
 .cases h
def HM{P:Program}{m m':Mem}{l:Value}(h:iT P m t l c=some (v,m')):m'.lg=m.lg:=by
 unfold iT at h;split at h
 .split at h
  .obtain⟨_,h⟩:=A6 h;split at h
   .rw[J2]at h;exact eW h
   .cases h
  .cases h
 .cases h
def A60{P:Program}{m m':Mem}(h:KN P m s t x=some (v,m')):m'.lg=m.lg:=by
 unfold KN at h;split at h
 .cases h;rfl
 .cases h;rfl
 .cases h;rfl
 .split at h
  .split at h
   .rw[J2]at h;exact eW h
   .cases h
  .cases h
 .split at h<;>cases h;rfl
 .split at h
  .split at h
   .split at h<;>cases h;rfl
   .cases h
  .cases h
 .cases h
def YS{P:Program}{m m':Mem}(h:xF P m t t2 x y=some (v,m')):m'.lg=m.lg:=by
 unfold xF at h;split at h
 .rename_i B d2 _ _;cases j:fV d2 with
  | false=>rw[j]at h;cases h
  | true =>
  rw[j]at h;simp only[V8,E8]at h;split at h
  .rename_i i a n c _;split at h
   .rename_i k new z _ _;obtain⟨_,h⟩:=A6 h;cases A:Nat.beq k 0 with
    | true =>
      rw[A]at h;simp only[F7]at h;split at h
      .obtain⟨_,h⟩:=A6 h;cases h;rfl
      .obtain⟨_,h⟩:=A6 h;cases h;rfl
    | false =>
      rw[A]at h;simp only[E8]at h;split at h
      .obtain⟨_,h⟩:=A6 h;rw[J2]at h;exact eW h
      .cases f:Nat.blt c R5 with
       | true =>
         rw[f]at h;simp only[F7]at h;cases q:Nat.ble (n+k) c with
         | true =>
           rw[q]at h;simp only[F7]at h;split at h
           .rename_i m1 _ hw;cases h;exact xM hw
           .cases h
         | false =>
           rw[q]at h;simp only[E8]at h;split at h
           .rw[J2]at h;exact eW h
           .cases h
       | false =>
         rw[f]at h;simp only[E8]at h;obtain⟨_,h⟩:=A6 h;split at h
         .obtain⟨_,h⟩:=A6 h;rw[J2]at h;rw[eW h,bP]
         .cases h
   .cases h
  .cases h
 .cases h
def A6x{P:Program}{m m':Mem}(h:UN P m t x y=some (v,m')):m'.lg=m.lg:=by
 unfold UN at h;split at h
 .split at h
  .split at h
   .split at h
    .obtain⟨_,h⟩:=A6 h;cases h;rfl
    .rename_i k cs j _ n;cases f:Nat.beq cs.length 0 with
     | true=>rw[f]at h;cases h;rfl
     | false =>
       rw[f]at h;simp only[E8]at h;obtain⟨_,h⟩:=A6 h;split at h
       .rename_i hw;cases h;exact xM hw
       .cases h
   .cases h
  .cases h
 .cases h
def GZ{P:Program}{m m':Mem}{l:Value}(h:iA P m pt p l=some (v,m')):m'.lg=m.lg:=by
 unfold iA at h;split at h
 .cases h;rfl
 .split at h
  .split at h
   .obtain⟨_,h⟩:=A6 h;split at h
    .split at h
     .rename_i eF;cases h;exact rO eF
     .cases h
    .cases h
   .cases h
  .cases h
 .cases h
def VC{P:Program}{m m':Mem}(h:mH P m b vs tys=some (v,m')):m'.lg=m.lg:=by
 unfold mH at h;split at h
 .exact cD h
 .exact cD h
 .exact YS h
 .exact A6x h
 .exact cD h
 .exact cD h
 .unfold mX at h;split at h
  .cases h;rfl
  .rename_i a n c;cases f:Nat.beq n 0 || Nat.beq c 0 || Nat.beq c (R5+2)with
   | true=>rw[f]at h;cases h
   | false=>rw[f]at h;cases h;rfl
  .cases h
 .exact GZ h
 .cases h
def B5E{P:Program}{fr:Fr}{m m':Mem}{o:Op}(h:opM P fr m o=some (v,m')):m'.lg=m.lg:=by
 unfold opM at h;split at h
 .cases h;rfl
 .cases h;rfl
 .unfold A0Z at h;split at h<;>cases h<;>rfl
 .unfold NH at h;split at h
  .exact eW h
  .cases h
 .unfold A5L at h;obtain⟨_,h⟩:=A6 h;exact eW h
 .exact cD h
 .exact GI h
 .unfold A0a at h;split at h
  .exact cD h
  .cases h
 .unfold NE at h;split at h
  .obtain⟨h,_⟩:=sC h;exact A1p h
  .cases h
 .unfold A5K at h;split at h<;>cases h<;>rfl
 .unfold A8l at h;rename_i op t x y j;cases f:FA op with
  | true=>rw[f]at h;simp only[F7]at h;obtain⟨_,h⟩:=A6 h;exact cD h
  | false=>rw[f]at h;exact cD h
 .exact cD h
 .exact A60 h
 .unfold NG at h;split at h
  .split at h
   .cases h
   .obtain⟨_,h⟩:=A6 h;cases h;rfl
  .cases h
 .cases h;rfl
 .exact HM h
 .exact cD h
 .exact cD h
 .exact cD h
 .exact cD h
 .exact cD h
 .unfold pQ at h;split at h
  .exact cD h
  .cases h
 .exact VC h
 .cases h
def L4{m m':Mem}{t:Nat}{op:LOp}(h:p8 m t op xs=some (v,m')):m.lg.le m'.lg:=by
 obtain⟨_,rfl⟩:=sG h;obtain⟨H,n,W,hi,l⟩:=m;exact⟨[_],rfl⟩
def N2(m m':Mem):Prop:=∃ lg,m'=m.wLg lg
def N2.refl(m:Mem):N2 m m:=⟨m.lg,by cases m;rfl⟩
def N2.trans{a b c:Mem}(h:N2 a b)(k:N2 b c):N2 a c:=by
 obtain⟨l,rfl⟩:=h;obtain⟨l2,rfl⟩:=k;exact⟨l2,by cases a;rfl⟩
def K8{m m':Mem}{t:Nat}{op:LOp}(h:p8 m t op xs=some (v,m')):N2 m m':=⟨_,(sG h).2⟩
section
variable {P:Program} {base:Nat} {ρ:Ren} {m m':Mem} {w:World}
def VZ{a b:Value}(h:BQ m c a b=some (v,m')):m.lg.le m'.lg/\N2 m m':=by
 obtain⟨H,n,W,hi,lg⟩:=m;unfold BQ at h;simp only at h;split at h
 .rename_i j f;cases h;exact⟨qU f,⟨_,rfl⟩⟩
 .rename_i j f;cases h;exact⟨qU f,⟨_,rfl⟩⟩
 .cases h
def A1n{a b:Value}(h:tJ P m op t a b=some (v,m')):m.lg.le m'.lg/\N2 m m':=by
 unfold tJ at h;simp only at h;cases h1:(Nat.blt (I2 a) 8 && Nat.blt (I2 b) 8) || (Nat.beq (I2 a) 9 && Nat.beq (I2 b) 9)with
 | true=>rw[h1]at h;exact⟨L4 h,K8 h⟩
 | false =>
   rw[h1]at h;simp only[E8]at h;obtain⟨_,h⟩:=A6 h;exact⟨L4 h,K8 h⟩
def A3H{x y:Operand}{a b:Value}(h:QI P m op t x y a b=some (v,m')):m.lg.le m'.lg/\N2 m m':=by
 unfold QI at h;obtain⟨_,h⟩:=A6 h;split at h
 .exact⟨L4 h,K8 h⟩
 .split at h
  .rename_i m1 h1;exact⟨(L4 h1).trans (L4 h),(K8 h1).trans (K8 h)⟩
  .cases h
 .cases h
def QH{i:Value}(h:bL P m t x i=some (v,m')):m.lg.le m'.lg/\N2 m m':=by
 unfold bL at h;cases f:!(Nat.blt (I2 i) 8)with
 | true=>rw[f]at h;cases h
 | false =>
   rw[f]at h;simp only[E8]at h;split at h
   .obtain⟨_,h⟩:=A6 h;exact⟨L4 h,K8 h⟩
   .split at h
    .obtain⟨_,h⟩:=A6 h;exact⟨L4 h,K8 h⟩
    .obtain⟨_,h⟩:=A6 h;exact⟨L4 h,K8 h⟩
    .cases h
   .cases h
def QF(h:oZ P m t x lo hi mx=some (v,m')):m.lg.le m'.lg/\N2 m m':=by
 unfold oZ at h;split at h
 .obtain⟨_,h⟩:=A6 h;split at h
  .cases h;exact⟨.refl _,.refl _⟩
  .obtain⟨_,h⟩:=A6 h;exact⟨L4 h,K8 h⟩
  .obtain⟨_,h⟩:=A6 h;exact⟨L4 h,K8 h⟩
  .obtain⟨_,h⟩:=A6 h;exact⟨L4 h,K8 h⟩
 .cases h
def A3E{op:UnOp}(h:QD m op x=some (v,m')):m.lg.le m'.lg/\N2 m m':=by
 unfold QD at h;simp only at h;split at h
 .obtain⟨_,h⟩:=A6 h;exact⟨L4 h,K8 h⟩
 .obtain⟨_,h⟩:=A6 h;exact⟨L4 h,K8 h⟩
def WD(h:vB P m s t x=some (v,m')):m.lg.le m'.lg/\N2 m m':=by
 unfold vB at h;split at h
 .obtain⟨_,h⟩:=A6 h;exact⟨L4 h,K8 h⟩
 .obtain⟨_,h⟩:=A6 h;cases h;exact⟨.refl _,.refl _⟩
 .cases h
def HH(h:iI P m b vs tys=some (v,m')):m.lg.le m'.lg/\N2 m m':=by
 unfold iI at h;split at h
 .split at h
  .obtain⟨_,h⟩:=A6 h;exact⟨L4 h,K8 h⟩
  .cases h
 .obtain⟨_,h⟩:=A6 h;exact⟨L4 h,K8 h⟩
 .obtain⟨_,h⟩:=A6 h;exact⟨L4 h,K8 h⟩
 .cases h
def A0w{s n:Nat}{i:Value}(h:A2P m a s n i=some (v,m')):m.lg.le m'.lg/\N2 m m':=by
 unfold A2P at h;cases j:!(Nat.blt (I2 i) 8)with
 | true=>rw[j]at h;cases h
 | false =>
   rw[j]at h;simp only[E8]at h;split at h
   .rename_i b H k W hi lg q;split at h
    .rename_i f B;cases h;have h1:=L4 q;obtain⟨l1,A⟩:=K8 q;refine⟨h1.trans (qU B),f,?_⟩;obtain⟨H0,n0,D,C,l0⟩:=m;cases A;rfl
    .cases h
   .cases h
def HD{i:Value}(h:iG P m t x i=some (v,m')):m.lg.le m'.lg/\N2 m m':=by
 unfold iG at h;split at h
 .split at h
  .exact A0w h
  .cases h
 .split at h
  .generalize f:Nat.beq _ (R5+2)=q at h;cases q with
   | true=>cases h
   | false=>exact A0w h
  .cases h
 .cases h
def HF(h:iH P m s x i=some (v,m')):m.lg.le m'.lg/\N2 m m':=by
 unfold iH at h;split at h
 .split at h
  .split at h
   .split at h
    .cases h;exact⟨.refl _,.refl _⟩
    .cases h
   .cases h
  .cases h
 .cases h
def jY{cs:D6}{s n:Nat}{i:Value}:∀ {k o:Nat} {m m':Mem} {r:D6},fE m cs s n i o k=some (r,m')->m.lg.le m'.lg/\N2 m m'
 | 0,o,m,m',r,h=>by cases h;exact⟨.refl _,.refl _⟩
 | k+1,o,m,m',r,h=>by
   unfold fE at h;split at h
   .obtain⟨_,h⟩:=A6 h;split at h
    .rename_i m1 h1;split at h
     .rename_i f;cases h
      have:=jY f;exact⟨(L4 h1).trans this.1,(K8 h1).trans this.2⟩
     .cases h
    .cases h
   .cases h
def WB(h:vA P m t x=some (v,m')):m.lg.le m'.lg/\N2 m m':=by
 unfold vA at h;split at h
 .split at h
  .split at h
   .split at h
    .rename_i h1;cases h;exact jY h1
    .cases h
   .cases h
  .split at h
   .split at h
    .rename_i h1;cases h;exact jY h1
    .cases h
   .cases h
  .cases h
 .cases h
def ZL{fr:Fr}{o:Op}(h:A3F P fr m o=some (v,m')):m.lg.le m'.lg/\N2 m m':=by
 unfold A3F at h;split at h
 .exact VZ h
 .split at h
  .rename_i r hr;cases h;exact A1n hr
  .exact A3H h
 .exact A3E h
 .exact WD h
 .exact QF h
 .exact QH h
 .exact HD h
 .exact HF h
 .exact WB h
 .exact HH h
 .cases h
def wG{j k:IntKind}(h:lT j=lT k):j=k:=by cases j<;>cases k<;>first|rfl|(simp only[lT]at h;omega)
def A1m{x y:Operand}{a b:Value}(h:tJ P m op t a b=some (v,m'))(E:VR ρ a a')(G:VR ρ b b')(M:Sat m'.lg)(w:World) :
  ∃ r,(do eqGuard op t x y a' b';binOp op t a' b':Sem Value).run P w=.ok r w/\VR ρ v r:=by
 have fin:∀ {r:Value} {p q:Value},DM p=true->DM q=true->xD P op t p q=some r->a'=p->b'=q->(do eqGuard op t x y a' b';binOp op t a' b':Sem Value).run P w=.ok r w:=fun{r p q} hp J hr f C=>by
  subst f;subst C;have v1:VR ρ a' a':=.pure (by cases a'<;>simp[DM]at hp<;>rfl);have v2:VR ρ b' b':=.pure (by cases b'<;>simp[DM]at J<;>rfl);have g:qE P t x y a' b'=true:=by
   cases a'<;>simp[DM]at hp<;>cases b'<;>simp[DM]at J<;>rfl
  have N:=wO (op:=op) (fun _=>g) v1 v2 w;obtain⟨A,_⟩:=CQ hr v1 v2 w;simp[A8,N,A,Result.andThen]
 unfold tJ at h;simp only at h;cases h1:(Nat.blt (I2 a) 8 && Nat.blt (I2 b) 8) || (Nat.beq (I2 a) 9 && Nat.beq (I2 b) 9)with
 | true =>
   rw[h1]at h;obtain⟨u,f,C,r,B,H,O⟩:=Q8 h M;have L:G9 u<10:=by rw[C];exact O
   refine⟨r,?_,H ρ⟩;rcases K6 _ _▸h1 with h1|h1
   .obtain⟨D,F⟩:=C5 h1;obtain⟨k,n,rfl,f1,_⟩:=S8 E (A2 D);obtain⟨j,R,rfl,f2,_⟩:=S8 G (A2 F);simp only[F0,K7,f1,f2,evU,evB]at f;subst f;obtain⟨Q,g1,g2⟩:=ND L;rw[B]at g2;cases g2;exact fin rfl rfl (by unfold xD;exact g1) rfl rfl
   .obtain⟨D,F⟩:=C5 h1;obtain⟨s1,rfl,f1⟩:=eS E (A1 D);obtain⟨s2,rfl,f2⟩:=eS G (A1 F);simp only[F0,K7,f1,f2,evU,evB]at f;subst f;obtain⟨Q,g1,g2⟩:=ND L;rw[B]at g2;cases g2;exact fin rfl rfl (by unfold xD;exact g1) rfl rfl
 | false =>
   rw[h1]at h;simp only[E8]at h;obtain⟨A,h⟩:=A6 h;obtain⟨A,I⟩:=C5 A;obtain⟨A,K⟩:=C5 A;obtain⟨A,h3⟩:=C5 A;have hu:P.underlying t=some .bool:=by
    split at I
    .assumption
    .cases I
   obtain⟨u,f,C,r,B,H,_⟩:=Q8 h M;refine⟨r,?_,H ρ⟩;obtain⟨p,rfl,f1⟩:=lJ E (A1 A);obtain⟨q,rfl,f2⟩:=lJ G (A1 h3);simp only[F0,K7,f1,f2,evU,evB]at f;cases op<;>simp only[FA]at K<;>first
    | cases K
    | skip
   .subst f;cases B;exact fin rfl rfl (by simp[xD,IY,eqM,hu]) rfl rfl
   .subst f;cases B;exact fin rfl rfl (by simp[xD,IY,eqM,hu]) rfl rfl
def AN(e:Bool)(f:∃ cs,a'=.agg cs):binOp (bif e then .eql else .neq) t a' b'=(do let r <- Op.equal t a' b';pure (.bool (bif e then r else !r))):=by
 obtain⟨cs,rfl⟩:=f;cases e<;>cases b'<;>rfl
def A3G{x y:Operand}{a b:Value}(h:QI P m op t x y a b=some (v,m'))(E:VR ρ a a')(M:VR ρ b b')(j:tJ P m op t a b=none)(R:Sat m'.lg)(w:World) :
  ∃ r,(do eqGuard op t x y a' b';binOp op t a' b':Sem Value).run P w=.ok r w/\VR ρ v r:=by
 unfold QI at h;obtain⟨S,h⟩:=A6 h;have F:=wO (op:=op) (fun _=>S) E M w;have q:∀ {l},eqS P 20 t a b=some l->(op=.eql∨op=.neq)->∃ cs,a'=.agg cs:=fun{l} f K=>by
  unfold eqS at f;cases A:iY P t a b with
  | true =>
    unfold iY at A;unfold tJ at j;simp only at j;split at A
    .rename_i hu;obtain⟨D,G⟩:=C5 A;rw[A1 D,A1 G,hu]at j;obtain⟨H,n,W,hi,⟨nx,pi,log⟩⟩:=m;rcases K with rfl|rfl<;>simp[FA,p8,G5,J2]at j
    .rename_i k hu;obtain⟨D,G⟩:=C5 A;have U:=Q2 k;have V:Nat.blt (lT k) 8=true:=D2 U;rw[A1 D,A1 G,V]at j;obtain⟨H,n,W,hi,⟨nx,pi,log⟩⟩:=m;simp[p8,G5,J2]at j
    .obtain⟨D,G⟩:=C5 A;rw[A1 D,A1 G]at j;obtain⟨H,n,W,hi,⟨nx,pi,log⟩⟩:=m;simp[p8,G5,J2]at j
    .cases A
  | false =>
    rw[A]at f;simp only[E8]at f;split at f
    .obtain⟨cs',rfl,_⟩:=o9 E;exact⟨_,rfl⟩
    .obtain⟨cs',rfl,_⟩:=o9 E;exact⟨_,rfl⟩
    .cases f
 split at h
 .rename_i l f _;obtain⟨u,B,T,r,I,O,_⟩:=Q8 h R;refine⟨r,?_,O ρ⟩;simp only[evU]at B;split at B
  .rename_i z Q;subst B;cases I;have he:(Op.equal t a' b').run P w=.ok z w:=YB 20 t a b a' b' l z f Q E M _ B8 w;have C:=AN (t:=t) (b':=b') true (q f (.inl rfl));simp only[F7]at C;rw[C];simp[A8,F,he,Result.andThen]
  .subst B;cases I
 .rename_i l f _;split at h
  .rename_i hh m1 h1;have N:Sat m1.lg:=V3.le R (L4 h);obtain⟨X,f1,f2,r1,f3,f4,_⟩:=Q8 h1 N;obtain⟨u,B,T,r,I,O,_⟩:=Q8 h R;refine⟨r,?_,O ρ⟩;simp only[evU]at f1;split at f1
   .rename_i z Q;subst f1;cases f3;have L:=cZ (ρ:=ρ) (f4 ρ) (by obtain⟨e,_⟩:=sG h1;rw[e];show 8<10;omega);have:E7 Ora.env hh=.bool z:=by
     cases hu:E7 Ora.env hh<;>rw[hu]at L<;>first|(cases L.1;done)|skip
     all_goals (obtain⟨J,_⟩:=L;cases J;rfl)
    simp only[F0,K7,this,evU,ev1,unM,ofV]at B;subst B;cases I;have he:(Op.equal t a' b').run P w=.ok z w:=YB 20 t a b a' b' l z f Q E M _ B8 w;have C:=AN (t:=t) (b':=b') false (q f (.inr rfl));simp only[E8]at C;rw[C];simp[A8,F,he,Result.andThen]
   .subst f1;cases f3
  .cases h
 .cases h
end
end
end Go.Sx
