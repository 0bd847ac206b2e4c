import Derived.Test.YtbbicpheoakeeaaGreatDoorX12
import Derived.Test.YtbbicpheoakeeaaGreatDoorCards
import Derived.Test.YtbbicpheoakeeaaGreatDoorTie
import Derived.WalkKit
import Derived.ProofKit
import Derived.OpenShut
import Derived.Below
import Derived.Carry
import Derived.Lib.SmallJoins
import Derived.Deep.DeepHandedRow
import Derived.Lib.LaidTab
import Derived.MakeChecks
import Derived.Lay
import Derived.Deep.DeepWitnessRef
set_option linter.all false
set_option maxRecDepth 100000
set_option maxHeartbeats 4000000
namespace Go.Proofs.YtbbicpheoakeeaaGreatDoor
variable {c d3 d4 dc q:Int}{t:B5}
section
open Go Go.Sx
def rpB(f:Bool)(s:B5):Bool:=if f=true then decide (psP (sp 10 s))else rok (sp 10 s)
def rpX(f:Bool)(s:B5)(P:Xt):Xt:=if f=true then psX s else P
def rpL(f:Bool)(s:B5)(acc:Option (List Gt)):Option (List Gt):=aV acc (some (rgs (if f=true then(sp 10 s).tail else sp 10 s)))
attribute [local irreducible] Q8 gA B0r bnP bnR bnA rpB rpX rpL
end
section
open Go Go.Sx
open Go Go.Sx Go.Proofs.Tryz
noncomputable def A9i:S0:=⟨_,fun a=>(.cons (A4D a) (.cons (ZX a) .nil))⟩
def A5N:List U->Option (Nat×List U)
 | []=>some (0,[.int .i64 (1),.int .i64 (98),.int .i64 (4),.int .i64 (0),.int .i64 (0),.int .i64 (0),.int .i64 (0),.str ([]),H1 rG (some B0q)])
 | _=>none
def A8j{G}(b:L7 G):L2 prog G 30 [] A5N [.a [3,3,3,3,3,3,3,9,20]]:=by
 refine gB (d:=60) (cxg (A9i.2 b) .nil) b ⟨f30,_,func30,rfl⟩ ?_;intro us outs e;unfold A5N at e;split at e
 .cases e;exact⟨[],by kernel_rfl⟩
 .cases e
noncomputable def A88:S0:=⟨_,fun a=>(.cons (A8j a) (.cons (A74 a) (.cons (A5j a) (.cons (IF a) (.cons (A4D a) (.cons (A6B a) .nil))))))⟩
def AL:List U->Option (Nat×List U)
 | []=>some (0,[.bool (true)])
 | _=>none
def A1k :AL []=some (0,[.bool (true)]):=rfl
def A7I{G}(a:L7 G):L2 prog G 16 [] AL [.s 8]:=by
 refine gB (d:=60) (cxg (A88.2 a) .nil) a ⟨f16,_,func16,rfl⟩ ?_;intro us outs b;unfold AL at b;split at b
 .cases b;exact⟨[1,1,1,1,1,1,1,1,1,1,1,1,1,1,1,1,1,1,1,1,1,1,1,1,1,1,1,1,1,1,1,1,1,1,1,1,1,1,1,1,1,1,1,1,1,1,1,1,1,1,1,1,1,1,1,1,1,1,1,1,1,0,0,0,0,0,0,1,1,1,1],by kernel_rfl⟩
 .cases b
def A7_:n9 97 0:=.inl ⟨F5,.inl rfl⟩
def A8k(c m:Int):n9 (dC3 c m) (dM c m):=by
 unfold dC3 dM;by_cases h1:n9 c (m%8)
 .rw[A9 (.inl h1),A9 h1];exact h1
 .by_cases a:n9 c (m%8 / 2%4*2)
  .rw[A9 (.inr (.inl a)),A6 h1,A9 a];exact a
  .by_cases h3:n9 c (m / 2%2*2)
   .rw[A9 (.inr (.inr (.inl h3))),A6 h1,A6 a,A9 h3];exact h3
   .rw[A6 h1,A6 a,A6 h3];by_cases b:n9 c 0
    .rw[A9 (.inr (.inr (.inr b)))];exact b
    .rw[A6 (fun q=>q.elim h1 fun q=>q.elim a fun q=>q.elim h3 b)];exact A7_
def A6O(s:B5):(nE s).any isE=false:=by
 rw[List.any_eq_false];intro x hx;unfold nE at hx
 have:=(O6.1 hx).2;intro h;rw[h]at this;cases this
def A8i{d1 d2 d5 d6:Int}(a:q=0∨q=1∨q=2∨q=3):W8 (diK q) (diC q d3 d4 dc) (diM q d3 d4 dc) (diW q d1) (diB q d1 d2 d3 d5 d6) (diR q d5) (diL q d6) (diT q t):=by
 rcases a with rfl|rfl|rfl|rfl
 .exact .inl ⟨rfl,rfl,rfl,rfl,rfl,rfl,A8k _ _⟩
 .refine .inr (.inl ⟨rfl,rfl,rfl,?_⟩);show msP (d3%8) (d1%4) (if W8 2 0 (d3%8) (d1%4) (d2%4) (d5%40) (d6%80) []then d2%4 else d2%4%2) (d5%40) (d6%80);split
  .rename_i h;rcases h with h|h|h|h
   .exact absurd h.1 F5
   .exact h.2.2.2
   .exact absurd h.1 F5
   .exact absurd h.1 F5
  .unfold msP;omega
 .refine .inr (.inr (.inl ⟨rfl,rfl,rfl,rfl,rfl,rfl,rfl,?_,A6O _⟩))
  have:=A6M (t.take 1000);rw[G7]at this;show(nE (t.take 1000)).length<=1000;omega
 .exact .inr (.inr (.inr ⟨rfl,rfl,rfl,rfl,rfl,rfl,rfl,by show 0<=d1%2;omega,by show d1%2<=1;omega⟩))
def nB(b:UInt8):Bool:=decide ((b.toNat:Int)<=32) || decide (127<=(b.toNat:Int))
def A8b{x:Xt}{P:Prop}(h:(!eqX x x)=true):P:=by rw[A5G.2 rfl]at h;cases h
def YL(x:Xt):((gY x).length:Int)<=14:=by
 unfold gY;split
 .have:=YR x;omega
 .exact(by decide:(0:Int)<=14)
def A0S(l:List Int):(iB l).length=l.length:=by unfold iB;rw[E4]
def A50{l:List Int}{i:Nat}(h:∀ y ∈ l,0<=y/\y<256)(h0:0<=c)(h1:c<256):∀ y ∈ l.set i c,0<=y/\y<256:=fun y a=>by
 rcases fA a with a|rfl
 .exact h y a
 .exact⟨h0,h1⟩
def A8h : -9223372036854775808<=diM (q%4) d3 d4 dc/\diM (q%4) d3 d4 dc<=9223372036854775807/\((diT (q%4) t).length:Int)<=140737488351232:=by
 have h:=A8i (q:=q%4) (d1:=0) (d2:=0) (d3:=d3) (d4:=d4) (d5:=0) (d6:=0) (dc:=dc) (t:=t) A2;unfold W8 at h;rcases h with h|h|h|h
 .have a:=h.2.2.2.2.2.2;unfold n9 at a;rw[h.2.2.2.2.2.1];exact⟨A2,A2,F5⟩
 .have a:=h.2.2.2;unfold msP at a;rw[h.2.2.1];exact⟨A2,A2,F5⟩
 .omega
 .rw[h.2.2.2.2.2.2.1];exact⟨A2,A2,F5⟩
def kR(x:Xt)(l:Option (List Gt)):Prop := -9223372036854775808<=x.2.2.1/\x.2.2.1<=9223372036854775807/\(x.2.2.2.2.2.2.2.length:Int)<=140737488351232/\((el l).length:Int)<=140737488351232/\(∀ g ∈ el l,gOk g)
instance(x:Xt)(l:Option (List Gt)):Decidable (kR x l):=by unfold kR;infer_instance
def BI:List U->Option (Nat×List U)
 | [.str s]=>if(s.length:Int)<=140737488351232 then some (0,[U.int .i64 (Q8 s).1,.int .i64 (Q8 s).2.1,.int .i64 (Q8 s).2.2.1,.int .i64 (Q8 s).2.2.2.1,.int .i64 (Q8 s).2.2.2.2.1,.int .i64 (Q8 s).2.2.2.2.2.1,.int .i64 (Q8 s).2.2.2.2.2.2.1,.str (Q8 s).2.2.2.2.2.2.2,.int .i64 (gA s)])else none
 | _=>none
def A7o{us:List U}{r:Nat×List U}(h:BI us=some r):nM us=some r:=by
 unfold BI at h;split at h
 .rename_i s;split at h
  .rename_i h1;rw[DW s h1,(qH s).1,(qH s).2];exact h
  .cases h
 .cases h
def A2H(s:B5)(h:(s.length:Int)<=140737488351232):BI [.str s]=some (0,[U.int .i64 (Q8 s).1,.int .i64 (Q8 s).2.1,.int .i64 (Q8 s).2.2.1,.int .i64 (Q8 s).2.2.2.1,.int .i64 (Q8 s).2.2.2.2.1,.int .i64 (Q8 s).2.2.2.2.2.1,.int .i64 (Q8 s).2.2.2.2.2.2.1,.str (Q8 s).2.2.2.2.2.2.2,.int .i64 (gA s)]):=A9 h
def A7p{G}(b:L7 G):L2 prog G 20 [.s 9] BI [.a [3,3,3,3,3,3,3,9],.s 3]:=fun us outs w vs R h1 d h3 e=>IF b us outs w vs R h1 (A7o d) h3 e
attribute [local irreducible] Q8 gA gY eG diK diC diM diW diB diR diL diT
noncomputable def A9V:S0:=⟨_,fun a=>(.cons (A7I a) (.cons (A8e a) (.cons (A5j a) (.cons (A7g a) (.cons (A7p a) (.cons (A6C a) .nil))))))⟩
def ZK:List U->Option (Nat×List U)
 | [.int .i64 k,.int .i64 c,.int .i64 m,.int .i64 w,.int .i64 b,.int .i64 r,.int .i64 cl,.str t,.int .u8 e0,.int .u8 e1,.int .u8 e2,.int .u8 e3,.int .u8 e4,.int .u8 e5,.int .u8 e6,.int .u32 ec,.str et,.str s,.int .u8 at_,.int .u8 cc]=>if -9223372036854775808<=m/\m<=9223372036854775807/\(t.length:Int)<=140737488351232/\0<=e0/\e0<256/\0<=e1/\e1<256/\0<=e2/\e2<256/\0<=e3/\e3<256/\0<=e4/\e4<256/\0<=e5/\e5<256/\0<=e6/\e6<256/\0<=ec/\ec<4294967296/\(et.length:Int)<=140737488351232/\(s.length:Int)<=140737488351232/\0<=at_/\at_<256/\0<=cc/\cc<256 then some (0,[.bool (true)])else none
 | _=>none
def A2d(k:Int)(c:Int)(m:Int)(w:Int)(b:Int)(r:Int)(cl:Int)(t:B5)(i:Int)(f:Int)(j:Int)(d:Int)(l:Int)(a:Int)(g:Int)(e:Int)(n:B5)(s:B5)(at_:Int)(cc:Int)(o : -9223372036854775808<=m/\m<=9223372036854775807/\(t.length:Int)<=140737488351232/\0<=i/\i<256/\0<=f/\f<256/\0<=j/\j<256/\0<=d/\d<256/\0<=l/\l<256/\0<=a/\a<256/\0<=g/\g<256/\0<=e/\e<4294967296/\(n.length:Int)<=140737488351232/\(s.length:Int)<=140737488351232/\0<=at_/\at_<256/\0<=cc/\cc<256):ZK [.int .i64 k,.int .i64 c,.int .i64 m,.int .i64 w,.int .i64 b,.int .i64 r,.int .i64 cl,.str t,.int .u8 i,.int .u8 f,.int .u8 j,.int .u8 d,.int .u8 l,.int .u8 a,.int .u8 g,.int .u32 e,.str n,.str s,.int .u8 at_,.int .u8 cc]=some (0,[.bool (true)]):=A9 o
def X8(a0:Nat)(a:Nat)(b d:Tr):Tr:=.fn BI [h a0 9] 9<|.fn wT [h a0 9] 9<|.lt 8 (.eqs) [h3 a,h3 (a+9),h3 (a+1),h3 (a+10),h3 (a+2),h3 (a+11),h3 (a+3),h3 (a+12),h3 (a+4),h3 (a+13),h3 (a+5),h3 (a+14),h3 (a+6),h3 (a+15),h (a+7) 9,h (a+16) 9]<|aX [h (a+18) 8]<|.br (a+19) b d
def A4g:Tr:=aD [h 7 9]<|.lt 3 (.min) [h3 20,jI 1100]<|.lt 9 (.sub) [h 7 9,jI 0,h3 21]<|aD [h 17 9]<|.lt 3 (.min) [h3 23,jI 20]<|.lt 9 (.sub) [h 17 9,jI 0,h3 24]<|.fn CG [h 8 4,h 9 4,h 10 4,h 11 4,h 12 4,h 13 4,h 14 4,h 15 6,h 16 9] 8<|.lt 3 (.conv .i64) [h 19 4]<|.lt 4 (.bin .rem) [h 18 4,.int .u8 (8)]<|.lt 3 (.conv .i64) [h 35 4]<|.fn zJ [h3 0,h3 1,h3 2,h3 3,h3 4,h3 5,h3 6,h 22 9] 2<|.fn tR [h3 0,h3 1,h3 2,h3 3,h3 4,h3 5,h3 6,h 22 9] 2<|aN [h 37 9,h 39 9]<|.br 41 (E6) (S5 38 40 42 E6 (.fn zJ [h3 26,h3 27,h3 28,h3 29,h3 30,h3 31,h3 32,h 33 9] 2<|.fn tR [h3 26,h3 27,h3 28,h3 29,h3 30,h3 31,h3 32,h 33 9] 2<|aN [h 43 9,h 45 9]<|.br 47 (E6) (S5 44 46 48 E6 (.fn zJ [jI 1,h3 34,h3 36,jI 0,jI 0,jI 0,jI 0,.string ⟨⟨[]⟩⟩] 2<|.fn tR [jI 1,h3 34,h3 36,jI 0,jI 0,jI 0,jI 0,.string ⟨⟨[]⟩⟩] 2<|aN [h 49 9,h 51 9]<|.br 53 (E6) (S5 50 52 54 E6 (.fn CG [h 8 4,h 9 4,h 10 4,h 11 4,h 12 4,h 13 4,h 14 4,h 15 6,h 16 9] 8<|.fn tR [h3 55,h3 56,h3 57,h3 58,h3 59,h3 60,h3 61,h 62 9] 2<|.dt 11 (.byt) [h 63 9]<|aD [h 65 11]<|aG [h3 66,jI 0]<|.br 67 (.lt 3 (.conv .i64) [h 18 4]<|.lt 3 (.bin .rem) [h3 68,h3 66]<|fF 65 69 70 (.dt 11 (.set 1 0) [h 65 11,h3 69,h 19 4]<|.lt 9 (.str) [h 71 11]<|aC [.string ⟨⟨[67,45]⟩⟩,h 25 9]<|aC [.string ⟨⟨[77,45]⟩⟩,h 63 9]<|aC [.string ⟨⟨[83,45]⟩⟩,h 63 9]<|aC [.string ⟨⟨[85,43]⟩⟩,h 25 9]<|X8 25 77 E6 (S5 85 94 97 E6 (X8 63 98 E6 (S5 106 115 118 E6 (X8 72 119 E6 (S5 127 136 139 E6 (X8 73 140 E6 (S5 148 157 160 E6 (X8 74 161 E6 (S5 169 178 181 E6 (X8 75 182 E6 (S5 190 199 202 E6 (X8 76 203 E6 (S5 211 220 223 E6 (.fn AL [] 1<|.ret [h 224 8])))))))))))))))) (.lt 9 (.str) [h 65 11]<|aC [.string ⟨⟨[67,45]⟩⟩,h 25 9]<|aC [.string ⟨⟨[77,45]⟩⟩,h 63 9]<|aC [.string ⟨⟨[83,45]⟩⟩,h 63 9]<|aC [.string ⟨⟨[85,43]⟩⟩,h 25 9]<|X8 25 73 E6 (S5 81 90 93 E6 (X8 63 94 E6 (S5 102 111 114 E6 (X8 68 115 E6 (S5 123 132 135 E6 (X8 69 136 E6 (S5 144 153 156 E6 (X8 70 157 E6 (S5 165 174 177 E6 (X8 71 178 E6 (S5 186 195 198 E6 (X8 72 199 E6 (S5 207 216 219 E6 (.fn AL [] 1<|.ret [h 220 8])))))))))))))))))))))
def A78{G}(v:L7 G):L2 prog G 4 [.a [3,3,3,3,3,3,3,9],.a [4,4,4,4,4,4,4,6,9],.s 9,.s 4,.s 4] ZK [.s 8]:=by
 refine G0 (d:=60) A4g (cxg (A9V.2 v) .nil) v ⟨f4,_,func4,rfl⟩ C5 C5 ?_;intro us outs p;unfold ZK at p;split at p
 .skip;rename_i k c m w b r cl t f n y i u j o l x s at_ cc;split at p
  .rename_i h;cases p;unfold A4g;refine s0L ?_;show Tr.sav _ _ (.cons 19 _ (.cons 18 _ (.cons 17 _ (.cons 16 _ (.cons 15 _ (.cons 14 _ (.cons 13 _ (.cons 12 _ (.cons 11 _ (.cons 10 _ (.cons 9 _ (.cons 8 _ (.cons 7 _ (.cons 6 _ (.cons 5 _ (.cons 4 _ (.cons 3 _ (.cons 2 _ (.cons 1 _ (.cons 0 _ (.nil)))))))))))))))))))));refine Wk.s ?_;repeat (first|refine w4 (fun g=>?_) fun g=>?_|refine w4B (fun g=>?_) fun g=>?_|(refine w7 [.bool _] ?_;rotate_left)|refine aY ?_|refine uO ?_|refine uP ?_|(refine w3 BI (e:=A2H _ (by have z:=YL (diK (f%4),diC (f%4) i u l,diM (f%4) i u l,diW (f%4) n,diB (f%4) n y i j o,diR (f%4) j,diL (f%4) o,diT (f%4) x);first|omega|(simp only[D0,D8,I4,G7,D1,A0S,mW,O9,L9,tB];omega))) (k':=?_);show Wk _ _ (.cons _ _ (.cons _ _ (.cons _ _ (.cons _ _ (.cons _ _ (.cons _ _ (.cons _ _ (.cons _ _ (.cons _ _ _))))))))))|(refine w3 wT (e:=WZ _ (by have z:=YL (diK (f%4),diC (f%4) i u l,diM (f%4) i u l,diW (f%4) n,diB (f%4) n y i j o,diR (f%4) j,diL (f%4) o,diT (f%4) x);first|omega|(simp only[D0,D8,I4,G7,D1,A0S,mW,O9,L9,tB];omega))) (k':=?_);show Wk _ _ (.cons _ _ (.cons _ _ (.cons _ _ (.cons _ _ (.cons _ _ (.cons _ _ (.cons _ _ (.cons _ _ (.cons _ _ _))))))))))|refine w1 (.eqs) (e:=rfl) (k':=?_)|refine w1 (.bin .add) (e:=NQ _ _ (by have z:=YL (diK (f%4),diC (f%4) i u l,diM (f%4) i u l,diW (f%4) n,diB (f%4) n y i j o,diR (f%4) j,diL (f%4) o,diT (f%4) x);first|omega|(simp only[D0,D8,I4,G7,D1,A0S,mW,O9,L9,tB];omega))) (k':=?_)|refine pA ?_|refine iJ ?_|refine A5t ?_|refine w1 (.bin .rem) (e:=FD _ _ _ A2) (k':=?_)|refine w32 tR (e:=A2E _ _ _ _ _ _ _ _ (by first|omega|(simp only[G7,D1,I4];omega)|exact(A8h (t:=x))|(refine⟨?_,?_,?_⟩<;>first|omega|(simp only[G7,D1,I4];omega)))) (k':=?_)|refine w32 zJ (e:=A3X _ _ _ _ _ _ _ _ (by first|omega|(simp only[G7,D1,I4];omega)|exact(A8h (t:=x))|(refine⟨?_,?_,?_⟩<;>first|omega|(simp only[G7,D1,I4];omega)))) (k':=?_)|refine LQ ?_|refine iH ?_|refine A7O ?_|refine w1 (.sub) (e:=bW _ _ _ _ _ A2 A2 A2) (k':=?_)|(refine w3 CG (e:=A25 _ _ _ _ _ _ _ _ _ ⟨A2,A2,A2,A2,A2,A2,A2,A2,A2,A2,A2,A2,A2,A2,A2,A2,A2⟩) (k':=?_);show Wk _ _ (.cons _ _ (.cons _ _ (.cons _ _ (.cons _ _ (.cons _ _ (.cons _ _ (.cons _ _ (.cons _ _ _)))))))))|refine w1 (.str) (e:=RN rfl (by first|exact A5d _|exact A50 (A5d _) A2 A2)) (k':=?_)|refine w31 AL (e:=A1k) (k':=?_)|refine w2 (.byt) (r:=rB) (e:=RS _ rfl) (k':=?_)|refine vZ ?_|refine wA ?_|refine kH ?_|refine w2 (.set 1 0) (r:=rB) (e:=FC _ rfl (A1 rfl) (by first|omega|exact m6 _ A2|exact o8 _ ‹_›) (by first|omega|exact m6 _ A2|exact o8 _ ‹_›) rfl) (k':=?_)|(refine w8 ?_;first|omega|exact B0a ‹_› ‹_›))
   all_goals
    first
    | rfl
    | exact absurd rfl g
    | exact A8b g
    | exact absurd (by assumption:(!true)=true) F5
  .cases p
 .cases p
end
end Go.Proofs.YtbbicpheoakeeaaGreatDoor
namespace Go.Proofs.YtbbicpheoakeeaaGreatDoor.keymapNamesDone
open Go Go.Sx Go.ChangeShapes Go.WideShapes Go.ChangeAt Go.RowKit
def MB{P:Program}{G:Nat->Option Obj}{gl n0:Nat}{H0:Hp AB}(h1:gl<=n0)(a:n0<H5)(h:aO P G gl H0 gl):aO P G gl H0 n0:=fun w d=>(h w d).imp fun ρ s=>⟨s.hr,s.gr,fun b e=>s.out b (by omega),s.inG,s.ro,a,h1,s.ex,s.shp⟩
def start{W:World}(a:W.ShapedOpen Tryz.prog)(h:laidMetH Tryz.prog Rows.keymapNamesRow.laid W):aO Tryz.prog (fun k=>W.heap[k]?) gl H0 n0:=by
 rw[MakeChecks.laidMetH_plain _ _ _ C5]at h;have f:jW W 10 (jN.getD 0 (0,[])).2:=m9 C5 (eJ (n := "math/bits.deBruijn32tab") (d:=Rows.laid_math_bits_deBruijn32tab) (g:=10) (k:=6) (t:=211) h (C7 (i:=0) rfl) C5 C5 C5);have b:jW W 11 (jN.getD 1 (0,[])).2:=m9 C5 (eJ (n := "math/bits.deBruijn64tab") (d:=Rows.laid_math_bits_deBruijn64tab) (g:=11) (k:=6) (t:=212) h (C7 (i:=1) rfl) C5 C5 C5);have m:jW W 6 (jN.getD 2 (0,[])).2:=m9 C5 (eJ (n := "internal/strconv.uint64pow10") (d:=Rows.laid_internal_strconv_uint64pow10) (g:=6) (k:=6) (t:=194) h (C7 (i:=2) rfl) C5 C5 C5);have o:jW W 8 (jN.getD 3 (0,[])).2:=m9 C5 (eJ (n := "unicode/utf8.acceptRanges") (d:=Rows.laid_unicode_utf8_acceptRanges) (g:=8) (k:=6) (t:=199) h (C7 (i:=3) rfl) C5 C5 C5);have u:jW W 5 [one]:=AY (xU (n := "strconv.ErrRange") (d:=Rows.laid_strconv_ErrRange) (g:=5) (t:=105) h (C7 (i:=4) rfl) C5 C5 C5);have p:jW W 4 [one]:=AY (xU (n := "strconv.ErrSyntax") (d:=Rows.laid_strconv_ErrSyntax) (g:=4) (t:=105) h (C7 (i:=5) rfl) C5 C5 C5);have r1:jW W 1 (jN.getD 6 (0,[])).2:=m9 C5 (eJ (n := "strings.asciiSpace") (d:=Rows.laid_strings_asciiSpace) (g:=1) (k:=6) (t:=116) h (C7 (i:=7) rfl) C5 C5 C5);have j:jW W 0 (jN.getD 7 (0,[])).2:=m9 C5 (eJ (n := "fenestra/keymap.modifiers") (d:=Rows.laid_fenestra_keymap_modifiers) (g:=0) (k:=6) (t:=93) h (C7 (i:=8) rfl) C5 C5 C5);have l:jW W 7 (jN.getD 8 (0,[])).2:=m9 C5 (eJ (n := "unicode/utf8.first") (d:=Rows.laid_unicode_utf8_first) (g:=7) (k:=6) (t:=116) h (C7 (i:=10) rfl) C5 C5 C5);have s:gl<=W.heap.size:=by
  have q:(((begin Tryz.prog (fun _ _=>0) default).world.heap[12]?).bind Obj.row?).isSome=true:=C5;obtain⟨⟨z,t⟩,q⟩:=Option.isSome_iff_exists.1 q;obtain⟨cs,e,_⟩:=a.1 12 z t (G6 C5) q
  have:=(C6.1 e).1;show 13<=_;omega
 refine MB (by decide) (by decide) (VT a s (by decide) ?_ ?_)
 .have e:(jN.all fun r=>Nat.blt r.1 gl)=true:=C5;exact fun r hr=>A1 (D3.1 e r hr)
 .intro r hr;unfold jN at hr;rcases B3.1 hr with rfl|hr
  .exact f
  rcases B3.1 hr with rfl|hr
  .exact b
  rcases B3.1 hr with rfl|hr
  .exact m
  rcases B3.1 hr with rfl|hr
  .exact o
  rcases B3.1 hr with rfl|hr
  .exact u
  rcases B3.1 hr with rfl|hr
  .exact p
  rcases B3.1 hr with rfl|hr
  .exact r1
  rcases B3.1 hr with rfl|hr
  .exact j
  rcases B3.1 hr with rfl|hr
  .exact l
  cases hr
def own:ownKnob Tryz.prog.godebug=none:=C5
def qG:laidOutB Tryz.prog=true:=C5
noncomputable def sG(os:Os):World:=World.laidAll Tryz.prog os Rows.keymapNamesRow.laid
def ZI(os:Os):laidMet Tryz.prog Rows.keymapNamesRow.laid ((sG os).forCall (fun _ _=>0) ⟨#[],#[.agg #[.int .i64 0,.int .i64 0,.int .i64 0,.int .i64 0,.int .i64 0,.int .i64 0,.int .i64 0,.string ⟨#[]⟩],.agg #[.int .u8 0,.int .u8 0,.int .u8 0,.int .u8 0,.int .u8 0,.int .u8 0,.int .u8 0,.int .u32 0,.string ⟨#[]⟩],.string ⟨#[]⟩,.int .u8 0,.int .u8 0],[]⟩).memory :=
 laidMet_laidAll _ C5 C5
def uN{H:Type}{enc:TypeId×Value->H}{C:Checked}{os:Os}{f:FuncId}{fn:Func}{s:OpenSpec}{conds:List PathCond}{apart:Bool}{laid:List (String×DataW Unit)}(modest:Bool)(w0:World)(args:Array Value)(d:w0.os=os)
  (hv:(w0.forCall (fun _ _=>0) ⟨#[],args,[]⟩).variablesZipB C.prog=true)
  (hr:((w0.forCall (fun _ _=>0) ⟨#[],args,[]⟩).heap.toList.drop C.prog.globals.size).take ((begin C.prog (fun _ _=>0) default).world.heap.size-C.prog.globals.size) =
    (begin C.prog (fun _ _=>0) default).world.heap.toList.drop C.prog.globals.size)
  (a:Input.okWideB C.prog (w0.forCall (fun _ _=>0) ⟨#[],args,[]⟩) f ⟨#[],args,[]⟩=true)
  (b:s.preRow enc C.prog fn conds apart laid (w0.forCall (fun _ _=>0) ⟨#[],args,[]⟩).memory args) :
  ∃ (w:World) (tape:Tape) (i:Input),w.os=os/\(w.forCall tape i).Shaped C.prog/\i.vars=[]/\Input.okWide C.prog (w.forCall tape i) .any w.heap.size f i /\
   s.preRow enc C.prog fn conds apart laid (w.forCall tape i).memory i.args/\({ modest:=modest }:Assume).holds C.prog (lone (Frame.enter C.prog f i.args .normal) [] (w.forCall tape i)):=by
 exact⟨w0,fun _ _=>0,⟨#[],args,[]⟩,d,World.shaped_of_ZipB hv hr,(Input.okWide_of_okWideB (base:=0) a).1,(Input.okWide_of_okWideB a).2,b,by
  simp only[Assume.holds];exact⟨by simp,by simp,fun _=>Modest.zero,by simp,by simp⟩⟩
def A7c(os:Os){H:Type}(enc:TypeId×Value->H):∃ places,DataW.whole enc Tryz.prog ((sG os).forCall (fun _ _=>0) ⟨#[],#[.agg #[.int .i64 0,.int .i64 0,.int .i64 0,.int .i64 0,.int .i64 0,.int .i64 0,.int .i64 0,.string ⟨#[]⟩],.agg #[.int .u8 0,.int .u8 0,.int .u8 0,.int .u8 0,.int .u8 0,.int .u8 0,.int .u8 0,.int .u32 0,.string ⟨#[]⟩],.string ⟨#[]⟩,.int .u8 0,.int .u8 0],[]⟩).memory Tryz.f4.params.toList Rows.keymapNamesSpec.vars false [.agg #[.int .i64 0,.int .i64 0,.int .i64 0,.int .i64 0,.int .i64 0,.int .i64 0,.int .i64 0,.string ⟨#[]⟩],.agg #[.int .u8 0,.int .u8 0,.int .u8 0,.int .u8 0,.int .u8 0,.int .u8 0,.int .u8 0,.int .u32 0,.string ⟨#[]⟩],.string ⟨#[]⟩,.int .u8 0,.int .u8 0] 8=some ([.agg [.lit (.int .i64 0),.lit (.int .i64 0),.lit (.int .i64 0),.lit (.int .i64 0),.lit (.int .i64 0),.lit (.int .i64 0),.lit (.int .i64 0),.lit (.string [])],.agg [.lit (.int .u8 0),.lit (.int .u8 0),.lit (.int .u8 0),.lit (.int .u8 0),.lit (.int .u8 0),.lit (.int .u8 0),.lit (.int .u8 0),.lit (.int .u32 0),.lit (.string [])],.lit (.string []),.lit (.int .u8 0),.lit (.int .u8 0)],[],places) :=
 ⟨[],by kernel_rfl⟩
def A0_(H:Type)(enc:TypeId×Value->H)(W:World)(base:Nat)(args:Array Value)(ds gs:List (DataW H))(before:List MemPlace)
  (b:∀ (j:Nat) t v,Tryz.f4.params[j]? = some t->args[j]? = some v->Value.okWide Tryz.prog W .any base t v)
  (hW:DataW.Whole enc Tryz.prog Tryz.f4.params.toList Rows.keymapNamesSpec.vars false W args.toList ds gs before) (hL:laidMetH Tryz.prog Rows.keymapNamesRow.laid W) (S:W.ShapedOpen Tryz.prog)
  (d:(DataW.weightsEach Tryz.prog (Tryz.f4.params.toList++(OpenSpec.ofChange Rows.keymapNamesSpec).bare.plain.varTypes Tryz.prog) (ds++gs)).all (·<=reachBytes)=true) :
  Calls Tryz.prog 4 args W fun e W'=>∃ v,e=.returned v/\Rows.keymapNamesSpec.post enc Tryz.prog Tryz.f4 false true false false W args v W':=by
 have M:=hW;obtain⟨p,q,N,hV,rfl,aj,ak⟩:=hW;have hA:DataW.TrodAll enc Tryz.prog W 0 (fun _=>true) true Tryz.f4.params.toList args.toList ds p:=N;rw[Tryz.params4]at hA b d;obtain⟨v0,al,d0,ad,p0,q0,ar,rfl,rfl,h0,O⟩:=trodAll_cons hA;obtain⟨v1,aa,d1,ae,p1,q1,rfl,rfl,rfl,h1,an⟩:=trodAll_cons O;obtain⟨v2,vs2,d2,ag,p2,q2,rfl,rfl,rfl,Z,V⟩:=trodAll_cons an;obtain⟨v3,af,d3,ah,p3,q3,rfl,rfl,rfl,h3,X⟩:=trodAll_cons V;obtain⟨v4,ai,d4,bz,p4,q4,rfl,rfl,rfl,P,Y⟩:=trodAll_cons X;obtain⟨rfl,rfl,rfl⟩:=trodAll_nil Y;obtain rfl:args=#[v0,v1,v2,v3,v4]:=by cases args;simp_all
 obtain⟨rfl,rfl⟩:=trodVars_none hV;have au:∀ x ∈ p0,x.block<W.heap.size:=by obtain⟨m,hm⟩:=h0;exact DataW.trod_lt m _ _ _ hm
 have T:u6 Tryz.prog 30 d0:=Q4 (i:=0) d rfl rfl;obtain⟨⟨n,u,B,D,C,z,E,I⟩,s0,q0⟩:=A5e (r:=(rC (P5 .i64) (rC (P5 .i64) (rC (P5 .i64) (rC (P5 .i64) (rC (P5 .i64) (rC (P5 .i64) (rC (P5 .i64) (r1 sY))))))))) (tg:=[3,3,3,3,3,3,3,9]) (RdR.of (k:=12) (ts:=[3,3,3,3,3,3,3,9]) C5 (RdL.cons (RdC.i64 C5) (RdL.cons (RdC.i64 C5) (RdL.cons (RdC.i64 C5) (RdL.cons (RdC.i64 C5) (RdL.cons (RdC.i64 C5) (RdL.cons (RdC.i64 C5) (RdL.cons (RdC.i64 C5) (RdL.nil1 (RdC.str' C5)))))))))) (fun _=>by simp only[rC,r1,B9,F7,cSl,P5,KR,sY,A1q];rfl) (xF C5 (b 0 30 v0 rfl rfl)) h0 T;try simp only at q0
 have az:∀ x ∈ p1,x.block<W.heap.size:=by obtain⟨m,hm⟩:=h1;exact DataW.trod_lt m _ _ _ hm
 have aw:u6 Tryz.prog 24 d1:=Q4 (i:=1) d rfl rfl;obtain⟨⟨g,y,J,A,w,G,l,F,K⟩,s1,q1⟩:=A5e (r:=(rC (P5 .u8) (rC (P5 .u8) (rC (P5 .u8) (rC (P5 .u8) (rC (P5 .u8) (rC (P5 .u8) (rC (P5 .u8) (rC (P5 .u32) (r1 sY)))))))))) (tg:=[4,4,4,4,4,4,4,6,9]) (RdR.of (k:=12) (ts:=[5,5,5,5,5,5,5,22,9]) C5 (RdL.cons (RdC.u8 C5) (RdL.cons (RdC.u8 C5) (RdL.cons (RdC.u8 C5) (RdL.cons (RdC.u8 C5) (RdL.cons (RdC.u8 C5) (RdL.cons (RdC.u8 C5) (RdL.cons (RdC.u8 C5) (RdL.cons (RdC.u32 C5) (RdL.nil1 (RdC.str' C5))))))))))) (fun _=>by simp only[rC,r1,B9,F7,cSl,P5,KR,sY,A1q];rfl) (xF C5 (b 1 24 v1 rfl rfl)) h1 aw;try simp only at q1
 have ax:∀ x ∈ p2,x.block<W.heap.size:=by obtain⟨m,hm⟩:=Z;exact DataW.trod_lt m _ _ _ hm
 have ao:u6 Tryz.prog 9 d2:=Q4 (i:=2) d rfl rfl;obtain⟨a2,s2,q2⟩:=A1R (c:=sY) (RdC.str' C5) C5 (b 2 9 v2 rfl rfl) Z ao;try simp only at q2
 have R:∀ x ∈ p3,x.block<W.heap.size:=by obtain⟨m,hm⟩:=h3;exact DataW.trod_lt m _ _ _ hm
 have av:u6 Tryz.prog 5 d3:=Q4 (i:=3) d rfl rfl;obtain⟨a3,s3,q3⟩:=A1R (c:=(P5 .u8)) (RdC.u8 C5) C5 (b 3 5 v3 rfl rfl) h3 av;try simp only at q3
 have Q:∀ x ∈ p4,x.block<W.heap.size:=by obtain⟨m,hm⟩:=P;exact DataW.trod_lt m _ _ _ hm
 have U:u6 Tryz.prog 5 d4:=Q4 (i:=4) d rfl rfl;obtain⟨a4,s4,q4⟩:=A1R (c:=(P5 .u8)) (RdC.u8 C5) C5 (b 4 5 v4 rfl rfl) P U;try simp only at q4
 clear N;simp only[Q7]at M;have aq:ShL (JM W) [.a [3,3,3,3,3,3,3,9],.a [4,4,4,4,4,4,4,6,9],.s 9,.s 4,.s 4] [.int .i64 n,.int .i64 u,.int .i64 B,.int .i64 D,.int .i64 C,.int .i64 z,.int .i64 E,.str I,.int .u8 g,.int .u8 y,.int .u8 J,.int .u8 A,.int .u8 w,.int .u8 G,.int .u8 l,.int .u32 F,.str K,.str a2,.int .u8 a3,.int .u8 a4] [v0,v1,v2,v3,v4]:=(.cons s0 (.cons s1 (.cons s2 (.cons s3 (.cons s4 .nil)))));obtain⟨_,hc⟩:=A78 (start S hL) [.int .i64 n,.int .i64 u,.int .i64 B,.int .i64 D,.int .i64 C,.int .i64 z,.int .i64 E,.str I,.int .u8 g,.int .u8 y,.int .u8 J,.int .u8 A,.int .u8 w,.int .u8 G,.int .u8 l,.int .u32 F,.str K,.str a2,.int .u8 a3,.int .u8 a4] [.bool true] W _ (JM W) aq (A2d _ _ _ _ _ _ _ _ _ _ _ _ _ _ _ _ _ _ _ _ ⟨by omega,by omega,by omega,by omega,by omega,by omega,by omega,by omega,by omega,by omega,by omega,by omega,by omega,by omega,by omega,by omega,by omega,by omega,by omega,by omega,by omega,by omega,by omega,by omega,by omega⟩) (fun k o h=>h) (fun k o h=>h);refine hc.mono fun e W' ⟨r,R',hr,he,L,_⟩=>?_
 have ay:=U8 (vs2:=[.bool true]) hr rfl;subst ay;subst he;have f:Below W.heap.size W W':=⟨L.os.1,L.os.2.1,L.os.2.2,L.size,L.keep⟩;exact⟨_,rfl,_,_,_,[],_,[],M,trodAll_mk1 (shut_bool Tryz.underlying4 _),(trodAll_cons_mk (Below.trod qG C5 (G6 C5) h0 f au) (trodAll_cons_mk (Below.trod qG C5 (G6 C5) h1 f az) (trodAll_cons_mk (Below.trod qG C5 (G6 C5) Z f ax) (trodAll_cons_mk (Below.trod qG C5 (G6 C5) h3 f R) (trodAll_cons_mk (Below.trod qG C5 (G6 C5) P f Q) trodAll_mk0))))),rfl,L.kept _,fun h=>by cases h⟩
def A6V(os:Os)(started:os.Started)(H:Type)(enc:TypeId×Value->H)(F:Stop.Interp) :
  ReturnsInHanded {} Tryz.checked os 4 .any ((OpenSpec.ofChange Rows.keymapNamesSpec).preRow enc Tryz.prog Tryz.f4 Rows.keymapNamesRow.domain false Rows.keymapNamesRow.laid) (((OpenSpec.ofChange Rows.keymapNamesSpec).at F).post enc Tryz.prog Tryz.f4 false true false false):=by
 obtain⟨places,hx⟩:=A7c os enc;refine returnsInHanded_of_row (C:=Tryz.checked) (s:=OpenSpec.ofChange Rows.keymapNamesSpec) own started C5 Tryz.func4
  (uN (enc:=enc) (C:=Tryz.checked) false (sG os) #[.agg #[.int .i64 0,.int .i64 0,.int .i64 0,.int .i64 0,.int .i64 0,.int .i64 0,.int .i64 0,.string ⟨#[]⟩],.agg #[.int .u8 0,.int .u8 0,.int .u8 0,.int .u8 0,.int .u8 0,.int .u8 0,.int .u8 0,.int .u32 0,.string ⟨#[]⟩],.string ⟨#[]⟩,.int .u8 0,.int .u8 0] (World.laidAll_os _ _ _) C5 C5 C5
    (OpenSpec.preRow_of_cond 8 hx C5 (fun k i=>by cases i) C5 (ZI os))) ?_
 intro W base args e gs before a g _ _ b f d _;exact A0_ H enc W base args e gs before a g f d b
def B0B:Rows.KeymapNamesSaid :=
 OpenClaim.holds_of_cond 4 Tryz.f4 rfl rfl rfl rfl rfl rfl rfl ⟨rfl,rfl,rfl,rfl,rfl⟩ rfl rfl rfl rfl rfl C5 Tryz.func4 C5
  (G6 C5) (by unfold Func.isWrapper;first|(rw[A9 (by decide +kernel)];kernel_rfl)|(rw[A6 (by decide +kernel)];exact⟨rfl,rfl⟩))
  (fun os started H enc _ F=>by rw[OpenClaim.pre_eq_preRow];exact A6V os started H enc F)
def plain(f:FuncId)(fn:Func)(g:Tryz.pinned.checked.prog.funcNamed "fenestra/fenestralaw39.KeymapNames"=some f)(b:Tryz.pinned.checked.prog.funcs[f]? = some fn) :
  true=Tryz.pinned.checked.prog.looks []/\∀ (j:Nat) t,fn.params[j]? = some t->Tryz.pinned.checked.prog.wantsStandIn t=false:=by
 obtain rfl:f=4:=A8 ((show Tryz.prog.funcNamed "fenestra/fenestralaw39.KeymapNames"=some 4 by kernel_rfl).symm.trans g) |>.symm;obtain rfl:fn=Tryz.f4:=(A8 (Tryz.func4.symm.trans b)).symm;refine⟨by kernel_rfl,fun j t e=>?_⟩;have a:(Tryz.f4.params.toList.all fun t=>!Tryz.prog.wantsStandIn t)=true:=C5
 have:=D3.1 a t (Array.mem_def.1 (Array.mem_of_getElem? e));have d:Tryz.prog.wantsStandIn t=false:=by simpa using this
 exact d
theorem proved:Rows.KeymapNamesCardSaid :=
 Claim7.holds_tied_plain_at .later [] _ _ _ _ B0B (fun _ h=>by cases h) C5 (fun _ h=>by cases h) keymapNames_row_tie rfl ⟨rfl,rfl⟩ C5 rfl plain C5
#print axioms proved
end Go.Proofs.YtbbicpheoakeeaaGreatDoor.keymapNamesDone
