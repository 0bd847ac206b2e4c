/- The law KeysChecks: for every input the call returns true, and the arguments read behind it as they read before. No condition. -/
import Derived.Test.YtdimocjaepnifaaGreatDoorX12
import Derived.Test.YtdimocjaepnifaaGreatDoorCards
import Derived.Test.YtdimocjaepnifaaGreatDoorTie
import Derived.WalkKit
import Derived.ProofKit
import Derived.OpenShut
import Derived.Below
import Derived.Carry
import Derived.Lib.SmallJoins
import Derived.Deep.DeepHandedRow
import Derived.Lib.LaidTab
import Derived.MakeChecks
namespace Go.Proofs.YtdimocjaepnifaaGreatDoor
set_option linter.all false
open Go Go.Sx
set_option maxRecDepth 100000
set_option linter.unusedVariables false
set_option linter.unusedSimpArgs false
theorem A8v{a:Int}(h0:0≤a)(h1:a<256):evU (.bin .and) [.int .u8 a,.int .u8 6]=.int .u8 (a / 2%4*2):=by
 rw[A7L];have k:∀ n:Nat,n<256→IntKind.u8.wrap (BitVec.ofInt IntKind.u8.bits (n:Int) &&& BitVec.ofInt IntKind.u8.bits 6).toNat=(n:Int) / 2%4*2:=by decide
 obtain⟨n,rfl⟩:∃ n:Nat,a=n:=⟨a.toNat,by omega⟩;exact congrArg _ (k n (by omega))
theorem A8w{a:Int}(h0:0≤a)(h1:a<256):evU (.bin .and) [.int .u8 a,.int .u8 2]=.int .u8 (a / 2%2*2):=by
 rw[A7L];have k:∀ n:Nat,n<256→IntKind.u8.wrap (BitVec.ofInt IntKind.u8.bits (n:Int) &&& BitVec.ofInt IntKind.u8.bits 2).toNat=(n:Int) / 2%2*2:=by decide
 obtain⟨n,rfl⟩:∃ n:Nat,a=n:=⟨a.toNat,by omega⟩;exact congrArg _ (k n (by omega))
theorem el0(l:List UInt8):el (A3p none (some (bI l)))=bI l:=by rw[A95];rfl
theorem C2N(l:List UInt8):∀ n ∈ el (A3p none (some (bI l))),0≤n∧n<256:=fun n h=>by rw[el0]at h;exact C1B h
theorem iB0(l:List UInt8):iB (el (A3p none (some (bI l))))=l:=by rw[el0,C1v]
def dC1(d4 dc:Int):Int:=if d4%2=0 then 1114113+d4 / 2%26 else dc
def dC2(x:Int):Int:=if x<1114113∧¬chP x then 97+x%26 else x
def dM(c m:Int):Int:=if A4 c (m%8)then m%8 else if A4 c (m%8 / 2%4*2)then m%8 / 2%4*2 else if A4 c (m / 2%2*2)then m / 2%2*2 else 0
def dC3(c m:Int):Int:=if A4 c (m%8)∨A4 c (m%8 / 2%4*2)∨A4 c (m / 2%2*2)∨A4 c 0 then c else 97
def diK(q:Int):Int:=if q=1 then 2 else if q=2 then 3 else if q=3 then 4 else 1
def diC(q d3 d4 dc:Int):Int:=if q=0 then dC3 (dC2 (dC1 d4 dc)) d3 else 0
def diM(q d3 d4 dc:Int):Int:=if q=0 then dM (dC2 (dC1 d4 dc)) d3 else if q=1 then d3%8 else 0
def diW(q d1:Int):Int:=if q=1 then d1%4 else if q=3 then d1%2 else 0
def diB(q d1 d2 d3 d5 d6:Int):Int:=if q=1 then(if M2 2 0 (d3%8) (d1%4) (d2%4) (d5%40) (d6%80) []then d2%4 else d2%4%2)else 0
def diR(q d5:Int):Int:=if q=1 then d5%40 else 0
def diL(q d6:Int):Int:=if q=1 then d6%80 else 0
def diT(q:Int)(t:List UInt8):List UInt8:=if q=2 then nE (t.take 1000)else[]
theorem l8{a1 a2 a3 a4 a5 a6 a7 b1 b2 b3 b4 b5 b6 b7:Int}{s t:List UInt8}(h1:a1=b1)(h2:a2=b2)(h3:a3=b3)(h4:a4=b4)(h5:a5=b5)(h6:a6=b6)(h7:a7=b7)(h8:s=t):[U.int .i64 a1,.int .i64 a2,.int .i64 a3,.int .i64 a4,.int .i64 a5,.int .i64 a6,.int .i64 a7,.str s]=[U.int .i64 b1,.int .i64 b2,.int .i64 b3,.int .i64 b4,.int .i64 b5,.int .i64 b6,.int .i64 b7,.str t]:=by rw[h1,h2,h3,h4,h5,h6,h7,h8]
theorem C17{d1 d2 d3 d5 d6:Int}(h:decide (M2 2 0 (d3%8) (d1%4) (d2%4) (d5%40) (d6%80) [])=true):d2%4=diB 1 d1 d2 d3 d5 d6:=(if_pos (of_decide_eq_true h)).symm
theorem C18{d1 d2 d3 d5 d6:Int}(h:decide (M2 2 0 (d3%8) (d1%4) (d2%4) (d5%40) (d6%80) [])=false):d2%4%2=diB 1 d1 d2 d3 d5 d6:=(if_neg (of_decide_eq_false h)).symm
theorem A05{d4 dc:Int}(h:d4%2=0):dC1 d4 dc=1114113+d4 / 2%26:=if_pos h
theorem A04{d4 dc:Int}(h:¬d4%2=0):dC1 d4 dc=dc:=if_neg h
theorem A3x{x:Int}(h:x<1114113)(h2:decide (chP x)=false):dC2 x=97+x%26:=if_pos ⟨h,of_decide_eq_false h2⟩
theorem A3y{x:Int}(h:¬x<1114113):dC2 x=x:=if_neg fun g=>h g.1
theorem A3z{x:Int}(h2:decide (chP x)=true):dC2 x=x:=if_neg fun g=>g.2 (of_decide_eq_true h2)
theorem B41{c m:Int}(h:decide (A4 c (m%8))=true):dM c m=m%8∧dC3 c m=c:=⟨if_pos (of_decide_eq_true h),if_pos (.inl (of_decide_eq_true h))⟩
theorem B40{c m:Int}(g:decide (A4 c (m%8))=false)(h:decide (A4 c (m%8 / 2%4*2))=true):dM c m=m%8 / 2%4*2∧dC3 c m=c:=⟨by unfold dM;rw[if_neg (of_decide_eq_false g),if_pos (of_decide_eq_true h)],if_pos (.inr (.inl (of_decide_eq_true h)))⟩
theorem B4z{c m:Int}(g:decide (A4 c (m%8))=false)(g2:decide (A4 c (m%8 / 2%4*2))=false)(h:decide (A4 c (m / 2%2*2))=true):dM c m=m / 2%2*2∧dC3 c m=c:=⟨by unfold dM;rw[if_neg (of_decide_eq_false g),if_neg (of_decide_eq_false g2),if_pos (of_decide_eq_true h)],if_pos (.inr (.inr (.inl (of_decide_eq_true h))))⟩
theorem B4y{c m:Int}(g:decide (A4 c (m%8))=false)(g2:decide (A4 c (m%8 / 2%4*2))=false)(g3:decide (A4 c (m / 2%2*2))=false)(h:decide (A4 c 0)=true):dM c m=0∧dC3 c m=c:=⟨by unfold dM;rw[if_neg (of_decide_eq_false g),if_neg (of_decide_eq_false g2),if_neg (of_decide_eq_false g3)],if_pos (.inr (.inr (.inr (of_decide_eq_true h))))⟩
theorem B4x{c m:Int}(g:decide (A4 c (m%8))=false)(g2:decide (A4 c (m%8 / 2%4*2))=false)(g3:decide (A4 c (m / 2%2*2))=false)(h:decide (A4 c 0)=false):dM c m=0∧dC3 c m=97:=⟨by unfold dM;rw[if_neg (of_decide_eq_false g),if_neg (of_decide_eq_false g2),if_neg (of_decide_eq_false g3)],if_neg fun q=>q.elim (of_decide_eq_false g) fun q=>q.elim (of_decide_eq_false g2) fun q=>q.elim (of_decide_eq_false g3) (of_decide_eq_false h)⟩
noncomputable def C0O:List (FuncId×FnC):=L0
theorem B7o{G:Nat→Option Obj}(hst:E6 Tryz.prog G gl H0 n0):L5 Tryz.prog G gl C0O:=.nil
def A81:List U→Option (Nat×List U)
 | [.int .i64 c]=>some (0,[.bool (decide (chP c))])
 | _=>none
theorem B35(c:Int):A81 [.int .i64 c]=some (0,[.bool (decide (chP c))]):=rfl
def B9z:Tr:=.lt 8 (.bin .geq) [h 0 3,jI 0]<|.br 1 (.lt 8 (.bin .leq) [h 0 3,jI 1114111]<|.br 2 (.lt 8 (.bin .lss) [h 0 3,jI 55296]<|.br 3 (.lt 8 (.bin .geq) [h 0 3,jI 32]<|.br 4 (.lt 8 (.bin .geq) [h 0 3,jI 127]<|.br 5 (.lt 8 (.bin .leq) [h 0 3,jI 159]<|.lt 8 (.un .not) [h 6 8]<|.ret [h 7 8]) (.ret [.bool true])) (.ret [.bool false])) (.lt 8 (.bin .gtr) [h 0 3,jI 57343]<|.br 4 (.lt 8 (.bin .geq) [h 0 3,jI 32]<|.br 5 (.lt 8 (.bin .geq) [h 0 3,jI 127]<|.br 6 (.lt 8 (.bin .leq) [h 0 3,jI 159]<|.lt 8 (.un .not) [h 7 8]<|.ret [h 8 8]) (.ret [.bool true])) (.ret [.bool false])) (.ret [.bool false]))) (.ret [.bool false])) (.ret [.bool false])
theorem C2B{G:Nat→Option Obj}(hst:E6 Tryz.prog G gl H0 n0):T9 Tryz.prog G 33 [.s 3] A81 [.s 8]:=by
 refine I5 (C:=cx C0O B19) (d:=60) B9z (cxg (B7o hst) (A5A hst)) hst ⟨Tryz.f33,_,Tryz.func33,rfl⟩ (by kernel_rfl) (by kernel_rfl) ?_;intro us outs hs;unfold A81 at hs;split at hs
 ·skip;rename_i c;cases hs;unfold B9z;refine s0 (.cons 0 _ (.nil)) rfl (by simp[Ev.ok,Ev.len]) ?_;refine s1 (E7 _ _ _) rfl rfl rfl ?_;refine s5 rfl (fun g0=>?_) fun g0=>?_
  ·refine s7 [.bool _] rfl ?_;refine l1 ?_;first|(refine decide_eq_decide.2 ?_;unfold chP okU;omega)|(symm;first|exact decide_eq_true (by unfold chP okU;omega)|exact decide_eq_false (by unfold chP okU;omega))
  refine s1 (F4 _ _ _) rfl rfl rfl ?_;refine s5 rfl (fun g1=>?_) fun g1=>?_
  ·refine s7 [.bool _] rfl ?_;refine l1 ?_;first|(refine decide_eq_decide.2 ?_;unfold chP okU;omega)|(symm;first|exact decide_eq_true (by unfold chP okU;omega)|exact decide_eq_false (by unfold chP okU;omega))
  refine s1 (P9 _ _ _) rfl rfl rfl ?_;refine s4 rfl (fun g2=>?_) fun g2=>?_
  ·refine s1 (E7 _ _ _) rfl rfl rfl ?_;refine s5 rfl (fun g3=>?_) fun g3=>?_
   ·refine s7 [.bool _] rfl ?_;refine l1 ?_;first|(refine decide_eq_decide.2 ?_;unfold chP okU;omega)|(symm;first|exact decide_eq_true (by unfold chP okU;omega)|exact decide_eq_false (by unfold chP okU;omega))
   refine s1 (E7 _ _ _) rfl rfl rfl ?_;refine s5 rfl (fun g4=>?_) fun g4=>?_
   ·refine s7 [.bool _] rfl ?_;refine l1 ?_;first|(refine decide_eq_decide.2 ?_;unfold chP okU;omega)|(symm;first|exact decide_eq_true (by unfold chP okU;omega)|exact decide_eq_false (by unfold chP okU;omega))
   refine s1 (F4 _ _ _) rfl rfl rfl ?_;refine s1 (F1 _) rfl rfl rfl ?_;refine s7 [.bool _] rfl ?_;refine l1 ?_;first|(refine decide_eq_decide.2 ?_;unfold chP okU;omega)|(symm;first|exact decide_eq_true (by unfold chP okU;omega)|exact decide_eq_false (by unfold chP okU;omega))
  refine s1 (A7K _ _ _) rfl rfl rfl ?_;refine s5 rfl (fun g3=>?_) fun g3=>?_
  ·refine s7 [.bool _] rfl ?_;refine l1 ?_;first|(refine decide_eq_decide.2 ?_;unfold chP okU;omega)|(symm;first|exact decide_eq_true (by unfold chP okU;omega)|exact decide_eq_false (by unfold chP okU;omega))
  refine s1 (E7 _ _ _) rfl rfl rfl ?_;refine s5 rfl (fun g4=>?_) fun g4=>?_
  ·refine s7 [.bool _] rfl ?_;refine l1 ?_;first|(refine decide_eq_decide.2 ?_;unfold chP okU;omega)|(symm;first|exact decide_eq_true (by unfold chP okU;omega)|exact decide_eq_false (by unfold chP okU;omega))
  refine s1 (E7 _ _ _) rfl rfl rfl ?_;refine s5 rfl (fun g5=>?_) fun g5=>?_
  ·refine s7 [.bool _] rfl ?_;refine l1 ?_;first|(refine decide_eq_decide.2 ?_;unfold chP okU;omega)|(symm;first|exact decide_eq_true (by unfold chP okU;omega)|exact decide_eq_false (by unfold chP okU;omega))
  refine s1 (F4 _ _ _) rfl rfl rfl ?_;refine s1 (F1 _) rfl rfl rfl ?_;refine s7 [.bool _] rfl ?_;refine l1 ?_;first|(refine decide_eq_decide.2 ?_;unfold chP okU;omega)|(symm;first|exact decide_eq_true (by unfold chP okU;omega)|exact decide_eq_false (by unfold chP okU;omega))
 ·cases hs
noncomputable def C0M:List (FuncId×FnC):=(34,U2 Tryz.prog [.s 3,.s 3] Q0 [.s 8])::(32,U2 Tryz.prog [.a [3,3,3,3,3,3,3,9]] A5p [.s 8])::(33,U2 Tryz.prog [.s 3] A81 [.s 8])::L0
theorem B7m{G:Nat→Option Obj}(hst:E6 Tryz.prog G gl H0 n0):L5 Tryz.prog G gl C0M:=(.cons (B3K hst) (.cons (B5v hst) (.cons (C2B hst) .nil)))
def B1m:List U→Option (Nat×List U)
 | [.int .u8 d0,.int .u8 d1,.int .u8 d2,.int .u8 d3,.int .u8 d4,.int .u8 d5,.int .u8 d6,.int .u32 dc,.str t]=>if 0≤d0∧d0<256∧0≤d1∧d1<256∧0≤d2∧d2<256∧0≤d3∧d3<256∧0≤d4∧d4<256∧0≤d5∧d5<256∧0≤d6∧d6<256∧0≤dc∧dc<4294967296∧(t.length:Int)≤140737488351232 then some (0,[.int .i64 (diK (d0%4)),.int .i64 (diC (d0%4) d3 d4 dc),.int .i64 (diM (d0%4) d3 d4 dc),.int .i64 (diW (d0%4) d1),.int .i64 (diB (d0%4) d1 d2 d3 d5 d6),.int .i64 (diR (d0%4) d5),.int .i64 (diL (d0%4) d6),.str (diT (d0%4) t)])else none
 | _=>none
theorem B8o(d0:Int)(d1:Int)(d2:Int)(d3:Int)(d4:Int)(d5:Int)(d6:Int)(dc:Int)(t:(List UInt8))(hc:0≤d0∧d0<256∧0≤d1∧d1<256∧0≤d2∧d2<256∧0≤d3∧d3<256∧0≤d4∧d4<256∧0≤d5∧d5<256∧0≤d6∧d6<256∧0≤dc∧dc<4294967296∧(t.length:Int)≤140737488351232):B1m [.int .u8 d0,.int .u8 d1,.int .u8 d2,.int .u8 d3,.int .u8 d4,.int .u8 d5,.int .u8 d6,.int .u32 dc,.str t]=some (0,[.int .i64 (diK (d0%4)),.int .i64 (diC (d0%4) d3 d4 dc),.int .i64 (diM (d0%4) d3 d4 dc),.int .i64 (diW (d0%4) d1),.int .i64 (diB (d0%4) d1 d2 d3 d5 d6),.int .i64 (diR (d0%4) d5),.int .i64 (diL (d0%4) d6),.str (diT (d0%4) t)]):=if_pos hc
def B9s:Tr:=.lt 4 (.bin .rem) [h 0 4,.int .u8 (4)]<|.lt 8 (.bin .eql) [h 9 4,.int .u8 (1)]<|.br 10 (.lt 4 (.bin .rem) [h 1 4,.int .u8 (4)]<|.lt 3 (.conv .i64) [h 11 4]<|.lt 4 (.bin .rem) [h 2 4,.int .u8 (4)]<|.lt 3 (.conv .i64) [h 13 4]<|.lt 4 (.bin .rem) [h 3 4,.int .u8 (8)]<|.lt 3 (.conv .i64) [h 15 4]<|.lt 4 (.bin .rem) [h 5 4,.int .u8 (40)]<|.lt 3 (.conv .i64) [h 17 4]<|.lt 4 (.bin .rem) [h 6 4,.int .u8 (80)]<|.lt 3 (.conv .i64) [h 19 4]<|.fn A5p [jI 2,jI 0,h 16 3,h 12 3,h 14 3,h 18 3,h 20 3,.string ⟨⟨[]⟩⟩] 1<|.lt 8 (.un .not) [h 21 8]<|.br 22 (.lt 3 (.bin .rem) [h 14 3,jI 2]<|.ret [jI 2,jI 0,h 16 3,h 12 3,h 23 3,h 18 3,h 20 3,.string ⟨⟨[]⟩⟩]) (.ret [jI 2,jI 0,h 16 3,h 12 3,h 14 3,h 18 3,h 20 3,.string ⟨⟨[]⟩⟩])) (.lt 8 (.bin .eql) [h 9 4,.int .u8 (2)]<|.br 11 (.dt 11 (.nilw 1) []<|.fn A3v [h 12 11,jI 0,h 0 4,h 1 4,h 2 4,h 3 4,h 4 4,h 5 4,h 6 4,h 7 6,h 8 9] 1<|.lt 9 (.str) [h 13 11]<|.ret [jI 3,jI 0,jI 0,jI 0,jI 0,jI 0,jI 0,h 14 9]) (.lt 8 (.bin .eql) [h 9 4,.int .u8 (3)]<|.br 12 (.lt 4 (.bin .rem) [h 1 4,.int .u8 (2)]<|.lt 3 (.conv .i64) [h 13 4]<|.ret [jI 4,jI 0,jI 0,h 14 3,jI 0,jI 0,jI 0,.string ⟨⟨[]⟩⟩]) (.lt 3 (.conv .i64) [h 7 6]<|.lt 4 (.bin .rem) [h 4 4,.int .u8 (2)]<|.lt 8 (.bin .eql) [h 14 4,.int .u8 (0)]<|.br 15 (.lt 4 (.bin .quo) [h 4 4,.int .u8 (2)]<|.lt 3 (.conv .i64) [h 16 4]<|.lt 3 (.bin .rem) [h 17 3,jI 26]<|.lt 3 (.bin .add) [jI 1114113,h 18 3]<|.lt 8 (.bin .lss) [h 19 3,jI 1114113]<|.br 20 (.fn A81 [h 19 3] 1<|.lt 8 (.un .not) [h 21 8]<|.br 22 (.lt 3 (.bin .rem) [h 19 3,jI 26]<|.lt 3 (.bin .add) [jI 97,h 23 3]<|.lt 4 (.bin .rem) [h 3 4,.int .u8 (8)]<|.lt 3 (.conv .i64) [h 25 4]<|.lt 4 (.bin .rem) [h 3 4,.int .u8 (8)]<|.lt 4 (.bin .and) [h 27 4,.int .u8 (6)]<|.lt 3 (.conv .i64) [h 28 4]<|.lt 4 (.bin .and) [h 3 4,.int .u8 (2)]<|.lt 3 (.conv .i64) [h 30 4]<|.fn Q0 [h 24 3,h 26 3] 1<|.br 32 (.ret [jI 1,h 24 3,h 26 3,jI 0,jI 0,jI 0,jI 0,.string ⟨⟨[]⟩⟩]) (.fn Q0 [h 24 3,h 29 3] 1<|.br 33 (.ret [jI 1,h 24 3,h 29 3,jI 0,jI 0,jI 0,jI 0,.string ⟨⟨[]⟩⟩]) (.fn Q0 [h 24 3,h 31 3] 1<|.br 34 (.ret [jI 1,h 24 3,h 31 3,jI 0,jI 0,jI 0,jI 0,.string ⟨⟨[]⟩⟩]) (.fn Q0 [h 24 3,jI 0] 1<|.br 35 (.ret [jI 1,h 24 3,jI 0,jI 0,jI 0,jI 0,jI 0,.string ⟨⟨[]⟩⟩]) (.ret [jI 1,jI 97,jI 0,jI 0,jI 0,jI 0,jI 0,.string ⟨⟨[]⟩⟩]))))) (.lt 4 (.bin .rem) [h 3 4,.int .u8 (8)]<|.lt 3 (.conv .i64) [h 23 4]<|.lt 4 (.bin .rem) [h 3 4,.int .u8 (8)]<|.lt 4 (.bin .and) [h 25 4,.int .u8 (6)]<|.lt 3 (.conv .i64) [h 26 4]<|.lt 4 (.bin .and) [h 3 4,.int .u8 (2)]<|.lt 3 (.conv .i64) [h 28 4]<|.fn Q0 [h 19 3,h 24 3] 1<|.br 30 (.ret [jI 1,h 19 3,h 24 3,jI 0,jI 0,jI 0,jI 0,.string ⟨⟨[]⟩⟩]) (.fn Q0 [h 19 3,h 27 3] 1<|.br 31 (.ret [jI 1,h 19 3,h 27 3,jI 0,jI 0,jI 0,jI 0,.string ⟨⟨[]⟩⟩]) (.fn Q0 [h 19 3,h 29 3] 1<|.br 32 (.ret [jI 1,h 19 3,h 29 3,jI 0,jI 0,jI 0,jI 0,.string ⟨⟨[]⟩⟩]) (.fn Q0 [h 19 3,jI 0] 1<|.br 33 (.ret [jI 1,h 19 3,jI 0,jI 0,jI 0,jI 0,jI 0,.string ⟨⟨[]⟩⟩]) (.ret [jI 1,jI 97,jI 0,jI 0,jI 0,jI 0,jI 0,.string ⟨⟨[]⟩⟩])))))) (.lt 4 (.bin .rem) [h 3 4,.int .u8 (8)]<|.lt 3 (.conv .i64) [h 21 4]<|.lt 4 (.bin .rem) [h 3 4,.int .u8 (8)]<|.lt 4 (.bin .and) [h 23 4,.int .u8 (6)]<|.lt 3 (.conv .i64) [h 24 4]<|.lt 4 (.bin .and) [h 3 4,.int .u8 (2)]<|.lt 3 (.conv .i64) [h 26 4]<|.fn Q0 [h 19 3,h 22 3] 1<|.br 28 (.ret [jI 1,h 19 3,h 22 3,jI 0,jI 0,jI 0,jI 0,.string ⟨⟨[]⟩⟩]) (.fn Q0 [h 19 3,h 25 3] 1<|.br 29 (.ret [jI 1,h 19 3,h 25 3,jI 0,jI 0,jI 0,jI 0,.string ⟨⟨[]⟩⟩]) (.fn Q0 [h 19 3,h 27 3] 1<|.br 30 (.ret [jI 1,h 19 3,h 27 3,jI 0,jI 0,jI 0,jI 0,.string ⟨⟨[]⟩⟩]) (.fn Q0 [h 19 3,jI 0] 1<|.br 31 (.ret [jI 1,h 19 3,jI 0,jI 0,jI 0,jI 0,jI 0,.string ⟨⟨[]⟩⟩]) (.ret [jI 1,jI 97,jI 0,jI 0,jI 0,jI 0,jI 0,.string ⟨⟨[]⟩⟩])))))) (.lt 8 (.bin .lss) [h 13 3,jI 1114113]<|.br 16 (.fn A81 [h 13 3] 1<|.lt 8 (.un .not) [h 17 8]<|.br 18 (.lt 3 (.bin .rem) [h 13 3,jI 26]<|.lt 3 (.bin .add) [jI 97,h 19 3]<|.lt 4 (.bin .rem) [h 3 4,.int .u8 (8)]<|.lt 3 (.conv .i64) [h 21 4]<|.lt 4 (.bin .rem) [h 3 4,.int .u8 (8)]<|.lt 4 (.bin .and) [h 23 4,.int .u8 (6)]<|.lt 3 (.conv .i64) [h 24 4]<|.lt 4 (.bin .and) [h 3 4,.int .u8 (2)]<|.lt 3 (.conv .i64) [h 26 4]<|.fn Q0 [h 20 3,h 22 3] 1<|.br 28 (.ret [jI 1,h 20 3,h 22 3,jI 0,jI 0,jI 0,jI 0,.string ⟨⟨[]⟩⟩]) (.fn Q0 [h 20 3,h 25 3] 1<|.br 29 (.ret [jI 1,h 20 3,h 25 3,jI 0,jI 0,jI 0,jI 0,.string ⟨⟨[]⟩⟩]) (.fn Q0 [h 20 3,h 27 3] 1<|.br 30 (.ret [jI 1,h 20 3,h 27 3,jI 0,jI 0,jI 0,jI 0,.string ⟨⟨[]⟩⟩]) (.fn Q0 [h 20 3,jI 0] 1<|.br 31 (.ret [jI 1,h 20 3,jI 0,jI 0,jI 0,jI 0,jI 0,.string ⟨⟨[]⟩⟩]) (.ret [jI 1,jI 97,jI 0,jI 0,jI 0,jI 0,jI 0,.string ⟨⟨[]⟩⟩]))))) (.lt 4 (.bin .rem) [h 3 4,.int .u8 (8)]<|.lt 3 (.conv .i64) [h 19 4]<|.lt 4 (.bin .rem) [h 3 4,.int .u8 (8)]<|.lt 4 (.bin .and) [h 21 4,.int .u8 (6)]<|.lt 3 (.conv .i64) [h 22 4]<|.lt 4 (.bin .and) [h 3 4,.int .u8 (2)]<|.lt 3 (.conv .i64) [h 24 4]<|.fn Q0 [h 13 3,h 20 3] 1<|.br 26 (.ret [jI 1,h 13 3,h 20 3,jI 0,jI 0,jI 0,jI 0,.string ⟨⟨[]⟩⟩]) (.fn Q0 [h 13 3,h 23 3] 1<|.br 27 (.ret [jI 1,h 13 3,h 23 3,jI 0,jI 0,jI 0,jI 0,.string ⟨⟨[]⟩⟩]) (.fn Q0 [h 13 3,h 25 3] 1<|.br 28 (.ret [jI 1,h 13 3,h 25 3,jI 0,jI 0,jI 0,jI 0,.string ⟨⟨[]⟩⟩]) (.fn Q0 [h 13 3,jI 0] 1<|.br 29 (.ret [jI 1,h 13 3,jI 0,jI 0,jI 0,jI 0,jI 0,.string ⟨⟨[]⟩⟩]) (.ret [jI 1,jI 97,jI 0,jI 0,jI 0,jI 0,jI 0,.string ⟨⟨[]⟩⟩])))))) (.lt 4 (.bin .rem) [h 3 4,.int .u8 (8)]<|.lt 3 (.conv .i64) [h 17 4]<|.lt 4 (.bin .rem) [h 3 4,.int .u8 (8)]<|.lt 4 (.bin .and) [h 19 4,.int .u8 (6)]<|.lt 3 (.conv .i64) [h 20 4]<|.lt 4 (.bin .and) [h 3 4,.int .u8 (2)]<|.lt 3 (.conv .i64) [h 22 4]<|.fn Q0 [h 13 3,h 18 3] 1<|.br 24 (.ret [jI 1,h 13 3,h 18 3,jI 0,jI 0,jI 0,jI 0,.string ⟨⟨[]⟩⟩]) (.fn Q0 [h 13 3,h 21 3] 1<|.br 25 (.ret [jI 1,h 13 3,h 21 3,jI 0,jI 0,jI 0,jI 0,.string ⟨⟨[]⟩⟩]) (.fn Q0 [h 13 3,h 23 3] 1<|.br 26 (.ret [jI 1,h 13 3,h 23 3,jI 0,jI 0,jI 0,jI 0,.string ⟨⟨[]⟩⟩]) (.fn Q0 [h 13 3,jI 0] 1<|.br 27 (.ret [jI 1,h 13 3,jI 0,jI 0,jI 0,jI 0,jI 0,.string ⟨⟨[]⟩⟩]) (.ret [jI 1,jI 97,jI 0,jI 0,jI 0,jI 0,jI 0,.string ⟨⟨[]⟩⟩])))))))))
theorem C12{G:Nat→Option Obj}(hst:E6 Tryz.prog G gl H0 n0):T9 Tryz.prog G 12 [.a [4,4,4,4,4,4,4,6,9]] B1m [.a [3,3,3,3,3,3,3,9]]:=by
 refine I5 (C:=cx C0M B19) (d:=60) B9s (cxg (B7m hst) (A5A hst)) hst ⟨Tryz.f12,_,Tryz.func12,rfl⟩ (by kernel_rfl) (by kernel_rfl) ?_;intro us outs hs;unfold B1m at hs;split at hs
 ·skip;rename_i d0 d1 d2 d3 d4 d5 d6 dc t;split at hs
  ·rename_i hc;cases hs;have zt:nE (t.take 1000)=nE ((t.take 1000).drop (0:Int).toNat):=rfl;have zl:((el (none:Option (List Int))).length:Int)=0:=rfl;unfold B9s;refine s0 (.cons 8 _ (.cons 7 _ (.cons 6 _ (.cons 5 _ (.cons 4 _ (.cons 3 _ (.cons 2 _ (.cons 1 _ (.cons 0 _ (.nil)))))))))) rfl (by simp[Ev.ok,Ev.len]) ?_;first|refine s1 (G6 (by omega) (by omega)) rfl rfl rfl ?_|refine s1 (I6 _ _ _ (by omega)) rfl rfl rfl ?_
   refine s1 (A8 _ _ _) rfl rfl rfl ?_;refine s4 rfl (fun g0=>?_) fun g0=>?_
   ·first|refine s1 (G6 (by omega) (by omega)) rfl rfl rfl ?_|refine s1 (I6 _ _ _ (by omega)) rfl rfl rfl ?_
    first|refine s1 (D0 (D8 (by omega) (by omega))) rfl rfl rfl ?_|refine s1 (D9 _ _ _) rfl rfl rfl ?_
    first|refine s1 (G6 (by omega) (by omega)) rfl rfl rfl ?_|refine s1 (I6 _ _ _ (by omega)) rfl rfl rfl ?_
    first|refine s1 (D0 (D8 (by omega) (by omega))) rfl rfl rfl ?_|refine s1 (D9 _ _ _) rfl rfl rfl ?_
    first|refine s1 (G6 (by omega) (by omega)) rfl rfl rfl ?_|refine s1 (I6 _ _ _ (by omega)) rfl rfl rfl ?_
    first|refine s1 (D0 (D8 (by omega) (by omega))) rfl rfl rfl ?_|refine s1 (D9 _ _ _) rfl rfl rfl ?_
    first|refine s1 (G6 (by omega) (by omega)) rfl rfl rfl ?_|refine s1 (I6 _ _ _ (by omega)) rfl rfl rfl ?_
    first|refine s1 (D0 (D8 (by omega) (by omega))) rfl rfl rfl ?_|refine s1 (D9 _ _ _) rfl rfl rfl ?_
    first|refine s1 (G6 (by omega) (by omega)) rfl rfl rfl ?_|refine s1 (I6 _ _ _ (by omega)) rfl rfl rfl ?_
    first|refine s1 (D0 (D8 (by omega) (by omega))) rfl rfl rfl ?_|refine s1 (D9 _ _ _) rfl rfl rfl ?_
    refine s31 (B3L _ _ _ _ _ _ _ _ ⟨by omega,by omega,by show(0:Int)≤_;omega⟩) rfl ?_;first|refine s1 (F1 _) rfl rfl rfl ?_|refine s1 (N7 _) rfl rfl rfl ?_
    first|refine s5 rfl (fun g1=>?_) (fun g1=>?_)|refine s5B rfl (fun g1=>?_) (fun g1=>?_)
    ·refine s7 [.int .i64 _,.int .i64 _,.int .i64 _,.int .i64 _,.int .i64 _,.int .i64 _,.int .i64 _,.str _] rfl ?_;have hq:d0%4=1:=g0;rw[hq];refine l8 rfl rfl rfl rfl (C17 (by simpa using g1)) rfl rfl rfl
    first|refine s1 (G6 (by omega) (by omega)) rfl rfl rfl ?_|refine s1 (I6 _ _ _ (by omega)) rfl rfl rfl ?_
    refine s7 [.int .i64 _,.int .i64 _,.int .i64 _,.int .i64 _,.int .i64 _,.int .i64 _,.int .i64 _,.str _] rfl ?_;have hq:d0%4=1:=g0;rw[hq];refine l8 rfl rfl rfl rfl (C18 (by simpa using g1)) rfl rfl rfl
   refine s1 (A8 _ _ _) rfl rfl rfl ?_;refine s4 rfl (fun g1=>?_) fun g1=>?_
   ·refine s2 (r:=rB) (A41 rfl) rfl rfl ?_;refine s31 (m6 _ _ _ _ _ _ _ _ _ _ _ ⟨by omega,by omega,by omega,by omega⟩) rfl ?_;refine s1 (B8e rfl (C2N _)) rfl rfl rfl ?_;refine s7 [.int .i64 _,.int .i64 _,.int .i64 _,.int .i64 _,.int .i64 _,.int .i64 _,.int .i64 _,.str _] rfl ?_;have hq:d0%4=2:=g1;rw[hq];exact l8 rfl rfl rfl rfl rfl rfl rfl (iB0 _)
   refine s1 (A8 _ _ _) rfl rfl rfl ?_;refine s4 rfl (fun g2=>?_) fun g2=>?_
   ·first|refine s1 (G6 (by omega) (by omega)) rfl rfl rfl ?_|refine s1 (I6 _ _ _ (by omega)) rfl rfl rfl ?_
    first|refine s1 (D0 (D8 (by omega) (by omega))) rfl rfl rfl ?_|refine s1 (D9 _ _ _) rfl rfl rfl ?_
    refine s7 [.int .i64 _,.int .i64 _,.int .i64 _,.int .i64 _,.int .i64 _,.int .i64 _,.int .i64 _,.str _] rfl ?_;have hq:d0%4=3:=g2;rw[hq];refine l8 rfl rfl rfl rfl rfl rfl rfl rfl
   first|refine s1 (D0 (D8 (by omega) (by omega))) rfl rfl rfl ?_|refine s1 (D9 _ _ _) rfl rfl rfl ?_
   first|refine s1 (G6 (by omega) (by omega)) rfl rfl rfl ?_|refine s1 (I6 _ _ _ (by omega)) rfl rfl rfl ?_
   refine s1 (A8 _ _ _) rfl rfl rfl ?_;refine s4 rfl (fun g3=>?_) fun g3=>?_
   ·first|refine s1 (B8f (by omega) (by omega) (x8 (by omega) (by omega))) rfl rfl rfl ?_|refine s1 (B6r _ _ _ (by omega)) rfl rfl rfl ?_
    first|refine s1 (D0 (D8 (by omega) (by omega))) rfl rfl rfl ?_|refine s1 (D9 _ _ _) rfl rfl rfl ?_
    first|refine s1 (G6 (by omega) (by omega)) rfl rfl rfl ?_|refine s1 (I6 _ _ _ (by omega)) rfl rfl rfl ?_
    first|refine s1 (J8 (D8 (by omega) (by omega))) rfl rfl rfl ?_|refine s1 (L4 _ _ _) rfl rfl rfl ?_
    refine s1 (P9 _ _ _) rfl rfl rfl ?_;refine s4 rfl (fun g4=>?_) fun g4=>?_
    ·refine s31 (B35 _) rfl ?_;first|refine s1 (F1 _) rfl rfl rfl ?_|refine s1 (N7 _) rfl rfl rfl ?_
     first|refine s4 rfl (fun g5=>?_) (fun g5=>?_)|refine s4B rfl (fun g5=>?_) (fun g5=>?_)
     ·first|refine s1 (G6 (by omega) (by omega)) rfl rfl rfl ?_|refine s1 (I6 _ _ _ (by omega)) rfl rfl rfl ?_
      first|refine s1 (J8 (D8 (by omega) (by omega))) rfl rfl rfl ?_|refine s1 (L4 _ _ _) rfl rfl rfl ?_
      first|refine s1 (G6 (by omega) (by omega)) rfl rfl rfl ?_|refine s1 (I6 _ _ _ (by omega)) rfl rfl rfl ?_
      first|refine s1 (D0 (D8 (by omega) (by omega))) rfl rfl rfl ?_|refine s1 (D9 _ _ _) rfl rfl rfl ?_
      first|refine s1 (G6 (by omega) (by omega)) rfl rfl rfl ?_|refine s1 (I6 _ _ _ (by omega)) rfl rfl rfl ?_
      refine s1 (A8v (by omega) (by omega)) rfl rfl rfl ?_;first|refine s1 (D0 (D8 (by omega) (by omega))) rfl rfl rfl ?_|refine s1 (D9 _ _ _) rfl rfl rfl ?_
      refine s1 (A8w (by omega) (by omega)) rfl rfl rfl ?_;first|refine s1 (D0 (D8 (by omega) (by omega))) rfl rfl rfl ?_|refine s1 (D9 _ _ _) rfl rfl rfl ?_
      refine s31 (M0 _ _ (by omega)) rfl ?_;first|refine s4 rfl (fun g6=>?_) (fun g6=>?_)|refine s4B rfl (fun g6=>?_) (fun g6=>?_)
      ·refine s7 [.int .i64 _,.int .i64 _,.int .i64 _,.int .i64 _,.int .i64 _,.int .i64 _,.int .i64 _,.str _] rfl ?_;have hq:d0%4=0:=by omega
       rw[hq];have h1:=A05 (dc:=dc) g3;have h2:=A3x g4 (by simpa using g5);have h3:=B41 (c:=(97+(1114113+d4 / 2%26)%26)) (m:=d3) (by first|exact g6|exact decide_eq_true g6|exact decide_eq_false g6);exact l8 rfl (by show _=dC3 (dC2 (dC1 d4 dc)) d3;rw[h1,h2,h3.2]) (by show _=dM (dC2 (dC1 d4 dc)) d3;rw[h1,h2,h3.1]) rfl rfl rfl rfl rfl
      refine s31 (M0 _ _ (by omega)) rfl ?_;first|refine s4 rfl (fun g7=>?_) (fun g7=>?_)|refine s4B rfl (fun g7=>?_) (fun g7=>?_)
      ·refine s7 [.int .i64 _,.int .i64 _,.int .i64 _,.int .i64 _,.int .i64 _,.int .i64 _,.int .i64 _,.str _] rfl ?_;have hq:d0%4=0:=by omega
       rw[hq];have h1:=A05 (dc:=dc) g3;have h2:=A3x g4 (by simpa using g5);have h3:=B40 (c:=(97+(1114113+d4 / 2%26)%26)) (m:=d3) (by first|exact g6|exact decide_eq_true g6|exact decide_eq_false g6) (by first|exact g7|exact decide_eq_true g7|exact decide_eq_false g7);exact l8 rfl (by show _=dC3 (dC2 (dC1 d4 dc)) d3;rw[h1,h2,h3.2]) (by show _=dM (dC2 (dC1 d4 dc)) d3;rw[h1,h2,h3.1]) rfl rfl rfl rfl rfl
      refine s31 (M0 _ _ (by omega)) rfl ?_;first|refine s4 rfl (fun g8=>?_) (fun g8=>?_)|refine s4B rfl (fun g8=>?_) (fun g8=>?_)
      ·refine s7 [.int .i64 _,.int .i64 _,.int .i64 _,.int .i64 _,.int .i64 _,.int .i64 _,.int .i64 _,.str _] rfl ?_;have hq:d0%4=0:=by omega
       rw[hq];have h1:=A05 (dc:=dc) g3;have h2:=A3x g4 (by simpa using g5);have h3:=B4z (c:=(97+(1114113+d4 / 2%26)%26)) (m:=d3) (by first|exact g6|exact decide_eq_true g6|exact decide_eq_false g6) (by first|exact g7|exact decide_eq_true g7|exact decide_eq_false g7) (by first|exact g8|exact decide_eq_true g8|exact decide_eq_false g8);exact l8 rfl (by show _=dC3 (dC2 (dC1 d4 dc)) d3;rw[h1,h2,h3.2]) (by show _=dM (dC2 (dC1 d4 dc)) d3;rw[h1,h2,h3.1]) rfl rfl rfl rfl rfl
      refine s31 (M0 _ _ (by omega)) rfl ?_;first|refine s4 rfl (fun g9=>?_) (fun g9=>?_)|refine s4B rfl (fun g9=>?_) (fun g9=>?_)
      ·refine s7 [.int .i64 _,.int .i64 _,.int .i64 _,.int .i64 _,.int .i64 _,.int .i64 _,.int .i64 _,.str _] rfl ?_;have hq:d0%4=0:=by omega
       rw[hq];have h1:=A05 (dc:=dc) g3;have h2:=A3x g4 (by simpa using g5);have h3:=B4y (c:=(97+(1114113+d4 / 2%26)%26)) (m:=d3) (by first|exact g6|exact decide_eq_true g6|exact decide_eq_false g6) (by first|exact g7|exact decide_eq_true g7|exact decide_eq_false g7) (by first|exact g8|exact decide_eq_true g8|exact decide_eq_false g8) (by first|exact g9|exact decide_eq_true g9|exact decide_eq_false g9);exact l8 rfl (by show _=dC3 (dC2 (dC1 d4 dc)) d3;rw[h1,h2,h3.2]) (by show _=dM (dC2 (dC1 d4 dc)) d3;rw[h1,h2,h3.1]) rfl rfl rfl rfl rfl
      refine s7 [.int .i64 _,.int .i64 _,.int .i64 _,.int .i64 _,.int .i64 _,.int .i64 _,.int .i64 _,.str _] rfl ?_;have hq:d0%4=0:=by omega
      rw[hq];have h1:=A05 (dc:=dc) g3;have h2:=A3x g4 (by simpa using g5);have h3:=B4x (c:=(97+(1114113+d4 / 2%26)%26)) (m:=d3) (by first|exact g6|exact decide_eq_true g6|exact decide_eq_false g6) (by first|exact g7|exact decide_eq_true g7|exact decide_eq_false g7) (by first|exact g8|exact decide_eq_true g8|exact decide_eq_false g8) (by first|exact g9|exact decide_eq_true g9|exact decide_eq_false g9);exact l8 rfl (by show _=dC3 (dC2 (dC1 d4 dc)) d3;rw[h1,h2,h3.2]) (by show _=dM (dC2 (dC1 d4 dc)) d3;rw[h1,h2,h3.1]) rfl rfl rfl rfl rfl
     first|refine s1 (G6 (by omega) (by omega)) rfl rfl rfl ?_|refine s1 (I6 _ _ _ (by omega)) rfl rfl rfl ?_
     first|refine s1 (D0 (D8 (by omega) (by omega))) rfl rfl rfl ?_|refine s1 (D9 _ _ _) rfl rfl rfl ?_
     first|refine s1 (G6 (by omega) (by omega)) rfl rfl rfl ?_|refine s1 (I6 _ _ _ (by omega)) rfl rfl rfl ?_
     refine s1 (A8v (by omega) (by omega)) rfl rfl rfl ?_;first|refine s1 (D0 (D8 (by omega) (by omega))) rfl rfl rfl ?_|refine s1 (D9 _ _ _) rfl rfl rfl ?_
     refine s1 (A8w (by omega) (by omega)) rfl rfl rfl ?_;first|refine s1 (D0 (D8 (by omega) (by omega))) rfl rfl rfl ?_|refine s1 (D9 _ _ _) rfl rfl rfl ?_
     refine s31 (M0 _ _ (by omega)) rfl ?_;first|refine s4 rfl (fun g6=>?_) (fun g6=>?_)|refine s4B rfl (fun g6=>?_) (fun g6=>?_)
     ·refine s7 [.int .i64 _,.int .i64 _,.int .i64 _,.int .i64 _,.int .i64 _,.int .i64 _,.int .i64 _,.str _] rfl ?_;have hq:d0%4=0:=by omega
      rw[hq];have h1:=A05 (dc:=dc) g3;have h2:=A3z (x:=(1114113+d4 / 2%26)) (by simpa using g5);have h3:=B41 (c:=(1114113+d4 / 2%26)) (m:=d3) (by first|exact g6|exact decide_eq_true g6|exact decide_eq_false g6);exact l8 rfl (by show _=dC3 (dC2 (dC1 d4 dc)) d3;rw[h1,h2,h3.2]) (by show _=dM (dC2 (dC1 d4 dc)) d3;rw[h1,h2,h3.1]) rfl rfl rfl rfl rfl
     refine s31 (M0 _ _ (by omega)) rfl ?_;first|refine s4 rfl (fun g7=>?_) (fun g7=>?_)|refine s4B rfl (fun g7=>?_) (fun g7=>?_)
     ·refine s7 [.int .i64 _,.int .i64 _,.int .i64 _,.int .i64 _,.int .i64 _,.int .i64 _,.int .i64 _,.str _] rfl ?_;have hq:d0%4=0:=by omega
      rw[hq];have h1:=A05 (dc:=dc) g3;have h2:=A3z (x:=(1114113+d4 / 2%26)) (by simpa using g5);have h3:=B40 (c:=(1114113+d4 / 2%26)) (m:=d3) (by first|exact g6|exact decide_eq_true g6|exact decide_eq_false g6) (by first|exact g7|exact decide_eq_true g7|exact decide_eq_false g7);exact l8 rfl (by show _=dC3 (dC2 (dC1 d4 dc)) d3;rw[h1,h2,h3.2]) (by show _=dM (dC2 (dC1 d4 dc)) d3;rw[h1,h2,h3.1]) rfl rfl rfl rfl rfl
     refine s31 (M0 _ _ (by omega)) rfl ?_;first|refine s4 rfl (fun g8=>?_) (fun g8=>?_)|refine s4B rfl (fun g8=>?_) (fun g8=>?_)
     ·refine s7 [.int .i64 _,.int .i64 _,.int .i64 _,.int .i64 _,.int .i64 _,.int .i64 _,.int .i64 _,.str _] rfl ?_;have hq:d0%4=0:=by omega
      rw[hq];have h1:=A05 (dc:=dc) g3;have h2:=A3z (x:=(1114113+d4 / 2%26)) (by simpa using g5);have h3:=B4z (c:=(1114113+d4 / 2%26)) (m:=d3) (by first|exact g6|exact decide_eq_true g6|exact decide_eq_false g6) (by first|exact g7|exact decide_eq_true g7|exact decide_eq_false g7) (by first|exact g8|exact decide_eq_true g8|exact decide_eq_false g8);exact l8 rfl (by show _=dC3 (dC2 (dC1 d4 dc)) d3;rw[h1,h2,h3.2]) (by show _=dM (dC2 (dC1 d4 dc)) d3;rw[h1,h2,h3.1]) rfl rfl rfl rfl rfl
     refine s31 (M0 _ _ (by omega)) rfl ?_;first|refine s4 rfl (fun g9=>?_) (fun g9=>?_)|refine s4B rfl (fun g9=>?_) (fun g9=>?_)
     ·refine s7 [.int .i64 _,.int .i64 _,.int .i64 _,.int .i64 _,.int .i64 _,.int .i64 _,.int .i64 _,.str _] rfl ?_;have hq:d0%4=0:=by omega
      rw[hq];have h1:=A05 (dc:=dc) g3;have h2:=A3z (x:=(1114113+d4 / 2%26)) (by simpa using g5);have h3:=B4y (c:=(1114113+d4 / 2%26)) (m:=d3) (by first|exact g6|exact decide_eq_true g6|exact decide_eq_false g6) (by first|exact g7|exact decide_eq_true g7|exact decide_eq_false g7) (by first|exact g8|exact decide_eq_true g8|exact decide_eq_false g8) (by first|exact g9|exact decide_eq_true g9|exact decide_eq_false g9);exact l8 rfl (by show _=dC3 (dC2 (dC1 d4 dc)) d3;rw[h1,h2,h3.2]) (by show _=dM (dC2 (dC1 d4 dc)) d3;rw[h1,h2,h3.1]) rfl rfl rfl rfl rfl
     refine s7 [.int .i64 _,.int .i64 _,.int .i64 _,.int .i64 _,.int .i64 _,.int .i64 _,.int .i64 _,.str _] rfl ?_;have hq:d0%4=0:=by omega
     rw[hq];have h1:=A05 (dc:=dc) g3;have h2:=A3z (x:=(1114113+d4 / 2%26)) (by simpa using g5);have h3:=B4x (c:=(1114113+d4 / 2%26)) (m:=d3) (by first|exact g6|exact decide_eq_true g6|exact decide_eq_false g6) (by first|exact g7|exact decide_eq_true g7|exact decide_eq_false g7) (by first|exact g8|exact decide_eq_true g8|exact decide_eq_false g8) (by first|exact g9|exact decide_eq_true g9|exact decide_eq_false g9);exact l8 rfl (by show _=dC3 (dC2 (dC1 d4 dc)) d3;rw[h1,h2,h3.2]) (by show _=dM (dC2 (dC1 d4 dc)) d3;rw[h1,h2,h3.1]) rfl rfl rfl rfl rfl
    first|refine s1 (G6 (by omega) (by omega)) rfl rfl rfl ?_|refine s1 (I6 _ _ _ (by omega)) rfl rfl rfl ?_
    first|refine s1 (D0 (D8 (by omega) (by omega))) rfl rfl rfl ?_|refine s1 (D9 _ _ _) rfl rfl rfl ?_
    first|refine s1 (G6 (by omega) (by omega)) rfl rfl rfl ?_|refine s1 (I6 _ _ _ (by omega)) rfl rfl rfl ?_
    refine s1 (A8v (by omega) (by omega)) rfl rfl rfl ?_;first|refine s1 (D0 (D8 (by omega) (by omega))) rfl rfl rfl ?_|refine s1 (D9 _ _ _) rfl rfl rfl ?_
    refine s1 (A8w (by omega) (by omega)) rfl rfl rfl ?_;first|refine s1 (D0 (D8 (by omega) (by omega))) rfl rfl rfl ?_|refine s1 (D9 _ _ _) rfl rfl rfl ?_
    refine s31 (M0 _ _ (by omega)) rfl ?_;first|refine s4 rfl (fun g5=>?_) (fun g5=>?_)|refine s4B rfl (fun g5=>?_) (fun g5=>?_)
    ·refine s7 [.int .i64 _,.int .i64 _,.int .i64 _,.int .i64 _,.int .i64 _,.int .i64 _,.int .i64 _,.str _] rfl ?_;have hq:d0%4=0:=by omega
     rw[hq];have h1:=A05 (dc:=dc) g3;have h2:=A3y g4;have h3:=B41 (c:=(1114113+d4 / 2%26)) (m:=d3) (by first|exact g5|exact decide_eq_true g5|exact decide_eq_false g5);exact l8 rfl (by show _=dC3 (dC2 (dC1 d4 dc)) d3;rw[h1,h2,h3.2]) (by show _=dM (dC2 (dC1 d4 dc)) d3;rw[h1,h2,h3.1]) rfl rfl rfl rfl rfl
    refine s31 (M0 _ _ (by omega)) rfl ?_;first|refine s4 rfl (fun g6=>?_) (fun g6=>?_)|refine s4B rfl (fun g6=>?_) (fun g6=>?_)
    ·refine s7 [.int .i64 _,.int .i64 _,.int .i64 _,.int .i64 _,.int .i64 _,.int .i64 _,.int .i64 _,.str _] rfl ?_;have hq:d0%4=0:=by omega
     rw[hq];have h1:=A05 (dc:=dc) g3;have h2:=A3y g4;have h3:=B40 (c:=(1114113+d4 / 2%26)) (m:=d3) (by first|exact g5|exact decide_eq_true g5|exact decide_eq_false g5) (by first|exact g6|exact decide_eq_true g6|exact decide_eq_false g6);exact l8 rfl (by show _=dC3 (dC2 (dC1 d4 dc)) d3;rw[h1,h2,h3.2]) (by show _=dM (dC2 (dC1 d4 dc)) d3;rw[h1,h2,h3.1]) rfl rfl rfl rfl rfl
    refine s31 (M0 _ _ (by omega)) rfl ?_;first|refine s4 rfl (fun g7=>?_) (fun g7=>?_)|refine s4B rfl (fun g7=>?_) (fun g7=>?_)
    ·refine s7 [.int .i64 _,.int .i64 _,.int .i64 _,.int .i64 _,.int .i64 _,.int .i64 _,.int .i64 _,.str _] rfl ?_;have hq:d0%4=0:=by omega
     rw[hq];have h1:=A05 (dc:=dc) g3;have h2:=A3y g4;have h3:=B4z (c:=(1114113+d4 / 2%26)) (m:=d3) (by first|exact g5|exact decide_eq_true g5|exact decide_eq_false g5) (by first|exact g6|exact decide_eq_true g6|exact decide_eq_false g6) (by first|exact g7|exact decide_eq_true g7|exact decide_eq_false g7);exact l8 rfl (by show _=dC3 (dC2 (dC1 d4 dc)) d3;rw[h1,h2,h3.2]) (by show _=dM (dC2 (dC1 d4 dc)) d3;rw[h1,h2,h3.1]) rfl rfl rfl rfl rfl
    refine s31 (M0 _ _ (by omega)) rfl ?_;first|refine s4 rfl (fun g8=>?_) (fun g8=>?_)|refine s4B rfl (fun g8=>?_) (fun g8=>?_)
    ·refine s7 [.int .i64 _,.int .i64 _,.int .i64 _,.int .i64 _,.int .i64 _,.int .i64 _,.int .i64 _,.str _] rfl ?_;have hq:d0%4=0:=by omega
     rw[hq];have h1:=A05 (dc:=dc) g3;have h2:=A3y g4;have h3:=B4y (c:=(1114113+d4 / 2%26)) (m:=d3) (by first|exact g5|exact decide_eq_true g5|exact decide_eq_false g5) (by first|exact g6|exact decide_eq_true g6|exact decide_eq_false g6) (by first|exact g7|exact decide_eq_true g7|exact decide_eq_false g7) (by first|exact g8|exact decide_eq_true g8|exact decide_eq_false g8);exact l8 rfl (by show _=dC3 (dC2 (dC1 d4 dc)) d3;rw[h1,h2,h3.2]) (by show _=dM (dC2 (dC1 d4 dc)) d3;rw[h1,h2,h3.1]) rfl rfl rfl rfl rfl
    refine s7 [.int .i64 _,.int .i64 _,.int .i64 _,.int .i64 _,.int .i64 _,.int .i64 _,.int .i64 _,.str _] rfl ?_;have hq:d0%4=0:=by omega
    rw[hq];have h1:=A05 (dc:=dc) g3;have h2:=A3y g4;have h3:=B4x (c:=(1114113+d4 / 2%26)) (m:=d3) (by first|exact g5|exact decide_eq_true g5|exact decide_eq_false g5) (by first|exact g6|exact decide_eq_true g6|exact decide_eq_false g6) (by first|exact g7|exact decide_eq_true g7|exact decide_eq_false g7) (by first|exact g8|exact decide_eq_true g8|exact decide_eq_false g8);exact l8 rfl (by show _=dC3 (dC2 (dC1 d4 dc)) d3;rw[h1,h2,h3.2]) (by show _=dM (dC2 (dC1 d4 dc)) d3;rw[h1,h2,h3.1]) rfl rfl rfl rfl rfl
   refine s1 (P9 _ _ _) rfl rfl rfl ?_;refine s4 rfl (fun g4=>?_) fun g4=>?_
   ·refine s31 (B35 _) rfl ?_;first|refine s1 (F1 _) rfl rfl rfl ?_|refine s1 (N7 _) rfl rfl rfl ?_
    first|refine s4 rfl (fun g5=>?_) (fun g5=>?_)|refine s4B rfl (fun g5=>?_) (fun g5=>?_)
    ·first|refine s1 (G6 (by omega) (by omega)) rfl rfl rfl ?_|refine s1 (I6 _ _ _ (by omega)) rfl rfl rfl ?_
     first|refine s1 (J8 (D8 (by omega) (by omega))) rfl rfl rfl ?_|refine s1 (L4 _ _ _) rfl rfl rfl ?_
     first|refine s1 (G6 (by omega) (by omega)) rfl rfl rfl ?_|refine s1 (I6 _ _ _ (by omega)) rfl rfl rfl ?_
     first|refine s1 (D0 (D8 (by omega) (by omega))) rfl rfl rfl ?_|refine s1 (D9 _ _ _) rfl rfl rfl ?_
     first|refine s1 (G6 (by omega) (by omega)) rfl rfl rfl ?_|refine s1 (I6 _ _ _ (by omega)) rfl rfl rfl ?_
     refine s1 (A8v (by omega) (by omega)) rfl rfl rfl ?_;first|refine s1 (D0 (D8 (by omega) (by omega))) rfl rfl rfl ?_|refine s1 (D9 _ _ _) rfl rfl rfl ?_
     refine s1 (A8w (by omega) (by omega)) rfl rfl rfl ?_;first|refine s1 (D0 (D8 (by omega) (by omega))) rfl rfl rfl ?_|refine s1 (D9 _ _ _) rfl rfl rfl ?_
     refine s31 (M0 _ _ (by omega)) rfl ?_;first|refine s4 rfl (fun g6=>?_) (fun g6=>?_)|refine s4B rfl (fun g6=>?_) (fun g6=>?_)
     ·refine s7 [.int .i64 _,.int .i64 _,.int .i64 _,.int .i64 _,.int .i64 _,.int .i64 _,.int .i64 _,.str _] rfl ?_;have hq:d0%4=0:=by omega
      rw[hq];have h1:=A04 (dc:=dc) g3;have h2:=A3x g4 (by simpa using g5);have h3:=B41 (c:=(97+dc%26)) (m:=d3) (by first|exact g6|exact decide_eq_true g6|exact decide_eq_false g6);exact l8 rfl (by show _=dC3 (dC2 (dC1 d4 dc)) d3;rw[h1,h2,h3.2]) (by show _=dM (dC2 (dC1 d4 dc)) d3;rw[h1,h2,h3.1]) rfl rfl rfl rfl rfl
     refine s31 (M0 _ _ (by omega)) rfl ?_;first|refine s4 rfl (fun g7=>?_) (fun g7=>?_)|refine s4B rfl (fun g7=>?_) (fun g7=>?_)
     ·refine s7 [.int .i64 _,.int .i64 _,.int .i64 _,.int .i64 _,.int .i64 _,.int .i64 _,.int .i64 _,.str _] rfl ?_;have hq:d0%4=0:=by omega
      rw[hq];have h1:=A04 (dc:=dc) g3;have h2:=A3x g4 (by simpa using g5);have h3:=B40 (c:=(97+dc%26)) (m:=d3) (by first|exact g6|exact decide_eq_true g6|exact decide_eq_false g6) (by first|exact g7|exact decide_eq_true g7|exact decide_eq_false g7);exact l8 rfl (by show _=dC3 (dC2 (dC1 d4 dc)) d3;rw[h1,h2,h3.2]) (by show _=dM (dC2 (dC1 d4 dc)) d3;rw[h1,h2,h3.1]) rfl rfl rfl rfl rfl
     refine s31 (M0 _ _ (by omega)) rfl ?_;first|refine s4 rfl (fun g8=>?_) (fun g8=>?_)|refine s4B rfl (fun g8=>?_) (fun g8=>?_)
     ·refine s7 [.int .i64 _,.int .i64 _,.int .i64 _,.int .i64 _,.int .i64 _,.int .i64 _,.int .i64 _,.str _] rfl ?_;have hq:d0%4=0:=by omega
      rw[hq];have h1:=A04 (dc:=dc) g3;have h2:=A3x g4 (by simpa using g5);have h3:=B4z (c:=(97+dc%26)) (m:=d3) (by first|exact g6|exact decide_eq_true g6|exact decide_eq_false g6) (by first|exact g7|exact decide_eq_true g7|exact decide_eq_false g7) (by first|exact g8|exact decide_eq_true g8|exact decide_eq_false g8);exact l8 rfl (by show _=dC3 (dC2 (dC1 d4 dc)) d3;rw[h1,h2,h3.2]) (by show _=dM (dC2 (dC1 d4 dc)) d3;rw[h1,h2,h3.1]) rfl rfl rfl rfl rfl
     refine s31 (M0 _ _ (by omega)) rfl ?_;first|refine s4 rfl (fun g9=>?_) (fun g9=>?_)|refine s4B rfl (fun g9=>?_) (fun g9=>?_)
     ·refine s7 [.int .i64 _,.int .i64 _,.int .i64 _,.int .i64 _,.int .i64 _,.int .i64 _,.int .i64 _,.str _] rfl ?_;have hq:d0%4=0:=by omega
      rw[hq];have h1:=A04 (dc:=dc) g3;have h2:=A3x g4 (by simpa using g5);have h3:=B4y (c:=(97+dc%26)) (m:=d3) (by first|exact g6|exact decide_eq_true g6|exact decide_eq_false g6) (by first|exact g7|exact decide_eq_true g7|exact decide_eq_false g7) (by first|exact g8|exact decide_eq_true g8|exact decide_eq_false g8) (by first|exact g9|exact decide_eq_true g9|exact decide_eq_false g9);exact l8 rfl (by show _=dC3 (dC2 (dC1 d4 dc)) d3;rw[h1,h2,h3.2]) (by show _=dM (dC2 (dC1 d4 dc)) d3;rw[h1,h2,h3.1]) rfl rfl rfl rfl rfl
     refine s7 [.int .i64 _,.int .i64 _,.int .i64 _,.int .i64 _,.int .i64 _,.int .i64 _,.int .i64 _,.str _] rfl ?_;have hq:d0%4=0:=by omega
     rw[hq];have h1:=A04 (dc:=dc) g3;have h2:=A3x g4 (by simpa using g5);have h3:=B4x (c:=(97+dc%26)) (m:=d3) (by first|exact g6|exact decide_eq_true g6|exact decide_eq_false g6) (by first|exact g7|exact decide_eq_true g7|exact decide_eq_false g7) (by first|exact g8|exact decide_eq_true g8|exact decide_eq_false g8) (by first|exact g9|exact decide_eq_true g9|exact decide_eq_false g9);exact l8 rfl (by show _=dC3 (dC2 (dC1 d4 dc)) d3;rw[h1,h2,h3.2]) (by show _=dM (dC2 (dC1 d4 dc)) d3;rw[h1,h2,h3.1]) rfl rfl rfl rfl rfl
    first|refine s1 (G6 (by omega) (by omega)) rfl rfl rfl ?_|refine s1 (I6 _ _ _ (by omega)) rfl rfl rfl ?_
    first|refine s1 (D0 (D8 (by omega) (by omega))) rfl rfl rfl ?_|refine s1 (D9 _ _ _) rfl rfl rfl ?_
    first|refine s1 (G6 (by omega) (by omega)) rfl rfl rfl ?_|refine s1 (I6 _ _ _ (by omega)) rfl rfl rfl ?_
    refine s1 (A8v (by omega) (by omega)) rfl rfl rfl ?_;first|refine s1 (D0 (D8 (by omega) (by omega))) rfl rfl rfl ?_|refine s1 (D9 _ _ _) rfl rfl rfl ?_
    refine s1 (A8w (by omega) (by omega)) rfl rfl rfl ?_;first|refine s1 (D0 (D8 (by omega) (by omega))) rfl rfl rfl ?_|refine s1 (D9 _ _ _) rfl rfl rfl ?_
    refine s31 (M0 _ _ (by omega)) rfl ?_;first|refine s4 rfl (fun g6=>?_) (fun g6=>?_)|refine s4B rfl (fun g6=>?_) (fun g6=>?_)
    ·refine s7 [.int .i64 _,.int .i64 _,.int .i64 _,.int .i64 _,.int .i64 _,.int .i64 _,.int .i64 _,.str _] rfl ?_;have hq:d0%4=0:=by omega
     rw[hq];have h1:=A04 (dc:=dc) g3;have h2:=A3z (x:=dc) (by simpa using g5);have h3:=B41 (c:=dc) (m:=d3) (by first|exact g6|exact decide_eq_true g6|exact decide_eq_false g6);exact l8 rfl (by show _=dC3 (dC2 (dC1 d4 dc)) d3;rw[h1,h2,h3.2]) (by show _=dM (dC2 (dC1 d4 dc)) d3;rw[h1,h2,h3.1]) rfl rfl rfl rfl rfl
    refine s31 (M0 _ _ (by omega)) rfl ?_;first|refine s4 rfl (fun g7=>?_) (fun g7=>?_)|refine s4B rfl (fun g7=>?_) (fun g7=>?_)
    ·refine s7 [.int .i64 _,.int .i64 _,.int .i64 _,.int .i64 _,.int .i64 _,.int .i64 _,.int .i64 _,.str _] rfl ?_;have hq:d0%4=0:=by omega
     rw[hq];have h1:=A04 (dc:=dc) g3;have h2:=A3z (x:=dc) (by simpa using g5);have h3:=B40 (c:=dc) (m:=d3) (by first|exact g6|exact decide_eq_true g6|exact decide_eq_false g6) (by first|exact g7|exact decide_eq_true g7|exact decide_eq_false g7);exact l8 rfl (by show _=dC3 (dC2 (dC1 d4 dc)) d3;rw[h1,h2,h3.2]) (by show _=dM (dC2 (dC1 d4 dc)) d3;rw[h1,h2,h3.1]) rfl rfl rfl rfl rfl
    refine s31 (M0 _ _ (by omega)) rfl ?_;first|refine s4 rfl (fun g8=>?_) (fun g8=>?_)|refine s4B rfl (fun g8=>?_) (fun g8=>?_)
    ·refine s7 [.int .i64 _,.int .i64 _,.int .i64 _,.int .i64 _,.int .i64 _,.int .i64 _,.int .i64 _,.str _] rfl ?_;have hq:d0%4=0:=by omega
     rw[hq];have h1:=A04 (dc:=dc) g3;have h2:=A3z (x:=dc) (by simpa using g5);have h3:=B4z (c:=dc) (m:=d3) (by first|exact g6|exact decide_eq_true g6|exact decide_eq_false g6) (by first|exact g7|exact decide_eq_true g7|exact decide_eq_false g7) (by first|exact g8|exact decide_eq_true g8|exact decide_eq_false g8);exact l8 rfl (by show _=dC3 (dC2 (dC1 d4 dc)) d3;rw[h1,h2,h3.2]) (by show _=dM (dC2 (dC1 d4 dc)) d3;rw[h1,h2,h3.1]) rfl rfl rfl rfl rfl
    refine s31 (M0 _ _ (by omega)) rfl ?_;first|refine s4 rfl (fun g9=>?_) (fun g9=>?_)|refine s4B rfl (fun g9=>?_) (fun g9=>?_)
    ·refine s7 [.int .i64 _,.int .i64 _,.int .i64 _,.int .i64 _,.int .i64 _,.int .i64 _,.int .i64 _,.str _] rfl ?_;have hq:d0%4=0:=by omega
     rw[hq];have h1:=A04 (dc:=dc) g3;have h2:=A3z (x:=dc) (by simpa using g5);have h3:=B4y (c:=dc) (m:=d3) (by first|exact g6|exact decide_eq_true g6|exact decide_eq_false g6) (by first|exact g7|exact decide_eq_true g7|exact decide_eq_false g7) (by first|exact g8|exact decide_eq_true g8|exact decide_eq_false g8) (by first|exact g9|exact decide_eq_true g9|exact decide_eq_false g9);exact l8 rfl (by show _=dC3 (dC2 (dC1 d4 dc)) d3;rw[h1,h2,h3.2]) (by show _=dM (dC2 (dC1 d4 dc)) d3;rw[h1,h2,h3.1]) rfl rfl rfl rfl rfl
    refine s7 [.int .i64 _,.int .i64 _,.int .i64 _,.int .i64 _,.int .i64 _,.int .i64 _,.int .i64 _,.str _] rfl ?_;have hq:d0%4=0:=by omega
    rw[hq];have h1:=A04 (dc:=dc) g3;have h2:=A3z (x:=dc) (by simpa using g5);have h3:=B4x (c:=dc) (m:=d3) (by first|exact g6|exact decide_eq_true g6|exact decide_eq_false g6) (by first|exact g7|exact decide_eq_true g7|exact decide_eq_false g7) (by first|exact g8|exact decide_eq_true g8|exact decide_eq_false g8) (by first|exact g9|exact decide_eq_true g9|exact decide_eq_false g9);exact l8 rfl (by show _=dC3 (dC2 (dC1 d4 dc)) d3;rw[h1,h2,h3.2]) (by show _=dM (dC2 (dC1 d4 dc)) d3;rw[h1,h2,h3.1]) rfl rfl rfl rfl rfl
   first|refine s1 (G6 (by omega) (by omega)) rfl rfl rfl ?_|refine s1 (I6 _ _ _ (by omega)) rfl rfl rfl ?_
   first|refine s1 (D0 (D8 (by omega) (by omega))) rfl rfl rfl ?_|refine s1 (D9 _ _ _) rfl rfl rfl ?_
   first|refine s1 (G6 (by omega) (by omega)) rfl rfl rfl ?_|refine s1 (I6 _ _ _ (by omega)) rfl rfl rfl ?_
   refine s1 (A8v (by omega) (by omega)) rfl rfl rfl ?_;first|refine s1 (D0 (D8 (by omega) (by omega))) rfl rfl rfl ?_|refine s1 (D9 _ _ _) rfl rfl rfl ?_
   refine s1 (A8w (by omega) (by omega)) rfl rfl rfl ?_;first|refine s1 (D0 (D8 (by omega) (by omega))) rfl rfl rfl ?_|refine s1 (D9 _ _ _) rfl rfl rfl ?_
   refine s31 (M0 _ _ (by omega)) rfl ?_;first|refine s4 rfl (fun g5=>?_) (fun g5=>?_)|refine s4B rfl (fun g5=>?_) (fun g5=>?_)
   ·refine s7 [.int .i64 _,.int .i64 _,.int .i64 _,.int .i64 _,.int .i64 _,.int .i64 _,.int .i64 _,.str _] rfl ?_;have hq:d0%4=0:=by omega
    rw[hq];have h1:=A04 (dc:=dc) g3;have h2:=A3y g4;have h3:=B41 (c:=dc) (m:=d3) (by first|exact g5|exact decide_eq_true g5|exact decide_eq_false g5);exact l8 rfl (by show _=dC3 (dC2 (dC1 d4 dc)) d3;rw[h1,h2,h3.2]) (by show _=dM (dC2 (dC1 d4 dc)) d3;rw[h1,h2,h3.1]) rfl rfl rfl rfl rfl
   refine s31 (M0 _ _ (by omega)) rfl ?_;first|refine s4 rfl (fun g6=>?_) (fun g6=>?_)|refine s4B rfl (fun g6=>?_) (fun g6=>?_)
   ·refine s7 [.int .i64 _,.int .i64 _,.int .i64 _,.int .i64 _,.int .i64 _,.int .i64 _,.int .i64 _,.str _] rfl ?_;have hq:d0%4=0:=by omega
    rw[hq];have h1:=A04 (dc:=dc) g3;have h2:=A3y g4;have h3:=B40 (c:=dc) (m:=d3) (by first|exact g5|exact decide_eq_true g5|exact decide_eq_false g5) (by first|exact g6|exact decide_eq_true g6|exact decide_eq_false g6);exact l8 rfl (by show _=dC3 (dC2 (dC1 d4 dc)) d3;rw[h1,h2,h3.2]) (by show _=dM (dC2 (dC1 d4 dc)) d3;rw[h1,h2,h3.1]) rfl rfl rfl rfl rfl
   refine s31 (M0 _ _ (by omega)) rfl ?_;first|refine s4 rfl (fun g7=>?_) (fun g7=>?_)|refine s4B rfl (fun g7=>?_) (fun g7=>?_)
   ·refine s7 [.int .i64 _,.int .i64 _,.int .i64 _,.int .i64 _,.int .i64 _,.int .i64 _,.int .i64 _,.str _] rfl ?_;have hq:d0%4=0:=by omega
    rw[hq];have h1:=A04 (dc:=dc) g3;have h2:=A3y g4;have h3:=B4z (c:=dc) (m:=d3) (by first|exact g5|exact decide_eq_true g5|exact decide_eq_false g5) (by first|exact g6|exact decide_eq_true g6|exact decide_eq_false g6) (by first|exact g7|exact decide_eq_true g7|exact decide_eq_false g7);exact l8 rfl (by show _=dC3 (dC2 (dC1 d4 dc)) d3;rw[h1,h2,h3.2]) (by show _=dM (dC2 (dC1 d4 dc)) d3;rw[h1,h2,h3.1]) rfl rfl rfl rfl rfl
   refine s31 (M0 _ _ (by omega)) rfl ?_;first|refine s4 rfl (fun g8=>?_) (fun g8=>?_)|refine s4B rfl (fun g8=>?_) (fun g8=>?_)
   ·refine s7 [.int .i64 _,.int .i64 _,.int .i64 _,.int .i64 _,.int .i64 _,.int .i64 _,.int .i64 _,.str _] rfl ?_;have hq:d0%4=0:=by omega
    rw[hq];have h1:=A04 (dc:=dc) g3;have h2:=A3y g4;have h3:=B4y (c:=dc) (m:=d3) (by first|exact g5|exact decide_eq_true g5|exact decide_eq_false g5) (by first|exact g6|exact decide_eq_true g6|exact decide_eq_false g6) (by first|exact g7|exact decide_eq_true g7|exact decide_eq_false g7) (by first|exact g8|exact decide_eq_true g8|exact decide_eq_false g8);exact l8 rfl (by show _=dC3 (dC2 (dC1 d4 dc)) d3;rw[h1,h2,h3.2]) (by show _=dM (dC2 (dC1 d4 dc)) d3;rw[h1,h2,h3.1]) rfl rfl rfl rfl rfl
   refine s7 [.int .i64 _,.int .i64 _,.int .i64 _,.int .i64 _,.int .i64 _,.int .i64 _,.int .i64 _,.str _] rfl ?_;have hq:d0%4=0:=by omega
   rw[hq];have h1:=A04 (dc:=dc) g3;have h2:=A3y g4;have h3:=B4x (c:=dc) (m:=d3) (by first|exact g5|exact decide_eq_true g5|exact decide_eq_false g5) (by first|exact g6|exact decide_eq_true g6|exact decide_eq_false g6) (by first|exact g7|exact decide_eq_true g7|exact decide_eq_false g7) (by first|exact g8|exact decide_eq_true g8|exact decide_eq_false g8);exact l8 rfl (by show _=dC3 (dC2 (dC1 d4 dc)) d3;rw[h1,h2,h3.2]) (by show _=dM (dC2 (dC1 d4 dc)) d3;rw[h1,h2,h3.1]) rfl rfl rfl rfl rfl
  ·cases hs
 ·cases hs
def rQ:Rw ((List UInt8)×Int×Int×Int×Int×Int×Int×Int×(List UInt8)):=rC A7_ (rC (Q7 .i64) (rC (Q7 .i64) (rC (Q7 .i64) (rC (Q7 .i64) (rC (Q7 .i64) (rC (Q7 .i64) (rC (Q7 .i64) (r1 A7_))))))))
abbrev Qt:=(List UInt8×Int×Int×Int×Int×Int×Int×Int×List UInt8)
def qq(a b:Qt):Bool:=(a.1 == b.1 && true)
def qR(s:List UInt8)(c m:Int):Qt:=(s,1,c,m,0,0,0,0,[])
def inQ(c:Int):Nat→Int→Option (List Qt)→Option (List Qt)
 | 0,_,x=>x
 | n+1,j,x=>inQ c n (j+1) (A8M qq (A8M qq x (qR (keS false c j) c j)) (qR (keS true c j) c j))
def otQ:Nat→Int→Option (List Qt)→Option (List Qt)
 | 0,_,x=>x
 | n+1,c,x=>otQ n (c+1) (inQ c 8 0 x)
theorem C1s{c j:Int}{x:Option (List Qt)}(h:j<8):inQ c (8-j).toNat j x=inQ c (8-(j+1)).toNat (j+1) (A8M qq (A8M qq x (qR (keS false c j) c j)) (qR (keS true c j) c j)):=by
 rw[show(8-j).toNat=(8-(j+1)).toNat+1 by omega];rfl
theorem C1t{c j:Int}{x:Option (List Qt)}(h:¬j<8):inQ c (8-j).toNat j x=x:=by
 rw[show(8-j).toNat=0 by omega];rfl
theorem C1S{c:Int}{x:Option (List Qt)}(h:c≤1114134):otQ (1114135-c).toNat c x=otQ (1114135-(c+1)).toNat (c+1) (inQ c 8 0 x):=by
 rw[show(1114135-c).toNat=(1114135-(c+1)).toNat+1 by omega];rfl
theorem C1T{c:Int}{x:Option (List Qt)}(h:¬c≤1114134):otQ (1114135-c).toNat c x=x:=by
 rw[show(1114135-c).toNat=0 by omega];rfl
theorem nn2{x:Option (List Qt)}{a:Qt}(h:x≠none):A8M qq x a≠none:=by
 cases x with
 | none=>exact absurd rfl h
 | some l=>exact K4 _
theorem B9k{c:Int}:∀ (n:Nat) (j:Int) {x:Option (List Qt)},x≠none→inQ c n j x≠none
 | 0,_,_,h=>h
 | n+1,j,_,h=>B9k n (j+1) (nn2 (nn2 h))
theorem B9Y{c m:Int}(h:1114113≤c)(h2:c≤1114134)(h3:0≤m)(h4:m≤7):A4 c m:=.inr (.inl ⟨h,h2,h3,h4⟩)
noncomputable def B97:List (FuncId×FnC):=(50,U2 Tryz.prog [.a [8,8,8,8,8,8,8,8,8,8,8,3,8],.a [3,3,3,3,3,3,3,9]] A28 [.s 9])::L0
theorem B7W{G:Nat→Option Obj}(hst:E6 Tryz.prog G gl H0 n0):L5 Tryz.prog G gl B97:=(.cons (B3y hst) .nil)
def A6h:List U→Option (Nat×List U)
 | [.int .i64 c,.int .i64 j,u_x]=>(A3o rQ u_x).bind fun x=>if 1114113≤c∧c≤1114134∧0≤j∧j≤8∧x≠none then some (0,[.int .i64 c,J6 rQ (inQ c (8-j).toNat j x)])else none
 | _=>none
theorem A6I(c:Int)(j:Int)(x:(Option (List ((List UInt8)×Int×Int×Int×Int×Int×Int×Int×(List UInt8)))))(hc:1114113≤c∧c≤1114134∧0≤j∧j≤8∧x≠none):A6h [.int .i64 c,.int .i64 j,J6 rQ x]=some (0,[.int .i64 c,J6 rQ (inQ c (8-j).toNat j x)]):=by
 simp only[A6h,m7,Q4];exact if_pos hc
def B5e:d7:=⟨[(1,.map (some 6)),(2,h 0 3),(14,h 1 3)],[(6,.mp 2 19 81)],3,[⟨.exit 2,[(1,.map (some 6)),(2,h 0 3)],[(6,.mp 1 19 81)],2⟩]⟩
noncomputable def B5f:Code:=(Tryz.f72.body).getD .skip
noncomputable def B9B:Code:=match J2 [true,true,false,true,false,false,true,false,false,true,false] B5f with|some (.loop x)=>x|_=>.skip
theorem B5d:Tryz.f72.body=some B5f:=rfl
theorem B5a:J2 [true,true,false,true,false,false,true,false,false,true,false] B5f=some (.loop B9B):=by kernel_rfl
def B9C:Tr:=.lt 8 (.bin .lss) [h 1 3,jI 8]<|.br 3 (.fn A28 [.bool false,.bool false,.bool false,.bool false,.bool false,.bool false,.bool false,.bool false,.bool false,.bool false,.bool false,jI 0,.bool false,jI 1,h 0 3,h 1 3,jI 0,jI 0,jI 0,jI 0,.string ⟨⟨[]⟩⟩] 1<|.dt 19 (.mput 9 1) [h 2 19,h 4 9,jI 1,h 0 3,h 1 3,jI 0,jI 0,jI 0,jI 0,.string ⟨⟨[]⟩⟩]<|.fn A28 [.bool false,.bool false,.bool true,.bool false,.bool false,.bool false,.bool false,.bool false,.bool false,.bool false,.bool false,jI 0,.bool false,jI 1,h 0 3,h 1 3,jI 0,jI 0,jI 0,jI 0,.string ⟨⟨[]⟩⟩] 1<|.dt 19 (.mput 9 1) [h 5 19,h 6 9,jI 1,h 0 3,h 1 3,jI 0,jI 0,jI 0,jI 0,.string ⟨⟨[]⟩⟩]<|.lt 3 (.bin .add) [h 1 3,jI 1]<|.ret [jI (-1),h 0 3,h 8 3,h 7 19]) (.ret [jI 0,h 0 3,h 2 19])
def B5c:List U→Nat
 | [.int .i64 c,.int .i64 j,u_x]=>(match A3o rQ u_x with|some x=>(8-j).toNat|none=>0)
 | _=>0
theorem B5b(c:Int)(j:Int)(x:(Option (List ((List UInt8)×Int×Int×Int×Int×Int×Int×Int×(List UInt8))))):B5c [.int .i64 c,.int .i64 j,J6 rQ x]=(8-j).toNat:=by
 simp only[B5c,m7]
theorem B9D{G:Nat→Option Obj}(hst:E6 Tryz.prog G gl H0 n0):∀ (E:Nat→U) (base:Nat),@v6 ⟨E,G⟩ Tryz.prog base gl Tryz.f72.ntmps B9B (A1M Tryz.prog gl n0 7 B5e A6h):=by
 refine A4l (C:=cx B97 B19) (dep:=60) (f:=72) (n0:=n0) (nB:=7) (H0:=H0) B5c B9C (cxg (B7W hst) (A5A hst)) hst Tryz.func72 B5d B5a (by kernel_rfl) (by kernel_rfl) (by kernel_rfl) ?_;intro us d outs hs;have hs0:=hs;unfold A6h at hs;split at hs
 ·skip;rename_i c j u_x;have hq_x:=K5.1 hs;clear hs;obtain⟨x,hd_x,hs⟩:=hq_x;replace hd_x:=A3f hd_x;subst hd_x;split at hs
  ·rename_i hc;clear hs hs0;refine⟨rfl,?_⟩;unfold B9C;refine s0 (.cons 2 _ (.cons 1 _ (.cons 0 _ (.nil)))) rfl (by simp[Ev.ok,Ev.len]) ?_;refine s1 (P9 _ _ _) rfl rfl rfl ?_;refine s5 rfl (fun g0=>?_) fun g0=>?_
   ·refine s7 [.int .i64 _,.int .i64 _,J6 rQ _] rfl ?_;refine Z9 (d:=0) ?_;rw[A6I c j x hc,C1t (by omega)]
   refine s31 (A6S _ _ _ _ _ _ _ _ _ _ _ _ _ _ _ _ _ _ _ _ _ (B9Y (by omega) (by omega) (by omega) (by omega))) rfl ?_;refine s2 (r:=rQ) (Y5 qq (qR (keS false c j) c j) rfl rfl (fun _=>rfl) (by first|exact hc.2.2.2.2|exact nn2 hc.2.2.2.2|exact hc.2.2|exact nn2 hc.2.2)) rfl rfl ?_;refine s31 (A6S _ _ _ _ _ _ _ _ _ _ _ _ _ _ _ _ _ _ _ _ _ (B9Y (by omega) (by omega) (by omega) (by omega))) rfl ?_;refine s2 (r:=rQ) (Y5 qq (qR (keS true c j) c j) rfl rfl (fun _=>rfl) (by first|exact hc.2.2.2.2|exact nn2 hc.2.2.2.2|exact hc.2.2|exact nn2 hc.2.2)) rfl rfl ?_;first|refine s1 (J8 (D8 (by omega) (by omega))) rfl rfl rfl ?_|refine s1 (L4 _ _ _) rfl rfl rfl ?_
   refine s7 [.int .i64 _,.int .i64 _,.int .i64 _,J6 rQ _] rfl ?_;refine A0X ?_ ?_
   ·rw[A6I c (j+1) _ ⟨by omega,by omega,by omega,by omega,nn2 (nn2 hc.2.2.2.2)⟩,A6I c j x hc,C1s (c:=c) (j:=j) (x:=x) (by omega)]
   ·rw[B5b,B5b];omega
  ·cases hs
 ·cases hs
noncomputable def C0Q:List LpE:=(72,([true,true,false,true,false,false,true,false,false,true,false],A1M Tryz.prog gl n0 7 B5e A6h))::B19
theorem B7t{G:Nat→Option Obj}(hst:E6 Tryz.prog G gl H0 n0):A2X Tryz.prog G gl C0Q:=.cons Tryz.func72 B5d B5a (B9D hst) (A5A hst)
noncomputable def B96:List (FuncId×FnC):=(50,U2 Tryz.prog [.a [8,8,8,8,8,8,8,8,8,8,8,3,8],.a [3,3,3,3,3,3,3,9]] A28 [.s 9])::L0
theorem B7V{G:Nat→Option Obj}(hst:E6 Tryz.prog G gl H0 n0):L5 Tryz.prog G gl B96:=(.cons (B3y hst) .nil)
def B0f:List U→Option (Nat×List U)
 | [.int .i64 c,u_x]=>(A3o rQ u_x).bind fun x=>if 1114113≤c∧c≤1114135∧x≠none then some (0,[J6 rQ (otQ (1114135-c).toNat c x)])else none
 | _=>none
theorem A9P(c:Int)(x:(Option (List ((List UInt8)×Int×Int×Int×Int×Int×Int×Int×(List UInt8)))))(hc:1114113≤c∧c≤1114135∧x≠none):B0f [.int .i64 c,J6 rQ x]=some (0,[J6 rQ (otQ (1114135-c).toNat c x)]):=by
 simp only[B0f,m7,Q4];exact if_pos hc
def B9A:d7:=⟨[(1,.map (some 6)),(2,h 0 3)],[(6,.mp 1 19 81)],2,[⟨.exit 0,[(1,.map (some 6))],[(6,.mp 0 19 81)],1⟩]⟩
noncomputable def B5Z:Code:=(Tryz.f72.body).getD .skip
noncomputable def B87:Code:=match J2 [true,true,false,true,false] B5Z with|some (.loop x)=>x|_=>.skip
theorem B8_:Tryz.f72.body=some B5Z:=rfl
theorem B89:J2 [true,true,false,true,false] B5Z=some (.loop B87):=by kernel_rfl
def B88:Tr:=.lt 8 (.bin .leq) [h 0 3,jI 1114134]<|.br 2 (.fn A6h [h 0 3,jI 0,h 1 19] 2<|.lt 3 (.bin .add) [h 3 3,jI 1]<|.ret [jI (-1),h 5 3,h 4 19]) (.ret [jI 0,h 1 19])
def B5Y:List U→Nat
 | [.int .i64 c,u_x]=>(match A3o rQ u_x with|some x=>(1114135-c).toNat|none=>0)
 | _=>0
theorem B5X(c:Int)(x:(Option (List ((List UInt8)×Int×Int×Int×Int×Int×Int×Int×(List UInt8))))):B5Y [.int .i64 c,J6 rQ x]=(1114135-c).toNat:=by
 simp only[B5Y,m7]
theorem C1I{G:Nat→Option Obj}(hst:E6 Tryz.prog G gl H0 n0):∀ (E:Nat→U) (base:Nat),@v6 ⟨E,G⟩ Tryz.prog base gl Tryz.f72.ntmps B87 (A1M Tryz.prog gl n0 7 B9A B0f):=by
 refine A4l (C:=cx B96 C0Q) (dep:=60) (f:=72) (n0:=n0) (nB:=7) (H0:=H0) B5Y B88 (cxg (B7V hst) (B7t hst)) hst Tryz.func72 B8_ B89 (by kernel_rfl) (by kernel_rfl) (by kernel_rfl) ?_;intro us d outs hs;have hs0:=hs;unfold B0f at hs;split at hs
 ·skip;rename_i c u_x;have hq_x:=K5.1 hs;clear hs;obtain⟨x,hd_x,hs⟩:=hq_x;replace hd_x:=A3f hd_x;subst hd_x;split at hs
  ·rename_i hc;clear hs hs0;refine⟨rfl,?_⟩;unfold B88;refine s0 (.cons 1 _ (.cons 0 _ (.nil))) rfl (by simp[Ev.ok,Ev.len]) ?_;refine s1 (F4 _ _ _) rfl rfl rfl ?_;refine s5 rfl (fun g0=>?_) fun g0=>?_
   ·refine s7 [.int .i64 _,J6 rQ _] rfl ?_;refine Z9 (d:=0) ?_;rw[A9P c x hc,C1T (by omega)]
   refine s32 (A6I _ _ _ ⟨by omega,by omega,by omega,by omega,hc.2.2⟩) rfl rfl ?_;first|refine s1 (J8 (D8 (by omega) (by omega))) rfl rfl rfl ?_|refine s1 (L4 _ _ _) rfl rfl rfl ?_
   refine s7 [.int .i64 _,.int .i64 _,J6 rQ _] rfl ?_;refine A0X ?_ ?_
   ·rw[A9P (c+1) _ ⟨by omega,by omega,B9k _ _ hc.2.2⟩,A9P c x hc,C1S (c:=c) (x:=x) (by omega)];rfl
   ·rw[B5X,B5X];omega
  ·cases hs
 ·cases hs
noncomputable def B4D:List LpE:=[(72,([true,true,false,true,false],A1M Tryz.prog gl n0 7 B9A B0f)),(72,([true,true,false,true,false,false,true,false,false,true,false],A1M Tryz.prog gl n0 7 B5e A6h))]
theorem B25{G:Nat→Option Obj}(hst:E6 Tryz.prog G gl H0 n0):A2X Tryz.prog G gl B4D:=(.cons Tryz.func72 B8_ B89 (C1I hst) (.cons Tryz.func72 B5d B5a (B9D hst) .nil))
noncomputable def B93:List (FuncId×FnC):=(50,U2 Tryz.prog [.a [8,8,8,8,8,8,8,8,8,8,8,3,8],.a [3,3,3,3,3,3,3,9]] A28 [.s 9])::(23,U2 Tryz.prog [.a [8,8,8,8,8,8,8,8,8,8,8,3,8],.a [3,3,3,3,3,3,3,9]] B6W [.s 11,.s 3])::(79,U2 Tryz.prog [.s 3] A0L [.s 9])::L0
theorem B7S{G:Nat→Option Obj}(hst:E6 Tryz.prog G gl H0 n0):L5 Tryz.prog G gl B93:=(.cons (B3y hst) (.cons (C1g hst) (.cons (B6h hst) .nil)))
def B0M:List U→Option (Nat×List U)
 | []=>some (0,[.bool (true)])
 | _=>none
theorem B7y :B0M []=some (0,[.bool (true)]):=rfl
theorem C1F{G:Nat→Option Obj}(hst:E6 Tryz.prog G gl H0 n0):T9 Tryz.prog G 15 [] B0M [.s 8]:=by
 refine A79 (C:=cx B93 B4D) (d:=60) (cxg (B7S hst) (B25 hst)) hst ⟨Tryz.f15,_,Tryz.func15,rfl⟩ ?_;intro us outs hs;unfold B0M at hs;split at hs
 ·cases hs;exact⟨[1,1,1,1,1,1,1,1,1,1,1,1,1,1,1,1,1,0,1,0,1,1,1,0,1,1,0],by kernel_rfl⟩
 ·cases hs
theorem I7(x:Int) : -9223372036854775808≤IntKind.i64.wrap x∧IntKind.i64.wrap x≤9223372036854775807:=by
 simp only[IntKind.wrap,IntKind.bits,IntKind.signed,Nat.reduceSub]<;>simp<;>omega
theorem C2Q(c m:Int)(h0:0≤m)(h1:m<256):0≤dM c m∧dM c m≤7:=by
 unfold dM
 (repeat' split)<;>omega
theorem C16(q d3 d4 dc:Int)(h0:0≤d3)(h1:d3<256):0≤diM q d3 d4 dc∧diM q d3 d4 dc≤7:=by
 unfold diM
 have:=C2Q (dC2 (dC1 d4 dc)) d3 h0 h1
 (repeat' split)<;>omega
theorem C15(q:Int)(u:List UInt8):((diT q u).length:Int)≤1000:=by
 unfold diT;split
 ·have:=C0n (u.take 1000);rw[B0]at this;omega
 ·show(0:Int)≤1000;decide
set_option maxHeartbeats 4000000
noncomputable def C0G:List (FuncId×FnC):=(12,U2 Tryz.prog [.a [4,4,4,4,4,4,4,6,9]] B1m [.a [3,3,3,3,3,3,3,9]])::(13,U2 Tryz.prog [.a [3,3,3,3,3,3,3,9]] S0 [.s 3])::(14,U2 Tryz.prog [.a [3,3,3,3,3,3,3,9]] T6 [.s 3])::(15,U2 Tryz.prog [] B0M [.s 8])::L0
theorem B7g{G:Nat→Option Obj}(hst:E6 Tryz.prog G gl H0 n0):L5 Tryz.prog G gl C0G:=(.cons (C12 hst) (.cons (B9e hst) (.cons (C1Q hst) (.cons (C1F hst) .nil))))
def B6Z:List U→Option (Nat×List U)
 | [.int .i64 k,.int .i64 c,.int .i64 m,.int .i64 w,.int .i64 b,.int .i64 r,.int .i64 cl,.str t,.int .u8 d0,.int .u8 d1,.int .u8 d2,.int .u8 d3,.int .u8 d4,.int .u8 d5,.int .u8 d6,.int .u32 dc,.str u,.int .i64 n]=>if -9223372036854775808≤m∧m≤9223372036854775807∧(t.length:Int)≤140737488351232 ∧ -9223372036854775808≤n∧n≤9223372036854775807∧0≤d0∧d0<256∧0≤d1∧d1<256∧0≤d2∧d2<256∧0≤d3∧d3<256∧0≤d4∧d4<256∧0≤d5∧d5<256∧0≤d6∧d6<256∧0≤dc∧dc<4294967296∧(u.length:Int)≤140737488351232 then some (0,[.bool (true)])else none
 | _=>none
theorem B8V(k:Int)(c:Int)(m:Int)(w:Int)(b:Int)(r:Int)(cl:Int)(t:(List UInt8))(d0:Int)(d1:Int)(d2:Int)(d3:Int)(d4:Int)(d5:Int)(d6:Int)(dc:Int)(u:(List UInt8))(n:Int)(hc : -9223372036854775808≤m∧m≤9223372036854775807∧(t.length:Int)≤140737488351232 ∧ -9223372036854775808≤n∧n≤9223372036854775807∧0≤d0∧d0<256∧0≤d1∧d1<256∧0≤d2∧d2<256∧0≤d3∧d3<256∧0≤d4∧d4<256∧0≤d5∧d5<256∧0≤d6∧d6<256∧0≤dc∧dc<4294967296∧(u.length:Int)≤140737488351232):B6Z [.int .i64 k,.int .i64 c,.int .i64 m,.int .i64 w,.int .i64 b,.int .i64 r,.int .i64 cl,.str t,.int .u8 d0,.int .u8 d1,.int .u8 d2,.int .u8 d3,.int .u8 d4,.int .u8 d5,.int .u8 d6,.int .u32 dc,.str u,.int .i64 n]=some (0,[.bool (true)]):=if_pos hc
def B9c:Tr:=.lt 3 (.len) [h 7 9]<|.lt 3 (.min) [h 18 3,jI 1100]<|.lt 9 (.sub) [h 7 9,jI 0,h 19 3]<|.fn B1m [h 8 4,h 9 4,h 10 4,h 11 4,h 12 4,h 13 4,h 14 4,h 15 6,h 16 9] 8<|.fn S0 [h 0 3,h 1 3,h 2 3,h 3 3,h 4 3,h 5 3,h 6 3,h 20 9] 1<|.fn T6 [h 0 3,h 1 3,h 2 3,h 3 3,h 4 3,h 5 3,h 6 3,h 20 9] 1<|.lt 8 (.bin .neq) [h 29 3,h 30 3]<|.br 31 (.no) (.fn S0 [h 21 3,h 22 3,h 23 3,h 24 3,h 25 3,h 26 3,h 27 3,h 28 9] 1<|.fn T6 [h 21 3,h 22 3,h 23 3,h 24 3,h 25 3,h 26 3,h 27 3,h 28 9] 1<|.lt 8 (.bin .neq) [h 32 3,h 33 3]<|.br 34 (.no) (.fn S0 [h 21 3,h 17 3,h 23 3,h 24 3,h 25 3,h 26 3,h 27 3,h 28 9] 1<|.fn T6 [h 21 3,h 17 3,h 23 3,h 24 3,h 25 3,h 26 3,h 27 3,h 28 9] 1<|.lt 8 (.bin .neq) [h 35 3,h 36 3]<|.br 37 (.no) (.fn S0 [h 21 3,h 22 3,h 17 3,h 24 3,h 25 3,h 26 3,h 27 3,h 28 9] 1<|.fn T6 [h 21 3,h 22 3,h 17 3,h 24 3,h 25 3,h 26 3,h 27 3,h 28 9] 1<|.lt 8 (.bin .neq) [h 38 3,h 39 3]<|.br 40 (.no) (.fn S0 [h 21 3,h 22 3,h 23 3,h 17 3,h 25 3,h 26 3,h 27 3,h 28 9] 1<|.fn T6 [h 21 3,h 22 3,h 23 3,h 17 3,h 25 3,h 26 3,h 27 3,h 28 9] 1<|.lt 8 (.bin .neq) [h 41 3,h 42 3]<|.br 43 (.no) (.fn S0 [h 21 3,h 22 3,h 23 3,h 24 3,h 17 3,h 26 3,h 27 3,h 28 9] 1<|.fn T6 [h 21 3,h 22 3,h 23 3,h 24 3,h 17 3,h 26 3,h 27 3,h 28 9] 1<|.lt 8 (.bin .neq) [h 44 3,h 45 3]<|.br 46 (.no) (.fn S0 [h 21 3,h 22 3,h 23 3,h 24 3,h 25 3,h 17 3,h 27 3,h 28 9] 1<|.fn T6 [h 21 3,h 22 3,h 23 3,h 24 3,h 25 3,h 17 3,h 27 3,h 28 9] 1<|.lt 8 (.bin .neq) [h 47 3,h 48 3]<|.br 49 (.no) (.fn S0 [h 21 3,h 22 3,h 23 3,h 24 3,h 25 3,h 26 3,h 17 3,h 28 9] 1<|.fn T6 [h 21 3,h 22 3,h 23 3,h 24 3,h 25 3,h 26 3,h 17 3,h 28 9] 1<|.lt 8 (.bin .neq) [h 50 3,h 51 3]<|.br 52 (.no) (.fn S0 [h 21 3,h 22 3,h 23 3,h 24 3,h 25 3,h 26 3,h 27 3,h 20 9] 1<|.fn T6 [h 21 3,h 22 3,h 23 3,h 24 3,h 25 3,h 26 3,h 27 3,h 20 9] 1<|.lt 8 (.bin .neq) [h 53 3,h 54 3]<|.br 55 (.no) (.lt 7 (.conv .u64) [h 17 3]<|.lt 7 (.bin .rem) [h 56 7,.int .u64 (9)]<|.lt 3 (.conv .i64) [h 57 7]<|.lt 7 (.conv .u64) [h 17 3]<|.lt 7 (.bin .rem) [h 59 7,.int .u64 (5)]<|.lt 3 (.conv .i64) [h 60 7]<|.lt 7 (.conv .u64) [h 4 3]<|.lt 7 (.bin .rem) [h 62 7,.int .u64 (5)]<|.lt 3 (.conv .i64) [h 63 7]<|.fn S0 [jI (-1),h 22 3,h 58 3,h 3 3,jI 0,jI 0,jI 0,.string ⟨⟨[]⟩⟩] 1<|.fn T6 [jI (-1),h 22 3,h 58 3,h 3 3,jI 0,jI 0,jI 0,.string ⟨⟨[]⟩⟩] 1<|.lt 8 (.bin .neq) [h 65 3,h 66 3]<|.br 67 (.no) (.fn S0 [jI (-1),jI 0,jI 0,h 61 3,h 64 3,h 26 3,h 27 3,.string ⟨⟨[]⟩⟩] 1<|.fn T6 [jI (-1),jI 0,jI 0,h 61 3,h 64 3,h 26 3,h 27 3,.string ⟨⟨[]⟩⟩] 1<|.lt 8 (.bin .neq) [h 68 3,h 69 3]<|.br 70 (.no) (.lt 7 (.conv .u64) [h 17 3]<|.lt 7 (.bin .rem) [h 71 7,.int .u64 (9)]<|.lt 3 (.conv .i64) [h 72 7]<|.lt 7 (.conv .u64) [h 17 3]<|.lt 7 (.bin .rem) [h 74 7,.int .u64 (5)]<|.lt 3 (.conv .i64) [h 75 7]<|.lt 7 (.conv .u64) [h 4 3]<|.lt 7 (.bin .rem) [h 77 7,.int .u64 (5)]<|.lt 3 (.conv .i64) [h 78 7]<|.fn S0 [jI 0,h 22 3,h 73 3,h 3 3,jI 0,jI 0,jI 0,.string ⟨⟨[]⟩⟩] 1<|.fn T6 [jI 0,h 22 3,h 73 3,h 3 3,jI 0,jI 0,jI 0,.string ⟨⟨[]⟩⟩] 1<|.lt 8 (.bin .neq) [h 80 3,h 81 3]<|.br 82 (.no) (.fn S0 [jI 0,jI 0,jI 0,h 76 3,h 79 3,h 26 3,h 27 3,.string ⟨⟨[]⟩⟩] 1<|.fn T6 [jI 0,jI 0,jI 0,h 76 3,h 79 3,h 26 3,h 27 3,.string ⟨⟨[]⟩⟩] 1<|.lt 8 (.bin .neq) [h 83 3,h 84 3]<|.br 85 (.no) (.lt 7 (.conv .u64) [h 17 3]<|.lt 7 (.bin .rem) [h 86 7,.int .u64 (9)]<|.lt 3 (.conv .i64) [h 87 7]<|.lt 7 (.conv .u64) [h 17 3]<|.lt 7 (.bin .rem) [h 89 7,.int .u64 (5)]<|.lt 3 (.conv .i64) [h 90 7]<|.lt 7 (.conv .u64) [h 4 3]<|.lt 7 (.bin .rem) [h 92 7,.int .u64 (5)]<|.lt 3 (.conv .i64) [h 93 7]<|.fn S0 [jI 1,h 22 3,h 88 3,h 3 3,jI 0,jI 0,jI 0,.string ⟨⟨[]⟩⟩] 1<|.fn T6 [jI 1,h 22 3,h 88 3,h 3 3,jI 0,jI 0,jI 0,.string ⟨⟨[]⟩⟩] 1<|.lt 8 (.bin .neq) [h 95 3,h 96 3]<|.br 97 (.no) (.fn S0 [jI 1,jI 0,jI 0,h 91 3,h 94 3,h 26 3,h 27 3,.string ⟨⟨[]⟩⟩] 1<|.fn T6 [jI 1,jI 0,jI 0,h 91 3,h 94 3,h 26 3,h 27 3,.string ⟨⟨[]⟩⟩] 1<|.lt 8 (.bin .neq) [h 98 3,h 99 3]<|.br 100 (.no) (.lt 7 (.conv .u64) [h 17 3]<|.lt 7 (.bin .rem) [h 101 7,.int .u64 (9)]<|.lt 3 (.conv .i64) [h 102 7]<|.lt 7 (.conv .u64) [h 17 3]<|.lt 7 (.bin .rem) [h 104 7,.int .u64 (5)]<|.lt 3 (.conv .i64) [h 105 7]<|.lt 7 (.conv .u64) [h 4 3]<|.lt 7 (.bin .rem) [h 107 7,.int .u64 (5)]<|.lt 3 (.conv .i64) [h 108 7]<|.fn S0 [jI 2,h 22 3,h 103 3,h 3 3,jI 0,jI 0,jI 0,.string ⟨⟨[]⟩⟩] 1<|.fn T6 [jI 2,h 22 3,h 103 3,h 3 3,jI 0,jI 0,jI 0,.string ⟨⟨[]⟩⟩] 1<|.lt 8 (.bin .neq) [h 110 3,h 111 3]<|.br 112 (.no) (.fn S0 [jI 2,jI 0,jI 0,h 106 3,h 109 3,h 26 3,h 27 3,.string ⟨⟨[]⟩⟩] 1<|.fn T6 [jI 2,jI 0,jI 0,h 106 3,h 109 3,h 26 3,h 27 3,.string ⟨⟨[]⟩⟩] 1<|.lt 8 (.bin .neq) [h 113 3,h 114 3]<|.br 115 (.no) (.lt 7 (.conv .u64) [h 17 3]<|.lt 7 (.bin .rem) [h 116 7,.int .u64 (9)]<|.lt 3 (.conv .i64) [h 117 7]<|.lt 7 (.conv .u64) [h 17 3]<|.lt 7 (.bin .rem) [h 119 7,.int .u64 (5)]<|.lt 3 (.conv .i64) [h 120 7]<|.lt 7 (.conv .u64) [h 4 3]<|.lt 7 (.bin .rem) [h 122 7,.int .u64 (5)]<|.lt 3 (.conv .i64) [h 123 7]<|.fn S0 [jI 3,h 22 3,h 118 3,h 3 3,jI 0,jI 0,jI 0,.string ⟨⟨[]⟩⟩] 1<|.fn T6 [jI 3,h 22 3,h 118 3,h 3 3,jI 0,jI 0,jI 0,.string ⟨⟨[]⟩⟩] 1<|.lt 8 (.bin .neq) [h 125 3,h 126 3]<|.br 127 (.no) (.fn S0 [jI 3,jI 0,jI 0,h 121 3,h 124 3,h 26 3,h 27 3,.string ⟨⟨[]⟩⟩] 1<|.fn T6 [jI 3,jI 0,jI 0,h 121 3,h 124 3,h 26 3,h 27 3,.string ⟨⟨[]⟩⟩] 1<|.lt 8 (.bin .neq) [h 128 3,h 129 3]<|.br 130 (.no) (.lt 7 (.conv .u64) [h 17 3]<|.lt 7 (.bin .rem) [h 131 7,.int .u64 (9)]<|.lt 3 (.conv .i64) [h 132 7]<|.lt 7 (.conv .u64) [h 17 3]<|.lt 7 (.bin .rem) [h 134 7,.int .u64 (5)]<|.lt 3 (.conv .i64) [h 135 7]<|.lt 7 (.conv .u64) [h 4 3]<|.lt 7 (.bin .rem) [h 137 7,.int .u64 (5)]<|.lt 3 (.conv .i64) [h 138 7]<|.fn S0 [jI 4,h 22 3,h 133 3,h 3 3,jI 0,jI 0,jI 0,.string ⟨⟨[]⟩⟩] 1<|.fn T6 [jI 4,h 22 3,h 133 3,h 3 3,jI 0,jI 0,jI 0,.string ⟨⟨[]⟩⟩] 1<|.lt 8 (.bin .neq) [h 140 3,h 141 3]<|.br 142 (.no) (.fn S0 [jI 4,jI 0,jI 0,h 136 3,h 139 3,h 26 3,h 27 3,.string ⟨⟨[]⟩⟩] 1<|.fn T6 [jI 4,jI 0,jI 0,h 136 3,h 139 3,h 26 3,h 27 3,.string ⟨⟨[]⟩⟩] 1<|.lt 8 (.bin .neq) [h 143 3,h 144 3]<|.br 145 (.no) (.lt 7 (.conv .u64) [h 17 3]<|.lt 7 (.bin .rem) [h 146 7,.int .u64 (9)]<|.lt 3 (.conv .i64) [h 147 7]<|.lt 7 (.conv .u64) [h 17 3]<|.lt 7 (.bin .rem) [h 149 7,.int .u64 (5)]<|.lt 3 (.conv .i64) [h 150 7]<|.lt 7 (.conv .u64) [h 4 3]<|.lt 7 (.bin .rem) [h 152 7,.int .u64 (5)]<|.lt 3 (.conv .i64) [h 153 7]<|.fn S0 [jI 5,h 22 3,h 148 3,h 3 3,jI 0,jI 0,jI 0,.string ⟨⟨[]⟩⟩] 1<|.fn T6 [jI 5,h 22 3,h 148 3,h 3 3,jI 0,jI 0,jI 0,.string ⟨⟨[]⟩⟩] 1<|.lt 8 (.bin .neq) [h 155 3,h 156 3]<|.br 157 (.no) (.fn S0 [jI 5,jI 0,jI 0,h 151 3,h 154 3,h 26 3,h 27 3,.string ⟨⟨[]⟩⟩] 1<|.fn T6 [jI 5,jI 0,jI 0,h 151 3,h 154 3,h 26 3,h 27 3,.string ⟨⟨[]⟩⟩] 1<|.lt 8 (.bin .neq) [h 158 3,h 159 3]<|.br 160 (.no) (.fn B0M [] 1<|.ret [h 161 8])))))))))))))))))))))))
theorem C1i{G:Nat→Option Obj}(hst:E6 Tryz.prog G gl H0 n0):T9 Tryz.prog G 3 [.a [3,3,3,3,3,3,3,9],.a [4,4,4,4,4,4,4,6,9],.s 3] B6Z [.s 8]:=by
 refine I5 (C:=cx C0G []) (d:=60) B9c (cxg (B7g hst) .nil) hst ⟨Tryz.f3,_,Tryz.func3,rfl⟩ (by kernel_rfl) (by kernel_rfl) ?_;intro us outs hs;unfold B6Z at hs;split at hs
 ·skip;rename_i k c m w b r cl t d0 d1 d2 d3 d4 d5 d6 dc u n;split at hs
  ·rename_i hc;cases hs;have zm:=C16 (d0%4) d3 d4 dc (by omega) (by omega);have zt:=C15 (d0%4) u;unfold B9c;refine s0L ?_;show Tr.sav _ _ (.cons 17 _ (.cons 16 _ (.cons 15 _ (.cons 14 _ (.cons 13 _ (.cons 12 _ (.cons 11 _ (.cons 10 _ (.cons 9 _ (.cons 8 _ (.cons 7 _ (.cons 6 _ (.cons 5 _ (.cons 4 _ (.cons 3 _ (.cons 2 _ (.cons 1 _ (.cons 0 _ (.nil)))))))))))))))))));refine s1 (A7I _) rfl rfl rfl ?_;refine s1 (C02 _ _ _ _) rfl rfl rfl ?_;refine s1 (m4 _ _ _ _ _ (by omega) (by omega) (by omega)) rfl rfl rfl ?_;refine s3 (B8o _ _ _ _ _ _ _ _ _ ⟨by omega,by omega,by omega,by omega,by omega,by omega,by omega,by omega,by omega,by omega,by omega,by omega,by omega,by omega,by omega,by omega,by omega⟩) rfl ?_;show Tr.sav _ _ (.cons 28 _ (.cons 27 _ (.cons 26 _ (.cons 25 _ (.cons 24 _ (.cons 23 _ (.cons 22 _ (.cons 21 _ _))))))));refine s31 (M6 _ _ _ _ _ _ _ _ ⟨by first|omega|exact(I7 _).1,by first|omega|exact(I7 _).2,by first|omega|(simp only[B0,B4,A6];omega)⟩) rfl ?_;refine s31 (N5 _ _ _ _ _ _ _ _ ⟨by first|omega|exact(I7 _).1,by first|omega|exact(I7 _).2,by first|omega|(simp only[B0,B4,A6];omega)⟩) rfl ?_;refine s1 (H1 _ _ _) rfl rfl rfl ?_;refine s4 rfl (fun g0=>?_) fun g0=>?_
   ·refine s8 ?_;exact absurd rfl g0
   refine s31 (M6 _ _ _ _ _ _ _ _ ⟨by first|omega|exact(I7 _).1,by first|omega|exact(I7 _).2,by first|omega|(simp only[B0,B4,A6];omega)⟩) rfl ?_;refine s31 (N5 _ _ _ _ _ _ _ _ ⟨by first|omega|exact(I7 _).1,by first|omega|exact(I7 _).2,by first|omega|(simp only[B0,B4,A6];omega)⟩) rfl ?_;refine s1 (H1 _ _ _) rfl rfl rfl ?_;refine s4 rfl (fun g1=>?_) fun g1=>?_
   ·refine s8 ?_;exact absurd rfl g1
   refine s31 (M6 _ _ _ _ _ _ _ _ ⟨by first|omega|exact(I7 _).1,by first|omega|exact(I7 _).2,by first|omega|(simp only[B0,B4,A6];omega)⟩) rfl ?_;refine s31 (N5 _ _ _ _ _ _ _ _ ⟨by first|omega|exact(I7 _).1,by first|omega|exact(I7 _).2,by first|omega|(simp only[B0,B4,A6];omega)⟩) rfl ?_;refine s1 (H1 _ _ _) rfl rfl rfl ?_;refine s4 rfl (fun g2=>?_) fun g2=>?_
   ·refine s8 ?_;exact absurd rfl g2
   refine s31 (M6 _ _ _ _ _ _ _ _ ⟨by first|omega|exact(I7 _).1,by first|omega|exact(I7 _).2,by first|omega|(simp only[B0,B4,A6];omega)⟩) rfl ?_;refine s31 (N5 _ _ _ _ _ _ _ _ ⟨by first|omega|exact(I7 _).1,by first|omega|exact(I7 _).2,by first|omega|(simp only[B0,B4,A6];omega)⟩) rfl ?_;refine s1 (H1 _ _ _) rfl rfl rfl ?_;refine s4 rfl (fun g3=>?_) fun g3=>?_
   ·refine s8 ?_;exact absurd rfl g3
   refine s31 (M6 _ _ _ _ _ _ _ _ ⟨by first|omega|exact(I7 _).1,by first|omega|exact(I7 _).2,by first|omega|(simp only[B0,B4,A6];omega)⟩) rfl ?_;refine s31 (N5 _ _ _ _ _ _ _ _ ⟨by first|omega|exact(I7 _).1,by first|omega|exact(I7 _).2,by first|omega|(simp only[B0,B4,A6];omega)⟩) rfl ?_;refine s1 (H1 _ _ _) rfl rfl rfl ?_;refine s4 rfl (fun g4=>?_) fun g4=>?_
   ·refine s8 ?_;exact absurd rfl g4
   refine s31 (M6 _ _ _ _ _ _ _ _ ⟨by first|omega|exact(I7 _).1,by first|omega|exact(I7 _).2,by first|omega|(simp only[B0,B4,A6];omega)⟩) rfl ?_;refine s31 (N5 _ _ _ _ _ _ _ _ ⟨by first|omega|exact(I7 _).1,by first|omega|exact(I7 _).2,by first|omega|(simp only[B0,B4,A6];omega)⟩) rfl ?_;refine s1 (H1 _ _ _) rfl rfl rfl ?_;refine s4 rfl (fun g5=>?_) fun g5=>?_
   ·refine s8 ?_;exact absurd rfl g5
   refine s31 (M6 _ _ _ _ _ _ _ _ ⟨by first|omega|exact(I7 _).1,by first|omega|exact(I7 _).2,by first|omega|(simp only[B0,B4,A6];omega)⟩) rfl ?_;refine s31 (N5 _ _ _ _ _ _ _ _ ⟨by first|omega|exact(I7 _).1,by first|omega|exact(I7 _).2,by first|omega|(simp only[B0,B4,A6];omega)⟩) rfl ?_;refine s1 (H1 _ _ _) rfl rfl rfl ?_;refine s4 rfl (fun g6=>?_) fun g6=>?_
   ·refine s8 ?_;exact absurd rfl g6
   refine s31 (M6 _ _ _ _ _ _ _ _ ⟨by first|omega|exact(I7 _).1,by first|omega|exact(I7 _).2,by first|omega|(simp only[B0,B4,A6];omega)⟩) rfl ?_;refine s31 (N5 _ _ _ _ _ _ _ _ ⟨by first|omega|exact(I7 _).1,by first|omega|exact(I7 _).2,by first|omega|(simp only[B0,B4,A6];omega)⟩) rfl ?_;refine s1 (H1 _ _ _) rfl rfl rfl ?_;refine s4 rfl (fun g7=>?_) fun g7=>?_
   ·refine s8 ?_;exact absurd rfl g7
   refine s31 (M6 _ _ _ _ _ _ _ _ ⟨by first|omega|exact(I7 _).1,by first|omega|exact(I7 _).2,by first|omega|(simp only[B0,B4,A6];omega)⟩) rfl ?_;refine s31 (N5 _ _ _ _ _ _ _ _ ⟨by first|omega|exact(I7 _).1,by first|omega|exact(I7 _).2,by first|omega|(simp only[B0,B4,A6];omega)⟩) rfl ?_;refine s1 (H1 _ _ _) rfl rfl rfl ?_;refine s4 rfl (fun g8=>?_) fun g8=>?_
   ·refine s8 ?_;exact absurd rfl g8
   first|refine s1 (D0 (P0 (by omega) (by omega))) rfl rfl rfl ?_|refine s1 (D9 _ _ _) rfl rfl rfl ?_
   first|refine s1 (G6 (by omega) (by omega)) rfl rfl rfl ?_|refine s1 (I6 _ _ _ (by omega)) rfl rfl rfl ?_
   first|refine s1 (D0 (D8 (by omega) (by omega))) rfl rfl rfl ?_|refine s1 (D9 _ _ _) rfl rfl rfl ?_
   first|refine s1 (D0 (P0 (by omega) (by omega))) rfl rfl rfl ?_|refine s1 (D9 _ _ _) rfl rfl rfl ?_
   first|refine s1 (G6 (by omega) (by omega)) rfl rfl rfl ?_|refine s1 (I6 _ _ _ (by omega)) rfl rfl rfl ?_
   first|refine s1 (D0 (D8 (by omega) (by omega))) rfl rfl rfl ?_|refine s1 (D9 _ _ _) rfl rfl rfl ?_
   first|refine s1 (D0 (P0 (by omega) (by omega))) rfl rfl rfl ?_|refine s1 (D9 _ _ _) rfl rfl rfl ?_
   first|refine s1 (G6 (by omega) (by omega)) rfl rfl rfl ?_|refine s1 (I6 _ _ _ (by omega)) rfl rfl rfl ?_
   first|refine s1 (D0 (D8 (by omega) (by omega))) rfl rfl rfl ?_|refine s1 (D9 _ _ _) rfl rfl rfl ?_
   refine s31 (M6 _ _ _ _ _ _ _ _ ⟨by first|omega|exact(I7 _).1,by first|omega|exact(I7 _).2,by first|omega|(simp only[B0,B4,A6];omega)⟩) rfl ?_;refine s31 (N5 _ _ _ _ _ _ _ _ ⟨by first|omega|exact(I7 _).1,by first|omega|exact(I7 _).2,by first|omega|(simp only[B0,B4,A6];omega)⟩) rfl ?_;refine s1 (H1 _ _ _) rfl rfl rfl ?_;refine s4 rfl (fun g9=>?_) fun g9=>?_
   ·refine s8 ?_;exact absurd rfl g9
   refine s31 (M6 _ _ _ _ _ _ _ _ ⟨by first|omega|exact(I7 _).1,by first|omega|exact(I7 _).2,by first|omega|(simp only[B0,B4,A6];omega)⟩) rfl ?_;refine s31 (N5 _ _ _ _ _ _ _ _ ⟨by first|omega|exact(I7 _).1,by first|omega|exact(I7 _).2,by first|omega|(simp only[B0,B4,A6];omega)⟩) rfl ?_;refine s1 (H1 _ _ _) rfl rfl rfl ?_;refine s4 rfl (fun g10=>?_) fun g10=>?_
   ·refine s8 ?_;exact absurd rfl g10
   first|refine s1 (D0 (P0 (by omega) (by omega))) rfl rfl rfl ?_|refine s1 (D9 _ _ _) rfl rfl rfl ?_
   first|refine s1 (G6 (by omega) (by omega)) rfl rfl rfl ?_|refine s1 (I6 _ _ _ (by omega)) rfl rfl rfl ?_
   first|refine s1 (D0 (D8 (by omega) (by omega))) rfl rfl rfl ?_|refine s1 (D9 _ _ _) rfl rfl rfl ?_
   first|refine s1 (D0 (P0 (by omega) (by omega))) rfl rfl rfl ?_|refine s1 (D9 _ _ _) rfl rfl rfl ?_
   first|refine s1 (G6 (by omega) (by omega)) rfl rfl rfl ?_|refine s1 (I6 _ _ _ (by omega)) rfl rfl rfl ?_
   first|refine s1 (D0 (D8 (by omega) (by omega))) rfl rfl rfl ?_|refine s1 (D9 _ _ _) rfl rfl rfl ?_
   first|refine s1 (D0 (P0 (by omega) (by omega))) rfl rfl rfl ?_|refine s1 (D9 _ _ _) rfl rfl rfl ?_
   first|refine s1 (G6 (by omega) (by omega)) rfl rfl rfl ?_|refine s1 (I6 _ _ _ (by omega)) rfl rfl rfl ?_
   first|refine s1 (D0 (D8 (by omega) (by omega))) rfl rfl rfl ?_|refine s1 (D9 _ _ _) rfl rfl rfl ?_
   refine s31 (M6 _ _ _ _ _ _ _ _ ⟨by first|omega|exact(I7 _).1,by first|omega|exact(I7 _).2,by first|omega|(simp only[B0,B4,A6];omega)⟩) rfl ?_;refine s31 (N5 _ _ _ _ _ _ _ _ ⟨by first|omega|exact(I7 _).1,by first|omega|exact(I7 _).2,by first|omega|(simp only[B0,B4,A6];omega)⟩) rfl ?_;refine s1 (H1 _ _ _) rfl rfl rfl ?_;refine s4 rfl (fun g11=>?_) fun g11=>?_
   ·refine s8 ?_;exact absurd rfl g11
   refine s31 (M6 _ _ _ _ _ _ _ _ ⟨by first|omega|exact(I7 _).1,by first|omega|exact(I7 _).2,by first|omega|(simp only[B0,B4,A6];omega)⟩) rfl ?_;refine s31 (N5 _ _ _ _ _ _ _ _ ⟨by first|omega|exact(I7 _).1,by first|omega|exact(I7 _).2,by first|omega|(simp only[B0,B4,A6];omega)⟩) rfl ?_;refine s1 (H1 _ _ _) rfl rfl rfl ?_;refine s4 rfl (fun g12=>?_) fun g12=>?_
   ·refine s8 ?_;exact absurd rfl g12
   first|refine s1 (D0 (P0 (by omega) (by omega))) rfl rfl rfl ?_|refine s1 (D9 _ _ _) rfl rfl rfl ?_
   first|refine s1 (G6 (by omega) (by omega)) rfl rfl rfl ?_|refine s1 (I6 _ _ _ (by omega)) rfl rfl rfl ?_
   first|refine s1 (D0 (D8 (by omega) (by omega))) rfl rfl rfl ?_|refine s1 (D9 _ _ _) rfl rfl rfl ?_
   first|refine s1 (D0 (P0 (by omega) (by omega))) rfl rfl rfl ?_|refine s1 (D9 _ _ _) rfl rfl rfl ?_
   first|refine s1 (G6 (by omega) (by omega)) rfl rfl rfl ?_|refine s1 (I6 _ _ _ (by omega)) rfl rfl rfl ?_
   first|refine s1 (D0 (D8 (by omega) (by omega))) rfl rfl rfl ?_|refine s1 (D9 _ _ _) rfl rfl rfl ?_
   first|refine s1 (D0 (P0 (by omega) (by omega))) rfl rfl rfl ?_|refine s1 (D9 _ _ _) rfl rfl rfl ?_
   first|refine s1 (G6 (by omega) (by omega)) rfl rfl rfl ?_|refine s1 (I6 _ _ _ (by omega)) rfl rfl rfl ?_
   first|refine s1 (D0 (D8 (by omega) (by omega))) rfl rfl rfl ?_|refine s1 (D9 _ _ _) rfl rfl rfl ?_
   refine s31 (M6 _ _ _ _ _ _ _ _ ⟨by first|omega|exact(I7 _).1,by first|omega|exact(I7 _).2,by first|omega|(simp only[B0,B4,A6];omega)⟩) rfl ?_;refine s31 (N5 _ _ _ _ _ _ _ _ ⟨by first|omega|exact(I7 _).1,by first|omega|exact(I7 _).2,by first|omega|(simp only[B0,B4,A6];omega)⟩) rfl ?_;refine s1 (H1 _ _ _) rfl rfl rfl ?_;refine s4 rfl (fun g13=>?_) fun g13=>?_
   ·refine s8 ?_;exact absurd rfl g13
   refine s31 (M6 _ _ _ _ _ _ _ _ ⟨by first|omega|exact(I7 _).1,by first|omega|exact(I7 _).2,by first|omega|(simp only[B0,B4,A6];omega)⟩) rfl ?_;refine s31 (N5 _ _ _ _ _ _ _ _ ⟨by first|omega|exact(I7 _).1,by first|omega|exact(I7 _).2,by first|omega|(simp only[B0,B4,A6];omega)⟩) rfl ?_;refine s1 (H1 _ _ _) rfl rfl rfl ?_;refine s4 rfl (fun g14=>?_) fun g14=>?_
   ·refine s8 ?_;exact absurd rfl g14
   first|refine s1 (D0 (P0 (by omega) (by omega))) rfl rfl rfl ?_|refine s1 (D9 _ _ _) rfl rfl rfl ?_
   first|refine s1 (G6 (by omega) (by omega)) rfl rfl rfl ?_|refine s1 (I6 _ _ _ (by omega)) rfl rfl rfl ?_
   first|refine s1 (D0 (D8 (by omega) (by omega))) rfl rfl rfl ?_|refine s1 (D9 _ _ _) rfl rfl rfl ?_
   first|refine s1 (D0 (P0 (by omega) (by omega))) rfl rfl rfl ?_|refine s1 (D9 _ _ _) rfl rfl rfl ?_
   first|refine s1 (G6 (by omega) (by omega)) rfl rfl rfl ?_|refine s1 (I6 _ _ _ (by omega)) rfl rfl rfl ?_
   first|refine s1 (D0 (D8 (by omega) (by omega))) rfl rfl rfl ?_|refine s1 (D9 _ _ _) rfl rfl rfl ?_
   first|refine s1 (D0 (P0 (by omega) (by omega))) rfl rfl rfl ?_|refine s1 (D9 _ _ _) rfl rfl rfl ?_
   first|refine s1 (G6 (by omega) (by omega)) rfl rfl rfl ?_|refine s1 (I6 _ _ _ (by omega)) rfl rfl rfl ?_
   first|refine s1 (D0 (D8 (by omega) (by omega))) rfl rfl rfl ?_|refine s1 (D9 _ _ _) rfl rfl rfl ?_
   refine s31 (M6 _ _ _ _ _ _ _ _ ⟨by first|omega|exact(I7 _).1,by first|omega|exact(I7 _).2,by first|omega|(simp only[B0,B4,A6];omega)⟩) rfl ?_;refine s31 (N5 _ _ _ _ _ _ _ _ ⟨by first|omega|exact(I7 _).1,by first|omega|exact(I7 _).2,by first|omega|(simp only[B0,B4,A6];omega)⟩) rfl ?_;refine s1 (H1 _ _ _) rfl rfl rfl ?_;refine s4 rfl (fun g15=>?_) fun g15=>?_
   ·refine s8 ?_;exact absurd rfl g15
   refine s31 (M6 _ _ _ _ _ _ _ _ ⟨by first|omega|exact(I7 _).1,by first|omega|exact(I7 _).2,by first|omega|(simp only[B0,B4,A6];omega)⟩) rfl ?_;refine s31 (N5 _ _ _ _ _ _ _ _ ⟨by first|omega|exact(I7 _).1,by first|omega|exact(I7 _).2,by first|omega|(simp only[B0,B4,A6];omega)⟩) rfl ?_;refine s1 (H1 _ _ _) rfl rfl rfl ?_;refine s4 rfl (fun g16=>?_) fun g16=>?_
   ·refine s8 ?_;exact absurd rfl g16
   first|refine s1 (D0 (P0 (by omega) (by omega))) rfl rfl rfl ?_|refine s1 (D9 _ _ _) rfl rfl rfl ?_
   first|refine s1 (G6 (by omega) (by omega)) rfl rfl rfl ?_|refine s1 (I6 _ _ _ (by omega)) rfl rfl rfl ?_
   first|refine s1 (D0 (D8 (by omega) (by omega))) rfl rfl rfl ?_|refine s1 (D9 _ _ _) rfl rfl rfl ?_
   first|refine s1 (D0 (P0 (by omega) (by omega))) rfl rfl rfl ?_|refine s1 (D9 _ _ _) rfl rfl rfl ?_
   first|refine s1 (G6 (by omega) (by omega)) rfl rfl rfl ?_|refine s1 (I6 _ _ _ (by omega)) rfl rfl rfl ?_
   first|refine s1 (D0 (D8 (by omega) (by omega))) rfl rfl rfl ?_|refine s1 (D9 _ _ _) rfl rfl rfl ?_
   first|refine s1 (D0 (P0 (by omega) (by omega))) rfl rfl rfl ?_|refine s1 (D9 _ _ _) rfl rfl rfl ?_
   first|refine s1 (G6 (by omega) (by omega)) rfl rfl rfl ?_|refine s1 (I6 _ _ _ (by omega)) rfl rfl rfl ?_
   first|refine s1 (D0 (D8 (by omega) (by omega))) rfl rfl rfl ?_|refine s1 (D9 _ _ _) rfl rfl rfl ?_
   refine s31 (M6 _ _ _ _ _ _ _ _ ⟨by first|omega|exact(I7 _).1,by first|omega|exact(I7 _).2,by first|omega|(simp only[B0,B4,A6];omega)⟩) rfl ?_;refine s31 (N5 _ _ _ _ _ _ _ _ ⟨by first|omega|exact(I7 _).1,by first|omega|exact(I7 _).2,by first|omega|(simp only[B0,B4,A6];omega)⟩) rfl ?_;refine s1 (H1 _ _ _) rfl rfl rfl ?_;refine s4 rfl (fun g17=>?_) fun g17=>?_
   ·refine s8 ?_;exact absurd rfl g17
   refine s31 (M6 _ _ _ _ _ _ _ _ ⟨by first|omega|exact(I7 _).1,by first|omega|exact(I7 _).2,by first|omega|(simp only[B0,B4,A6];omega)⟩) rfl ?_;refine s31 (N5 _ _ _ _ _ _ _ _ ⟨by first|omega|exact(I7 _).1,by first|omega|exact(I7 _).2,by first|omega|(simp only[B0,B4,A6];omega)⟩) rfl ?_;refine s1 (H1 _ _ _) rfl rfl rfl ?_;refine s4 rfl (fun g18=>?_) fun g18=>?_
   ·refine s8 ?_;exact absurd rfl g18
   first|refine s1 (D0 (P0 (by omega) (by omega))) rfl rfl rfl ?_|refine s1 (D9 _ _ _) rfl rfl rfl ?_
   first|refine s1 (G6 (by omega) (by omega)) rfl rfl rfl ?_|refine s1 (I6 _ _ _ (by omega)) rfl rfl rfl ?_
   first|refine s1 (D0 (D8 (by omega) (by omega))) rfl rfl rfl ?_|refine s1 (D9 _ _ _) rfl rfl rfl ?_
   first|refine s1 (D0 (P0 (by omega) (by omega))) rfl rfl rfl ?_|refine s1 (D9 _ _ _) rfl rfl rfl ?_
   first|refine s1 (G6 (by omega) (by omega)) rfl rfl rfl ?_|refine s1 (I6 _ _ _ (by omega)) rfl rfl rfl ?_
   first|refine s1 (D0 (D8 (by omega) (by omega))) rfl rfl rfl ?_|refine s1 (D9 _ _ _) rfl rfl rfl ?_
   first|refine s1 (D0 (P0 (by omega) (by omega))) rfl rfl rfl ?_|refine s1 (D9 _ _ _) rfl rfl rfl ?_
   first|refine s1 (G6 (by omega) (by omega)) rfl rfl rfl ?_|refine s1 (I6 _ _ _ (by omega)) rfl rfl rfl ?_
   first|refine s1 (D0 (D8 (by omega) (by omega))) rfl rfl rfl ?_|refine s1 (D9 _ _ _) rfl rfl rfl ?_
   refine s31 (M6 _ _ _ _ _ _ _ _ ⟨by first|omega|exact(I7 _).1,by first|omega|exact(I7 _).2,by first|omega|(simp only[B0,B4,A6];omega)⟩) rfl ?_;refine s31 (N5 _ _ _ _ _ _ _ _ ⟨by first|omega|exact(I7 _).1,by first|omega|exact(I7 _).2,by first|omega|(simp only[B0,B4,A6];omega)⟩) rfl ?_;refine s1 (H1 _ _ _) rfl rfl rfl ?_;refine s4 rfl (fun g19=>?_) fun g19=>?_
   ·refine s8 ?_;exact absurd rfl g19
   refine s31 (M6 _ _ _ _ _ _ _ _ ⟨by first|omega|exact(I7 _).1,by first|omega|exact(I7 _).2,by first|omega|(simp only[B0,B4,A6];omega)⟩) rfl ?_;refine s31 (N5 _ _ _ _ _ _ _ _ ⟨by first|omega|exact(I7 _).1,by first|omega|exact(I7 _).2,by first|omega|(simp only[B0,B4,A6];omega)⟩) rfl ?_;refine s1 (H1 _ _ _) rfl rfl rfl ?_;refine s4 rfl (fun g20=>?_) fun g20=>?_
   ·refine s8 ?_;exact absurd rfl g20
   first|refine s1 (D0 (P0 (by omega) (by omega))) rfl rfl rfl ?_|refine s1 (D9 _ _ _) rfl rfl rfl ?_
   first|refine s1 (G6 (by omega) (by omega)) rfl rfl rfl ?_|refine s1 (I6 _ _ _ (by omega)) rfl rfl rfl ?_
   first|refine s1 (D0 (D8 (by omega) (by omega))) rfl rfl rfl ?_|refine s1 (D9 _ _ _) rfl rfl rfl ?_
   first|refine s1 (D0 (P0 (by omega) (by omega))) rfl rfl rfl ?_|refine s1 (D9 _ _ _) rfl rfl rfl ?_
   first|refine s1 (G6 (by omega) (by omega)) rfl rfl rfl ?_|refine s1 (I6 _ _ _ (by omega)) rfl rfl rfl ?_
   first|refine s1 (D0 (D8 (by omega) (by omega))) rfl rfl rfl ?_|refine s1 (D9 _ _ _) rfl rfl rfl ?_
   first|refine s1 (D0 (P0 (by omega) (by omega))) rfl rfl rfl ?_|refine s1 (D9 _ _ _) rfl rfl rfl ?_
   first|refine s1 (G6 (by omega) (by omega)) rfl rfl rfl ?_|refine s1 (I6 _ _ _ (by omega)) rfl rfl rfl ?_
   first|refine s1 (D0 (D8 (by omega) (by omega))) rfl rfl rfl ?_|refine s1 (D9 _ _ _) rfl rfl rfl ?_
   refine s31 (M6 _ _ _ _ _ _ _ _ ⟨by first|omega|exact(I7 _).1,by first|omega|exact(I7 _).2,by first|omega|(simp only[B0,B4,A6];omega)⟩) rfl ?_;refine s31 (N5 _ _ _ _ _ _ _ _ ⟨by first|omega|exact(I7 _).1,by first|omega|exact(I7 _).2,by first|omega|(simp only[B0,B4,A6];omega)⟩) rfl ?_;refine s1 (H1 _ _ _) rfl rfl rfl ?_;refine s4 rfl (fun g21=>?_) fun g21=>?_
   ·refine s8 ?_;exact absurd rfl g21
   refine s31 (M6 _ _ _ _ _ _ _ _ ⟨by first|omega|exact(I7 _).1,by first|omega|exact(I7 _).2,by first|omega|(simp only[B0,B4,A6];omega)⟩) rfl ?_;refine s31 (N5 _ _ _ _ _ _ _ _ ⟨by first|omega|exact(I7 _).1,by first|omega|exact(I7 _).2,by first|omega|(simp only[B0,B4,A6];omega)⟩) rfl ?_;refine s1 (H1 _ _ _) rfl rfl rfl ?_;refine s4 rfl (fun g22=>?_) fun g22=>?_
   ·refine s8 ?_;exact absurd rfl g22
   refine s31 B7y rfl ?_;refine s7 [.bool _] rfl ?_;rfl
  ·cases hs
 ·cases hs
end Go.Proofs.YtdimocjaepnifaaGreatDoor
namespace Go.Proofs.YtdimocjaepnifaaGreatDoor.keysChecksDone
set_option linter.all false
open Go Go.Sx Go.ChangeShapes Go.WideShapes Go.ChangeAt Go.RowKit
set_option linter.unusedVariables false
set_option maxRecDepth 100000
theorem start{W:World}(h:laidMetH Tryz.prog Rows.keysChecksRow.laid W):E6 Tryz.prog (fun k=>W.heap[k]?) gl H0 n0:=by
 rw[MakeChecks.laidMetH_plain _ _ _ (by kernel_rfl)]at h;have r4:A7o W 4 [.int .u8 (0),.int .u8 (1),.int .u8 (28),.int .u8 (2),.int .u8 (29),.int .u8 (14),.int .u8 (24),.int .u8 (3),.int .u8 (30),.int .u8 (22),.int .u8 (20),.int .u8 (15),.int .u8 (25),.int .u8 (17),.int .u8 (4),.int .u8 (8),.int .u8 (31),.int .u8 (27),.int .u8 (13),.int .u8 (23),.int .u8 (21),.int .u8 (19),.int .u8 (16),.int .u8 (7),.int .u8 (26),.int .u8 (12),.int .u8 (18),.int .u8 (6),.int .u8 (11),.int .u8 (5),.int .u8 (10),.int .u8 (9)]:=A0o (by kernel_rfl) (A2y (n := "math/bits.deBruijn32tab") (d:=Rows.laid_math_bits_deBruijn32tab) (g:=4) (k:=6) (t:=198) h (D6 (i:=0) rfl) (by kernel_rfl) (by kernel_rfl) (by kernel_rfl));have r5:A7o W 5 [.int .u8 (0),.int .u8 (1),.int .u8 (56),.int .u8 (2),.int .u8 (57),.int .u8 (49),.int .u8 (28),.int .u8 (3),.int .u8 (61),.int .u8 (58),.int .u8 (42),.int .u8 (50),.int .u8 (38),.int .u8 (29),.int .u8 (17),.int .u8 (4),.int .u8 (62),.int .u8 (47),.int .u8 (59),.int .u8 (36),.int .u8 (45),.int .u8 (43),.int .u8 (51),.int .u8 (22),.int .u8 (53),.int .u8 (39),.int .u8 (33),.int .u8 (30),.int .u8 (24),.int .u8 (18),.int .u8 (12),.int .u8 (5),.int .u8 (63),.int .u8 (55),.int .u8 (48),.int .u8 (27),.int .u8 (60),.int .u8 (41),.int .u8 (37),.int .u8 (16),.int .u8 (46),.int .u8 (35),.int .u8 (44),.int .u8 (21),.int .u8 (52),.int .u8 (32),.int .u8 (23),.int .u8 (11),.int .u8 (54),.int .u8 (26),.int .u8 (40),.int .u8 (15),.int .u8 (34),.int .u8 (20),.int .u8 (31),.int .u8 (10),.int .u8 (25),.int .u8 (14),.int .u8 (19),.int .u8 (9),.int .u8 (13),.int .u8 (8),.int .u8 (7),.int .u8 (6)]:=A0o (by kernel_rfl) (A2y (n := "math/bits.deBruijn64tab") (d:=Rows.laid_math_bits_deBruijn64tab) (g:=5) (k:=6) (t:=199) h (D6 (i:=1) rfl) (by kernel_rfl) (by kernel_rfl) (by kernel_rfl));have r3:A7o W 3 [.int .u64 (1),.int .u64 (10),.int .u64 (100),.int .u64 (1000),.int .u64 (10000),.int .u64 (100000),.int .u64 (1000000),.int .u64 (10000000),.int .u64 (100000000),.int .u64 (1000000000),.int .u64 (10000000000),.int .u64 (100000000000),.int .u64 (1000000000000),.int .u64 (10000000000000),.int .u64 (100000000000000),.int .u64 (1000000000000000),.int .u64 (10000000000000000),.int .u64 (100000000000000000),.int .u64 (1000000000000000000),.int .u64 (10000000000000000000)]:=A0o (by kernel_rfl) (A2y (n := "internal/strconv.uint64pow10") (d:=Rows.laid_internal_strconv_uint64pow10) (g:=3) (k:=6) (t:=184) h (D6 (i:=2) rfl) (by kernel_rfl) (by kernel_rfl) (by kernel_rfl));have r2:A7o W 2 [.int .u8 (128),.int .u8 (191),.int .u8 (160),.int .u8 (191),.int .u8 (128),.int .u8 (159),.int .u8 (144),.int .u8 (191),.int .u8 (128),.int .u8 (143),.int .u8 (0),.int .u8 (0),.int .u8 (0),.int .u8 (0),.int .u8 (0),.int .u8 (0),.int .u8 (0),.int .u8 (0),.int .u8 (0),.int .u8 (0),.int .u8 (0),.int .u8 (0),.int .u8 (0),.int .u8 (0),.int .u8 (0),.int .u8 (0),.int .u8 (0),.int .u8 (0),.int .u8 (0),.int .u8 (0),.int .u8 (0),.int .u8 (0)]:=A0o (by kernel_rfl) (A2y (n := "unicode/utf8.acceptRanges") (d:=Rows.laid_unicode_utf8_acceptRanges) (g:=2) (k:=6) (t:=159) h (D6 (i:=3) rfl) (by kernel_rfl) (by kernel_rfl) (by kernel_rfl));have r1:A7o W 1 [.int .u8 (240),.int .u8 (240),.int .u8 (240),.int .u8 (240),.int .u8 (240),.int .u8 (240),.int .u8 (240),.int .u8 (240),.int .u8 (240),.int .u8 (240),.int .u8 (240),.int .u8 (240),.int .u8 (240),.int .u8 (240),.int .u8 (240),.int .u8 (240),.int .u8 (240),.int .u8 (240),.int .u8 (240),.int .u8 (240),.int .u8 (240),.int .u8 (240),.int .u8 (240),.int .u8 (240),.int .u8 (240),.int .u8 (240),.int .u8 (240),.int .u8 (240),.int .u8 (240),.int .u8 (240),.int .u8 (240),.int .u8 (240),.int .u8 (240),.int .u8 (240),.int .u8 (240),.int .u8 (240),.int .u8 (240),.int .u8 (240),.int .u8 (240),.int .u8 (240),.int .u8 (240),.int .u8 (240),.int .u8 (240),.int .u8 (240),.int .u8 (240),.int .u8 (240),.int .u8 (240),.int .u8 (240),.int .u8 (240),.int .u8 (240),.int .u8 (240),.int .u8 (240),.int .u8 (240),.int .u8 (240),.int .u8 (240),.int .u8 (240),.int .u8 (240),.int .u8 (240),.int .u8 (240),.int .u8 (240),.int .u8 (240),.int .u8 (240),.int .u8 (240),.int .u8 (240),.int .u8 (240),.int .u8 (240),.int .u8 (240),.int .u8 (240),.int .u8 (240),.int .u8 (240),.int .u8 (240),.int .u8 (240),.int .u8 (240),.int .u8 (240),.int .u8 (240),.int .u8 (240),.int .u8 (240),.int .u8 (240),.int .u8 (240),.int .u8 (240),.int .u8 (240),.int .u8 (240),.int .u8 (240),.int .u8 (240),.int .u8 (240),.int .u8 (240),.int .u8 (240),.int .u8 (240),.int .u8 (240),.int .u8 (240),.int .u8 (240),.int .u8 (240),.int .u8 (240),.int .u8 (240),.int .u8 (240),.int .u8 (240),.int .u8 (240),.int .u8 (240),.int .u8 (240),.int .u8 (240),.int .u8 (240),.int .u8 (240),.int .u8 (240),.int .u8 (240),.int .u8 (240),.int .u8 (240),.int .u8 (240),.int .u8 (240),.int .u8 (240),.int .u8 (240),.int .u8 (240),.int .u8 (240),.int .u8 (240),.int .u8 (240),.int .u8 (240),.int .u8 (240),.int .u8 (240),.int .u8 (240),.int .u8 (240),.int .u8 (240),.int .u8 (240),.int .u8 (240),.int .u8 (240),.int .u8 (240),.int .u8 (240),.int .u8 (240),.int .u8 (240),.int .u8 (240),.int .u8 (241),.int .u8 (241),.int .u8 (241),.int .u8 (241),.int .u8 (241),.int .u8 (241),.int .u8 (241),.int .u8 (241),.int .u8 (241),.int .u8 (241),.int .u8 (241),.int .u8 (241),.int .u8 (241),.int .u8 (241),.int .u8 (241),.int .u8 (241),.int .u8 (241),.int .u8 (241),.int .u8 (241),.int .u8 (241),.int .u8 (241),.int .u8 (241),.int .u8 (241),.int .u8 (241),.int .u8 (241),.int .u8 (241),.int .u8 (241),.int .u8 (241),.int .u8 (241),.int .u8 (241),.int .u8 (241),.int .u8 (241),.int .u8 (241),.int .u8 (241),.int .u8 (241),.int .u8 (241),.int .u8 (241),.int .u8 (241),.int .u8 (241),.int .u8 (241),.int .u8 (241),.int .u8 (241),.int .u8 (241),.int .u8 (241),.int .u8 (241),.int .u8 (241),.int .u8 (241),.int .u8 (241),.int .u8 (241),.int .u8 (241),.int .u8 (241),.int .u8 (241),.int .u8 (241),.int .u8 (241),.int .u8 (241),.int .u8 (241),.int .u8 (241),.int .u8 (241),.int .u8 (241),.int .u8 (241),.int .u8 (241),.int .u8 (241),.int .u8 (241),.int .u8 (241),.int .u8 (241),.int .u8 (241),.int .u8 (2),.int .u8 (2),.int .u8 (2),.int .u8 (2),.int .u8 (2),.int .u8 (2),.int .u8 (2),.int .u8 (2),.int .u8 (2),.int .u8 (2),.int .u8 (2),.int .u8 (2),.int .u8 (2),.int .u8 (2),.int .u8 (2),.int .u8 (2),.int .u8 (2),.int .u8 (2),.int .u8 (2),.int .u8 (2),.int .u8 (2),.int .u8 (2),.int .u8 (2),.int .u8 (2),.int .u8 (2),.int .u8 (2),.int .u8 (2),.int .u8 (2),.int .u8 (2),.int .u8 (2),.int .u8 (19),.int .u8 (3),.int .u8 (3),.int .u8 (3),.int .u8 (3),.int .u8 (3),.int .u8 (3),.int .u8 (3),.int .u8 (3),.int .u8 (3),.int .u8 (3),.int .u8 (3),.int .u8 (3),.int .u8 (35),.int .u8 (3),.int .u8 (3),.int .u8 (52),.int .u8 (4),.int .u8 (4),.int .u8 (4),.int .u8 (68),.int .u8 (241),.int .u8 (241),.int .u8 (241),.int .u8 (241),.int .u8 (241),.int .u8 (241),.int .u8 (241),.int .u8 (241),.int .u8 (241),.int .u8 (241),.int .u8 (241)]:=A0o (by kernel_rfl) (A2y (n := "unicode/utf8.first") (d:=Rows.laid_unicode_utf8_first) (g:=1) (k:=6) (t:=156) h (D6 (i:=4) rfl) (by kernel_rfl) (by kernel_rfl) (by kernel_rfl));have hs:gl≤W.heap.size:=by
  obtain⟨C,T,fz,e,_⟩:=r5
  have:=(D3.1 e).1;show 6≤_;omega
 refine B5V hs (by decide) ?_ ?_
 ·have e:(A3t.all fun r=>Nat.blt r.1 gl)=true:=by kernel_rfl
  exact fun r hr=>A1 (D4.1 e r hr)
 ·intro r hr;unfold A3t at hr;rcases C3.1 hr with rfl|hr
  ·exact r4
  rcases C3.1 hr with rfl|hr
  ·exact r5
  rcases C3.1 hr with rfl|hr
  ·exact r3
  rcases C3.1 hr with rfl|hr
  ·exact r2
  rcases C3.1 hr with rfl|hr
  ·exact r1
  cases hr
theorem own:ownKnob Tryz.prog.godebug=none:=by kernel_rfl
theorem A9m:laidOutB Tryz.prog=true:=by kernel_rfl
noncomputable def low:Nat:=(World.holding Tryz.prog default ⟨#[],#[.agg #[.int .i64 0,.int .i64 0,.int .i64 0,.int .i64 0,.int .i64 0,.int .i64 0,.int .i64 0,.string ⟨#[]⟩],.agg #[.int .u8 0,.int .u8 0,.int .u8 0,.int .u8 0,.int .u8 0,.int .u8 0,.int .u8 0,.int .u32 0,.string ⟨#[]⟩],.int .i64 0],[]⟩).heap.size
noncomputable def put(g:Nat)(cs:Array Value)(h:Array Obj):Array Obj:=h.modify g fun
 | .cells _ t frozen=>.cells cs t frozen
 | o=>o
noncomputable def A5M(os:Os):World :=
 let w0:=World.holding Tryz.prog os ⟨#[],#[.agg #[.int .i64 0,.int .i64 0,.int .i64 0,.int .i64 0,.int .i64 0,.int .i64 0,.int .i64 0,.string ⟨#[]⟩],.agg #[.int .u8 0,.int .u8 0,.int .u8 0,.int .u8 0,.int .u8 0,.int .u8 0,.int .u8 0,.int .u32 0,.string ⟨#[]⟩],.int .i64 0],[]⟩
 { w0 with heap:=(put 1 (A3t.getD 4 (0,[])).2.toArray (put 2 (A3t.getD 3 (0,[])).2.toArray (put 3 (A3t.getD 2 (0,[])).2.toArray (put 5 (A3t.getD 1 (0,[])).2.toArray (put 4 (A3t.getD 0 (0,[])).2.toArray w0.heap))))) }
theorem B6V(os:Os):laidMet Tryz.prog Rows.keysChecksRow.laid ((A5M os).forCall (fun _ _=>0) ⟨#[],#[.agg #[.int .i64 0,.int .i64 0,.int .i64 0,.int .i64 0,.int .i64 0,.int .i64 0,.int .i64 0,.string ⟨#[]⟩],.agg #[.int .u8 0,.int .u8 0,.int .u8 0,.int .u8 0,.int .u8 0,.int .u8 0,.int .u8 0,.int .u32 0,.string ⟨#[]⟩],.int .i64 0],[]⟩).memory :=
 laidMet_of_run' 8 (by kernel_rfl) (by kernel_rfl)
theorem C1O(os:Os){H:Type}(enc:TypeId×Value→H):∃ places,DataW.whole enc Tryz.prog ((A5M os).forCall (fun _ _=>0) ⟨#[],#[.agg #[.int .i64 0,.int .i64 0,.int .i64 0,.int .i64 0,.int .i64 0,.int .i64 0,.int .i64 0,.string ⟨#[]⟩],.agg #[.int .u8 0,.int .u8 0,.int .u8 0,.int .u8 0,.int .u8 0,.int .u8 0,.int .u8 0,.int .u32 0,.string ⟨#[]⟩],.int .i64 0],[]⟩).memory Tryz.f3.params.toList Rows.keysChecksSpec.vars false [.agg #[.int .i64 0,.int .i64 0,.int .i64 0,.int .i64 0,.int .i64 0,.int .i64 0,.int .i64 0,.string ⟨#[]⟩],.agg #[.int .u8 0,.int .u8 0,.int .u8 0,.int .u8 0,.int .u8 0,.int .u8 0,.int .u8 0,.int .u32 0,.string ⟨#[]⟩],.int .i64 0] 8=some ([.agg [.lit (.int .i64 0),.lit (.int .i64 0),.lit (.int .i64 0),.lit (.int .i64 0),.lit (.int .i64 0),.lit (.int .i64 0),.lit (.int .i64 0),.lit (.string [])],.agg [.lit (.int .u8 0),.lit (.int .u8 0),.lit (.int .u8 0),.lit (.int .u8 0),.lit (.int .u8 0),.lit (.int .u8 0),.lit (.int .u8 0),.lit (.int .u32 0),.lit (.string [])],.lit (.int .i64 0)],[],places) :=
 ⟨[],by kernel_rfl⟩
theorem B7F(H:Type)(enc:TypeId×Value→H)(W:World)(base:Nat)(args:Array Value)(ds gs:List (DataW H))(before:List MemPlace)
  (hval:∀ (j:Nat) t v,Tryz.f3.params[j]? = some t→args[j]? = some v→Value.okWide Tryz.prog W .any base t v)
  (hW:DataW.Whole enc Tryz.prog Tryz.f3.params.toList Rows.keysChecksSpec.vars false W args.toList ds gs before) (hL:laidMetH Tryz.prog Rows.keysChecksRow.laid W)
  (hwt:(DataW.weightsEach Tryz.prog (Tryz.f3.params.toList++(OpenSpec.ofChange Rows.keysChecksSpec).bare.plain.varTypes Tryz.prog) (ds++gs)).all (·≤reachBytes)=true) :
  Calls Tryz.prog 3 args W fun e W'=>∃ v,e=.returned v∧Rows.keysChecksSpec.post enc Tryz.prog Tryz.f3 false true false false W args v W':=by
 have hW':=hW;obtain⟨p,q,hA0,hV,rfl,hfz,hnd⟩:=hW;have hA:DataW.TrodAll enc Tryz.prog W 0 (fun _=>true) true Tryz.f3.params.toList args.toList ds p:=hA0;rw[Tryz.params3]at hA hval hwt;obtain⟨v0,vs0,d0,ds0,p0,q0,hargs,rfl,rfl,h0,tl0⟩:=trodAll_cons hA;obtain⟨v1,vs1,d1,ds1,p1,q1,rfl,rfl,rfl,h1,tl1⟩:=trodAll_cons tl0;obtain⟨v2,vs2,d2,ds2,p2,q2,rfl,rfl,rfl,h2,tl2⟩:=trodAll_cons tl1;obtain⟨rfl,rfl,rfl⟩:=trodAll_nil tl2;obtain rfl:args=#[v0,v1,v2]:=by cases args;simp_all
 obtain⟨rfl,rfl⟩:=trodVars_none hV;have lt0:∀ x ∈ p0,x.block<W.heap.size:=by obtain⟨m,hm⟩:=h0;exact DataW.trod_lt m _ _ _ hm
 have wl0:q9 Tryz.prog 23 d0:=U9 (i:=0) hwt rfl rfl;obtain⟨⟨a0_0,a0_1,a0_2,a0_3,a0_4,a0_5,a0_6,a0_7⟩,s0,q0⟩:=B91 (r:=(rC (Q7 .i64) (rC (Q7 .i64) (rC (Q7 .i64) (rC (Q7 .i64) (rC (Q7 .i64) (rC (Q7 .i64) (rC (Q7 .i64) (r1 A7_))))))))) (tg:=[3,3,3,3,3,3,3,9]) (RdR.of (k:=12) (ts:=[3,3,3,3,3,3,3,9]) (by kernel_rfl) (RdL.cons (RdC.i64 (by kernel_rfl)) (RdL.cons (RdC.i64 (by kernel_rfl)) (RdL.cons (RdC.i64 (by kernel_rfl)) (RdL.cons (RdC.i64 (by kernel_rfl)) (RdL.cons (RdC.i64 (by kernel_rfl)) (RdL.cons (RdC.i64 (by kernel_rfl)) (RdL.cons (RdC.i64 (by kernel_rfl)) (RdL.nil1 (RdC.str' (by kernel_rfl))))))))))) (fun _=>by simp only[rC,r1,D5,G7,cSl,Q7,B7I,A7_,B72];rfl) (A6x (by kernel_rfl) (hval 0 23 v0 rfl rfl)) h0 wl0;try simp only at q0
 have lt1:∀ x ∈ p1,x.block<W.heap.size:=by obtain⟨m,hm⟩:=h1;exact DataW.trod_lt m _ _ _ hm
 have wl1:q9 Tryz.prog 26 d1:=U9 (i:=1) hwt rfl rfl;obtain⟨⟨a1_0,a1_1,a1_2,a1_3,a1_4,a1_5,a1_6,a1_7,a1_8⟩,s1,q1⟩:=B91 (r:=(rC (Q7 .u8) (rC (Q7 .u8) (rC (Q7 .u8) (rC (Q7 .u8) (rC (Q7 .u8) (rC (Q7 .u8) (rC (Q7 .u8) (rC (Q7 .u32) (r1 A7_)))))))))) (tg:=[4,4,4,4,4,4,4,6,9]) (RdR.of (k:=12) (ts:=[5,5,5,5,5,5,5,24,9]) (by kernel_rfl) (RdL.cons (RdC.u8 (by kernel_rfl)) (RdL.cons (RdC.u8 (by kernel_rfl)) (RdL.cons (RdC.u8 (by kernel_rfl)) (RdL.cons (RdC.u8 (by kernel_rfl)) (RdL.cons (RdC.u8 (by kernel_rfl)) (RdL.cons (RdC.u8 (by kernel_rfl)) (RdL.cons (RdC.u8 (by kernel_rfl)) (RdL.cons (RdC.u32 (by kernel_rfl)) (RdL.nil1 (RdC.str' (by kernel_rfl)))))))))))) (fun _=>by simp only[rC,r1,D5,G7,cSl,Q7,B7I,A7_,B72];rfl) (A6x (by kernel_rfl) (hval 1 26 v1 rfl rfl)) h1 wl1;try simp only at q1
 have lt2:∀ x ∈ p2,x.block<W.heap.size:=by obtain⟨m,hm⟩:=h2;exact DataW.trod_lt m _ _ _ hm
 have wl2:q9 Tryz.prog 3 d2:=U9 (i:=2) hwt rfl rfl;obtain⟨a2,s2,q2⟩:=C2F (c:=(Q7 .i64)) (RdC.i64 (by kernel_rfl)) (by kernel_rfl) (hval 2 3 v2 rfl rfl) h2 wl2;try simp only at q2
 clear hA0;simp only[List.append_nil]at hW';have hsh:ShL (B1Y W) [.a [3,3,3,3,3,3,3,9],.a [4,4,4,4,4,4,4,6,9],.s 3] [.int .i64 a0_0,.int .i64 a0_1,.int .i64 a0_2,.int .i64 a0_3,.int .i64 a0_4,.int .i64 a0_5,.int .i64 a0_6,.str a0_7,.int .u8 a1_0,.int .u8 a1_1,.int .u8 a1_2,.int .u8 a1_3,.int .u8 a1_4,.int .u8 a1_5,.int .u8 a1_6,.int .u32 a1_7,.str a1_8,.int .i64 a2] [v0,v1,v2]:=(.cons s0 (.cons s1 (.cons s2 .nil)));obtain⟨_,hc⟩:=C1i (start hL) [.int .i64 a0_0,.int .i64 a0_1,.int .i64 a0_2,.int .i64 a0_3,.int .i64 a0_4,.int .i64 a0_5,.int .i64 a0_6,.str a0_7,.int .u8 a1_0,.int .u8 a1_1,.int .u8 a1_2,.int .u8 a1_3,.int .u8 a1_4,.int .u8 a1_5,.int .u8 a1_6,.int .u32 a1_7,.str a1_8,.int .i64 a2] [.bool true] W _ (B1Y W) hsh (B8V _ _ _ _ _ _ _ _ _ _ _ _ _ _ _ _ _ _ ⟨by omega,by omega,by omega,by omega,by omega,by omega,by omega,by omega,by omega,by omega,by omega,by omega,by omega,by omega,by omega,by omega,by omega,by omega,by omega,by omega,by omega,by omega⟩) (fun k o h=>h) (fun k o h=>h);refine hc.mono fun e W' ⟨r,R',hr,he,hg,_⟩=>?_
 have hrv:=A0f (vs2:=[.bool true]) hr rfl;subst hrv;subst he;have bel:Below W.heap.size W W':=⟨hg.os.1,hg.os.2.1,hg.os.2.2,hg.size,hg.keep⟩;exact⟨_,rfl,_,_,_,[],_,[],hW',trodAll_mk1 (shut_bool Tryz.underlying4 _),(trodAll_cons_mk (Below.trod A9m (by kernel_rfl) (of_decide_eq_true (by kernel_rfl)) h0 bel lt0) (trodAll_cons_mk (Below.trod A9m (by kernel_rfl) (of_decide_eq_true (by kernel_rfl)) h1 bel lt1) (trodAll_cons_mk (Below.trod A9m (by kernel_rfl) (of_decide_eq_true (by kernel_rfl)) h2 bel lt2) trodAll_mk0))),rfl,hg.kept _,fun h=>by cases h⟩
theorem C0t(os:Os)(started:os.Started)(H:Type)(enc:TypeId×Value→H)(F:Stop.Interp) :
  ReturnsInHanded {} Tryz.checked os 3 .any ((OpenSpec.ofChange Rows.keysChecksSpec).preRow enc Tryz.prog Tryz.f3 Rows.keysChecksRow.domain false Rows.keysChecksRow.laid) (((OpenSpec.ofChange Rows.keysChecksSpec).at F).post enc Tryz.prog Tryz.f3 false true false false):=by
 obtain⟨places,hx⟩:=C1O os enc;refine returnsInHanded_of_row (C:=Tryz.checked) (s:=OpenSpec.ofChange Rows.keysChecksSpec) own started (by kernel_rfl) Tryz.func3
  (witness_row_at (enc:=enc) (C:=Tryz.checked) false (A5M os) #[.agg #[.int .i64 0,.int .i64 0,.int .i64 0,.int .i64 0,.int .i64 0,.int .i64 0,.int .i64 0,.string ⟨#[]⟩],.agg #[.int .u8 0,.int .u8 0,.int .u8 0,.int .u8 0,.int .u8 0,.int .u8 0,.int .u8 0,.int .u32 0,.string ⟨#[]⟩],.int .i64 0] rfl (by kernel_rfl) (by kernel_rfl) (by kernel_rfl)
    (OpenSpec.preRow_of_cond 8 hx (by kernel_rfl) (fun k hk=>by cases hk) (by kernel_rfl) (B6V os))) ?_
 intro W base args ds gs before hval hW _ _ hwt hL _ _;exact B7F H enc W base args ds gs before hval hW hL hwt
theorem C2M:Rows.KeysChecksSaid :=
 OpenClaim.holds_of_cond 3 Tryz.f3 rfl rfl rfl rfl rfl rfl rfl ⟨rfl,rfl,rfl,rfl,rfl⟩ rfl rfl rfl rfl rfl (by kernel_rfl) Tryz.func3 (by kernel_rfl)
  (of_decide_eq_true (by kernel_rfl)) (by unfold Func.isWrapper;first|(rw[if_pos (by decide +kernel)];kernel_rfl)|(rw[if_neg (by decide +kernel)];exact⟨rfl,rfl⟩))
  (fun os started H enc _ F=>by rw[OpenClaim.pre_eq_preRow];exact C0t os started H enc F)
theorem plain(f:FuncId)(fn:Func)(hf:Tryz.pinned.checked.prog.funcNamed "fenestra/fenestralaw33.KeysChecks"=some f)(hfn:Tryz.pinned.checked.prog.funcs[f]? = some fn) :
  false=Tryz.pinned.checked.prog.looks []∧∀ (j:Nat) t,fn.params[j]? = some t→Tryz.pinned.checked.prog.wantsStandIn t=false:=by
 obtain rfl:f=3:=A5 ((show Tryz.prog.funcNamed "fenestra/fenestralaw33.KeysChecks"=some 3 by kernel_rfl).symm.trans hf) |>.symm;obtain rfl:fn=Tryz.f3:=(A5 (Tryz.func3.symm.trans hfn)).symm;refine⟨by kernel_rfl,fun j t ht=>?_⟩;have hall:(Tryz.f3.params.toList.all fun t=>!Tryz.prog.wantsStandIn t)=true:=by kernel_rfl
 have:=D4.1 hall t (Array.mem_def.1 (Array.mem_of_getElem? ht));have h2:Tryz.prog.wantsStandIn t=false:=by simpa using this
 exact h2
theorem proved:Rows.KeysChecksCardSaid :=
 Claim7.holds_tied_plain_at .later [] _ _ _ _ C2M (fun _ h=>by cases h) (by kernel_rfl) (fun _ h=>by cases h) keysChecks_row_tie rfl ⟨rfl,rfl⟩ (by kernel_rfl) rfl plain (by kernel_rfl)
#print axioms proved
end Go.Proofs.YtdimocjaepnifaaGreatDoor.keysChecksDone
