/- The law PickSplits: for every input the call returns true, and the arguments read behind it as they read before. No condition. -/
import Derived.Test.YtdkdbjgkedahfaaDoorX8
namespace Go.Proofs.YtdkdbjgkedahfaaDoor
set_option linter.all false
open Go Go.Sx
set_option maxRecDepth 100000
set_option linter.unusedVariables false
set_option linter.unusedSimpArgs false
theorem C1z(x:BitVec 64):x &&& ~~~(255#64)=(x >>> 8) <<< 8:=by
 have h:∀ i,i<64→(255#64).getLsbD i=decide (i<8):=by decide
 apply BitVec.eq_of_getLsbD_eq;intro i hi;rw[BitVec.getLsbD_and,BitVec.getLsbD_not,h i hi,BitVec.getLsbD_shiftLeft,BitVec.getLsbD_ushiftRight];by_cases h8:i<8
 ·simp[h8]
 ·simp[h8,hi,show 8+(i-8)=i by omega]
theorem C1f{a:Int}(h0 : -9223372036854775808≤a)(h1:a≤9223372036854775807):evU (.bin .andNot) [.int .i64 a,.int .i64 255]=.int .i64 (a-a%256):=by
 rw[B6w];have e:(BitVec.ofInt IntKind.i64.bits a &&& ~~~BitVec.ofInt IntKind.i64.bits 255).toNat=((BitVec.ofInt 64 a >>> 8) <<< 8).toNat:=congrArg BitVec.toNat (C1z (BitVec.ofInt 64 a));rw[e];have e2:((BitVec.ofInt 64 a >>> 8) <<< 8).toNat=(BitVec.ofInt 64 a).toNat / 256*256:=by
  rw[BitVec.toNat_shiftLeft,BitVec.toNat_ushiftRight,Nat.shiftLeft_eq,Nat.shiftRight_eq_div_pow]
  have:=(BitVec.ofInt 64 a).isLt;exact A0X (by omega)
 rw[e2,A1s];refine congrArg (U.int .i64) ?_;have e3:((2 ^ 64:Nat):Int)=18446744073709551616:=by decide
 rw[e3];generalize hA:(a%18446744073709551616).toNat=A;have hA1:(A:Int)=a%18446744073709551616:=by omega
 have e4:((A / 256*256:Nat):Int)=a%18446744073709551616-a%256:=by omega
 rw[e4];simp only[IntKind.wrap,IntKind.bits,IntKind.signed];simp;omega
def A1m(k n:Int):Int:=if(k=0∧n=0)∨(k=1∧0≤n∧n≤255)∨(k=2∧0≤n∧n≤16777215)then 0 else 130
def A5R:List U→Option (Nat×List U)
 | [.int .i64 k,.int .i64 n]=>some (0,[.int .i64 (A1m k n)])
 | _=>none
theorem A83(k:Int)(n:Int):A5R [.int .i64 k,.int .i64 n]=some (0,[.int .i64 (A1m k n)]):=rfl
def B9b:Tr:=.lt 8 (.bin .lss) [h 0 3,jI 0]<|.br 2 (.ret [jI 130]) (.lt 8 (.bin .geq) [h 0 3,jI 3]<|.br 3 (.ret [jI 130]) (.lt 8 (.bin .lss) [h 1 3,jI 0]<|.br 4 (.ret [jI 130]) (.lt 8 (.inb) [h 0 3,jI 3]<|.br 5 (.lt 3 (.sel) [h 0 3,jI 0,jI 255,jI 16777215]<|.lt 8 (.bin .gtr) [h 1 3,h 6 3]<|.br 7 (.ret [jI 130]) (.ret [jI 0])) (.no))))
theorem C5S{G:Nat→Option Obj}(hst:D0 Tryd.prog G gl H0 n0):Y5 Tryd.prog G 111 [.a [3,3]] A5R [.s 3]:=by
 refine J9 (C:=cx C0b []) (d:=60) B9b (cxg (B3n hst) .nil) hst ⟨Tryd.f111,_,Tryd.func111,rfl⟩ (by kernel_rfl) (by kernel_rfl) ?_;intro us outs hs;unfold A5R at hs;split at hs
 ·skip;rename_i k n;cases hs;unfold B9b;refine s0 (.cons 1 _ (.cons 0 _ (.nil))) rfl (by simp[Ev.ok,Ev.len]) ?_;refine s1 (H6 _ _ _) rfl rfl rfl ?_;refine s4 rfl (fun g0=>?_) fun g0=>?_
  ·refine s7 [.int .i64 _] rfl ?_;simp only[A1m];first|(rw[if_pos (by omega)];done)|(rw[if_neg (by omega)];done)|((obtain rfl|rfl|rfl:k=0∨k=1∨k=2:=(by omega))<;>simp at *<;>first|(rw[if_pos (by omega)];done)|(rw[if_neg (by omega)];done)|omega)
  refine s1 (i0 _ _ _) rfl rfl rfl ?_;refine s4 rfl (fun g1=>?_) fun g1=>?_
  ·refine s7 [.int .i64 _] rfl ?_;simp only[A1m];first|(rw[if_pos (by omega)];done)|(rw[if_neg (by omega)];done)|((obtain rfl|rfl|rfl:k=0∨k=1∨k=2:=(by omega))<;>simp at *<;>first|(rw[if_pos (by omega)];done)|(rw[if_neg (by omega)];done)|omega)
  refine s1 (H6 _ _ _) rfl rfl rfl ?_;refine s4 rfl (fun g2=>?_) fun g2=>?_
  ·refine s7 [.int .i64 _] rfl ?_;simp only[A1m];first|(rw[if_pos (by omega)];done)|(rw[if_neg (by omega)];done)|((obtain rfl|rfl|rfl:k=0∨k=1∨k=2:=(by omega))<;>simp at *<;>first|(rw[if_pos (by omega)];done)|(rw[if_neg (by omega)];done)|omega)
  refine s1 (A8t _ _ _ _) rfl rfl rfl ?_;refine s5 rfl (fun g3=>?_) fun g3=>?_
  ·refine s8 ?_;first|omega|(simp_all;done)|(simp_all;omega)
  refine s1 (Z3 [0,255,16777215] (by omega) (by show _<((3:Nat):Int);omega)) rfl rfl rfl ?_;refine s1 (A3B _ _ _) rfl rfl rfl ?_;refine s4 rfl (fun g4=>?_) fun g4=>?_
  ·refine s7 [.int .i64 _] rfl ?_;simp only[A1m];first|(rw[if_pos (by omega)];done)|(rw[if_neg (by omega)];done)|((obtain rfl|rfl|rfl:k=0∨k=1∨k=2:=(by omega))<;>simp at *<;>first|(rw[if_pos (by omega)];done)|(rw[if_neg (by omega)];done)|omega)
  refine s7 [.int .i64 _] rfl ?_;simp only[A1m];first|(rw[if_pos (by omega)];done)|(rw[if_neg (by omega)];done)|((obtain rfl|rfl|rfl:k=0∨k=1∨k=2:=(by omega))<;>simp at *<;>first|(rw[if_pos (by omega)];done)|(rw[if_neg (by omega)];done)|omega)
 ·cases hs
noncomputable def C0c:List (FuncId×FnC):=(111,Q7 Tryd.prog [.a [3,3]] A5R [.s 3])::C0b
theorem B7A{G:Nat→Option Obj}(hst:D0 Tryd.prog G gl H0 n0):K3 Tryd.prog G gl C0c:=.cons (C5S hst) (B3n hst)
def A4k(a u fk fn bk bn lk ln:Int):Int:=if a<0∨255<a∨u<0∨5<u then 140 else if A1m fk fn≠0 then A1m fk fn else if A1m bk bn≠0 then A1m bk bn else A1m lk ln
theorem A44{a u fk fn bk bn lk ln:Int}(h:a<0∨255<a∨u<0∨5<u):A4k a u fk fn bk bn lk ln=140:=if_pos h
theorem A43{a u fk fn bk bn lk ln:Int}(h:¬(a<0∨255<a∨u<0∨5<u))(h2:A1m fk fn≠0):A4k a u fk fn bk bn lk ln=A1m fk fn:=by unfold A4k;rw[if_neg h,if_pos h2]
theorem A42{a u fk fn bk bn lk ln:Int}(h:¬(a<0∨255<a∨u<0∨5<u))(h2:¬A1m fk fn≠0)(h3:A1m bk bn≠0):A4k a u fk fn bk bn lk ln=A1m bk bn:=by unfold A4k;rw[if_neg h,if_neg h2,if_pos h3]
theorem A3d{a u fk fn bk bn lk ln:Int}(h:¬(a<0∨255<a∨u<0∨5<u))(h2:¬A1m fk fn≠0)(h3:¬A1m bk bn≠0):A4k a u fk fn bk bn lk ln=A1m lk ln:=by unfold A4k;rw[if_neg h,if_neg h2,if_neg h3]
theorem A45{a u fk fn bk bn lk ln:Int}(h:¬(a<0∨255<a∨u<0∨5<u))(h2:¬A1m fk fn≠0)(h3:¬A1m bk bn≠0)(h4:¬A1m lk ln≠0):A4k a u fk fn bk bn lk ln=0:=by rw[A3d h h2 h3];exact Z7.1 h4
def A3e:List U→Option (Nat×List U)
 | [.int .i64 a,.int .i64 u,.int .i64 fk,.int .i64 fn,.int .i64 bk,.int .i64 bn,.int .i64 lk,.int .i64 ln]=>if(-9223372036854775808≤a∧a≤9223372036854775807)then some (0,[.int .i64 (A4k a u fk fn bk bn lk ln)])else none
 | _=>none
theorem A2y(a:Int)(u:Int)(fk:Int)(fn:Int)(bk:Int)(bn:Int)(lk:Int)(ln:Int)(hc:(-9223372036854775808≤a∧a≤9223372036854775807)):A3e [.int .i64 a,.int .i64 u,.int .i64 fk,.int .i64 fn,.int .i64 bk,.int .i64 bn,.int .i64 lk,.int .i64 ln]=some (0,[.int .i64 (A4k a u fk fn bk bn lk ln)]):=if_pos hc
def C2q:Tr:=.lt 3 (.bin .andNot) [h 0 3,jI 255]<|.lt 8 (.bin .neq) [h 8 3,jI 0]<|.br 9 (.ret [jI 140]) (.lt 8 (.bin .lss) [h 1 3,jI 0]<|.br 10 (.ret [jI 140]) (.lt 8 (.bin .gtr) [h 1 3,jI 5]<|.br 11 (.ret [jI 140]) (.fn A5R [h 2 3,h 3 3] 1<|.lt 8 (.bin .neq) [h 12 3,jI 0]<|.br 13 (.ret [h 12 3]) (.fn A5R [h 4 3,h 5 3] 1<|.lt 8 (.bin .neq) [h 14 3,jI 0]<|.br 15 (.ret [h 14 3]) (.fn A5R [h 6 3,h 7 3] 1<|.lt 8 (.bin .neq) [h 16 3,jI 0]<|.br 17 (.ret [h 16 3]) (.ret [jI 0]))))))
theorem C5e{G:Nat→Option Obj}(hst:D0 Tryd.prog G gl H0 n0):Y5 Tryd.prog G 107 [.a [3,3,3,3,3,3,3,3]] A3e [.s 3]:=by
 refine J9 (C:=cx C0c []) (d:=60) C2q (cxg (B7A hst) .nil) hst ⟨Tryd.f107,_,Tryd.func107,rfl⟩ (by kernel_rfl) (by kernel_rfl) ?_;intro us outs hs;unfold A3e at hs;split at hs
 ·skip;rename_i a u fk fn bk bn lk ln;split at hs
  ·rename_i hc;cases hs;unfold C2q;refine s0 (.cons 7 _ (.cons 6 _ (.cons 5 _ (.cons 4 _ (.cons 3 _ (.cons 2 _ (.cons 1 _ (.cons 0 _ (.nil))))))))) rfl (by simp[Ev.ok,Ev.len]) ?_;refine s1 (C1f hc.1 hc.2) rfl rfl rfl ?_;refine s1 (L2 _ _ _) rfl rfl rfl ?_;refine s4 rfl (fun g0=>?_) fun g0=>?_
   ·refine s7 [.int .i64 _] rfl ?_;refine congrArg (fun z=>[U.int .i64 z]) ?_;symm;first|exact A44 (by omega)|exact A43 (by omega) ‹_›|exact A42 (by omega) ‹_› ‹_›|exact A3d (by omega) ‹_› ‹_›|exact A45 (by omega) ‹_› ‹_› ‹_›
   refine s1 (H6 _ _ _) rfl rfl rfl ?_;refine s4 rfl (fun g1=>?_) fun g1=>?_
   ·refine s7 [.int .i64 _] rfl ?_;refine congrArg (fun z=>[U.int .i64 z]) ?_;symm;first|exact A44 (by omega)|exact A43 (by omega) ‹_›|exact A42 (by omega) ‹_› ‹_›|exact A3d (by omega) ‹_› ‹_›|exact A45 (by omega) ‹_› ‹_› ‹_›
   refine s1 (A3B _ _ _) rfl rfl rfl ?_;refine s4 rfl (fun g2=>?_) fun g2=>?_
   ·refine s7 [.int .i64 _] rfl ?_;refine congrArg (fun z=>[U.int .i64 z]) ?_;symm;first|exact A44 (by omega)|exact A43 (by omega) ‹_›|exact A42 (by omega) ‹_› ‹_›|exact A3d (by omega) ‹_› ‹_›|exact A45 (by omega) ‹_› ‹_› ‹_›
   refine s31 (A83 _ _) rfl ?_;refine s1 (L2 _ _ _) rfl rfl rfl ?_;refine s4 rfl (fun g3=>?_) fun g3=>?_
   ·refine s7 [.int .i64 _] rfl ?_;refine congrArg (fun z=>[U.int .i64 z]) ?_;symm;first|exact A44 (by omega)|exact A43 (by omega) ‹_›|exact A42 (by omega) ‹_› ‹_›|exact A3d (by omega) ‹_› ‹_›|exact A45 (by omega) ‹_› ‹_› ‹_›
   refine s31 (A83 _ _) rfl ?_;refine s1 (L2 _ _ _) rfl rfl rfl ?_;refine s4 rfl (fun g4=>?_) fun g4=>?_
   ·refine s7 [.int .i64 _] rfl ?_;refine congrArg (fun z=>[U.int .i64 z]) ?_;symm;first|exact A44 (by omega)|exact A43 (by omega) ‹_›|exact A42 (by omega) ‹_› ‹_›|exact A3d (by omega) ‹_› ‹_›|exact A45 (by omega) ‹_› ‹_› ‹_›
   refine s31 (A83 _ _) rfl ?_;refine s1 (L2 _ _ _) rfl rfl rfl ?_;refine s4 rfl (fun g5=>?_) fun g5=>?_
   ·refine s7 [.int .i64 _] rfl ?_;refine congrArg (fun z=>[U.int .i64 z]) ?_;symm;first|exact A44 (by omega)|exact A43 (by omega) ‹_›|exact A42 (by omega) ‹_› ‹_›|exact A3d (by omega) ‹_› ‹_›|exact A45 (by omega) ‹_› ‹_› ‹_›
   refine s7 [.int .i64 _] rfl ?_;refine congrArg (fun z=>[U.int .i64 z]) ?_;symm;first|exact A44 (by omega)|exact A43 (by omega) ‹_›|exact A42 (by omega) ‹_› ‹_›|exact A3d (by omega) ‹_› ‹_›|exact A45 (by omega) ‹_› ‹_› ‹_›
  ·cases hs
 ·cases hs
def P8(b m0 m1 wd:Int):Prop:=(b=0∧m0=0∧m1=0∧wd=2)∨(0≤wd∧wd≤1∧A1u b=wd+1∧(m0=0∨A1u m0=0)∧(m1=0∨(m0≠0∧A1u m1=0)))
instance(b m0 m1 wd:Int):Decidable (P8 b m0 m1 wd):=by unfold P8;infer_instance
def A5U(b m0 m1 wd at_ un fk fn bk bn lk ln:Int):Int:=if P8 b m0 m1 wd∧A4k at_ un fk fn bk bn lk ln=0 then 0 else 221
theorem P3{b m0 m1 wd at_ un fk fn bk bn lk ln:Int}(h:P8 b m0 m1 wd)(h2:A4k at_ un fk fn bk bn lk ln=0):[U.int .i64 0]=[U.int .i64 (A5U b m0 m1 wd at_ un fk fn bk bn lk ln)]:=by unfold A5U;rw[if_pos ⟨h,h2⟩]
theorem U5{b m0 m1 wd at_ un fk fn bk bn lk ln:Int}(h:¬P8 b m0 m1 wd):[U.int .i64 221]=[U.int .i64 (A5U b m0 m1 wd at_ un fk fn bk bn lk ln)]:=by unfold A5U;rw[if_neg (fun h2=>h h2.1)]
theorem U4{b m0 m1 wd at_ un fk fn bk bn lk ln:Int}(h:A4k at_ un fk fn bk bn lk ln≠0):[U.int .i64 221]=[U.int .i64 (A5U b m0 m1 wd at_ un fk fn bk bn lk ln)]:=by unfold A5U;rw[if_neg (fun h2=>h h2.2)]
noncomputable def C4R:List (FuncId×FnC):=(105,Q7 Tryd.prog [.s 3] A5g [.s 3])::(107,Q7 Tryd.prog [.a [3,3,3,3,3,3,3,3]] A3e [.s 3])::L0
theorem C0J{G:Nat→Option Obj}(hst:D0 Tryd.prog G gl H0 n0):K3 Tryd.prog G gl C4R:=(.cons (C2V hst) (.cons (C5e hst) .nil))
def B0d:List U→Option (Nat×List U)
 | [.int .i64 b,.int .i64 m0,.int .i64 m1,.int .i64 wd,.int .i64 at_,.int .i64 un,.int .i64 fk,.int .i64 fn,.int .i64 bk,.int .i64 bn,.int .i64 lk,.int .i64 ln]=>if(-9223372036854775808≤at_∧at_≤9223372036854775807)then some (0,[.int .i64 (A5U b m0 m1 wd at_ un fk fn bk bn lk ln)])else none
 | _=>none
theorem C1p(b:Int)(m0:Int)(m1:Int)(wd:Int)(at_:Int)(un:Int)(fk:Int)(fn:Int)(bk:Int)(bn:Int)(lk:Int)(ln:Int)(hc:(-9223372036854775808≤at_∧at_≤9223372036854775807)):B0d [.int .i64 b,.int .i64 m0,.int .i64 m1,.int .i64 wd,.int .i64 at_,.int .i64 un,.int .i64 fk,.int .i64 fn,.int .i64 bk,.int .i64 bn,.int .i64 lk,.int .i64 ln]=some (0,[.int .i64 (A5U b m0 m1 wd at_ un fk fn bk bn lk ln)]):=if_pos hc
def C3y:Tr:=.lt 8 (.eqs) [h 0 3,jI 0,h 1 3,jI 0,h 2 3,jI 0,h 3 3,jI 2,h 4 3,h 4 3,h 5 3,h 5 3,h 6 3,h 6 3,h 7 3,h 7 3,h 8 3,h 8 3,h 9 3,h 9 3,h 10 3,h 10 3,h 11 3,h 11 3]<|.br 12 (.fn A3e [h 4 3,h 5 3,h 6 3,h 7 3,h 8 3,h 9 3,h 10 3,h 11 3] 1<|.lt 8 (.bin .neq) [h 13 3,jI 0]<|.br 14 (.ret [jI 221]) (.ret [jI 0])) (.lt 8 (.bin .geq) [h 3 3,jI 0]<|.br 13 (.lt 8 (.bin .leq) [h 3 3,jI 1]<|.br 14 (.fn A5g [h 0 3] 1<|.lt 3 (.bin .add) [h 3 3,jI 1]<|.lt 8 (.bin .eql) [h 15 3,h 16 3]<|.br 17 (.lt 8 (.bin .neq) [h 1 3,jI 0]<|.br 18 (.fn A5g [h 1 3] 1<|.lt 8 (.bin .neq) [h 19 3,jI 0]<|.br 20 (.ret [jI 221]) (.lt 8 (.bin .eql) [h 1 3,jI 0]<|.lt 8 (.bin .neq) [h 2 3,jI 0]<|.br 22 (.br 21 (.ret [jI 221]) (.fn A5g [h 2 3] 1<|.lt 8 (.bin .neq) [h 23 3,jI 0]<|.br 24 (.ret [jI 221]) (.lt 8 (.bin .eql) [h 2 3,jI 0]<|.fn A3e [h 4 3,h 5 3,h 6 3,h 7 3,h 8 3,h 9 3,h 10 3,h 11 3] 1<|.lt 8 (.bin .neq) [h 26 3,jI 0]<|.br 27 (.ret [jI 221]) (.ret [jI 0])))) (.br 21 (.fn A3e [h 4 3,h 5 3,h 6 3,h 7 3,h 8 3,h 9 3,h 10 3,h 11 3] 1<|.lt 8 (.bin .neq) [h 23 3,jI 0]<|.br 24 (.ret [jI 221]) (.ret [jI 0])) (.lt 8 (.bin .eql) [h 2 3,jI 0]<|.fn A3e [h 4 3,h 5 3,h 6 3,h 7 3,h 8 3,h 9 3,h 10 3,h 11 3] 1<|.lt 8 (.bin .neq) [h 24 3,jI 0]<|.br 25 (.ret [jI 221]) (.ret [jI 0]))))) (.lt 8 (.bin .eql) [h 1 3,jI 0]<|.lt 8 (.bin .neq) [h 2 3,jI 0]<|.br 20 (.br 19 (.ret [jI 221]) (.fn A5g [h 2 3] 1<|.lt 8 (.bin .neq) [h 21 3,jI 0]<|.br 22 (.ret [jI 221]) (.lt 8 (.bin .eql) [h 2 3,jI 0]<|.fn A3e [h 4 3,h 5 3,h 6 3,h 7 3,h 8 3,h 9 3,h 10 3,h 11 3] 1<|.lt 8 (.bin .neq) [h 24 3,jI 0]<|.br 25 (.ret [jI 221]) (.ret [jI 0])))) (.br 19 (.fn A3e [h 4 3,h 5 3,h 6 3,h 7 3,h 8 3,h 9 3,h 10 3,h 11 3] 1<|.lt 8 (.bin .neq) [h 21 3,jI 0]<|.br 22 (.ret [jI 221]) (.ret [jI 0])) (.lt 8 (.bin .eql) [h 2 3,jI 0]<|.fn A3e [h 4 3,h 5 3,h 6 3,h 7 3,h 8 3,h 9 3,h 10 3,h 11 3] 1<|.lt 8 (.bin .neq) [h 22 3,jI 0]<|.br 23 (.ret [jI 221]) (.ret [jI 0]))))) (.ret [jI 221])) (.ret [jI 221])) (.ret [jI 221]))
theorem C3z{G:Nat→Option Obj}(hst:D0 Tryd.prog G gl H0 n0):Y5 Tryd.prog G 95 [.a [3,3,3,3,3,3,3,3,3,3,3,3]] B0d [.s 3]:=by
 refine J9 (C:=cx C4R []) (d:=60) C3y (cxg (C0J hst) .nil) hst ⟨Tryd.f95,_,Tryd.func95,rfl⟩ (by kernel_rfl) (by kernel_rfl) ?_;intro us outs hs;unfold B0d at hs;split at hs
 ·skip;rename_i b m0 m1 wd at_ un fk fn bk bn lk ln;split at hs
  ·rename_i hc;cases hs;unfold C3y;refine s0 (.cons 11 _ (.cons 10 _ (.cons 9 _ (.cons 8 _ (.cons 7 _ (.cons 6 _ (.cons 5 _ (.cons 4 _ (.cons 3 _ (.cons 2 _ (.cons 1 _ (.cons 0 _ (.nil))))))))))))) rfl (by simp[Ev.ok,Ev.len]) ?_;refine s1 rfl rfl rfl rfl ?_;first|refine s4 rfl (fun g0=>?_) (fun g0=>?_)|refine s4B rfl (fun g0=>?_) (fun g0=>?_)
   ·have g0:(b=0∧m0=0∧m1=0∧wd=2):=by simpa using g0
    refine s31 (A2y _ _ _ _ _ _ _ _ (by omega)) rfl ?_;refine s1 (L2 _ _ _) rfl rfl rfl ?_;refine s4 rfl (fun g1=>?_) fun g1=>?_
    ·refine s7 [.int .i64 _] rfl ?_;first|exact P3 (by unfold P8;omega) (by omega)|exact U5 (by unfold P8;omega)|exact U4 (by omega)
    refine s7 [.int .i64 _] rfl ?_;first|exact P3 (by unfold P8;omega) (by omega)|exact U5 (by unfold P8;omega)|exact U4 (by omega)
   have g0:¬(b=0∧m0=0∧m1=0∧wd=2):=by simpa using g0
   refine s1 (i0 _ _ _) rfl rfl rfl ?_;refine s5 rfl (fun g1=>?_) fun g1=>?_
   ·refine s7 [.int .i64 _] rfl ?_;first|exact P3 (by unfold P8;omega) (by omega)|exact U5 (by unfold P8;omega)|exact U4 (by omega)
   refine s1 (A0V _ _ _) rfl rfl rfl ?_;refine s5 rfl (fun g2=>?_) fun g2=>?_
   ·refine s7 [.int .i64 _] rfl ?_;first|exact P3 (by unfold P8;omega) (by omega)|exact U5 (by unfold P8;omega)|exact U4 (by omega)
   refine s31 (A7c _) rfl ?_;first|refine s1 (C7 (D3 (by omega) (by omega))) rfl rfl rfl ?_|refine s1 (E0 _ _ _) rfl rfl rfl ?_
   refine s1 (L8 _ _ _) rfl rfl rfl ?_;refine s5 rfl (fun g3=>?_) fun g3=>?_
   ·refine s7 [.int .i64 _] rfl ?_;first|exact P3 (by unfold P8;omega) (by omega)|exact U5 (by unfold P8;omega)|exact U4 (by omega)
   refine s1 (L2 _ _ _) rfl rfl rfl ?_;refine s4 rfl (fun g4=>?_) fun g4=>?_
   ·refine s31 (A7c _) rfl ?_;refine s1 (L2 _ _ _) rfl rfl rfl ?_;refine s4 rfl (fun g5=>?_) fun g5=>?_
    ·refine s7 [.int .i64 _] rfl ?_;first|exact P3 (by unfold P8;omega) (by omega)|exact U5 (by unfold P8;omega)|exact U4 (by omega)
    refine s1 (L8 _ _ _) rfl rfl rfl ?_;refine s1 (L2 _ _ _) rfl rfl rfl ?_;refine s4 rfl (fun g6=>?_) fun g6=>?_
    ·refine s4 rfl (fun g7=>?_) fun g7=>?_
     ·refine s7 [.int .i64 _] rfl ?_;first|exact P3 (by unfold P8;omega) (by omega)|exact U5 (by unfold P8;omega)|exact U4 (by omega)
     refine s31 (A7c _) rfl ?_;refine s1 (L2 _ _ _) rfl rfl rfl ?_;refine s4 rfl (fun g8=>?_) fun g8=>?_
     ·refine s7 [.int .i64 _] rfl ?_;first|exact P3 (by unfold P8;omega) (by omega)|exact U5 (by unfold P8;omega)|exact U4 (by omega)
     refine s1 (L8 _ _ _) rfl rfl rfl ?_;refine s31 (A2y _ _ _ _ _ _ _ _ (by omega)) rfl ?_;refine s1 (L2 _ _ _) rfl rfl rfl ?_;refine s4 rfl (fun g9=>?_) fun g9=>?_
     ·refine s7 [.int .i64 _] rfl ?_;first|exact P3 (by unfold P8;omega) (by omega)|exact U5 (by unfold P8;omega)|exact U4 (by omega)
     refine s7 [.int .i64 _] rfl ?_;first|exact P3 (by unfold P8;omega) (by omega)|exact U5 (by unfold P8;omega)|exact U4 (by omega)
    refine s4 rfl (fun g7=>?_) fun g7=>?_
    ·refine s31 (A2y _ _ _ _ _ _ _ _ (by omega)) rfl ?_;refine s1 (L2 _ _ _) rfl rfl rfl ?_;refine s4 rfl (fun g8=>?_) fun g8=>?_
     ·refine s7 [.int .i64 _] rfl ?_;first|exact P3 (by unfold P8;omega) (by omega)|exact U5 (by unfold P8;omega)|exact U4 (by omega)
     refine s7 [.int .i64 _] rfl ?_;first|exact P3 (by unfold P8;omega) (by omega)|exact U5 (by unfold P8;omega)|exact U4 (by omega)
    refine s1 (L8 _ _ _) rfl rfl rfl ?_;refine s31 (A2y _ _ _ _ _ _ _ _ (by omega)) rfl ?_;refine s1 (L2 _ _ _) rfl rfl rfl ?_;refine s4 rfl (fun g8=>?_) fun g8=>?_
    ·refine s7 [.int .i64 _] rfl ?_;first|exact P3 (by unfold P8;omega) (by omega)|exact U5 (by unfold P8;omega)|exact U4 (by omega)
    refine s7 [.int .i64 _] rfl ?_;first|exact P3 (by unfold P8;omega) (by omega)|exact U5 (by unfold P8;omega)|exact U4 (by omega)
   refine s1 (L8 _ _ _) rfl rfl rfl ?_;refine s1 (L2 _ _ _) rfl rfl rfl ?_;refine s4 rfl (fun g5=>?_) fun g5=>?_
   ·refine s4 rfl (fun g6=>?_) fun g6=>?_
    ·refine s7 [.int .i64 _] rfl ?_;first|exact P3 (by unfold P8;omega) (by omega)|exact U5 (by unfold P8;omega)|exact U4 (by omega)
    refine s31 (A7c _) rfl ?_;refine s1 (L2 _ _ _) rfl rfl rfl ?_;refine s4 rfl (fun g7=>?_) fun g7=>?_
    ·refine s7 [.int .i64 _] rfl ?_;first|exact P3 (by unfold P8;omega) (by omega)|exact U5 (by unfold P8;omega)|exact U4 (by omega)
    refine s1 (L8 _ _ _) rfl rfl rfl ?_;refine s31 (A2y _ _ _ _ _ _ _ _ (by omega)) rfl ?_;refine s1 (L2 _ _ _) rfl rfl rfl ?_;refine s4 rfl (fun g8=>?_) fun g8=>?_
    ·refine s7 [.int .i64 _] rfl ?_;first|exact P3 (by unfold P8;omega) (by omega)|exact U5 (by unfold P8;omega)|exact U4 (by omega)
    refine s7 [.int .i64 _] rfl ?_;first|exact P3 (by unfold P8;omega) (by omega)|exact U5 (by unfold P8;omega)|exact U4 (by omega)
   refine s4 rfl (fun g6=>?_) fun g6=>?_
   ·refine s31 (A2y _ _ _ _ _ _ _ _ (by omega)) rfl ?_;refine s1 (L2 _ _ _) rfl rfl rfl ?_;refine s4 rfl (fun g7=>?_) fun g7=>?_
    ·refine s7 [.int .i64 _] rfl ?_;first|exact P3 (by unfold P8;omega) (by omega)|exact U5 (by unfold P8;omega)|exact U4 (by omega)
    refine s7 [.int .i64 _] rfl ?_;first|exact P3 (by unfold P8;omega) (by omega)|exact U5 (by unfold P8;omega)|exact U4 (by omega)
   refine s1 (L8 _ _ _) rfl rfl rfl ?_;refine s31 (A2y _ _ _ _ _ _ _ _ (by omega)) rfl ?_;refine s1 (L2 _ _ _) rfl rfl rfl ?_;refine s4 rfl (fun g7=>?_) fun g7=>?_
   ·refine s7 [.int .i64 _] rfl ?_;first|exact P3 (by unfold P8;omega) (by omega)|exact U5 (by unfold P8;omega)|exact U4 (by omega)
   refine s7 [.int .i64 _] rfl ?_;first|exact P3 (by unfold P8;omega) (by omega)|exact U5 (by unfold P8;omega)|exact U4 (by omega)
  ·cases hs
 ·cases hs
theorem B8b{b:Bool}(h:(!b)=true):b=false:=by cases b<;>first|rfl|cases h
abbrev Cel:=Int×Int×Int×Int×Int×Int×Int×Int×Int×Int×Int×Int
def A6O(c:Cel):Int:=A5U (c.1) (c.2.1) (c.2.2.1) (c.2.2.2.1) (c.2.2.2.2.1) (c.2.2.2.2.2.1) (c.2.2.2.2.2.2.1) (c.2.2.2.2.2.2.2.1) (c.2.2.2.2.2.2.2.2.1) (c.2.2.2.2.2.2.2.2.2.1) (c.2.2.2.2.2.2.2.2.2.2.1) (c.2.2.2.2.2.2.2.2.2.2.2)
def wdC(c:Cel):Int:=c.2.2.2.1
def B6T(c l:Cel):Bool:=(c.2.2.2.2.1 == l.2.2.2.2.1 && (c.2.2.2.2.2.1 == l.2.2.2.2.2.1 && (c.2.2.2.2.2.2.1 == l.2.2.2.2.2.2.1 && (c.2.2.2.2.2.2.2.1 == l.2.2.2.2.2.2.2.1 && (c.2.2.2.2.2.2.2.2.1 == l.2.2.2.2.2.2.2.2.1 && (c.2.2.2.2.2.2.2.2.2.1 == l.2.2.2.2.2.2.2.2.2.1 && (c.2.2.2.2.2.2.2.2.2.2.1 == l.2.2.2.2.2.2.2.2.2.2.1 && (c.2.2.2.2.2.2.2.2.2.2.2 == l.2.2.2.2.2.2.2.2.2.2.2 && true))))))))
def aOk(c:Cel):Prop:=(-9223372036854775808≤c.2.2.2.2.1∧c.2.2.2.2.1≤9223372036854775807)
instance(c:Cel):Decidable (aOk c):=by unfold aOk;infer_instance
def B66(c l:Cel):Prop:=A6O c≠0∨decide (wdC l=1)≠decide (wdC c=2)∨(wdC c=2∧B6T c l=false)
instance(c l:Cel):Decidable (B66 c l):=by unfold B66;infer_instance
def c9:List Cel→Cel→Option Cel
 | [],l=>some l
 | c::r,l=>if B66 c l then none else c9 r c
def A9W(r:List Cel)(l:Cel):Option Unit:=match c9 r l with
 | some _=>none
 | none=>some ()
def B6e(r:List Cel)(l:Cel):Cel:=(c9 r l).getD l
def C6Q(c:Cel):List U:=[.int .i64 (c.1),.int .i64 (c.2.1),.int .i64 (c.2.2.1),.int .i64 (c.2.2.2.1),.int .i64 (c.2.2.2.2.1),.int .i64 (c.2.2.2.2.2.1),.int .i64 (c.2.2.2.2.2.2.1),.int .i64 (c.2.2.2.2.2.2.2.1),.int .i64 (c.2.2.2.2.2.2.2.2.1),.int .i64 (c.2.2.2.2.2.2.2.2.2.1),.int .i64 (c.2.2.2.2.2.2.2.2.2.2.1),.int .i64 (c.2.2.2.2.2.2.2.2.2.2.2)]
def B05(r:List Cel)(l:Cel):Option (Nat×List U):=A0g (A9W r l) (C6Q (B6e r l)) (fun _=>[.int .i64 220])
theorem B8A(l:Cel):B05 [] l=some (0,C6Q l):=rfl
theorem A8E{c l:Cel}{r:List Cel}(h:B66 c l):B05 (c::r) l=some (1,[.int .i64 220]):=by
 unfold B05 A9W c9;rw[if_pos h];rfl
theorem B45{c l:Cel}{r:List Cel}(h:¬B66 c l):B05 (c::r) l=B05 r c:=by
 have e:c9 (c::r) l=c9 r c:=by rw[c9,if_neg h]
 unfold B05 A9W B6e;rw[e];cases c9 r c<;>rfl
noncomputable def C4A:List (FuncId×FnC):=(95,Q7 Tryd.prog [.a [3,3,3,3,3,3,3,3,3,3,3,3]] B0d [.s 3])::L0
theorem B91{G:Nat→Option Obj}(hst:D0 Tryd.prog G gl H0 n0):K3 Tryd.prog G gl C4A:=(.cons (C3z hst) .nil)
def A64:List U→Option (Nat×List U)
 | [u_s,.int .i64 n,.int .i64 i,.int .i64 l0,.int .i64 l1,.int .i64 l2,.int .i64 l3,.int .i64 l4,.int .i64 l5,.int .i64 l6,.int .i64 l7,.int .i64 l8,.int .i64 l9,.int .i64 l10,.int .i64 l11]=>(N9 rCl u_s).bind fun s=>if n=((el s).length:Int)∧0≤i∧i≤n∧n≤1000∧∀ c ∈ el s,aOk c then B05 ((el s).drop i.toNat) (l0,l1,l2,l3,l4,l5,l6,l7,l8,l9,l10,l11)else none
 | _=>none
theorem A1B(s:(Option (List (Int×Int×Int×Int×Int×Int×Int×Int×Int×Int×Int×Int))))(n:Int)(i:Int)(l0:Int)(l1:Int)(l2:Int)(l3:Int)(l4:Int)(l5:Int)(l6:Int)(l7:Int)(l8:Int)(l9:Int)(l10:Int)(l11:Int)(hc:n=((el s).length:Int)∧0≤i∧i≤n∧n≤1000∧∀ c ∈ el s,aOk c):A64 [B6 rCl s,.int .i64 n,.int .i64 i,.int .i64 l0,.int .i64 l1,.int .i64 l2,.int .i64 l3,.int .i64 l4,.int .i64 l5,.int .i64 l6,.int .i64 l7,.int .i64 l8,.int .i64 l9,.int .i64 l10,.int .i64 l11]=B05 ((el s).drop i.toNat) (l0,l1,l2,l3,l4,l5,l6,l7,l8,l9,l10,l11):=by
 simp only[A64,G2,E1];exact if_pos hc
def C22:S0:=⟨[(4,.pointer (some ⟨5,0,none⟩)),(17,dat 6 0 22),(18,h 1 3),(19,h 2 3)],[(5,.cells 60 [h 3 3,h 4 3,h 5 3,h 6 3,h 7 3,h 8 3,h 9 3,h 10 3,h 11 3,h 12 3,h 13 3,h 14 3]),(6,.frz)],15,[⟨.exit 0,[(4,.pointer (some ⟨5,0,none⟩))],[(5,.cells 60 [h 0 3,h 1 3,h 2 3,h 3 3,h 4 3,h 5 3,h 6 3,h 7 3,h 8 3,h 9 3,h 10 3,h 11 3])],12⟩,⟨.ret,[(2,h 0 3)],[],1⟩]⟩
noncomputable def B76:Code:=(Tryd.f78.body).getD .skip
noncomputable def C2y:Code:=match G0 [true,true,true,false,true,false] B76 with|some (.loop x)=>x|_=>.skip
theorem C21:Tryd.f78.body=some B76:=rfl
theorem C20:G0 [true,true,true,false,true,false] B76=some (.loop C2y):=by kernel_rfl
def C2z:Tr:=.lt 8 (.bin .lss) [h 2 3,h 1 3]<|.br 15 (.lt 8 (.inbs 12) [h 2 3,h 0 22]<|.br 16 (.lt 3 (.get 12 0) [h 0 22,h 2 3]<|.lt 3 (.get 12 1) [h 0 22,h 2 3]<|.lt 3 (.get 12 2) [h 0 22,h 2 3]<|.lt 3 (.get 12 3) [h 0 22,h 2 3]<|.lt 3 (.get 12 4) [h 0 22,h 2 3]<|.lt 3 (.get 12 5) [h 0 22,h 2 3]<|.lt 3 (.get 12 6) [h 0 22,h 2 3]<|.lt 3 (.get 12 7) [h 0 22,h 2 3]<|.lt 3 (.get 12 8) [h 0 22,h 2 3]<|.lt 3 (.get 12 9) [h 0 22,h 2 3]<|.lt 3 (.get 12 10) [h 0 22,h 2 3]<|.lt 3 (.get 12 11) [h 0 22,h 2 3]<|.fn B0d [h 17 3,h 18 3,h 19 3,h 20 3,h 21 3,h 22 3,h 23 3,h 24 3,h 25 3,h 26 3,h 27 3,h 28 3] 1<|.lt 8 (.bin .neq) [h 29 3,jI 0]<|.br 30 (.ret [jI 1,jI 220]) (.lt 8 (.bin .eql) [h 6 3,jI 1]<|.lt 8 (.bin .eql) [h 20 3,jI 2]<|.lt 8 (.bin .neq) [h 31 8,h 32 8]<|.br 33 (.ret [jI 1,jI 220]) (.lt 8 (.bin .eql) [h 20 3,jI 2]<|.br 34 (.lt 8 (.eqs) [h 21 3,h 7 3,h 22 3,h 8 3,h 23 3,h 9 3,h 24 3,h 10 3,h 25 3,h 11 3,h 26 3,h 12 3,h 27 3,h 13 3,h 28 3,h 14 3]<|.lt 8 (.un .not) [h 35 8]<|.br 36 (.ret [jI 1,jI 220]) (.lt 3 (.bin .add) [h 2 3,jI 1]<|.ret [jI (-1),h 0 22,h 1 3,h 37 3,h 17 3,h 18 3,h 19 3,h 20 3,h 21 3,h 22 3,h 23 3,h 24 3,h 25 3,h 26 3,h 27 3,h 28 3])) (.lt 3 (.bin .add) [h 2 3,jI 1]<|.ret [jI (-1),h 0 22,h 1 3,h 35 3,h 17 3,h 18 3,h 19 3,h 20 3,h 21 3,h 22 3,h 23 3,h 24 3,h 25 3,h 26 3,h 27 3,h 28 3])))) (.no)) (.ret [jI 0,h 3 3,h 4 3,h 5 3,h 6 3,h 7 3,h 8 3,h 9 3,h 10 3,h 11 3,h 12 3,h 13 3,h 14 3])
def B75:List U→Nat
 | [u_s,.int .i64 n,.int .i64 i,.int .i64 l0,.int .i64 l1,.int .i64 l2,.int .i64 l3,.int .i64 l4,.int .i64 l5,.int .i64 l6,.int .i64 l7,.int .i64 l8,.int .i64 l9,.int .i64 l10,.int .i64 l11]=>(match N9 rCl u_s with|some s=>(n-i).toNat|none=>0)
 | _=>0
theorem B02(s:(Option (List (Int×Int×Int×Int×Int×Int×Int×Int×Int×Int×Int×Int))))(n:Int)(i:Int)(l0:Int)(l1:Int)(l2:Int)(l3:Int)(l4:Int)(l5:Int)(l6:Int)(l7:Int)(l8:Int)(l9:Int)(l10:Int)(l11:Int):B75 [B6 rCl s,.int .i64 n,.int .i64 i,.int .i64 l0,.int .i64 l1,.int .i64 l2,.int .i64 l3,.int .i64 l4,.int .i64 l5,.int .i64 l6,.int .i64 l7,.int .i64 l8,.int .i64 l9,.int .i64 l10,.int .i64 l11]=(n-i).toNat:=by
 simp only[B75,G2]
theorem C5h{G:Nat→Option Obj}(hst:D0 Tryd.prog G gl H0 n0):∀ (E:Nat→U) (base:Nat),@N3 ⟨E,G⟩ Tryd.prog base gl Tryd.f78.ntmps C2y (M7 Tryd.prog gl n0 7 C22 A64):=by
 refine U1 (C:=cx C4A []) (dep:=60) (f:=78) (n0:=n0) (nB:=7) (H0:=H0) B75 C2z (cxg (B91 hst) .nil) hst Tryd.func78 C21 C20 (by kernel_rfl) (by kernel_rfl) (by kernel_rfl) ?_;intro us d outs hs;have hs0:=hs;unfold A64 at hs;split at hs
 ·skip;rename_i u_s n i l0 l1 l2 l3 l4 l5 l6 l7 l8 l9 l10 l11;have hq_s:=B2.1 hs;clear hs;obtain⟨s,hd_s,hs⟩:=hq_s;replace hd_s:=K0 hd_s;subst hd_s;split at hs
  ·rename_i hc;clear hs hs0;refine⟨rfl,?_⟩;unfold C2z;refine s0 (.cons 14 _ (.cons 13 _ (.cons 12 _ (.cons 11 _ (.cons 10 _ (.cons 9 _ (.cons 8 _ (.cons 7 _ (.cons 6 _ (.cons 5 _ (.cons 4 _ (.cons 3 _ (.cons 2 _ (.cons 1 _ (.cons 0 _ (.nil)))))))))))))))) rfl (by simp[Ev.ok,Ev.len]) ?_;refine s1 (H6 _ _ _) rfl rfl rfl ?_;refine s5 rfl (fun g0=>?_) fun g0=>?_
   ·refine s7 [.int .i64 _,.int .i64 _,.int .i64 _,.int .i64 _,.int .i64 _,.int .i64 _,.int .i64 _,.int .i64 _,.int .i64 _,.int .i64 _,.int .i64 _,.int .i64 _,.int .i64 _] rfl ?_;refine D7 (d:=0) ?_;rw[A1B s n i l0 l1 l2 l3 l4 l5 l6 l7 l8 l9 l10 l11 hc,A39 (el s) (by omega)];exact B8A (l0,l1,l2,l3,l4,l5,l6,l7,l8,l9,l10,l11)
   refine s1 (H1 rfl) rfl rfl rfl ?_;refine s5 rfl (fun g1=>?_) fun g1=>?_
   ·refine s8 ?_;first|omega
   refine s1 (u:=.int .i64 _) (C8 rfl (by omega) (by omega) rfl) rfl rfl rfl ?_;refine s1 (u:=.int .i64 _) (C8 rfl (by omega) (by omega) rfl) rfl rfl rfl ?_;refine s1 (u:=.int .i64 _) (C8 rfl (by omega) (by omega) rfl) rfl rfl rfl ?_;refine s1 (u:=.int .i64 _) (C8 rfl (by omega) (by omega) rfl) rfl rfl rfl ?_;refine s1 (u:=.int .i64 _) (C8 rfl (by omega) (by omega) rfl) rfl rfl rfl ?_;refine s1 (u:=.int .i64 _) (C8 rfl (by omega) (by omega) rfl) rfl rfl rfl ?_;refine s1 (u:=.int .i64 _) (C8 rfl (by omega) (by omega) rfl) rfl rfl rfl ?_;refine s1 (u:=.int .i64 _) (C8 rfl (by omega) (by omega) rfl) rfl rfl rfl ?_;refine s1 (u:=.int .i64 _) (C8 rfl (by omega) (by omega) rfl) rfl rfl rfl ?_;refine s1 (u:=.int .i64 _) (C8 rfl (by omega) (by omega) rfl) rfl rfl rfl ?_;refine s1 (u:=.int .i64 _) (C8 rfl (by omega) (by omega) rfl) rfl rfl rfl ?_;refine s1 (u:=.int .i64 _) (C8 rfl (by omega) (by omega) rfl) rfl rfl rfl ?_;refine s31 (C1p _ _ _ _ _ _ _ _ _ _ _ _ (C11 hc.2.2.2.2 (by omega) (by omega))) rfl ?_;refine s1 (L2 _ _ _) rfl rfl rfl ?_;refine s4 rfl (fun g2=>?_) fun g2=>?_
   ·refine s7 [.int .i64 _,.int .i64 _] rfl ?_;refine D7 (d:=1) ?_;rw[A1B s n i l0 l1 l2 l3 l4 l5 l6 l7 l8 l9 l10 l11 hc,U8 (el s) (i:=i) (by omega) (by omega)];refine A8E ?_;first|exact .inl ‹_›|exact .inr (.inl ‹_›)|exact .inr (.inr ⟨by assumption,B8b ‹_›⟩)
   refine s1 (L8 _ _ _) rfl rfl rfl ?_;refine s1 (L8 _ _ _) rfl rfl rfl ?_;refine s1 (C5K _ _) rfl rfl rfl ?_;refine s4 rfl (fun g3=>?_) fun g3=>?_
   ·refine s7 [.int .i64 _,.int .i64 _] rfl ?_;refine D7 (d:=1) ?_;rw[A1B s n i l0 l1 l2 l3 l4 l5 l6 l7 l8 l9 l10 l11 hc,U8 (el s) (i:=i) (by omega) (by omega)];refine A8E ?_;first|exact .inl ‹_›|exact .inr (.inl ‹_›)|exact .inr (.inr ⟨by assumption,B8b ‹_›⟩)
   refine s1 (L8 _ _ _) rfl rfl rfl ?_;refine s4 rfl (fun g4=>?_) fun g4=>?_
   ·refine s1 rfl rfl rfl rfl ?_;first|refine s1 (A1E _) rfl rfl rfl ?_|refine s1 (A03 _) rfl rfl rfl ?_
    first|refine s4 rfl (fun g5=>?_) (fun g5=>?_)|refine s4B rfl (fun g5=>?_) (fun g5=>?_)
    ·refine s7 [.int .i64 _,.int .i64 _] rfl ?_;refine D7 (d:=1) ?_;rw[A1B s n i l0 l1 l2 l3 l4 l5 l6 l7 l8 l9 l10 l11 hc,U8 (el s) (i:=i) (by omega) (by omega)];refine A8E ?_;first|exact .inl ‹_›|exact .inr (.inl ‹_›)|exact .inr (.inr ⟨by assumption,B8b ‹_›⟩)
    first|refine s1 (C7 (D3 (by omega) (by omega))) rfl rfl rfl ?_|refine s1 (E0 _ _ _) rfl rfl rfl ?_
    refine s7 [.int .i64 _,B6 rCl _,.int .i64 _,.int .i64 _,.int .i64 _,.int .i64 _,.int .i64 _,.int .i64 _,.int .i64 _,.int .i64 _,.int .i64 _,.int .i64 _,.int .i64 _,.int .i64 _,.int .i64 _,.int .i64 _] rfl ?_;refine D6 ?_ ?_
    ·refine(A1B s n (i+1) _ _ _ _ _ _ _ _ _ _ _ _ ⟨hc.1,by omega,by omega,hc.2.2.2⟩).trans ?_;rw[A1B s n i l0 l1 l2 l3 l4 l5 l6 l7 l8 l9 l10 l11 hc,U8 (el s) (i:=i) (by omega) (by omega)];refine(B45 ?_).symm
     rintro(h|h|⟨h,h2⟩)
     ·exact g2 h
     ·exact g3 h
     ·first|exact g4 h|(have g5:(!B6T ((el s).getD i.toNat default) (l0,l1,l2,l3,l4,l5,l6,l7,l8,l9,l10,l11))=false:=g5;rw[h2]at g5;cases g5)
    ·rw[B02,B02];omega
   first|refine s1 (C7 (D3 (by omega) (by omega))) rfl rfl rfl ?_|refine s1 (E0 _ _ _) rfl rfl rfl ?_
   refine s7 [.int .i64 _,B6 rCl _,.int .i64 _,.int .i64 _,.int .i64 _,.int .i64 _,.int .i64 _,.int .i64 _,.int .i64 _,.int .i64 _,.int .i64 _,.int .i64 _,.int .i64 _,.int .i64 _,.int .i64 _,.int .i64 _] rfl ?_;refine D6 ?_ ?_
   ·refine(A1B s n (i+1) _ _ _ _ _ _ _ _ _ _ _ _ ⟨hc.1,by omega,by omega,hc.2.2.2⟩).trans ?_;rw[A1B s n i l0 l1 l2 l3 l4 l5 l6 l7 l8 l9 l10 l11 hc,U8 (el s) (i:=i) (by omega) (by omega)];refine(B45 ?_).symm
    rintro(h|h|⟨h,h2⟩)
    ·exact g2 h
    ·exact g3 h
    ·first|exact g4 h|(have g5:(!B6T ((el s).getD i.toNat default) (l0,l1,l2,l3,l4,l5,l6,l7,l8,l9,l10,l11))=false:=g5;rw[h2]at g5;cases g5)
   ·rw[B02,B02];omega
  ·cases hs
 ·cases hs
noncomputable def B6C:List LpE:=(78,([true,true,true,false,true,false],M7 Tryd.prog gl n0 7 C22 A64))::[]
theorem A9F{G:Nat→Option Obj}(hst:D0 Tryd.prog G gl H0 n0):Y4 Tryd.prog G gl B6C:=.cons Tryd.func78 C21 C20 (C5h hst) .nil
def A1Y(l:List Cel):Int:=if(l.length:Int)<2∨80<(l.length:Int)then 220 else match c9 l (0,0,0,0,0,0,0,0,0,0,0,0)with
 | none=>220
 | some c=>if wdC c=1 then 220 else 0
theorem A6W{l:List Cel}(h:(l.length:Int)<2∨80<(l.length:Int)):A1Y l=220:=if_pos h
theorem A92{l:List Cel}{c:Cel}(h:A9W l c=none):c9 l c=some (B6e l c):=by
 unfold A9W at h;unfold B6e;cases hp:c9 l c with
 | some v=>rfl
 | none=>rw[hp]at h;cases h
theorem B6f{l:List Cel}{c:Cel}{u:Unit}(h:A9W l c=some u):c9 l c=none:=by
 unfold A9W at h;cases hp:c9 l c with
 | some v=>rw[hp]at h;cases h
 | none=>rfl
theorem A8H{l:List Cel}(h:¬((l.length:Int)<2∨80<(l.length:Int))){u:Unit}(h2:A9W l (0,0,0,0,0,0,0,0,0,0,0,0)=some u):A1Y l=220:=by unfold A1Y;rw[if_neg h,B6f h2]
theorem A8G{l:List Cel}(h:¬((l.length:Int)<2∨80<(l.length:Int)))(h2:A9W l (0,0,0,0,0,0,0,0,0,0,0,0)=none)(h3:wdC (B6e l (0,0,0,0,0,0,0,0,0,0,0,0))=1):A1Y l=220:=by unfold A1Y;rw[if_neg h,A92 h2];exact if_pos h3
theorem A8F{l:List Cel}(h:¬((l.length:Int)<2∨80<(l.length:Int)))(h2:A9W l (0,0,0,0,0,0,0,0,0,0,0,0)=none)(h3:¬wdC (B6e l (0,0,0,0,0,0,0,0,0,0,0,0))=1):A1Y l=0:=by unfold A1Y;rw[if_neg h,A92 h2];exact if_neg h3
theorem C5i{s:Option (List Cel)}(h:¬80<((el s).length:Int))(h2:∀ c ∈ el s,aOk c):A64 [B6 rCl s,.int .i64 ((el s).length:Int),.int .i64 0,.int .i64 0,.int .i64 0,.int .i64 0,.int .i64 0,.int .i64 0,.int .i64 0,.int .i64 0,.int .i64 0,.int .i64 0,.int .i64 0,.int .i64 0,.int .i64 0]=B05 (el s) (0,0,0,0,0,0,0,0,0,0,0,0):=A1B s _ 0 0 0 0 0 0 0 0 0 0 0 0 0 ⟨rfl,by decide,by omega,by omega,h2⟩
noncomputable def C4E:List (FuncId×FnC):=(95,Q7 Tryd.prog [.a [3,3,3,3,3,3,3,3,3,3,3,3]] B0d [.s 3])::L0
theorem B96{G:Nat→Option Obj}(hst:D0 Tryd.prog G gl H0 n0):K3 Tryd.prog G gl C4E:=(.cons (C3z hst) .nil)
def A8M:List U→Option (Nat×List U)
 | [u_s,.bool wr]=>(N9 rCl u_s).bind fun s=>if ∀ c ∈ el s,aOk c then some (0,[.int .i64 (A1Y (el s))])else none
 | _=>none
theorem C04(s:(Option (List (Int×Int×Int×Int×Int×Int×Int×Int×Int×Int×Int×Int))))(wr:Bool)(hc:∀ c ∈ el s,aOk c):A8M [B6 rCl s,.bool wr]=some (0,[.int .i64 (A1Y (el s))]):=by
 simp only[A8M,G2,E1];exact if_pos hc
def C3D:Tr:=.lt 3 (.len) [h 0 22]<|.lt 8 (.bin .lss) [h 2 3,jI 2]<|.br 3 (.ret [jI 220]) (.lt 8 (.bin .gtr) [h 2 3,jI 80]<|.br 4 (.ret [jI 220]) (.lp A64 [h 0 22,h 2 3,jI 0,jI 0,jI 0,jI 0,jI 0,jI 0,jI 0,jI 0,jI 0,jI 0,jI 0,jI 0,jI 0] 0 12 (.lt 8 (.bin .eql) [h 8 3,jI 1]<|.br 17 (.ret [jI 220]) (.ret [jI 0])) (.lp A64 [h 0 22,h 2 3,jI 0,jI 0,jI 0,jI 0,jI 0,jI 0,jI 0,jI 0,jI 0,jI 0,jI 0,jI 0,jI 0] 1 1 (.ret [h 5 3]) (.no))))
theorem C3E{G:Nat→Option Obj}(hst:D0 Tryd.prog G gl H0 n0):Y5 Tryd.prog G 78 [.a [22,8]] A8M [.s 3]:=by
 refine J9 (C:=cx C4E B6C) (d:=60) C3D (cxg (B96 hst) (A9F hst)) hst ⟨Tryd.f78,_,Tryd.func78,rfl⟩ (by kernel_rfl) (by kernel_rfl) ?_;intro us outs hs;unfold A8M at hs;split at hs
 ·skip;rename_i u_s wr;have hq_s:=B2.1 hs;clear hs;obtain⟨s,hd_s,hs⟩:=hq_s;replace hd_s:=K0 hd_s;subst hd_s;split at hs
  ·rename_i hc;cases hs;unfold C3D;refine s0 (.cons 1 _ (.cons 0 _ (.nil))) rfl (by simp[Ev.ok,Ev.len]) ?_;refine s1 (G9 _ _) rfl rfl rfl ?_;refine s1 (H6 _ _ _) rfl rfl rfl ?_;refine s4 rfl (fun g0=>?_) fun g0=>?_
   ·refine s7 [.int .i64 _] rfl ?_;refine congrArg (fun z=>[U.int .i64 z]) ?_;symm;first|exact A6W (by omega)|exact A8H (by omega) ‹_›|exact A8G (by omega) ‹_› ‹_›|exact A8F (by omega) ‹_› ‹_›
   refine s1 (A3B _ _ _) rfl rfl rfl ?_;refine s4 rfl (fun g1=>?_) fun g1=>?_
   ·refine s7 [.int .i64 _] rfl ?_;refine congrArg (fun z=>[U.int .i64 z]) ?_;symm;first|exact A6W (by omega)|exact A8H (by omega) ‹_›|exact A8G (by omega) ‹_› ‹_›|exact A8F (by omega) ‹_› ‹_›
   refine s6 (C5i (by omega) hc) rfl (fun _=>rfl) (fun g2=>?_) (fun v2 g2=>?_)
   ·show Tr.sav _ _ (.cons 16 _ (.cons 15 _ (.cons 14 _ (.cons 13 _ (.cons 12 _ (.cons 11 _ (.cons 10 _ (.cons 9 _ (.cons 8 _ (.cons 7 _ (.cons 6 _ (.cons 5 _ _))))))))))));refine s1 (L8 _ _ _) rfl rfl rfl ?_;refine s4 rfl (fun g3=>?_) fun g3=>?_
    ·refine s7 [.int .i64 _] rfl ?_;refine congrArg (fun z=>[U.int .i64 z]) ?_;symm;first|exact A6W (by omega)|exact A8H (by omega) ‹_›|exact A8G (by omega) ‹_› ‹_›|exact A8F (by omega) ‹_› ‹_›
    refine s7 [.int .i64 _] rfl ?_;refine congrArg (fun z=>[U.int .i64 z]) ?_;symm;first|exact A6W (by omega)|exact A8H (by omega) ‹_›|exact A8G (by omega) ‹_› ‹_›|exact A8F (by omega) ‹_› ‹_›
   show Tr.sav _ _ (.cons 5 _ _);refine s7 [.int .i64 _] rfl ?_;refine congrArg (fun z=>[U.int .i64 z]) ?_;symm;first|exact A6W (by omega)|exact A8H (by omega) ‹_›|exact A8G (by omega) ‹_› ‹_›|exact A8F (by omega) ‹_› ‹_›
  ·cases hs
 ·cases hs
abbrev Row:=Option (List Cel)×Bool
def A4q(w:Int)(r:Row):Bool:=decide (A1Y (el r.1)≠0) || decide (((el r.1).length:Int)≠w)
theorem B9n{w:Int}{r:Row}(h:A1Y (el r.1)≠0):A4q w r=true:=by unfold A4q;rw[decide_eq_true h];rfl
theorem B9m{w:Int}{r:Row}(h:((el r.1).length:Int)≠w):A4q w r=true:=by unfold A4q;rw[decide_eq_true h,Bool.or_true]
theorem B9l{w:Int}{r:Row}(h:¬A1Y (el r.1)≠0)(h2:¬((el r.1).length:Int)≠w):A4q w r=false:=by unfold A4q;rw[decide_eq_false h,decide_eq_false h2];rfl
def K1(rows:Option (List Row)):Int:=((el ((el rows).getD 0 default).1).length:Int)
def A08(rows:Option (List Row)):Prop:=∀ r ∈ el rows,∀ c ∈ el r.1,aOk c
instance(rows:Option (List Row)):Decidable (A08 rows):=by unfold A08;infer_instance
noncomputable def C4G:List (FuncId×FnC):=(78,Q7 Tryd.prog [.a [22,8]] A8M [.s 3])::L0
theorem B98{G:Nat→Option Obj}(hst:D0 Tryd.prog G gl H0 n0):K3 Tryd.prog G gl C4G:=(.cons (C3E hst) .nil)
def A8U:List U→Option (Nat×List U)
 | [u_rows,u_s,.int .i64 n,.int .i64 i]=>(N9 rRw u_rows).bind fun rows=>(N9 rRw u_s).bind fun s=>if n=((el s).length:Int)∧0≤i∧i≤n∧n≤1000∧0<((el rows).length:Int)∧A08 s then A0g (A2D (A4q (K1 rows)) ((el s).drop i.toNat) i) [] (fun _=>[.int .i64 420])else none
 | _=>none
theorem A4R(rows:(Option (List ((Option (List (Int×Int×Int×Int×Int×Int×Int×Int×Int×Int×Int×Int)))×Bool))))(s:(Option (List ((Option (List (Int×Int×Int×Int×Int×Int×Int×Int×Int×Int×Int×Int)))×Bool))))(n:Int)(i:Int)(hc:n=((el s).length:Int)∧0≤i∧i≤n∧n≤1000∧0<((el rows).length:Int)∧A08 s):A8U [B6 rRw rows,B6 rRw s,.int .i64 n,.int .i64 i]=A0g (A2D (A4q (K1 rows)) ((el s).drop i.toNat) i) [] (fun _=>[.int .i64 420]):=by
 simp only[A8U,G2,E1];exact if_pos hc
def C3L:S0:=⟨[(0,dat 4 0 12),(13,dat 5 1 12),(14,h 2 3),(15,h 3 3)],[(4,.frz),(5,.frz)],4,[⟨.exit 0,[],[],0⟩,⟨.ret,[(2,h 0 3)],[],1⟩]⟩
noncomputable def B8S:Code:=(Tryd.f61.body).getD .skip
noncomputable def C3H:Code:=match G0 [true,true,false,true,false] B8S with|some (.loop x)=>x|_=>.skip
theorem C3K:Tryd.f61.body=some B8S:=rfl
theorem C3J:G0 [true,true,false,true,false] B8S=some (.loop C3H):=by kernel_rfl
def C3I:Tr:=.lt 8 (.bin .lss) [h 3 3,h 2 3]<|.br 4 (.lt 8 (.inbs 2) [h 3 3,h 1 12]<|.br 5 (.dt 22 (.get 2 0) [h 1 12,h 3 3]<|.lt 8 (.get 2 1) [h 1 12,h 3 3]<|.fn A8M [h 6 22,h 7 8] 1<|.lt 8 (.bin .neq) [h 8 3,jI 0]<|.br 9 (.ret [jI 1,jI 420]) (.lt 3 (.len) [h 6 22]<|.lt 8 (.inbs 2) [jI 0,h 0 12]<|.br 11 (.dt 22 (.get 2 0) [h 0 12,jI 0]<|.lt 3 (.len) [h 12 22]<|.lt 8 (.bin .neq) [h 10 3,h 13 3]<|.br 14 (.ret [jI 1,jI 420]) (.lt 3 (.bin .add) [h 3 3,jI 1]<|.ret [jI (-1),h 0 12,h 1 12,h 2 3,h 15 3])) (.no))) (.no)) (.ret [jI 0])
def B8R:List U→Nat
 | [u_rows,u_s,.int .i64 n,.int .i64 i]=>(match N9 rRw u_rows with|some rows=>(match N9 rRw u_s with|some s=>(n-i).toNat|none=>0)|none=>0)
 | _=>0
theorem B8Q(rows:(Option (List ((Option (List (Int×Int×Int×Int×Int×Int×Int×Int×Int×Int×Int×Int)))×Bool))))(s:(Option (List ((Option (List (Int×Int×Int×Int×Int×Int×Int×Int×Int×Int×Int×Int)))×Bool))))(n:Int)(i:Int):B8R [B6 rRw rows,B6 rRw s,.int .i64 n,.int .i64 i]=(n-i).toNat:=by
 simp only[B8R,G2]
theorem C5q{G:Nat→Option Obj}(hst:D0 Tryd.prog G gl H0 n0):∀ (E:Nat→U) (base:Nat),@N3 ⟨E,G⟩ Tryd.prog base gl Tryd.f61.ntmps C3H (M7 Tryd.prog gl n0 6 C3L A8U):=by
 refine U1 (C:=cx C4G B6C) (dep:=60) (f:=61) (n0:=n0) (nB:=6) (H0:=H0) B8R C3I (cxg (B98 hst) (A9F hst)) hst Tryd.func61 C3K C3J (by kernel_rfl) (by kernel_rfl) (by kernel_rfl) ?_;intro us d outs hs;have hs0:=hs;unfold A8U at hs;split at hs
 ·skip;rename_i u_rows u_s n i;have hq_rows:=B2.1 hs;clear hs;obtain⟨rows,hd_rows,hs⟩:=hq_rows;replace hd_rows:=K0 hd_rows;subst hd_rows;have hq_s:=B2.1 hs;clear hs;obtain⟨s,hd_s,hs⟩:=hq_s;replace hd_s:=K0 hd_s;subst hd_s;split at hs
  ·rename_i hc;clear hs hs0;refine⟨rfl,?_⟩;unfold C3I;refine s0 (.cons 3 _ (.cons 2 _ (.cons 1 _ (.cons 0 _ (.nil))))) rfl (by simp[Ev.ok,Ev.len]) ?_;refine s1 (H6 _ _ _) rfl rfl rfl ?_;refine s5 rfl (fun g0=>?_) fun g0=>?_
   ·refine s7 [.int .i64 _] rfl ?_;refine D7 (d:=0) ?_;rw[A4R rows s n i hc,B6u (by omega)];rfl
   refine s1 (H1 rfl) rfl rfl rfl ?_;refine s5 rfl (fun g1=>?_) fun g1=>?_
   ·refine s8 ?_;omega
   refine s2 (r:=rCl) (C8 rfl (by omega) (by omega) rfl) rfl rfl ?_;refine s1 (u:=.bool _) (C8 rfl (by omega) (by omega) rfl) rfl rfl rfl ?_;refine s31 (C04 _ _ (hc.2.2.2.2.2 _ (y8 (by omega) (by omega)))) rfl ?_;refine s1 (L2 _ _ _) rfl rfl rfl ?_;refine s4 rfl (fun g2=>?_) fun g2=>?_
   ·refine s7 [.int .i64 _,.int .i64 _] rfl ?_;refine D7 (d:=1) ?_;rw[A4R rows s n i hc,B0U (by omega) (by omega) (by first|exact B9n ‹_›|exact B9m ‹_›)];rfl
   refine s1 (G9 _ _) rfl rfl rfl ?_;refine s1 (H1 rfl) rfl rfl rfl ?_;refine s5 rfl (fun g3=>?_) fun g3=>?_
   ·refine s8 ?_;omega
   refine s2 (r:=rCl) (C8 rfl (by omega) (by omega) rfl) rfl rfl ?_;refine s1 (G9 _ _) rfl rfl rfl ?_;refine s1 (L2 _ _ _) rfl rfl rfl ?_;refine s4 rfl (fun g4=>?_) fun g4=>?_
   ·refine s7 [.int .i64 _,.int .i64 _] rfl ?_;refine D7 (d:=1) ?_;rw[A4R rows s n i hc,B0U (by omega) (by omega) (by first|exact B9n ‹_›|exact B9m ‹_›)];rfl
   first|refine s1 (C7 (D3 (by omega) (by omega))) rfl rfl rfl ?_|refine s1 (E0 _ _ _) rfl rfl rfl ?_
   refine s7 [.int .i64 _,B6 rRw _,B6 rRw _,.int .i64 _,.int .i64 _] rfl ?_;refine D6 ?_ ?_
   ·rw[A4R rows s n (i+1) ⟨hc.1,by omega,by omega,hc.2.2.2⟩,A4R rows s n i hc,B4b (i:=i) (by omega) (by omega) (B9l ‹_› ‹_›)]
   ·rw[B8Q,B8Q];omega
  ·cases hs
 ·cases hs
noncomputable def B6D:List LpE:=(61,([true,true,false,true,false],M7 Tryd.prog gl n0 6 C3L A8U))::B6C
theorem A9G{G:Nat→Option Obj}(hst:D0 Tryd.prog G gl H0 n0):Y4 Tryd.prog G gl B6D:=.cons Tryd.func61 C3K C3J (C5q hst) (A9F hst)
def W1(rows:Option (List Row)):Int:=if((el rows).length:Int)=0∨140<((el rows).length:Int)then 420 else if(el rows).any (A4q (K1 rows))=true then 420 else 0
theorem B1m{rows:Option (List Row)}(h:((el rows).length:Int)=0∨140<((el rows).length:Int)):W1 rows=420:=if_pos h
theorem B1l{rows:Option (List Row)}(h:¬(((el rows).length:Int)=0∨140<((el rows).length:Int))){j:Int}(h2:A2D (A4q (K1 rows)) ((el rows).drop (0:Int).toNat) 0=some j):W1 rows=420:=by
 unfold W1;rw[if_neg h,if_pos];rcases A6p (p:=A4q (K1 rows)) (el rows) 0 (by decide)with⟨q,_⟩|⟨j,q,_,q2⟩
 ·rw[T6,q]at h2;cases h2
 ·exact q2
theorem B1k{rows:Option (List Row)}(h:¬(((el rows).length:Int)=0∨140<((el rows).length:Int)))(h2:A2D (A4q (K1 rows)) ((el rows).drop (0:Int).toNat) 0=none):W1 rows=0:=by
 unfold W1;rw[if_neg h,if_neg];rcases A6p (p:=A4q (K1 rows)) (el rows) 0 (by decide)with⟨_,q⟩|⟨j,q,_⟩
 ·rw[q];decide
 ·rw[T6,q]at h2;cases h2
noncomputable def C4H:List (FuncId×FnC):=(78,Q7 Tryd.prog [.a [22,8]] A8M [.s 3])::L0
theorem B99{G:Nat→Option Obj}(hst:D0 Tryd.prog G gl H0 n0):K3 Tryd.prog G gl C4H:=(.cons (C3E hst) .nil)
def A2i:List U→Option (Nat×List U)
 | [u_rows]=>(N9 rRw u_rows).bind fun rows=>if A08 rows then some (0,[.int .i64 (W1 rows)])else none
 | _=>none
theorem B5D(rows:(Option (List ((Option (List (Int×Int×Int×Int×Int×Int×Int×Int×Int×Int×Int×Int)))×Bool))))(hc:A08 rows):A2i [B6 rRw rows]=some (0,[.int .i64 (W1 rows)]):=by
 simp only[A2i,G2,E1];exact if_pos hc
def C3M:Tr:=.lt 3 (.len) [h 0 12]<|.lt 8 (.bin .eql) [h 1 3,jI 0]<|.br 2 (.ret [jI 420]) (.lt 8 (.bin .gtr) [h 1 3,jI 140]<|.br 3 (.ret [jI 420]) (.lp A8U [h 0 12,h 0 12,h 1 3,jI 0] 0 0 (.ret [jI 0]) (.lp A8U [h 0 12,h 0 12,h 1 3,jI 0] 1 1 (.ret [h 4 3]) (.no))))
theorem A8V{G:Nat→Option Obj}(hst:D0 Tryd.prog G gl H0 n0):Y5 Tryd.prog G 61 [.s 12] A2i [.s 3]:=by
 refine J9 (C:=cx C4H B6D) (d:=60) C3M (cxg (B99 hst) (A9G hst)) hst ⟨Tryd.f61,_,Tryd.func61,rfl⟩ (by kernel_rfl) (by kernel_rfl) ?_;intro us outs hs;unfold A2i at hs;split at hs
 ·skip;rename_i u_rows;have hq_rows:=B2.1 hs;clear hs;obtain⟨rows,hd_rows,hs⟩:=hq_rows;replace hd_rows:=K0 hd_rows;subst hd_rows;split at hs
  ·rename_i hc;cases hs;unfold C3M;refine s0 (.cons 0 _ (.nil)) rfl (by simp[Ev.ok,Ev.len]) ?_;refine s1 (G9 _ _) rfl rfl rfl ?_;refine s1 (L8 _ _ _) rfl rfl rfl ?_;refine s4 rfl (fun g0=>?_) fun g0=>?_
   ·refine s7 [.int .i64 _] rfl ?_;refine congrArg (fun z=>[U.int .i64 z]) ?_;symm;first|exact B1m (by omega)|exact B1l (by omega) ‹_›|exact B1k (by omega) ‹_›
   refine s1 (A3B _ _ _) rfl rfl rfl ?_;refine s4 rfl (fun g1=>?_) fun g1=>?_
   ·refine s7 [.int .i64 _] rfl ?_;refine congrArg (fun z=>[U.int .i64 z]) ?_;symm;first|exact B1m (by omega)|exact B1l (by omega) ‹_›|exact B1k (by omega) ‹_›
   refine s6 (A4R rows rows _ 0 ⟨rfl,by decide,by omega,by omega,by omega,hc⟩) rfl (fun _=>rfl) (fun g2=>?_) (fun v2 g2=>?_)
   ·show Tr.sav _ _ _;refine s7 [.int .i64 _] rfl ?_;refine congrArg (fun z=>[U.int .i64 z]) ?_;symm;first|exact B1m (by omega)|exact B1l (by omega) ‹_›|exact B1k (by omega) ‹_›
   show Tr.sav _ _ (.cons 4 _ _);refine s7 [.int .i64 _] rfl ?_;refine congrArg (fun z=>[U.int .i64 z]) ?_;symm;first|exact B1m (by omega)|exact B1l (by omega) ‹_›|exact B1k (by omega) ‹_›
  ·cases hs
 ·cases hs
def B6t(l:List Row):Nat→Nat
 | 0=>0
 | k+1=>if(l.getD k default).2=true then B6t l k else k+1
def B4M(l:List Row):Nat→Nat→Nat
 | 0,i=>i
 | f+1,i=>if(l.getD i default).2=true∧i+1<l.length then B4M l f (i+1)else i
def A0G(l:List Row)(i:Int):Int:=B6t l i.toNat
def V8(l:List Row)(i:Int):Int:=B4M l (l.length-i.toNat) i.toNat
theorem B4a{l:List Row}{i:Int}(h:¬0<i)(h0:0≤i):A0G l i=i:=by
 have:i=0:=by omega
 subst this;rfl
theorem C1b{l:List Row}{i:Int}(h:0<i)(h2:(l.getD (i-1).toNat default).2=true):A0G l i=A0G l (i-1):=by
 unfold A0G;rw[show i.toNat=(i-1).toNat+1 by omega,B6t,if_pos h2]
theorem B1T{l:List Row}{i:Int}(h:0<i)(h2:(l.getD (i-1).toNat default).2=false):A0G l i=i:=by
 unfold A0G;rw[show i.toNat=(i-1).toNat+1 by omega,B6t,if_neg (by rw[h2];decide)];omega
theorem B5R{l:List Row}{i:Int}(h0:0≤i)(h:(l.getD i.toNat default).2=true)(h2:i+1<(l.length:Int)):V8 l i=V8 l (i+1):=by
 unfold V8;rw[show l.length-i.toNat=(l.length-(i+1).toNat)+1 by omega,B4M,if_pos ⟨h,by omega⟩,show(i+1).toNat=i.toNat+1 by omega]
theorem A8Y{l:List Row}{i:Int}(h0:0≤i)(h:(l.getD i.toNat default).2=false∨¬i+1<(l.length:Int)):V8 l i=i:=by
 unfold V8;cases hk:l.length-i.toNat with
 | zero=>show((i.toNat:Nat):Int)=i;omega
 | succ k =>
   rw[B4M,if_neg]
   ·omega
   ·rintro⟨h1,h2⟩
    rcases h with h|h
    ·rw[h]at h1;cases h1
    ·omega
theorem B5l(l:List Row):∀ k,B6t l k≤k
 | 0=>A7 _
 | k+1=>by unfold B6t;split;exact Nat.le_succ_of_le (B5l l k);exact A7 _
theorem B5S(l:List Row):∀ f i,i≤B4M l f i∧(i<l.length→B4M l f i<l.length)
 | 0,i=>⟨A7 _,id⟩
 | f+1,i=>by
   unfold B4M;split
   ·rename_i h;obtain⟨a,b⟩:=B5S l f (i+1);exact⟨by omega,fun _=>b h.2⟩
   ·exact⟨A7 _,id⟩
theorem A6A{l:List Row}{i:Int}(h0:0≤i)(h1:i<(l.length:Int)):0≤A0G l i∧A0G l i≤i∧i≤V8 l i∧V8 l i<(l.length:Int):=by
 have a:=B5l l i.toNat;obtain⟨b,c⟩:=B5S l (l.length-i.toNat) i.toNat;have c:=c (by omega);unfold A0G V8;omega
noncomputable def C4L:List (FuncId×FnC):=L0
theorem C0C{G:Nat→Option Obj}(hst:D0 Tryd.prog G gl H0 n0):K3 Tryd.prog G gl C4L:=.nil
def B0H:List U→Option (Nat×List U)
 | [u_rows,.int .i64 first,.int .i64 last]=>(N9 rRw u_rows).bind fun rows=>if 0≤first∧first<((el rows).length:Int)∧((el rows).length:Int)≤1000000 then some (0,[B6 rRw rows,.int .i64 (A0G (el rows) first),.int .i64 last])else none
 | _=>none
theorem A5_(rows:(Option (List ((Option (List (Int×Int×Int×Int×Int×Int×Int×Int×Int×Int×Int×Int)))×Bool))))(first:Int)(last:Int)(hc:0≤first∧first<((el rows).length:Int)∧((el rows).length:Int)≤1000000):B0H [B6 rRw rows,.int .i64 first,.int .i64 last]=some (0,[B6 rRw rows,.int .i64 (A0G (el rows) first),.int .i64 last]):=by
 simp only[B0H,G2,E1];exact if_pos hc
def C3c:S0:=⟨[(0,dat 4 0 12),(4,h 1 3),(5,h 2 3)],[(4,.frz)],3,[⟨.exit 0,[(0,dat 5 0 12),(4,h 1 3),(5,h 2 3)],[(5,.frz)],3⟩]⟩
noncomputable def B8w:Code:=(Tryd.f45.body).getD .skip
noncomputable def C3Y:Code:=match G0 [true,true,false,false] B8w with|some (.loop x)=>x|_=>.skip
theorem C3b:Tryd.f45.body=some B8w:=rfl
theorem C3a:G0 [true,true,false,false] B8w=some (.loop C3Y):=by kernel_rfl
def C3Z:Tr:=.lt 8 (.bin .gtr) [h 1 3,jI 0]<|.br 3 (.lt 3 (.bin .sub) [h 1 3,jI 1]<|.lt 8 (.inbs 2) [h 4 3,h 0 12]<|.br 5 (.lt 8 (.get 2 1) [h 0 12,h 4 3]<|.br 6 (.lt 3 (.bin .sub) [h 1 3,jI 1]<|.ret [jI (-1),h 0 12,h 7 3,h 2 3]) (.ret [jI 0,h 0 12,h 1 3,h 2 3])) (.no)) (.ret [jI 0,h 0 12,h 1 3,h 2 3])
def B8v:List U→Nat
 | [u_rows,.int .i64 first,.int .i64 last]=>(match N9 rRw u_rows with|some rows=>first.toNat|none=>0)
 | _=>0
theorem B8u(rows:(Option (List ((Option (List (Int×Int×Int×Int×Int×Int×Int×Int×Int×Int×Int×Int)))×Bool))))(first:Int)(last:Int):B8v [B6 rRw rows,.int .i64 first,.int .i64 last]=first.toNat:=by
 simp only[B8v,G2]
theorem C51{G:Nat→Option Obj}(hst:D0 Tryd.prog G gl H0 n0):∀ (E:Nat→U) (base:Nat),@N3 ⟨E,G⟩ Tryd.prog base gl Tryd.f45.ntmps C3Y (M7 Tryd.prog gl n0 6 C3c B0H):=by
 refine U1 (C:=cx C4L B6D) (dep:=60) (f:=45) (n0:=n0) (nB:=6) (H0:=H0) B8v C3Z (cxg (C0C hst) (A9G hst)) hst Tryd.func45 C3b C3a (by kernel_rfl) (by kernel_rfl) (by kernel_rfl) ?_;intro us d outs hs;have hs0:=hs;unfold B0H at hs;split at hs
 ·skip;rename_i u_rows first last
  have hq_rows:=B2.1 hs;clear hs;obtain⟨rows,hd_rows,hs⟩:=hq_rows;replace hd_rows:=K0 hd_rows;subst hd_rows;split at hs
  ·rename_i hc;clear hs hs0;refine⟨rfl,?_⟩;unfold C3Z;refine s0 (.cons 2 _ (.cons 1 _ (.cons 0 _ (.nil)))) rfl (by simp[Ev.ok,Ev.len]) ?_;refine s1 (A3B _ _ _) rfl rfl rfl ?_;refine s5 rfl (fun g0=>?_) fun g0=>?_
   ·refine s7 [.int .i64 _,B6 rRw _,.int .i64 _,.int .i64 _] rfl ?_;refine D7 (d:=0) ?_;rw[A5_ rows first last hc];first|(rw[B4a ‹_› (by omega)];done)|(rw[B1T ‹_› ‹_›];done)
   first|refine s1 (m4 (D3 (by omega) (by omega))) rfl rfl rfl ?_|refine s1 (A0B _ _ _) rfl rfl rfl ?_
   refine s1 (H1 rfl) rfl rfl rfl ?_;refine s5 rfl (fun g1=>?_) fun g1=>?_
   ·refine s8 ?_;first|omega|(simp_all;done)|(simp_all;omega)
   refine s1 (u:=.bool _) (C8 rfl (by omega) (by omega) rfl) rfl rfl rfl ?_;refine s5B rfl (fun g2=>?_) fun g2=>?_
   ·refine s7 [.int .i64 _,B6 rRw _,.int .i64 _,.int .i64 _] rfl ?_;refine D7 (d:=0) ?_;rw[A5_ rows first last hc];first|(rw[B4a ‹_› (by omega)];done)|(rw[B1T ‹_› ‹_›];done)
   first|refine s1 (m4 (D3 (by omega) (by omega))) rfl rfl rfl ?_|refine s1 (A0B _ _ _) rfl rfl rfl ?_
   refine s7 [.int .i64 _,B6 rRw _,.int .i64 _,.int .i64 _] rfl ?_;refine D6 ?_ ?_
   ·rw[A5_ rows first last hc,C1b ‹_› ‹_›];exact A5_ _ _ _ ⟨by omega,by omega,hc.2.2⟩
   ·rw[B8u,B8u];omega
  ·cases hs
 ·cases hs
noncomputable def C0Z:List LpE:=(45,([true,true,false,false],M7 Tryd.prog gl n0 6 C3c B0H))::B6D
theorem B3m{G:Nat→Option Obj}(hst:D0 Tryd.prog G gl H0 n0):Y4 Tryd.prog G gl C0Z:=.cons Tryd.func45 C3b C3a (C51 hst) (A9G hst)
noncomputable def C4K:List (FuncId×FnC):=L0
theorem C0B{G:Nat→Option Obj}(hst:D0 Tryd.prog G gl H0 n0):K3 Tryd.prog G gl C4K:=.nil
def B0G:List U→Option (Nat×List U)
 | [u_rows,.int .i64 first,.int .i64 last]=>(N9 rRw u_rows).bind fun rows=>if 0≤last∧last<((el rows).length:Int)∧((el rows).length:Int)≤1000000 then some (0,[.int .i64 first,.int .i64 (V8 (el rows) last)])else none
 | _=>none
theorem A59(rows:(Option (List ((Option (List (Int×Int×Int×Int×Int×Int×Int×Int×Int×Int×Int×Int)))×Bool))))(first:Int)(last:Int)(hc:0≤last∧last<((el rows).length:Int)∧((el rows).length:Int)≤1000000):B0G [B6 rRw rows,.int .i64 first,.int .i64 last]=some (0,[.int .i64 first,.int .i64 (V8 (el rows) last)]):=by
 simp only[B0G,G2,E1];exact if_pos hc
def C3X:S0:=⟨[(0,dat 7 0 12),(4,h 1 3),(5,h 2 3),(26,junk),(27,junk),(28,junk),(29,junk),(30,junk)],[(7,.frz)],3,[⟨.exit 2,[(4,h 0 3),(5,h 1 3)],[],2⟩]⟩
noncomputable def B8t:Code:=(Tryd.f45.body).getD .skip
noncomputable def C3T:Code:=match G0 [true,true,true,false,false] B8t with|some (.loop x)=>x|_=>.skip
theorem C3W:Tryd.f45.body=some B8t:=rfl
theorem C3V:G0 [true,true,true,false,false] B8t=some (.loop C3T):=by kernel_rfl
def C3U:Tr:=.lt 8 (.inbs 2) [h 2 3,h 0 12]<|.br 3 (.lt 8 (.get 2 1) [h 0 12,h 2 3]<|.br 4 (.lt 3 (.bin .add) [h 2 3,jI 1]<|.lt 3 (.len) [h 0 12]<|.lt 8 (.bin .lss) [h 5 3,h 6 3]<|.br 7 (.lt 3 (.bin .add) [h 2 3,jI 1]<|.ret [jI (-1),h 0 12,h 1 3,h 8 3]) (.ret [jI 0,h 1 3,h 2 3])) (.ret [jI 0,h 1 3,h 2 3])) (.no)
def B8s:List U→Nat
 | [u_rows,.int .i64 first,.int .i64 last]=>(match N9 rRw u_rows with|some rows=>(((el rows).length:Int)-last).toNat|none=>0)
 | _=>0
theorem B8r(rows:(Option (List ((Option (List (Int×Int×Int×Int×Int×Int×Int×Int×Int×Int×Int×Int)))×Bool))))(first:Int)(last:Int):B8s [B6 rRw rows,.int .i64 first,.int .i64 last]=(((el rows).length:Int)-last).toNat:=by
 simp only[B8s,G2]
theorem C50{G:Nat→Option Obj}(hst:D0 Tryd.prog G gl H0 n0):∀ (E:Nat→U) (base:Nat),@N3 ⟨E,G⟩ Tryd.prog base gl Tryd.f45.ntmps C3T (M7 Tryd.prog gl n0 8 C3X B0G):=by
 refine U1 (C:=cx C4K C0Z) (dep:=60) (f:=45) (n0:=n0) (nB:=8) (H0:=H0) B8s C3U (cxg (C0B hst) (B3m hst)) hst Tryd.func45 C3W C3V (by kernel_rfl) (by kernel_rfl) (by kernel_rfl) ?_;intro us d outs hs;have hs0:=hs;unfold B0G at hs;split at hs
 ·skip;rename_i u_rows first last
  have hq_rows:=B2.1 hs;clear hs;obtain⟨rows,hd_rows,hs⟩:=hq_rows;replace hd_rows:=K0 hd_rows;subst hd_rows;split at hs
  ·rename_i hc;clear hs hs0;refine⟨rfl,?_⟩;unfold C3U;refine s0 (.cons 2 _ (.cons 1 _ (.cons 0 _ (.nil)))) rfl (by simp[Ev.ok,Ev.len]) ?_;refine s1 (H1 rfl) rfl rfl rfl ?_;refine s5 rfl (fun g0=>?_) fun g0=>?_
   ·refine s8 ?_;first|omega|(simp_all;done)|(simp_all;omega)
   refine s1 (u:=.bool _) (C8 rfl (by omega) (by omega) rfl) rfl rfl rfl ?_;refine s5B rfl (fun g1=>?_) fun g1=>?_
   ·refine s7 [.int .i64 _,.int .i64 _,.int .i64 _] rfl ?_;refine D7 (d:=0) ?_;rw[A59 rows first last hc];first|(rw[A8Y hc.1 (.inl ‹_›)];done)|(rw[A8Y hc.1 (.inr ‹_›)];done)
   first|refine s1 (C7 (D3 (by omega) (by omega))) rfl rfl rfl ?_|refine s1 (E0 _ _ _) rfl rfl rfl ?_
   refine s1 (G9 _ _) rfl rfl rfl ?_;refine s1 (H6 _ _ _) rfl rfl rfl ?_;refine s5 rfl (fun g2=>?_) fun g2=>?_
   ·refine s7 [.int .i64 _,.int .i64 _,.int .i64 _] rfl ?_;refine D7 (d:=0) ?_;rw[A59 rows first last hc];first|(rw[A8Y hc.1 (.inl ‹_›)];done)|(rw[A8Y hc.1 (.inr ‹_›)];done)
   first|refine s1 (C7 (D3 (by omega) (by omega))) rfl rfl rfl ?_|refine s1 (E0 _ _ _) rfl rfl rfl ?_
   refine s7 [.int .i64 _,B6 rRw _,.int .i64 _,.int .i64 _] rfl ?_;refine D6 ?_ ?_
   ·rw[A59 rows first last hc,B5R hc.1 ‹_› ‹_›];exact A59 _ _ _ ⟨by omega,by omega,hc.2.2⟩
   ·rw[B8r,B8r];omega
  ·cases hs
 ·cases hs
noncomputable def C0Y:List LpE:=(45,([true,true,true,false,false],M7 Tryd.prog gl n0 8 C3X B0G))::C0Z
theorem B3l{G:Nat→Option Obj}(hst:D0 Tryd.prog G gl H0 n0):Y4 Tryd.prog G gl C0Y:=.cons Tryd.func45 C3W C3V (C50 hst) (B3m hst)
noncomputable def C4M:List (FuncId×FnC):=L0
theorem C0D{G:Nat→Option Obj}(hst:D0 Tryd.prog G gl H0 n0):K3 Tryd.prog G gl C4M:=.nil
def A8c:List U→Option (Nat×List U)
 | [u_rows,.int .i64 i]=>(N9 rRw u_rows).bind fun rows=>if 0≤i∧i<((el rows).length:Int)∧((el rows).length:Int)≤1000000 then some (0,[.int .i64 (A0G (el rows) i),.int .i64 (V8 (el rows) i)])else none
 | _=>none
theorem B5X(rows:(Option (List ((Option (List (Int×Int×Int×Int×Int×Int×Int×Int×Int×Int×Int×Int)))×Bool))))(i:Int)(hc:0≤i∧i<((el rows).length:Int)∧((el rows).length:Int)≤1000000):A8c [B6 rRw rows,.int .i64 i]=some (0,[.int .i64 (A0G (el rows) i),.int .i64 (V8 (el rows) i)]):=by
 simp only[A8c,G2,E1];exact if_pos hc
def C3d:Tr:=.fn B0H [h 0 12,h 1 3,h 1 3] 3<|.fn B0G [h 2 12,h 3 3,h 4 3] 2<|.ret [h 5 3,h 6 3]
theorem C52{G:Nat→Option Obj}(hst:D0 Tryd.prog G gl H0 n0):Y5 Tryd.prog G 45 [.s 12,.s 3] A8c [.s 3,.s 3]:=by
 refine J9 (C:=cx C4M C0Y) (d:=60) C3d (cxg (C0D hst) (B3l hst)) hst ⟨Tryd.f45,_,Tryd.func45,rfl⟩ (by kernel_rfl) (by kernel_rfl) ?_;intro us outs hs;unfold A8c at hs;split at hs
 ·skip;rename_i u_rows i;have hq_rows:=B2.1 hs;clear hs;obtain⟨rows,hd_rows,hs⟩:=hq_rows;replace hd_rows:=K0 hd_rows;subst hd_rows;split at hs
  ·rename_i hc;cases hs;unfold C3d;refine s0 (.cons 1 _ (.cons 0 _ (.nil))) rfl (by simp[Ev.ok,Ev.len]) ?_;refine s3 (A5_ _ _ _ hc) rfl ?_;show Tr.sav _ _ (.cons 4 _ (.cons 3 _ (.cons 2 _ _)));refine s32 (A59 _ _ _ hc) rfl rfl ?_;refine s7 [.int .i64 _,.int .i64 _] rfl ?_;rfl
  ·cases hs
 ·cases hs
theorem B8B{l:List Cel}(h:A1Y l=0):2≤(l.length:Int)∧(l.length:Int)≤80:=by
 by_cases hq:(l.length:Int)<2∨80<(l.length:Int)
 ·rw[A6W hq]at h;cases h
 ·omega
theorem A2J{rows:Option (List Row)}(h:W1 rows=0):0<((el rows).length:Int)∧((el rows).length:Int)≤140∧∀ r ∈ el rows,A1Y (el r.1)=0∧((el r.1).length:Int)=K1 rows:=by
 unfold W1 at h;split at h
 ·cases h
 ·rename_i h1;split at h
  ·cases h
  ·rename_i h2;refine⟨by omega,by omega,fun r hr=>?_⟩;have h3:A4q (K1 rows) r=false:=by
    cases hb:A4q (K1 rows) r with
    | false=>rfl
    | true=>exact absurd (Q0.2 ⟨r,hr,hb⟩) h2
   unfold A4q at h3;rw[V5,decide_eq_false_iff_not,decide_eq_false_iff_not]at h3;exact⟨Z7.1 h3.1,Z7.1 h3.2⟩
theorem A3F{rows:Option (List Row)}(h:W1 rows=0):2≤K1 rows∧K1 rows≤80:=by
 obtain⟨h1,h2,h3⟩:=A2J h;have hm:(el rows).getD 0 default ∈ el rows:=y8 (i:=0) (by decide) h1
 have:=h3 _ hm
 have:=B8B this.1;omega
theorem B4j(rows:Option (List Row)):(W1 rows≠0∨(2≤K1 rows∧K1 rows≤80∧0<((el rows).length:Int)∧((el rows).length:Int)≤140))∧K1 rows=((el ((el rows).getD (0:Int).toNat default).1).length:Int):=by
 refine⟨?_,rfl⟩;by_cases h:W1 rows=0
 ·have:=A3F h;have:=A2J h;exact .inr ⟨by omega,by omega,by omega,by omega⟩
 ·exact .inl h
def A2h(rows:Option (List Row))(e r c:Int):Int:=if W1 rows≠0 then W1 rows else if 0≤r∧r<((el rows).length:Int)∧0≤c∧c≤K1 rows-e then 0 else 2
def ifE(e a:Int):Int:=if e=0 then a else 0
theorem A8T{rows:Option (List Row)}{e r c:Int}(h:W1 rows≠0):A2h rows e r c=W1 rows:=if_pos h
theorem A8S{rows:Option (List Row)}{e r c:Int}(h:¬W1 rows≠0)(h2:¬(0≤r∧r<((el rows).length:Int)∧0≤c∧c≤K1 rows-e)):A2h rows e r c=2:=by unfold A2h;rw[if_neg h,if_neg h2]
theorem A7E{rows:Option (List Row)}{e r c:Int}(h:¬W1 rows≠0)(h2:0≤r∧r<((el rows).length:Int)∧0≤c∧c≤K1 rows-e):A2h rows e r c=0:=by unfold A2h;rw[if_neg h,if_pos h2]
def C1P(rows:Option (List Row))(r c:Int):List U:=[.int .i64 (ifE (A2h rows 0 r c) (A0G (el rows) r)),.int .i64 0,.int .i64 (ifE (A2h rows 0 r c) (V8 (el rows) r)),.int .i64 (ifE (A2h rows 0 r c) (K1 rows)),.int .i64 (A2h rows 0 r c)]
theorem y6{rows:Option (List Row)}{r c e:Int}(h:A2h rows 0 r c=e)(he:e≠0):[U.int .i64 0,U.int .i64 0,U.int .i64 0,U.int .i64 0,U.int .i64 e]=C1P rows r c:=by
 unfold C1P ifE;rw[h,if_neg he,if_neg he,if_neg he]
theorem A5K{rows:Option (List Row)}{r c:Int}(h:A2h rows 0 r c=0):[U.int .i64 (A0G (el rows) r),U.int .i64 0,U.int .i64 (V8 (el rows) r),U.int .i64 (K1 rows),U.int .i64 0]=C1P rows r c:=by
 unfold C1P ifE;rw[h,if_pos rfl,if_pos rfl,if_pos rfl]
noncomputable def C4J:List (FuncId×FnC):=(61,Q7 Tryd.prog [.s 12] A2i [.s 3])::(45,Q7 Tryd.prog [.s 12,.s 3] A8c [.s 3,.s 3])::L0
theorem C0A{G:Nat→Option Obj}(hst:D0 Tryd.prog G gl H0 n0):K3 Tryd.prog G gl C4J:=(.cons (A8V hst) (.cons (C52 hst) .nil))
def A58:List U→Option (Nat×List U)
 | [u_rows,.int .i64 r,.int .i64 c]=>(N9 rRw u_rows).bind fun rows=>if A08 rows then some (0,[.int .i64 (ifE (A2h rows 0 r c) (A0G (el rows) r)),.int .i64 (0),.int .i64 (ifE (A2h rows 0 r c) (V8 (el rows) r)),.int .i64 (ifE (A2h rows 0 r c) (K1 rows)),.int .i64 (A2h rows 0 r c)])else none
 | _=>none
theorem C1N(rows:(Option (List ((Option (List (Int×Int×Int×Int×Int×Int×Int×Int×Int×Int×Int×Int)))×Bool))))(r:Int)(c:Int)(hc:A08 rows):A58 [B6 rRw rows,.int .i64 r,.int .i64 c]=some (0,[.int .i64 (ifE (A2h rows 0 r c) (A0G (el rows) r)),.int .i64 (0),.int .i64 (ifE (A2h rows 0 r c) (V8 (el rows) r)),.int .i64 (ifE (A2h rows 0 r c) (K1 rows)),.int .i64 (A2h rows 0 r c)]):=by
 simp only[A58,G2,E1];exact if_pos hc
def C3S:Tr:=.fn A2i [h 0 12] 1<|.lt 8 (.bin .neq) [h 3 3,jI 0]<|.br 4 (.lt 8 (.bin .neq) [h 3 3,jI 0]<|.br 5 (.ret [jI 0,jI 0,jI 0,jI 0,h 3 3]) (.fn A8c [h 0 12,h 1 3] 2<|.lt 8 (.inbs 2) [jI 0,h 0 12]<|.br 8 (.dt 22 (.get 2 0) [h 0 12,jI 0]<|.lt 3 (.len) [h 9 22]<|.ret [h 6 3,jI 0,h 7 3,h 10 3,jI 0]) (.no))) (.lt 8 (.inbs 2) [jI 0,h 0 12]<|.br 5 (.dt 22 (.get 2 0) [h 0 12,jI 0]<|.lt 3 (.len) [h 6 22]<|.lt 3 (.bin .sub) [h 7 3,jI 0]<|.lt 8 (.bin .geq) [h 1 3,jI 0]<|.br 9 (.lt 3 (.len) [h 0 12]<|.lt 8 (.bin .lss) [h 1 3,h 10 3]<|.br 11 (.lt 8 (.bin .geq) [h 2 3,jI 0]<|.br 12 (.lt 8 (.bin .leq) [h 2 3,h 8 3]<|.lt 8 (.un .not) [h 13 8]<|.br 14 (.ret [jI 0,jI 0,jI 0,jI 0,jI 2]) (.fn A8c [h 0 12,h 1 3] 2<|.lt 8 (.inbs 2) [jI 0,h 0 12]<|.br 17 (.dt 22 (.get 2 0) [h 0 12,jI 0]<|.lt 3 (.len) [h 18 22]<|.ret [h 15 3,jI 0,h 16 3,h 19 3,jI 0]) (.no))) (.ret [jI 0,jI 0,jI 0,jI 0,jI 2])) (.ret [jI 0,jI 0,jI 0,jI 0,jI 2])) (.ret [jI 0,jI 0,jI 0,jI 0,jI 2])) (.no))
theorem B8q{G:Nat→Option Obj}(hst:D0 Tryd.prog G gl H0 n0):Y5 Tryd.prog G 16 [.s 12,.a [3,3]] A58 [.a [3,3],.a [3,3],.s 3]:=by
 refine J9 (C:=cx C4J C0Y) (d:=60) C3S (cxg (C0A hst) (B3l hst)) hst ⟨Tryd.f16,_,Tryd.func16,rfl⟩ (by kernel_rfl) (by kernel_rfl) ?_;intro us outs hs;unfold A58 at hs;split at hs
 ·skip;rename_i u_rows r c;have hq_rows:=B2.1 hs;clear hs;obtain⟨rows,hd_rows,hs⟩:=hq_rows;replace hd_rows:=K0 hd_rows;subst hd_rows;split at hs
  ·rename_i hc;cases hs;have qd:=B4j rows;unfold C3S;refine s0 (.cons 2 _ (.cons 1 _ (.cons 0 _ (.nil)))) rfl (by simp[Ev.ok,Ev.len]) ?_;refine s31 (B5D _ hc) rfl ?_;refine s1 (L2 _ _ _) rfl rfl rfl ?_;refine s4 rfl (fun g0=>?_) fun g0=>?_
   ·refine s1 (L2 _ _ _) rfl rfl rfl ?_;refine s4 rfl (fun g1=>?_) fun g1=>?_
    ·refine s7 [.int .i64 _,.int .i64 _,.int .i64 _,.int .i64 _,.int .i64 _] rfl ?_;first|exact y6 (A8T ‹_›) ‹_›|exact y6 (A8S ‹_› (by omega)) (by decide)|exact(by rw[← qd.2];exact A5K (A7E ‹_› (by omega)))
    refine s32 (B5X _ _ ⟨by omega,by omega,by omega⟩) rfl rfl ?_;refine s1 (H1 rfl) rfl rfl rfl ?_;refine s5 rfl (fun g2=>?_) fun g2=>?_
    ·refine s8 ?_;omega
    refine s2 (r:=rCl) (C8 rfl (by omega) (by omega) rfl) rfl rfl ?_;refine s1 (G9 _ _) rfl rfl rfl ?_;refine s7 [.int .i64 _,.int .i64 _,.int .i64 _,.int .i64 _,.int .i64 _] rfl ?_;first|exact y6 (A8T ‹_›) ‹_›|exact y6 (A8S ‹_› (by omega)) (by decide)|exact(by rw[← qd.2];exact A5K (A7E ‹_› (by omega)))
   refine s1 (H1 rfl) rfl rfl rfl ?_;refine s5 rfl (fun g1=>?_) fun g1=>?_
   ·refine s8 ?_;omega
   refine s2 (r:=rCl) (C8 rfl (by omega) (by omega) rfl) rfl rfl ?_;refine s1 (G9 _ _) rfl rfl rfl ?_;first|refine s1 (m4 (D3 (by omega) (by omega))) rfl rfl rfl ?_|refine s1 (A0B _ _ _) rfl rfl rfl ?_
   refine s1 (i0 _ _ _) rfl rfl rfl ?_;refine s5 rfl (fun g2=>?_) fun g2=>?_
   ·refine s7 [.int .i64 _,.int .i64 _,.int .i64 _,.int .i64 _,.int .i64 _] rfl ?_;first|exact y6 (A8T ‹_›) ‹_›|exact y6 (A8S ‹_› (by omega)) (by decide)|exact(by rw[← qd.2];exact A5K (A7E ‹_› (by omega)))
   refine s1 (G9 _ _) rfl rfl rfl ?_;refine s1 (H6 _ _ _) rfl rfl rfl ?_;refine s5 rfl (fun g3=>?_) fun g3=>?_
   ·refine s7 [.int .i64 _,.int .i64 _,.int .i64 _,.int .i64 _,.int .i64 _] rfl ?_;first|exact y6 (A8T ‹_›) ‹_›|exact y6 (A8S ‹_› (by omega)) (by decide)|exact(by rw[← qd.2];exact A5K (A7E ‹_› (by omega)))
   refine s1 (i0 _ _ _) rfl rfl rfl ?_;refine s5 rfl (fun g4=>?_) fun g4=>?_
   ·refine s7 [.int .i64 _,.int .i64 _,.int .i64 _,.int .i64 _,.int .i64 _] rfl ?_;first|exact y6 (A8T ‹_›) ‹_›|exact y6 (A8S ‹_› (by omega)) (by decide)|exact(by rw[← qd.2];exact A5K (A7E ‹_› (by omega)))
   refine s1 (A0V _ _ _) rfl rfl rfl ?_;refine s1 (A1E _) rfl rfl rfl ?_;refine s4 rfl (fun g5=>?_) fun g5=>?_
   ·refine s7 [.int .i64 _,.int .i64 _,.int .i64 _,.int .i64 _,.int .i64 _] rfl ?_;first|exact y6 (A8T ‹_›) ‹_›|exact y6 (A8S ‹_› (by omega)) (by decide)|exact(by rw[← qd.2];exact A5K (A7E ‹_› (by omega)))
   refine s32 (B5X _ _ ⟨by omega,by omega,by omega⟩) rfl rfl ?_;refine s1 (H1 rfl) rfl rfl rfl ?_;refine s5 rfl (fun g6=>?_) fun g6=>?_
   ·refine s8 ?_;omega
   refine s2 (r:=rCl) (C8 rfl (by omega) (by omega) rfl) rfl rfl ?_;refine s1 (G9 _ _) rfl rfl rfl ?_;refine s7 [.int .i64 _,.int .i64 _,.int .i64 _,.int .i64 _,.int .i64 _] rfl ?_;first|exact y6 (A8T ‹_›) ‹_›|exact y6 (A8S ‹_› (by omega)) (by decide)|exact(by rw[← qd.2];exact A5K (A7E ‹_› (by omega)))
  ·cases hs
 ·cases hs
theorem A91:∀ {r:List Cel} {l v:Cel},c9 r l=some v→∀ i,i<r.length→¬B66 (r.getD i default) (if i=0 then l else r.getD (i-1) default)
 | [],l,v,_,i,hi=>by simp at hi
 | c::r,l,v,h,i,hi=>by
   rw[c9]at h;split at h
   ·cases h
   ·rename_i hb;cases i with
    | zero=>exact hb
    | succ i =>
      have:=A91 h i (by simpa using hi);cases i with
      | zero=>exact this
      | succ i=>exact this
theorem B6d{l:List Cel}(h:A1Y l=0){i:Int}(h0:0≤i)(h1:i<(l.length:Int)):A6O (l.getD i.toNat default)=0∧(wdC (l.getD i.toNat default)=2→0<i∧wdC (l.getD (i-1).toNat default)=1):=by
 unfold A1Y at h;split at h
 ·cases h
 ·cases hg:c9 l (0,0,0,0,0,0,0,0,0,0,0,0)with
  | none=>rw[hg]at h;cases h
  | some v =>
    have:=A91 hg i.toNat (by omega);by_cases hz:i.toNat=0
    ·rw[if_pos hz]at this;refine⟨U7 fun e=>this (.inl e),fun h2=>?_⟩;exact absurd (.inr (.inl (by rw[h2];decide))) this
    ·rw[if_neg hz]at this;have e:i.toNat-1=(i-1).toNat:=by omega
     rw[e]at this;refine⟨U7 fun e=>this (.inl e),fun h2=>⟨by omega,U7 fun e=>this (.inr (.inl (by rw[h2,decide_eq_false e];decide)))⟩⟩
theorem C5B{c:Cel}(h:A6O c=0):P8 c.1 c.2.1 c.2.2.1 (wdC c):=by
 unfold A6O A5U at h;split at h
 ·rename_i hq;exact hq.1
 ·cases h
theorem B3t(c:Int):A1u c = -1∨(0≤c∧c≤1114111):=by
 by_cases h:¬okU c∨c≤31∨(127≤c∧c≤159)
 ·exact .inl (Q2 h)
 ·have:okU c:=U7 fun e=>h (.inl e)
  unfold okU at this;exact .inr (by omega)
theorem C5C{b m0 m1 wd:Int}(h:P8 b m0 m1 wd):(0≤b∧b≤1114111)∧(0≤m0∧m0≤1114111)∧(0≤m1∧m1≤1114111)∧0≤wd∧wd≤2:=by
 unfold P8 at h;have h1:=B3t b;have h2:=B3t m0;have h3:=B3t m1;omega
def C5P(l:List Cel)(i:Int):Cel:=if wdC (l.getD i.toNat default)=2 then l.getD (i-1).toNat default else l.getD i.toNat default
def A6v(c:Cel):Prop:=c.1=32∧c.2.1=0∧c.2.2.1=0∧wdC c=0
instance(c:Cel):Decidable (A6v c):=by unfold A6v;infer_instance
def C6e(n:Int):Bool:=decide (0≤Lib.indexByte [95,48,49,50,51,52,53,54,55,56,57,97,98,99,100,101,102,103,104,105,106,107,108,109,110,111,112,113,114,115,116,117,118,119,120,121,122,65,66,67,68,69,70,71,72,73,74,75,76,77,78,79,80,81,82,83,84,85,86,87,88,89,90] (UInt8.ofNat n.toNat))
def C6N(l:List Cel)(i:Int):Int:=if A6v (C5P l i)then 0 else if 128≤(C5P l i).1∨C6e (C5P l i).1=true then 1 else 2
theorem C6T{a:Cel}{x:Bool}(h:(a.1 == 32 && (a.2.1 == 0 && (a.2.2.1 == 0 && (a.2.2.2.1 == 0 && x))))=true):A6v a:=by
 simp only[I0,beq_iff_eq]at h;exact⟨h.1,h.2.1,h.2.2.1,h.2.2.2.1⟩
def C6P(rows:Option (List Row))(cols k:Int):Int:=C6N (el ((el rows).getD (k / cols).toNat default).1) (k%cols)
def bkN(rows:Option (List Row))(cols own lo:Int):Nat→Int→Int→Int→Bool×Int×Int
 | 0,_,r,c=>(false,r,c)
 | n+1,k,r,c=>if k<lo then(false,r,c)else if C6P rows cols k=own then bkN rows cols own lo n (k-1) (k / cols) (k%cols)else(true,r,c)
def bkS(rows:Option (List Row))(cols own lo k r c:Int):Bool×Int×Int:=bkN rows cols own lo (k-lo+1).toNat k r c
theorem B8d{a b A B:Int}(h0:0≤a)(h1:a≤A)(h2:0≤b)(h3:b≤B):0≤a*b∧a*b≤A*B:=⟨Int.mul_nonneg h0 h2,Int.mul_le_mul h1 h3 h2 (by omega)⟩
def fwN(rows:Option (List Row))(cols own hi:Int):Nat→Int→Int→Int→Bool×Int×Int
 | 0,_,r,c=>(false,r,c)
 | n+1,k,r,c=>if hi≤k then(false,r,c)else if C6P rows cols k=own then fwN rows cols own hi n (k+1) (k / cols) (k%cols)else(true,r,c)
def fwS(rows:Option (List Row))(cols own hi k r c:Int):Bool×Int×Int:=fwN rows cols own hi (hi-k).toNat k r c
structure WF (rows:Option (List Row)) (w r c:Int):Prop where
 ck:W1 rows=0
 co:w=K1 rows
 w0:2≤w
 w1:w≤80
 n1:((el rows).length:Int)≤140
 r0:0≤r
 r1:r<((el rows).length:Int)
 c0:0≤c
 c1:c<w
 m0:0≤r*w
 m1:r*w≤11200
 f0:0≤A0G (el rows) r
 f1:A0G (el rows) r≤r
 l0:r≤V8 (el rows) r
 l1:V8 (el rows) r<((el rows).length:Int)
 k0:A0G (el rows) r*w≤r*w+c
 k1:r*w+c<(V8 (el rows) r+1)*w
 rw:A1Y (el ((el rows).getD r.toNat default).1)=0
 rl:((el ((el rows).getD r.toNat default).1).length:Int)=w
 t0:∀ own,0≤(fwS rows w own ((V8 (el rows) r+1)*w) (r*w+c) 0 0).2.2
 t1:∀ own,(fwS rows w own ((V8 (el rows) r+1)*w) (r*w+c) 0 0).2.2≤80
def C2D(rows:Option (List Row))(r c:Int):Int:=C6N (el ((el rows).getD r.toNat default).1) c
def C4c(rows:Option (List Row))(r c:Int):Int×Int:=(bkS rows (K1 rows) (C2D rows r c) (A0G (el rows) r*K1 rows) (r*K1 rows+c) 0 0).2
def C4a(rows:Option (List Row))(r c:Int):Int×Int:=(fwS rows (K1 rows) (C2D rows r c) ((V8 (el rows) r+1)*K1 rows) (r*K1 rows+c) 0 0).2
noncomputable def C4D:List (FuncId×FnC):=L0
theorem B95{G:Nat→Option Obj}(hst:D0 Tryd.prog G gl H0 n0):K3 Tryd.prog G gl C4D:=.nil
def p7:List U→Option (Nat×List U)
 | [u_l,.int .i64 c,.int .i64 i]=>(N9 rQ u_l).bind fun l=>if 0≤i∧i≤((el l).length:Int)∧((el l).length:Int)≤1000 then A0g (bU (((el l).drop i.toNat).any (inB c))) [] (fun _=>[])else none
 | _=>none
theorem Z2(l:(Option (List (Int×Int))))(c:Int)(i:Int)(hc:0≤i∧i≤((el l).length:Int)∧((el l).length:Int)≤1000):p7 [B6 rQ l,.int .i64 c,.int .i64 i]=A0g (bU (((el l).drop i.toNat).any (inB c))) [] (fun _=>[]):=by
 simp only[p7,G2,E1];exact if_pos hc
def C3C:S0:=⟨[(0,dat 4 0 12),(1,h 1 3),(5,h 2 3)],[(4,.frz)],3,[⟨.exit 0,[],[],0⟩,⟨.ret,[(4,.bool true)],[],0⟩]⟩
noncomputable def B8G:Code:=(Tryd.f99.body).getD .skip
noncomputable def C29:Code:=match G0 [true,false,true,false] B8G with|some (.loop x)=>x|_=>.skip
theorem C3B:Tryd.f99.body=some B8G:=rfl
theorem C3A:G0 [true,false,true,false] B8G=some (.loop C29):=by kernel_rfl
def C2_:Tr:=.lt 3 (.len) [h 0 12]<|.lt 8 (.bin .lss) [h 2 3,h 3 3]<|.br 4 (.lt 8 (.inbs 2) [h 2 3,h 0 12]<|.br 5 (.lt 3 (.get 2 0) [h 0 12,h 2 3]<|.lt 8 (.bin .geq) [h 1 3,h 6 3]<|.br 7 (.lt 8 (.inbs 2) [h 2 3,h 0 12]<|.br 8 (.lt 3 (.get 2 1) [h 0 12,h 2 3]<|.lt 8 (.bin .leq) [h 1 3,h 9 3]<|.br 10 (.ret [jI 1]) (.lt 3 (.bin .add) [h 2 3,jI 1]<|.ret [jI (-1),h 0 12,h 1 3,h 11 3])) (.no)) (.lt 3 (.bin .add) [h 2 3,jI 1]<|.ret [jI (-1),h 0 12,h 1 3,h 8 3])) (.no)) (.ret [jI 0])
def B8F:List U→Nat
 | [u_l,.int .i64 c,.int .i64 i]=>(match N9 rQ u_l with|some l=>(((el l).length:Int)-i).toNat|none=>0)
 | _=>0
theorem B08(l:(Option (List (Int×Int))))(c:Int)(i:Int):B8F [B6 rQ l,.int .i64 c,.int .i64 i]=(((el l).length:Int)-i).toNat:=by
 simp only[B8F,G2]
theorem C5m{G:Nat→Option Obj}(hst:D0 Tryd.prog G gl H0 n0):∀ (E:Nat→U) (base:Nat),@N3 ⟨E,G⟩ Tryd.prog base gl Tryd.f99.ntmps C29 (M7 Tryd.prog gl n0 5 C3C p7):=by
 refine U1 (C:=cx C4D []) (dep:=60) (f:=99) (n0:=n0) (nB:=5) (H0:=H0) B8F C2_ (cxg (B95 hst) .nil) hst Tryd.func99 C3B C3A (by kernel_rfl) (by kernel_rfl) (by kernel_rfl) ?_;intro us d outs hs;have hs0:=hs;unfold p7 at hs;split at hs
 ·skip;rename_i u_l c i;have hq_l:=B2.1 hs;clear hs;obtain⟨l,hd_l,hs⟩:=hq_l;replace hd_l:=K0 hd_l;subst hd_l;split at hs
  ·rename_i hc;clear hs hs0;refine⟨rfl,?_⟩;unfold C2_;refine s0 (.cons 2 _ (.cons 1 _ (.cons 0 _ (.nil)))) rfl (by simp[Ev.ok,Ev.len]) ?_;refine s1 (G9 _ _) rfl rfl rfl ?_;refine s1 (H6 _ _ _) rfl rfl rfl ?_;refine s5 rfl (fun g0=>?_) fun g0=>?_
   ·refine s7 [.int .i64 _] rfl ?_;refine D7 (d:=0) ?_;rw[Z2 l c i hc,A7v (by omega)];rfl
   refine s1 (H1 rfl) rfl rfl rfl ?_;refine s5 rfl (fun g1=>?_) fun g1=>?_
   ·refine s8 ?_;first|omega
   refine s1 (u:=.int .i64 _) (C8 rfl (by omega) (by omega) rfl) rfl rfl rfl ?_;refine s1 (i0 _ _ _) rfl rfl rfl ?_;refine s4 rfl (fun g2=>?_) fun g2=>?_
   ·refine s1 (H1 rfl) rfl rfl rfl ?_;refine s5 rfl (fun g3=>?_) fun g3=>?_
    ·refine s8 ?_;first|omega
    refine s1 (u:=.int .i64 _) (C8 rfl (by omega) (by omega) rfl) rfl rfl rfl ?_;refine s1 (A0V _ _ _) rfl rfl rfl ?_;refine s4 rfl (fun g4=>?_) fun g4=>?_
    ·refine s7 [.int .i64 _] rfl ?_;refine D7 (d:=1) ?_;rw[Z2 l c i hc,B59 (i:=i) (by omega) (by omega) (B5h ‹_› ‹_›)];rfl
    first|refine s1 (C7 (D3 (by omega) (by omega))) rfl rfl rfl ?_|refine s1 (E0 _ _ _) rfl rfl rfl ?_
    refine s7 [.int .i64 _,B6 rQ _,.int .i64 _,.int .i64 _] rfl ?_;refine D6 ?_ ?_
    ·rw[Z2 l c i hc,A7P (i:=i) (by omega) (by omega) (A7H (by omega))];exact Z2 l c (i+1) ⟨by omega,by omega,hc.2.2⟩
    ·rw[B08,B08];omega
   first|refine s1 (C7 (D3 (by omega) (by omega))) rfl rfl rfl ?_|refine s1 (E0 _ _ _) rfl rfl rfl ?_
   refine s7 [.int .i64 _,B6 rQ _,.int .i64 _,.int .i64 _] rfl ?_;refine D6 ?_ ?_
   ·rw[Z2 l c i hc,A7P (i:=i) (by omega) (by omega) (A7H (by omega))];exact Z2 l c (i+1) ⟨by omega,by omega,hc.2.2⟩
   ·rw[B08,B08];omega
  ·cases hs
 ·cases hs
noncomputable def C4V:List LpE:=(99,([true,false,true,false],M7 Tryd.prog gl n0 5 C3C p7))::[]
theorem C0W{G:Nat→Option Obj}(hst:D0 Tryd.prog G gl H0 n0):Y4 Tryd.prog G gl C4V:=.cons Tryd.func99 C3B C3A (C5m hst) .nil
theorem H4(c:Int):((el (some ([(768,879),(1155,1161),(1425,1469),(1552,1562),(1611,1631),(6832,6911),(7616,7679),(8203,8207),(8400,8447),(65024,65039),(65056,65071)]:List (Int×Int)))).drop (0:Int).toNat).any (inB c)=true↔inM c:=by
 unfold inM;show List.any _ _=true↔_;simp[B0,inB]
theorem K8(c:Int):((el (some ([(4352,4447),(11904,12350),(12353,13311),(13312,19903),(19968,40959),(40960,42191),(44032,55203),(63744,64255),(65072,65135),(65280,65376),(65504,65510),(127744,128591),(128640,128767),(129280,129535),(131072,262141)]:List (Int×Int)))).drop (0:Int).toNat).any (inB c)=true↔inW c:=by
 unfold inW;show List.any _ _=true↔_;simp only[T6,B0,A4y,List.any_nil,inB,Bool.or_false,I3,I0,decide_eq_true_eq];constructor<;>intro h<;>omega
noncomputable def C4B:List (FuncId×FnC):=L0
theorem B92{G:Nat→Option Obj}(hst:D0 Tryd.prog G gl H0 n0):K3 Tryd.prog G gl C4B:=.nil
def B2Q:List U→Option (Nat×List U)
 | [.int .i64 c]=>some (0,[.int .i64 (A1u c)])
 | _=>none
theorem C0w(c:Int):B2Q [.int .i64 c]=some (0,[.int .i64 (A1u c)]):=rfl
def C23:Tr:=.lt 8 (.bin .geq) [h 0 3,jI 0]<|.br 1 (.lt 8 (.bin .leq) [h 0 3,jI 1114111]<|.br 2 (.lt 8 (.bin .lss) [h 0 3,jI 55296]<|.br 3 (.lt 8 (.bin .lss) [h 0 3,jI 32]<|.br 4 (.ret [jI (-1)]) (.lt 8 (.bin .geq) [h 0 3,jI 127]<|.br 5 (.lt 8 (.bin .lss) [h 0 3,jI 160]<|.br 6 (.ret [jI (-1)]) (.dt 12 (.mk 2) [jI 768,jI 879,jI 1155,jI 1161,jI 1425,jI 1469,jI 1552,jI 1562,jI 1611,jI 1631,jI 6832,jI 6911,jI 7616,jI 7679,jI 8203,jI 8207,jI 8400,jI 8447,jI 65024,jI 65039,jI 65056,jI 65071]<|.lp p7 [h 7 12,h 0 3,jI 0] 0 0 (.dt 12 (.mk 2) [jI 4352,jI 4447,jI 11904,jI 12350,jI 12353,jI 13311,jI 13312,jI 19903,jI 19968,jI 40959,jI 40960,jI 42191,jI 44032,jI 55203,jI 63744,jI 64255,jI 65072,jI 65135,jI 65280,jI 65376,jI 65504,jI 65510,jI 127744,jI 128591,jI 128640,jI 128767,jI 129280,jI 129535,jI 131072,jI 262141]<|.lp p7 [h 8 12,h 0 3,jI 0] 0 0 (.ret [jI 1]) (.lp p7 [h 8 12,h 0 3,jI 0] 1 0 (.ret [jI 2]) (.no))) (.lp p7 [h 7 12,h 0 3,jI 0] 1 0 (.ret [jI 0]) (.no)))) (.dt 12 (.mk 2) [jI 768,jI 879,jI 1155,jI 1161,jI 1425,jI 1469,jI 1552,jI 1562,jI 1611,jI 1631,jI 6832,jI 6911,jI 7616,jI 7679,jI 8203,jI 8207,jI 8400,jI 8447,jI 65024,jI 65039,jI 65056,jI 65071]<|.lp p7 [h 6 12,h 0 3,jI 0] 0 0 (.dt 12 (.mk 2) [jI 4352,jI 4447,jI 11904,jI 12350,jI 12353,jI 13311,jI 13312,jI 19903,jI 19968,jI 40959,jI 40960,jI 42191,jI 44032,jI 55203,jI 63744,jI 64255,jI 65072,jI 65135,jI 65280,jI 65376,jI 65504,jI 65510,jI 127744,jI 128591,jI 128640,jI 128767,jI 129280,jI 129535,jI 131072,jI 262141]<|.lp p7 [h 7 12,h 0 3,jI 0] 0 0 (.ret [jI 1]) (.lp p7 [h 7 12,h 0 3,jI 0] 1 0 (.ret [jI 2]) (.no))) (.lp p7 [h 6 12,h 0 3,jI 0] 1 0 (.ret [jI 0]) (.no))))) (.lt 8 (.bin .gtr) [h 0 3,jI 57343]<|.lt 8 (.un .not) [h 4 8]<|.br 5 (.ret [jI (-1)]) (.lt 8 (.bin .lss) [h 0 3,jI 32]<|.br 6 (.ret [jI (-1)]) (.lt 8 (.bin .geq) [h 0 3,jI 127]<|.br 7 (.lt 8 (.bin .lss) [h 0 3,jI 160]<|.br 8 (.ret [jI (-1)]) (.dt 12 (.mk 2) [jI 768,jI 879,jI 1155,jI 1161,jI 1425,jI 1469,jI 1552,jI 1562,jI 1611,jI 1631,jI 6832,jI 6911,jI 7616,jI 7679,jI 8203,jI 8207,jI 8400,jI 8447,jI 65024,jI 65039,jI 65056,jI 65071]<|.lp p7 [h 9 12,h 0 3,jI 0] 0 0 (.dt 12 (.mk 2) [jI 4352,jI 4447,jI 11904,jI 12350,jI 12353,jI 13311,jI 13312,jI 19903,jI 19968,jI 40959,jI 40960,jI 42191,jI 44032,jI 55203,jI 63744,jI 64255,jI 65072,jI 65135,jI 65280,jI 65376,jI 65504,jI 65510,jI 127744,jI 128591,jI 128640,jI 128767,jI 129280,jI 129535,jI 131072,jI 262141]<|.lp p7 [h 10 12,h 0 3,jI 0] 0 0 (.ret [jI 1]) (.lp p7 [h 10 12,h 0 3,jI 0] 1 0 (.ret [jI 2]) (.no))) (.lp p7 [h 9 12,h 0 3,jI 0] 1 0 (.ret [jI 0]) (.no)))) (.dt 12 (.mk 2) [jI 768,jI 879,jI 1155,jI 1161,jI 1425,jI 1469,jI 1552,jI 1562,jI 1611,jI 1631,jI 6832,jI 6911,jI 7616,jI 7679,jI 8203,jI 8207,jI 8400,jI 8447,jI 65024,jI 65039,jI 65056,jI 65071]<|.lp p7 [h 8 12,h 0 3,jI 0] 0 0 (.dt 12 (.mk 2) [jI 4352,jI 4447,jI 11904,jI 12350,jI 12353,jI 13311,jI 13312,jI 19903,jI 19968,jI 40959,jI 40960,jI 42191,jI 44032,jI 55203,jI 63744,jI 64255,jI 65072,jI 65135,jI 65280,jI 65376,jI 65504,jI 65510,jI 127744,jI 128591,jI 128640,jI 128767,jI 129280,jI 129535,jI 131072,jI 262141]<|.lp p7 [h 9 12,h 0 3,jI 0] 0 0 (.ret [jI 1]) (.lp p7 [h 9 12,h 0 3,jI 0] 1 0 (.ret [jI 2]) (.no))) (.lp p7 [h 8 12,h 0 3,jI 0] 1 0 (.ret [jI 0]) (.no))))))) (.ret [jI (-1)])) (.ret [jI (-1)])
theorem C5j{G:Nat→Option Obj}(hst:D0 Tryd.prog G gl H0 n0):Y5 Tryd.prog G 89 [.s 3] B2Q [.s 3]:=by
 refine J9 (C:=cx C4B C4V) (d:=60) C23 (cxg (B92 hst) (C0W hst)) hst ⟨Tryd.f89,_,Tryd.func89,rfl⟩ (by kernel_rfl) (by kernel_rfl) ?_;intro us outs hs;unfold B2Q at hs;split at hs
 ·skip;rename_i c;cases hs;unfold C23;refine s0 (.cons 0 _ (.nil)) rfl (by simp[Ev.ok,Ev.len]) ?_;refine s1 (i0 _ _ _) rfl rfl rfl ?_;refine s5 rfl (fun g0=>?_) fun g0=>?_
  ·refine s7 [.int .i64 _] rfl ?_;refine congrArg (fun z=>[U.int .i64 z]) ?_;symm;first|exact Q2 (by unfold okU;omega)|exact W7 (by unfold okU;omega) (N5 ‹_› (H4 c))|exact W6 (by unfold okU;omega) (H7 ‹_› (H4 c)) (N5 ‹_› (K8 c))|exact R0 (by unfold okU;omega) (H7 ‹_› (H4 c)) (H7 ‹_› (K8 c))
  refine s1 (A0V _ _ _) rfl rfl rfl ?_;refine s5 rfl (fun g1=>?_) fun g1=>?_
  ·refine s7 [.int .i64 _] rfl ?_;refine congrArg (fun z=>[U.int .i64 z]) ?_;symm;first|exact Q2 (by unfold okU;omega)|exact W7 (by unfold okU;omega) (N5 ‹_› (H4 c))|exact W6 (by unfold okU;omega) (H7 ‹_› (H4 c)) (N5 ‹_› (K8 c))|exact R0 (by unfold okU;omega) (H7 ‹_› (H4 c)) (H7 ‹_› (K8 c))
  refine s1 (H6 _ _ _) rfl rfl rfl ?_;refine s4 rfl (fun g2=>?_) fun g2=>?_
  ·refine s1 (H6 _ _ _) rfl rfl rfl ?_;refine s4 rfl (fun g3=>?_) fun g3=>?_
   ·refine s7 [.int .i64 _] rfl ?_;refine congrArg (fun z=>[U.int .i64 z]) ?_;symm;first|exact Q2 (by unfold okU;omega)|exact W7 (by unfold okU;omega) (N5 ‹_› (H4 c))|exact W6 (by unfold okU;omega) (H7 ‹_› (H4 c)) (N5 ‹_› (K8 c))|exact R0 (by unfold okU;omega) (H7 ‹_› (H4 c)) (H7 ‹_› (K8 c))
   refine s1 (i0 _ _ _) rfl rfl rfl ?_;refine s4 rfl (fun g4=>?_) fun g4=>?_
   ·refine s1 (H6 _ _ _) rfl rfl rfl ?_;refine s4 rfl (fun g5=>?_) fun g5=>?_
    ·refine s7 [.int .i64 _] rfl ?_;refine congrArg (fun z=>[U.int .i64 z]) ?_;symm;first|exact Q2 (by unfold okU;omega)|exact W7 (by unfold okU;omega) (N5 ‹_› (H4 c))|exact W6 (by unfold okU;omega) (H7 ‹_› (H4 c)) (N5 ‹_› (K8 c))|exact R0 (by unfold okU;omega) (H7 ‹_› (H4 c)) (H7 ‹_› (K8 c))
    refine s2 (r:=rQ) (e9 [(_,_),(_,_),(_,_),(_,_),(_,_),(_,_),(_,_),(_,_),(_,_),(_,_),(_,_)] rfl (by decide) rfl) rfl rfl ?_;refine s6 (Z2 _ _ 0 ⟨by decide,by decide,by decide⟩) rfl (fun _=>rfl) (fun g6=>?_) (fun v6 g6=>?_)
    ·show Tr.sav _ _ _;refine s2 (r:=rQ) (e9 [(_,_),(_,_),(_,_),(_,_),(_,_),(_,_),(_,_),(_,_),(_,_),(_,_),(_,_),(_,_),(_,_),(_,_),(_,_)] rfl (by decide) rfl) rfl rfl ?_;refine s6 (Z2 _ _ 0 ⟨by decide,by decide,by decide⟩) rfl (fun _=>rfl) (fun g7=>?_) (fun v7 g7=>?_)
     ·show Tr.sav _ _ _;refine s7 [.int .i64 _] rfl ?_;refine congrArg (fun z=>[U.int .i64 z]) ?_;symm;first|exact Q2 (by unfold okU;omega)|exact W7 (by unfold okU;omega) (N5 ‹_› (H4 c))|exact W6 (by unfold okU;omega) (H7 ‹_› (H4 c)) (N5 ‹_› (K8 c))|exact R0 (by unfold okU;omega) (H7 ‹_› (H4 c)) (H7 ‹_› (K8 c))
     show Tr.sav _ _ _;refine s7 [.int .i64 _] rfl ?_;refine congrArg (fun z=>[U.int .i64 z]) ?_;symm;first|exact Q2 (by unfold okU;omega)|exact W7 (by unfold okU;omega) (N5 ‹_› (H4 c))|exact W6 (by unfold okU;omega) (H7 ‹_› (H4 c)) (N5 ‹_› (K8 c))|exact R0 (by unfold okU;omega) (H7 ‹_› (H4 c)) (H7 ‹_› (K8 c))
    show Tr.sav _ _ _;refine s7 [.int .i64 _] rfl ?_;refine congrArg (fun z=>[U.int .i64 z]) ?_;symm;first|exact Q2 (by unfold okU;omega)|exact W7 (by unfold okU;omega) (N5 ‹_› (H4 c))|exact W6 (by unfold okU;omega) (H7 ‹_› (H4 c)) (N5 ‹_› (K8 c))|exact R0 (by unfold okU;omega) (H7 ‹_› (H4 c)) (H7 ‹_› (K8 c))
   refine s2 (r:=rQ) (e9 [(_,_),(_,_),(_,_),(_,_),(_,_),(_,_),(_,_),(_,_),(_,_),(_,_),(_,_)] rfl (by decide) rfl) rfl rfl ?_;refine s6 (Z2 _ _ 0 ⟨by decide,by decide,by decide⟩) rfl (fun _=>rfl) (fun g5=>?_) (fun v5 g5=>?_)
   ·show Tr.sav _ _ _;refine s2 (r:=rQ) (e9 [(_,_),(_,_),(_,_),(_,_),(_,_),(_,_),(_,_),(_,_),(_,_),(_,_),(_,_),(_,_),(_,_),(_,_),(_,_)] rfl (by decide) rfl) rfl rfl ?_;refine s6 (Z2 _ _ 0 ⟨by decide,by decide,by decide⟩) rfl (fun _=>rfl) (fun g6=>?_) (fun v6 g6=>?_)
    ·show Tr.sav _ _ _;refine s7 [.int .i64 _] rfl ?_;refine congrArg (fun z=>[U.int .i64 z]) ?_;symm;first|exact Q2 (by unfold okU;omega)|exact W7 (by unfold okU;omega) (N5 ‹_› (H4 c))|exact W6 (by unfold okU;omega) (H7 ‹_› (H4 c)) (N5 ‹_› (K8 c))|exact R0 (by unfold okU;omega) (H7 ‹_› (H4 c)) (H7 ‹_› (K8 c))
    show Tr.sav _ _ _;refine s7 [.int .i64 _] rfl ?_;refine congrArg (fun z=>[U.int .i64 z]) ?_;symm;first|exact Q2 (by unfold okU;omega)|exact W7 (by unfold okU;omega) (N5 ‹_› (H4 c))|exact W6 (by unfold okU;omega) (H7 ‹_› (H4 c)) (N5 ‹_› (K8 c))|exact R0 (by unfold okU;omega) (H7 ‹_› (H4 c)) (H7 ‹_› (K8 c))
   show Tr.sav _ _ _;refine s7 [.int .i64 _] rfl ?_;refine congrArg (fun z=>[U.int .i64 z]) ?_;symm;first|exact Q2 (by unfold okU;omega)|exact W7 (by unfold okU;omega) (N5 ‹_› (H4 c))|exact W6 (by unfold okU;omega) (H7 ‹_› (H4 c)) (N5 ‹_› (K8 c))|exact R0 (by unfold okU;omega) (H7 ‹_› (H4 c)) (H7 ‹_› (K8 c))
  refine s1 (A3B _ _ _) rfl rfl rfl ?_;refine s1 (A1E _) rfl rfl rfl ?_;refine s4 rfl (fun g3=>?_) fun g3=>?_
  ·refine s7 [.int .i64 _] rfl ?_;refine congrArg (fun z=>[U.int .i64 z]) ?_;symm;first|exact Q2 (by unfold okU;omega)|exact W7 (by unfold okU;omega) (N5 ‹_› (H4 c))|exact W6 (by unfold okU;omega) (H7 ‹_› (H4 c)) (N5 ‹_› (K8 c))|exact R0 (by unfold okU;omega) (H7 ‹_› (H4 c)) (H7 ‹_› (K8 c))
  refine s1 (H6 _ _ _) rfl rfl rfl ?_;refine s4 rfl (fun g4=>?_) fun g4=>?_
  ·refine s7 [.int .i64 _] rfl ?_;refine congrArg (fun z=>[U.int .i64 z]) ?_;symm;first|exact Q2 (by unfold okU;omega)|exact W7 (by unfold okU;omega) (N5 ‹_› (H4 c))|exact W6 (by unfold okU;omega) (H7 ‹_› (H4 c)) (N5 ‹_› (K8 c))|exact R0 (by unfold okU;omega) (H7 ‹_› (H4 c)) (H7 ‹_› (K8 c))
  refine s1 (i0 _ _ _) rfl rfl rfl ?_;refine s4 rfl (fun g5=>?_) fun g5=>?_
  ·refine s1 (H6 _ _ _) rfl rfl rfl ?_;refine s4 rfl (fun g6=>?_) fun g6=>?_
   ·refine s7 [.int .i64 _] rfl ?_;refine congrArg (fun z=>[U.int .i64 z]) ?_;symm;first|exact Q2 (by unfold okU;omega)|exact W7 (by unfold okU;omega) (N5 ‹_› (H4 c))|exact W6 (by unfold okU;omega) (H7 ‹_› (H4 c)) (N5 ‹_› (K8 c))|exact R0 (by unfold okU;omega) (H7 ‹_› (H4 c)) (H7 ‹_› (K8 c))
   refine s2 (r:=rQ) (e9 [(_,_),(_,_),(_,_),(_,_),(_,_),(_,_),(_,_),(_,_),(_,_),(_,_),(_,_)] rfl (by decide) rfl) rfl rfl ?_;refine s6 (Z2 _ _ 0 ⟨by decide,by decide,by decide⟩) rfl (fun _=>rfl) (fun g7=>?_) (fun v7 g7=>?_)
   ·show Tr.sav _ _ _;refine s2 (r:=rQ) (e9 [(_,_),(_,_),(_,_),(_,_),(_,_),(_,_),(_,_),(_,_),(_,_),(_,_),(_,_),(_,_),(_,_),(_,_),(_,_)] rfl (by decide) rfl) rfl rfl ?_;refine s6 (Z2 _ _ 0 ⟨by decide,by decide,by decide⟩) rfl (fun _=>rfl) (fun g8=>?_) (fun v8 g8=>?_)
    ·show Tr.sav _ _ _;refine s7 [.int .i64 _] rfl ?_;refine congrArg (fun z=>[U.int .i64 z]) ?_;symm;first|exact Q2 (by unfold okU;omega)|exact W7 (by unfold okU;omega) (N5 ‹_› (H4 c))|exact W6 (by unfold okU;omega) (H7 ‹_› (H4 c)) (N5 ‹_› (K8 c))|exact R0 (by unfold okU;omega) (H7 ‹_› (H4 c)) (H7 ‹_› (K8 c))
    show Tr.sav _ _ _;refine s7 [.int .i64 _] rfl ?_;refine congrArg (fun z=>[U.int .i64 z]) ?_;symm;first|exact Q2 (by unfold okU;omega)|exact W7 (by unfold okU;omega) (N5 ‹_› (H4 c))|exact W6 (by unfold okU;omega) (H7 ‹_› (H4 c)) (N5 ‹_› (K8 c))|exact R0 (by unfold okU;omega) (H7 ‹_› (H4 c)) (H7 ‹_› (K8 c))
   show Tr.sav _ _ _;refine s7 [.int .i64 _] rfl ?_;refine congrArg (fun z=>[U.int .i64 z]) ?_;symm;first|exact Q2 (by unfold okU;omega)|exact W7 (by unfold okU;omega) (N5 ‹_› (H4 c))|exact W6 (by unfold okU;omega) (H7 ‹_› (H4 c)) (N5 ‹_› (K8 c))|exact R0 (by unfold okU;omega) (H7 ‹_› (H4 c)) (H7 ‹_› (K8 c))
  refine s2 (r:=rQ) (e9 [(_,_),(_,_),(_,_),(_,_),(_,_),(_,_),(_,_),(_,_),(_,_),(_,_),(_,_)] rfl (by decide) rfl) rfl rfl ?_;refine s6 (Z2 _ _ 0 ⟨by decide,by decide,by decide⟩) rfl (fun _=>rfl) (fun g6=>?_) (fun v6 g6=>?_)
  ·show Tr.sav _ _ _;refine s2 (r:=rQ) (e9 [(_,_),(_,_),(_,_),(_,_),(_,_),(_,_),(_,_),(_,_),(_,_),(_,_),(_,_),(_,_),(_,_),(_,_),(_,_)] rfl (by decide) rfl) rfl rfl ?_;refine s6 (Z2 _ _ 0 ⟨by decide,by decide,by decide⟩) rfl (fun _=>rfl) (fun g7=>?_) (fun v7 g7=>?_)
   ·show Tr.sav _ _ _;refine s7 [.int .i64 _] rfl ?_;refine congrArg (fun z=>[U.int .i64 z]) ?_;symm;first|exact Q2 (by unfold okU;omega)|exact W7 (by unfold okU;omega) (N5 ‹_› (H4 c))|exact W6 (by unfold okU;omega) (H7 ‹_› (H4 c)) (N5 ‹_› (K8 c))|exact R0 (by unfold okU;omega) (H7 ‹_› (H4 c)) (H7 ‹_› (K8 c))
   show Tr.sav _ _ _;refine s7 [.int .i64 _] rfl ?_;refine congrArg (fun z=>[U.int .i64 z]) ?_;symm;first|exact Q2 (by unfold okU;omega)|exact W7 (by unfold okU;omega) (N5 ‹_› (H4 c))|exact W6 (by unfold okU;omega) (H7 ‹_› (H4 c)) (N5 ‹_› (K8 c))|exact R0 (by unfold okU;omega) (H7 ‹_› (H4 c)) (H7 ‹_› (K8 c))
  show Tr.sav _ _ _;refine s7 [.int .i64 _] rfl ?_;refine congrArg (fun z=>[U.int .i64 z]) ?_;symm;first|exact Q2 (by unfold okU;omega)|exact W7 (by unfold okU;omega) (N5 ‹_› (H4 c))|exact W6 (by unfold okU;omega) (H7 ‹_› (H4 c)) (N5 ‹_› (K8 c))|exact R0 (by unfold okU;omega) (H7 ‹_› (H4 c)) (H7 ‹_› (K8 c))
 ·cases hs
theorem lt8{i:Int}(h0:0≤i)(h1:i<8):i=0∨i=1∨i=2∨i=3∨i=4∨i=5∨i=6∨i=7:=by omega
@[irreducible] def A47(b:Int):Int:=if b / 8%8=5 then 768 else if b / 8%4=1 then 769 else 0
@[irreducible] def A46(b:Int):Int:=if b / 8%8=5 then 8400 else 0
@[irreducible] def sgB(b:Int):Int:=([32,97,122,233,20013,128512,65533,69]:List Int).getD (b%8).toNat 0
@[irreducible] def sgW(b:Int):Int:=A1u (([32,97,122,233,20013,128512,65533,69]:List Int).getD (b%8).toNat 0)-1
@[irreducible] def A5E(s:Int):Int:=([0,0,1,0,17,0,2,255]:List Int).getD (s%8).toNat 0
@[irreducible] def A5D(s:Int):Int:=([0,0,0,0,0,3,0,5]:List Int).getD (s%8).toNat 0
@[irreducible] def A5C(s:Int):Int:=([0,0,0,0,2,0,0,0]:List Int).getD (s%8).toNat 0
@[irreducible] def A5B(s:Int):Int:=([0,0,0,0,1056816,0,0,0]:List Int).getD (s%8).toNat 0
@[irreducible] def A5A(s:Int):Int:=([0,0,0,1,0,0,2,0]:List Int).getD (s%8).toNat 0
@[irreducible] def A4_(s:Int):Int:=([0,0,0,4,0,0,16777215,0]:List Int).getD (s%8).toNat 0
@[irreducible] def A49(s:Int):Int:=([0,0,0,0,0,1,0,0]:List Int).getD (s%8).toNat 0
@[irreducible] def A48(s:Int):Int:=([0,0,0,0,0,200,0,0]:List Int).getD (s%8).toNat 0
def C4l(b s:Int):Cel:=(sgB b,A47 b,A46 b,sgW b,A5E s,A5D s,A5C s,A5B s,A5A s,A4_ s,A49 s,A48 s)
theorem C1v{b:Int}(h0:0≤b):let c:=([32,97,122,233,20013,128512,65533,69]:List Int).getD (b%8).toNat 0;(c=32∨c=97∨c=122∨c=233∨c=20013∨c=128512∨c=65533∨c=69)∧1≤A1u c∧A1u c≤2:=by
 rcases lt8 (A3U b (by decide:(8:Int)≠0)) (Int.emod_lt_of_pos b (by decide))with h|h|h|h|h|h|h|h<;>rw[h]<;>decide
noncomputable def C3_:List (FuncId×FnC):=(89,Q7 Tryd.prog [.s 3] B2Q [.s 3])::L0
theorem B90{G:Nat→Option Obj}(hst:D0 Tryd.prog G gl H0 n0):K3 Tryd.prog G gl C3_:=(.cons (C5j hst) .nil)
def A9u:List U→Option (Nat×List U)
 | [.int .u8 b,.int .u8 s]=>if 0≤b∧b≤255∧0≤s∧s≤255 then some (0,[.int .i64 (sgB b),.int .i64 (A47 b),.int .i64 (A46 b),.int .i64 (sgW b),.int .i64 (A5E s),.int .i64 (A5D s),.int .i64 (A5C s),.int .i64 (A5B s),.int .i64 (A5A s),.int .i64 (A4_ s),.int .i64 (A49 s),.int .i64 (A48 s)])else none
 | _=>none
theorem C0r(b:Int)(s:Int)(hc:0≤b∧b≤255∧0≤s∧s≤255):A9u [.int .u8 b,.int .u8 s]=some (0,[.int .i64 (sgB b),.int .i64 (A47 b),.int .i64 (A46 b),.int .i64 (sgW b),.int .i64 (A5E s),.int .i64 (A5D s),.int .i64 (A5C s),.int .i64 (A5B s),.int .i64 (A5A s),.int .i64 (A4_ s),.int .i64 (A49 s),.int .i64 (A48 s)]):=if_pos hc
def C2w:Tr:=.lt 4 (.bin .rem) [h 0 4,.int .u8 (8)]<|.lt 8 (.inb) [h 2 4,jI 8]<|.br 3 (.lt 3 (.sel) [h 2 4,jI 32,jI 97,jI 122,jI 233,jI 20013,jI 128512,jI 65533,jI 69]<|.lt 4 (.bin .rem) [h 1 4,.int .u8 (8)]<|.lt 8 (.inb) [h 5 4,jI 8]<|.br 6 (.lt 3 (.sel) [h 5 4,jI 0,jI 0,jI 1,jI 0,jI 17,jI 0,jI 2,jI 255]<|.lt 3 (.sel) [h 5 4,jI 0,jI 0,jI 0,jI 0,jI 0,jI 3,jI 0,jI 5]<|.lt 3 (.sel) [h 5 4,jI 0,jI 0,jI 0,jI 0,jI 2,jI 0,jI 0,jI 0]<|.lt 3 (.sel) [h 5 4,jI 0,jI 0,jI 0,jI 0,jI 1056816,jI 0,jI 0,jI 0]<|.lt 3 (.sel) [h 5 4,jI 0,jI 0,jI 0,jI 1,jI 0,jI 0,jI 2,jI 0]<|.lt 3 (.sel) [h 5 4,jI 0,jI 0,jI 0,jI 4,jI 0,jI 0,jI 16777215,jI 0]<|.lt 3 (.sel) [h 5 4,jI 0,jI 0,jI 0,jI 0,jI 0,jI 1,jI 0,jI 0]<|.lt 3 (.sel) [h 5 4,jI 0,jI 0,jI 0,jI 0,jI 0,jI 200,jI 0,jI 0]<|.fn B2Q [h 4 3] 1<|.lt 3 (.bin .sub) [h 15 3,jI 1]<|.lt 4 (.bin .quo) [h 0 4,.int .u8 (8)]<|.lt 4 (.bin .rem) [h 17 4,.int .u8 (4)]<|.lt 8 (.bin .eql) [h 18 4,.int .u8 (1)]<|.br 19 (.lt 4 (.bin .quo) [h 0 4,.int .u8 (8)]<|.lt 4 (.bin .rem) [h 20 4,.int .u8 (8)]<|.lt 8 (.bin .eql) [h 21 4,.int .u8 (5)]<|.br 22 (.ret [h 4 3,jI 768,jI 8400,h 16 3,h 7 3,h 8 3,h 9 3,h 10 3,h 11 3,h 12 3,h 13 3,h 14 3]) (.ret [h 4 3,jI 769,jI 0,h 16 3,h 7 3,h 8 3,h 9 3,h 10 3,h 11 3,h 12 3,h 13 3,h 14 3])) (.lt 4 (.bin .quo) [h 0 4,.int .u8 (8)]<|.lt 4 (.bin .rem) [h 20 4,.int .u8 (8)]<|.lt 8 (.bin .eql) [h 21 4,.int .u8 (5)]<|.br 22 (.ret [h 4 3,jI 768,jI 8400,h 16 3,h 7 3,h 8 3,h 9 3,h 10 3,h 11 3,h 12 3,h 13 3,h 14 3]) (.ret [h 4 3,jI 0,jI 0,h 16 3,h 7 3,h 8 3,h 9 3,h 10 3,h 11 3,h 12 3,h 13 3,h 14 3]))) (.no)) (.no)
theorem C2x{G:Nat→Option Obj}(hst:D0 Tryd.prog G gl H0 n0):Y5 Tryd.prog G 73 [.s 4,.s 4] A9u [.a [3,3,3,3,3,3,3,3,3,3,3,3]]:=by
 refine J9 (C:=cx C3_ []) (d:=60) C2w (cxg (B90 hst) .nil) hst ⟨Tryd.f73,_,Tryd.func73,rfl⟩ (by kernel_rfl) (by kernel_rfl) ?_;intro us outs hs;unfold A9u at hs;split at hs
 ·skip;rename_i b s;split at hs
  ·rename_i hc;cases hs;have bi:=C1v (b:=b) (by omega);simp only[]at bi;unfold C2w;refine s0 (.cons 1 _ (.cons 0 _ (.nil))) rfl (by simp[Ev.ok,Ev.len]) ?_;first|refine s1 (A4d (by omega) (by omega)) rfl rfl rfl ?_|refine s1 (A5P _ _ _ (by omega)) rfl rfl rfl ?_
   refine s1 (A8t _ _ _ _) rfl rfl rfl ?_;refine s5 rfl (fun g0=>?_) fun g0=>?_
   ·refine s8 ?_;first|omega
   refine s1 (Z3 [32,97,122,233,20013,128512,65533,69] (by omega) (by show _<((8:Nat):Int);omega)) rfl rfl rfl ?_;first|refine s1 (A4d (by omega) (by omega)) rfl rfl rfl ?_|refine s1 (A5P _ _ _ (by omega)) rfl rfl rfl ?_
   refine s1 (A8t _ _ _ _) rfl rfl rfl ?_;refine s5 rfl (fun g1=>?_) fun g1=>?_
   ·refine s8 ?_;first|omega
   refine s1 (Z3 [0,0,1,0,17,0,2,255] (by omega) (by show _<((8:Nat):Int);omega)) rfl rfl rfl ?_;refine s1 (Z3 [0,0,0,0,0,3,0,5] (by omega) (by show _<((8:Nat):Int);omega)) rfl rfl rfl ?_;refine s1 (Z3 [0,0,0,0,2,0,0,0] (by omega) (by show _<((8:Nat):Int);omega)) rfl rfl rfl ?_;refine s1 (Z3 [0,0,0,0,1056816,0,0,0] (by omega) (by show _<((8:Nat):Int);omega)) rfl rfl rfl ?_;refine s1 (Z3 [0,0,0,1,0,0,2,0] (by omega) (by show _<((8:Nat):Int);omega)) rfl rfl rfl ?_;refine s1 (Z3 [0,0,0,4,0,0,16777215,0] (by omega) (by show _<((8:Nat):Int);omega)) rfl rfl rfl ?_;refine s1 (Z3 [0,0,0,0,0,1,0,0] (by omega) (by show _<((8:Nat):Int);omega)) rfl rfl rfl ?_;refine s1 (Z3 [0,0,0,0,0,200,0,0] (by omega) (by show _<((8:Nat):Int);omega)) rfl rfl rfl ?_;refine s31 (C0w _) rfl ?_;first|refine s1 (m4 (D3 (by omega) (by omega))) rfl rfl rfl ?_|refine s1 (A0B _ _ _) rfl rfl rfl ?_
   first|refine s1 (A7r (by omega) (by omega) (A1w (by omega) (by omega))) rfl rfl rfl ?_|refine s1 (A8s _ _ _ (by omega)) rfl rfl rfl ?_
   first|refine s1 (A4d (by omega) (by omega)) rfl rfl rfl ?_|refine s1 (A5P _ _ _ (by omega)) rfl rfl rfl ?_
   refine s1 (L8 _ _ _) rfl rfl rfl ?_;refine s4 rfl (fun g2=>?_) fun g2=>?_
   ·first|refine s1 (A7r (by omega) (by omega) (A1w (by omega) (by omega))) rfl rfl rfl ?_|refine s1 (A8s _ _ _ (by omega)) rfl rfl rfl ?_
    first|refine s1 (A4d (by omega) (by omega)) rfl rfl rfl ?_|refine s1 (A5P _ _ _ (by omega)) rfl rfl rfl ?_
    refine s1 (L8 _ _ _) rfl rfl rfl ?_;refine s4 rfl (fun g3=>?_) fun g3=>?_
    ·refine s7 [.int .i64 _,.int .i64 _,.int .i64 _,.int .i64 _,.int .i64 _,.int .i64 _,.int .i64 _,.int .i64 _,.int .i64 _,.int .i64 _,.int .i64 _,.int .i64 _] rfl ?_;first|(unfold A47 A46 sgB sgW A5E A5D A5C A5B A5A A4_ A49 A48;rw[if_pos (by omega),if_pos (by omega)])|(unfold A47 A46 sgB sgW A5E A5D A5C A5B A5A A4_ A49 A48;rw[if_neg (by omega),if_pos (by omega),if_neg (by omega)])|(unfold A47 A46 sgB sgW A5E A5D A5C A5B A5A A4_ A49 A48;rw[if_neg (by omega),if_neg (by omega),if_neg (by omega)])
    refine s7 [.int .i64 _,.int .i64 _,.int .i64 _,.int .i64 _,.int .i64 _,.int .i64 _,.int .i64 _,.int .i64 _,.int .i64 _,.int .i64 _,.int .i64 _,.int .i64 _] rfl ?_;first|(unfold A47 A46 sgB sgW A5E A5D A5C A5B A5A A4_ A49 A48;rw[if_pos (by omega),if_pos (by omega)])|(unfold A47 A46 sgB sgW A5E A5D A5C A5B A5A A4_ A49 A48;rw[if_neg (by omega),if_pos (by omega),if_neg (by omega)])|(unfold A47 A46 sgB sgW A5E A5D A5C A5B A5A A4_ A49 A48;rw[if_neg (by omega),if_neg (by omega),if_neg (by omega)])
   first|refine s1 (A7r (by omega) (by omega) (A1w (by omega) (by omega))) rfl rfl rfl ?_|refine s1 (A8s _ _ _ (by omega)) rfl rfl rfl ?_
   first|refine s1 (A4d (by omega) (by omega)) rfl rfl rfl ?_|refine s1 (A5P _ _ _ (by omega)) rfl rfl rfl ?_
   refine s1 (L8 _ _ _) rfl rfl rfl ?_;refine s4 rfl (fun g3=>?_) fun g3=>?_
   ·refine s7 [.int .i64 _,.int .i64 _,.int .i64 _,.int .i64 _,.int .i64 _,.int .i64 _,.int .i64 _,.int .i64 _,.int .i64 _,.int .i64 _,.int .i64 _,.int .i64 _] rfl ?_;first|(unfold A47 A46 sgB sgW A5E A5D A5C A5B A5A A4_ A49 A48;rw[if_pos (by omega),if_pos (by omega)])|(unfold A47 A46 sgB sgW A5E A5D A5C A5B A5A A4_ A49 A48;rw[if_neg (by omega),if_pos (by omega),if_neg (by omega)])|(unfold A47 A46 sgB sgW A5E A5D A5C A5B A5A A4_ A49 A48;rw[if_neg (by omega),if_neg (by omega),if_neg (by omega)])
   refine s7 [.int .i64 _,.int .i64 _,.int .i64 _,.int .i64 _,.int .i64 _,.int .i64 _,.int .i64 _,.int .i64 _,.int .i64 _,.int .i64 _,.int .i64 _,.int .i64 _] rfl ?_;first|(unfold A47 A46 sgB sgW A5E A5D A5C A5B A5A A4_ A49 A48;rw[if_pos (by omega),if_pos (by omega)])|(unfold A47 A46 sgB sgW A5E A5D A5C A5B A5A A4_ A49 A48;rw[if_neg (by omega),if_pos (by omega),if_neg (by omega)])|(unfold A47 A46 sgB sgW A5E A5D A5C A5B A5A A4_ A49 A48;rw[if_neg (by omega),if_neg (by omega),if_neg (by omega)])
  ·cases hs
 ·cases hs
end Go.Proofs.YtdkdbjgkedahfaaDoor
