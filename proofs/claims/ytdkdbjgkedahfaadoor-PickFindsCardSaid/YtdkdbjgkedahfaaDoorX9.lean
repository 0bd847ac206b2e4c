/- The law PickFinds: for every input the call returns true, and the arguments read behind it as they read before. No condition. -/
import Derived.Test.YtdkdbjgkedahfaaDoorX8
namespace Go.Proofs.YtdkdbjgkedahfaaDoor
set_option linter.all false
open Go Go.Sx
set_option maxRecDepth 100000
set_option linter.unusedVariables false
set_option linter.unusedSimpArgs false
theorem C4R(x:BitVec 64):x &&& ~~~(255#64)=(x >>> 8) <<< 8:=by
 have h:∀ i,i<64→(255#64).getLsbD i=decide (i<8):=by decide
 apply BitVec.eq_of_getLsbD_eq;intro i hi;rw[BitVec.getLsbD_and,BitVec.getLsbD_not,h i hi,BitVec.getLsbD_shiftLeft,BitVec.getLsbD_ushiftRight];by_cases h8:i<8
 ·simp[h8]
 ·simp[h8,hi,show 8+(i-8)=i by omega]
theorem C3_{a:Int}(h0 : -9223372036854775808≤a)(h1:a≤9223372036854775807):evU (.bin .andNot) [.int .i64 a,.int .i64 255]=.int .i64 (a-a%256):=by
 rw[B8J];have e:(BitVec.ofInt IntKind.i64.bits a &&& ~~~BitVec.ofInt IntKind.i64.bits 255).toNat=((BitVec.ofInt 64 a >>> 8) <<< 8).toNat:=congrArg BitVec.toNat (C4R (BitVec.ofInt 64 a));rw[e];have e2:((BitVec.ofInt 64 a >>> 8) <<< 8).toNat=(BitVec.ofInt 64 a).toNat / 256*256:=by
  rw[BitVec.toNat_shiftLeft,BitVec.toNat_ushiftRight,Nat.shiftLeft_eq,Nat.shiftRight_eq_div_pow]
  have:=(BitVec.ofInt 64 a).isLt;exact A1S (by omega)
 rw[e2,A2k];refine congrArg (U.int .i64) ?_;have e3:((2 ^ 64:Nat):Int)=18446744073709551616:=by decide
 rw[e3];generalize hA:(a%18446744073709551616).toNat=A;have hA1:(A:Int)=a%18446744073709551616:=by omega
 have e4:((A / 256*256:Nat):Int)=a%18446744073709551616-a%256:=by omega
 rw[e4];simp only[IntKind.wrap,IntKind.bits,IntKind.signed];simp;omega
def y5(k n:Int):Int:=if(k=0∧n=0)∨(k=1∧0≤n∧n≤255)∨(k=2∧0≤n∧n≤16777215)then 0 else 130
def A6E:List U→Option (Nat×List U)
 | [.int .i64 k,.int .i64 n]=>some (0,[.int .i64 (y5 k n)])
 | _=>none
theorem B0A(k:Int)(n:Int):A6E [.int .i64 k,.int .i64 n]=some (0,[.int .i64 (y5 k n)]):=rfl
def C1c:Tr:=.lt 8 (.bin .lss) [h 0 3,jI 0]<|.br 2 (.ret [jI 130]) (.lt 8 (.bin .geq) [h 0 3,jI 3]<|.br 3 (.ret [jI 130]) (.lt 8 (.bin .lss) [h 1 3,jI 0]<|.br 4 (.ret [jI 130]) (.lt 8 (.inb) [h 0 3,jI 3]<|.br 5 (.lt 3 (.sel) [h 0 3,jI 0,jI 255,jI 16777215]<|.lt 8 (.bin .gtr) [h 1 3,h 6 3]<|.br 7 (.ret [jI 130]) (.ret [jI 0])) (.no))))
theorem C9A{G:Nat→Option Obj}(hst:B9 Tryd.prog G gl H0 n0):S1 Tryd.prog G 111 [.a [3,3]] A6E [.s 3]:=by
 refine G6 (C:=cx C3D []) (d:=60) C1c (cxg (B48 hst) .nil) hst ⟨Tryd.f111,_,Tryd.func111,rfl⟩ (by kernel_rfl) (by kernel_rfl) ?_;intro us outs hs;unfold A6E at hs;split at hs
 ·skip;rename_i k n;cases hs;unfold C1c;refine s0 (.cons 1 _ (.cons 0 _ (.nil))) rfl (by simp[Ev.ok,Ev.len]) ?_;refine s1 (F0 _ _ _) rfl rfl rfl ?_;refine s4 rfl (fun g0=>?_) fun g0=>?_
  ·refine s7 [.int .i64 _] rfl ?_;simp only[y5];first|(rw[if_pos (by omega)];done)|(rw[if_neg (by omega)];done)|((obtain rfl|rfl|rfl:k=0∨k=1∨k=2:=(by omega))<;>simp at *<;>first|(rw[if_pos (by omega)];done)|(rw[if_neg (by omega)];done)|omega)
  refine s1 (Q3 _ _ _) rfl rfl rfl ?_;refine s4 rfl (fun g1=>?_) fun g1=>?_
  ·refine s7 [.int .i64 _] rfl ?_;simp only[y5];first|(rw[if_pos (by omega)];done)|(rw[if_neg (by omega)];done)|((obtain rfl|rfl|rfl:k=0∨k=1∨k=2:=(by omega))<;>simp at *<;>first|(rw[if_pos (by omega)];done)|(rw[if_neg (by omega)];done)|omega)
  refine s1 (F0 _ _ _) rfl rfl rfl ?_;refine s4 rfl (fun g2=>?_) fun g2=>?_
  ·refine s7 [.int .i64 _] rfl ?_;simp only[y5];first|(rw[if_pos (by omega)];done)|(rw[if_neg (by omega)];done)|((obtain rfl|rfl|rfl:k=0∨k=1∨k=2:=(by omega))<;>simp at *<;>first|(rw[if_pos (by omega)];done)|(rw[if_neg (by omega)];done)|omega)
  refine s1 (A91 _ _ _ _) rfl rfl rfl ?_;refine s5 rfl (fun g3=>?_) fun g3=>?_
  ·refine s8 ?_;first|omega|(simp_all;done)|(simp_all;omega)
  refine s1 (u5 [0,255,16777215] (by omega) (by show _<((3:Nat):Int);omega)) rfl rfl rfl ?_;refine s1 (Y8 _ _ _) rfl rfl rfl ?_;refine s4 rfl (fun g4=>?_) fun g4=>?_
  ·refine s7 [.int .i64 _] rfl ?_;simp only[y5];first|(rw[if_pos (by omega)];done)|(rw[if_neg (by omega)];done)|((obtain rfl|rfl|rfl:k=0∨k=1∨k=2:=(by omega))<;>simp at *<;>first|(rw[if_pos (by omega)];done)|(rw[if_neg (by omega)];done)|omega)
  refine s7 [.int .i64 _] rfl ?_;simp only[y5];first|(rw[if_pos (by omega)];done)|(rw[if_neg (by omega)];done)|((obtain rfl|rfl|rfl:k=0∨k=1∨k=2:=(by omega))<;>simp at *<;>first|(rw[if_pos (by omega)];done)|(rw[if_neg (by omega)];done)|omega)
 ·cases hs
noncomputable def C3E:List (FuncId×FnC):=(111,M5 Tryd.prog [.a [3,3]] A6E [.s 3])::C3D
theorem B8e{G:Nat→Option Obj}(hst:B9 Tryd.prog G gl H0 n0):H6 Tryd.prog G gl C3E:=.cons (C9A hst) (B48 hst)
def A4H(a u fk fn bk bn lk ln:Int):Int:=if a<0∨255<a∨u<0∨5<u then 140 else if y5 fk fn≠0 then y5 fk fn else if y5 bk bn≠0 then y5 bk bn else y5 lk ln
theorem A0c{a u fk fn bk bn lk ln:Int}(h:a<0∨255<a∨u<0∨5<u):A4H a u fk fn bk bn lk ln=140:=if_pos h
theorem A0b{a u fk fn bk bn lk ln:Int}(h:¬(a<0∨255<a∨u<0∨5<u))(h2:y5 fk fn≠0):A4H a u fk fn bk bn lk ln=y5 fk fn:=by unfold A4H;rw[if_neg h,if_pos h2]
theorem A0a{a u fk fn bk bn lk ln:Int}(h:¬(a<0∨255<a∨u<0∨5<u))(h2:¬y5 fk fn≠0)(h3:y5 bk bn≠0):A4H a u fk fn bk bn lk ln=y5 bk bn:=by unfold A4H;rw[if_neg h,if_neg h2,if_pos h3]
theorem A0B{a u fk fn bk bn lk ln:Int}(h:¬(a<0∨255<a∨u<0∨5<u))(h2:¬y5 fk fn≠0)(h3:¬y5 bk bn≠0):A4H a u fk fn bk bn lk ln=y5 lk ln:=by unfold A4H;rw[if_neg h,if_neg h2,if_neg h3]
theorem A0d{a u fk fn bk bn lk ln:Int}(h:¬(a<0∨255<a∨u<0∨5<u))(h2:¬y5 fk fn≠0)(h3:¬y5 bk bn≠0)(h4:¬y5 lk ln≠0):A4H a u fk fn bk bn lk ln=0:=by rw[A0B h h2 h3];exact R9.1 h4
def A4P:List U→Option (Nat×List U)
 | [.int .i64 a,.int .i64 u,.int .i64 fk,.int .i64 fn,.int .i64 bk,.int .i64 bn,.int .i64 lk,.int .i64 ln]=>if(-9223372036854775808≤a∧a≤9223372036854775807)then some (0,[.int .i64 (A4H a u fk fn bk bn lk ln)])else none
 | _=>none
theorem A3i(a:Int)(u:Int)(fk:Int)(fn:Int)(bk:Int)(bn:Int)(lk:Int)(ln:Int)(hc:(-9223372036854775808≤a∧a≤9223372036854775807)):A4P [.int .i64 a,.int .i64 u,.int .i64 fk,.int .i64 fn,.int .i64 bk,.int .i64 bn,.int .i64 lk,.int .i64 ln]=some (0,[.int .i64 (A4H a u fk fn bk bn lk ln)]):=if_pos hc
def C5C:Tr:=.lt 3 (.bin .andNot) [h 0 3,jI 255]<|.lt 8 (.bin .neq) [h 8 3,jI 0]<|.br 9 (.ret [jI 140]) (.lt 8 (.bin .lss) [h 1 3,jI 0]<|.br 10 (.ret [jI 140]) (.lt 8 (.bin .gtr) [h 1 3,jI 5]<|.br 11 (.ret [jI 140]) (.fn A6E [h 2 3,h 3 3] 1<|.lt 8 (.bin .neq) [h 12 3,jI 0]<|.br 13 (.ret [h 12 3]) (.fn A6E [h 4 3,h 5 3] 1<|.lt 8 (.bin .neq) [h 14 3,jI 0]<|.br 15 (.ret [h 14 3]) (.fn A6E [h 6 3,h 7 3] 1<|.lt 8 (.bin .neq) [h 16 3,jI 0]<|.br 17 (.ret [h 16 3]) (.ret [jI 0]))))))
theorem C9L{G:Nat→Option Obj}(hst:B9 Tryd.prog G gl H0 n0):S1 Tryd.prog G 107 [.a [3,3,3,3,3,3,3,3]] A4P [.s 3]:=by
 refine G6 (C:=cx C3E []) (d:=60) C5C (cxg (B8e hst) .nil) hst ⟨Tryd.f107,_,Tryd.func107,rfl⟩ (by kernel_rfl) (by kernel_rfl) ?_;intro us outs hs;unfold A4P at hs;split at hs
 ·skip;rename_i a u fk fn bk bn lk ln;split at hs
  ·rename_i hc;cases hs;unfold C5C;refine s0 (.cons 7 _ (.cons 6 _ (.cons 5 _ (.cons 4 _ (.cons 3 _ (.cons 2 _ (.cons 1 _ (.cons 0 _ (.nil))))))))) rfl (by simp[Ev.ok,Ev.len]) ?_;refine s1 (C3_ hc.1 hc.2) rfl rfl rfl ?_;refine s1 (I0 _ _ _) rfl rfl rfl ?_;refine s4 rfl (fun g0=>?_) fun g0=>?_
   ·refine s7 [.int .i64 _] rfl ?_;refine congrArg (fun z=>[U.int .i64 z]) ?_;symm;first|exact A0c (by omega)|exact A0b (by omega) ‹_›|exact A0a (by omega) ‹_› ‹_›|exact A0B (by omega) ‹_› ‹_›|exact A0d (by omega) ‹_› ‹_› ‹_›
   refine s1 (F0 _ _ _) rfl rfl rfl ?_;refine s4 rfl (fun g1=>?_) fun g1=>?_
   ·refine s7 [.int .i64 _] rfl ?_;refine congrArg (fun z=>[U.int .i64 z]) ?_;symm;first|exact A0c (by omega)|exact A0b (by omega) ‹_›|exact A0a (by omega) ‹_› ‹_›|exact A0B (by omega) ‹_› ‹_›|exact A0d (by omega) ‹_› ‹_› ‹_›
   refine s1 (Y8 _ _ _) rfl rfl rfl ?_;refine s4 rfl (fun g2=>?_) fun g2=>?_
   ·refine s7 [.int .i64 _] rfl ?_;refine congrArg (fun z=>[U.int .i64 z]) ?_;symm;first|exact A0c (by omega)|exact A0b (by omega) ‹_›|exact A0a (by omega) ‹_› ‹_›|exact A0B (by omega) ‹_› ‹_›|exact A0d (by omega) ‹_› ‹_› ‹_›
   refine s31 (B0A _ _) rfl ?_;refine s1 (I0 _ _ _) rfl rfl rfl ?_;refine s4 rfl (fun g3=>?_) fun g3=>?_
   ·refine s7 [.int .i64 _] rfl ?_;refine congrArg (fun z=>[U.int .i64 z]) ?_;symm;first|exact A0c (by omega)|exact A0b (by omega) ‹_›|exact A0a (by omega) ‹_› ‹_›|exact A0B (by omega) ‹_› ‹_›|exact A0d (by omega) ‹_› ‹_› ‹_›
   refine s31 (B0A _ _) rfl ?_;refine s1 (I0 _ _ _) rfl rfl rfl ?_;refine s4 rfl (fun g4=>?_) fun g4=>?_
   ·refine s7 [.int .i64 _] rfl ?_;refine congrArg (fun z=>[U.int .i64 z]) ?_;symm;first|exact A0c (by omega)|exact A0b (by omega) ‹_›|exact A0a (by omega) ‹_› ‹_›|exact A0B (by omega) ‹_› ‹_›|exact A0d (by omega) ‹_› ‹_› ‹_›
   refine s31 (B0A _ _) rfl ?_;refine s1 (I0 _ _ _) rfl rfl rfl ?_;refine s4 rfl (fun g5=>?_) fun g5=>?_
   ·refine s7 [.int .i64 _] rfl ?_;refine congrArg (fun z=>[U.int .i64 z]) ?_;symm;first|exact A0c (by omega)|exact A0b (by omega) ‹_›|exact A0a (by omega) ‹_› ‹_›|exact A0B (by omega) ‹_› ‹_›|exact A0d (by omega) ‹_› ‹_› ‹_›
   refine s7 [.int .i64 _] rfl ?_;refine congrArg (fun z=>[U.int .i64 z]) ?_;symm;first|exact A0c (by omega)|exact A0b (by omega) ‹_›|exact A0a (by omega) ‹_› ‹_›|exact A0B (by omega) ‹_› ‹_›|exact A0d (by omega) ‹_› ‹_› ‹_›
  ·cases hs
 ·cases hs
def I3(b m0 m1 wd:Int):Prop:=(b=0∧m0=0∧m1=0∧wd=2)∨(0≤wd∧wd≤1∧A4G b=wd+1∧(m0=0∨A4G m0=0)∧(m1=0∨(m0≠0∧A4G m1=0)))
instance(b m0 m1 wd:Int):Decidable (I3 b m0 m1 wd):=by unfold I3;infer_instance
def A5b(b m0 m1 wd at_ un fk fn bk bn lk ln:Int):Int:=if I3 b m0 m1 wd∧A4H at_ un fk fn bk bn lk ln=0 then 0 else 221
theorem G9{b m0 m1 wd at_ un fk fn bk bn lk ln:Int}(h:I3 b m0 m1 wd)(h2:A4H at_ un fk fn bk bn lk ln=0):[U.int .i64 0]=[U.int .i64 (A5b b m0 m1 wd at_ un fk fn bk bn lk ln)]:=by unfold A5b;rw[if_pos ⟨h,h2⟩]
theorem I9{b m0 m1 wd at_ un fk fn bk bn lk ln:Int}(h:¬I3 b m0 m1 wd):[U.int .i64 221]=[U.int .i64 (A5b b m0 m1 wd at_ un fk fn bk bn lk ln)]:=by unfold A5b;rw[if_neg (fun h2=>h h2.1)]
theorem I8{b m0 m1 wd at_ un fk fn bk bn lk ln:Int}(h:A4H at_ un fk fn bk bn lk ln≠0):[U.int .i64 221]=[U.int .i64 (A5b b m0 m1 wd at_ un fk fn bk bn lk ln)]:=by unfold A5b;rw[if_neg (fun h2=>h h2.2)]
noncomputable def C75:List (FuncId×FnC):=(105,M5 Tryd.prog [.s 3] A6S [.s 3])::(107,M5 Tryd.prog [.a [3,3,3,3,3,3,3,3]] A4P [.s 3])::L0
theorem C2n{G:Nat→Option Obj}(hst:B9 Tryd.prog G gl H0 n0):H6 Tryd.prog G gl C75:=(.cons (C4s hst) (.cons (C9L hst) .nil))
def B1p:List U→Option (Nat×List U)
 | [.int .i64 b,.int .i64 m0,.int .i64 m1,.int .i64 wd,.int .i64 at_,.int .i64 un,.int .i64 fk,.int .i64 fn,.int .i64 bk,.int .i64 bn,.int .i64 lk,.int .i64 ln]=>if(-9223372036854775808≤at_∧at_≤9223372036854775807)then some (0,[.int .i64 (A5b b m0 m1 wd at_ un fk fn bk bn lk ln)])else none
 | _=>none
theorem C4I(b:Int)(m0:Int)(m1:Int)(wd:Int)(at_:Int)(un:Int)(fk:Int)(fn:Int)(bk:Int)(bn:Int)(lk:Int)(ln:Int)(hc:(-9223372036854775808≤at_∧at_≤9223372036854775807)):B1p [.int .i64 b,.int .i64 m0,.int .i64 m1,.int .i64 wd,.int .i64 at_,.int .i64 un,.int .i64 fk,.int .i64 fn,.int .i64 bk,.int .i64 bn,.int .i64 lk,.int .i64 ln]=some (0,[.int .i64 (A5b b m0 m1 wd at_ un fk fn bk bn lk ln)]):=if_pos hc
def C69:Tr:=.lt 8 (.eqs) [h 0 3,jI 0,h 1 3,jI 0,h 2 3,jI 0,h 3 3,jI 2,h 4 3,h 4 3,h 5 3,h 5 3,h 6 3,h 6 3,h 7 3,h 7 3,h 8 3,h 8 3,h 9 3,h 9 3,h 10 3,h 10 3,h 11 3,h 11 3]<|.br 12 (.fn A4P [h 4 3,h 5 3,h 6 3,h 7 3,h 8 3,h 9 3,h 10 3,h 11 3] 1<|.lt 8 (.bin .neq) [h 13 3,jI 0]<|.br 14 (.ret [jI 221]) (.ret [jI 0])) (.lt 8 (.bin .geq) [h 3 3,jI 0]<|.br 13 (.lt 8 (.bin .leq) [h 3 3,jI 1]<|.br 14 (.fn A6S [h 0 3] 1<|.lt 3 (.bin .add) [h 3 3,jI 1]<|.lt 8 (.bin .eql) [h 15 3,h 16 3]<|.br 17 (.lt 8 (.bin .neq) [h 1 3,jI 0]<|.br 18 (.fn A6S [h 1 3] 1<|.lt 8 (.bin .neq) [h 19 3,jI 0]<|.br 20 (.ret [jI 221]) (.lt 8 (.bin .eql) [h 1 3,jI 0]<|.lt 8 (.bin .neq) [h 2 3,jI 0]<|.br 22 (.br 21 (.ret [jI 221]) (.fn A6S [h 2 3] 1<|.lt 8 (.bin .neq) [h 23 3,jI 0]<|.br 24 (.ret [jI 221]) (.lt 8 (.bin .eql) [h 2 3,jI 0]<|.fn A4P [h 4 3,h 5 3,h 6 3,h 7 3,h 8 3,h 9 3,h 10 3,h 11 3] 1<|.lt 8 (.bin .neq) [h 26 3,jI 0]<|.br 27 (.ret [jI 221]) (.ret [jI 0])))) (.br 21 (.fn A4P [h 4 3,h 5 3,h 6 3,h 7 3,h 8 3,h 9 3,h 10 3,h 11 3] 1<|.lt 8 (.bin .neq) [h 23 3,jI 0]<|.br 24 (.ret [jI 221]) (.ret [jI 0])) (.lt 8 (.bin .eql) [h 2 3,jI 0]<|.fn A4P [h 4 3,h 5 3,h 6 3,h 7 3,h 8 3,h 9 3,h 10 3,h 11 3] 1<|.lt 8 (.bin .neq) [h 24 3,jI 0]<|.br 25 (.ret [jI 221]) (.ret [jI 0]))))) (.lt 8 (.bin .eql) [h 1 3,jI 0]<|.lt 8 (.bin .neq) [h 2 3,jI 0]<|.br 20 (.br 19 (.ret [jI 221]) (.fn A6S [h 2 3] 1<|.lt 8 (.bin .neq) [h 21 3,jI 0]<|.br 22 (.ret [jI 221]) (.lt 8 (.bin .eql) [h 2 3,jI 0]<|.fn A4P [h 4 3,h 5 3,h 6 3,h 7 3,h 8 3,h 9 3,h 10 3,h 11 3] 1<|.lt 8 (.bin .neq) [h 24 3,jI 0]<|.br 25 (.ret [jI 221]) (.ret [jI 0])))) (.br 19 (.fn A4P [h 4 3,h 5 3,h 6 3,h 7 3,h 8 3,h 9 3,h 10 3,h 11 3] 1<|.lt 8 (.bin .neq) [h 21 3,jI 0]<|.br 22 (.ret [jI 221]) (.ret [jI 0])) (.lt 8 (.bin .eql) [h 2 3,jI 0]<|.fn A4P [h 4 3,h 5 3,h 6 3,h 7 3,h 8 3,h 9 3,h 10 3,h 11 3] 1<|.lt 8 (.bin .neq) [h 22 3,jI 0]<|.br 23 (.ret [jI 221]) (.ret [jI 0]))))) (.ret [jI 221])) (.ret [jI 221])) (.ret [jI 221]))
theorem C6_{G:Nat→Option Obj}(hst:B9 Tryd.prog G gl H0 n0):S1 Tryd.prog G 95 [.a [3,3,3,3,3,3,3,3,3,3,3,3]] B1p [.s 3]:=by
 refine G6 (C:=cx C75 []) (d:=60) C69 (cxg (C2n hst) .nil) hst ⟨Tryd.f95,_,Tryd.func95,rfl⟩ (by kernel_rfl) (by kernel_rfl) ?_;intro us outs hs;unfold B1p at hs;split at hs
 ·skip;rename_i b m0 m1 wd at_ un fk fn bk bn lk ln;split at hs
  ·rename_i hc;cases hs;unfold C69;refine s0 (.cons 11 _ (.cons 10 _ (.cons 9 _ (.cons 8 _ (.cons 7 _ (.cons 6 _ (.cons 5 _ (.cons 4 _ (.cons 3 _ (.cons 2 _ (.cons 1 _ (.cons 0 _ (.nil))))))))))))) rfl (by simp[Ev.ok,Ev.len]) ?_;refine s1 rfl rfl rfl rfl ?_;first|refine s4 rfl (fun g0=>?_) (fun g0=>?_)|refine s4B rfl (fun g0=>?_) (fun g0=>?_)
   ·have g0:(b=0∧m0=0∧m1=0∧wd=2):=by simpa using g0
    refine s31 (A3i _ _ _ _ _ _ _ _ (by omega)) rfl ?_;refine s1 (I0 _ _ _) rfl rfl rfl ?_;refine s4 rfl (fun g1=>?_) fun g1=>?_
    ·refine s7 [.int .i64 _] rfl ?_;first|exact G9 (by unfold I3;omega) (by omega)|exact I9 (by unfold I3;omega)|exact I8 (by omega)
    refine s7 [.int .i64 _] rfl ?_;first|exact G9 (by unfold I3;omega) (by omega)|exact I9 (by unfold I3;omega)|exact I8 (by omega)
   have g0:¬(b=0∧m0=0∧m1=0∧wd=2):=by simpa using g0
   refine s1 (Q3 _ _ _) rfl rfl rfl ?_;refine s5 rfl (fun g1=>?_) fun g1=>?_
   ·refine s7 [.int .i64 _] rfl ?_;first|exact G9 (by unfold I3;omega) (by omega)|exact I9 (by unfold I3;omega)|exact I8 (by omega)
   refine s1 (t5 _ _ _) rfl rfl rfl ?_;refine s5 rfl (fun g2=>?_) fun g2=>?_
   ·refine s7 [.int .i64 _] rfl ?_;first|exact G9 (by unfold I3;omega) (by omega)|exact I9 (by unfold I3;omega)|exact I8 (by omega)
   refine s31 (A8h _) rfl ?_;first|refine s1 (B6 (B4 (by omega) (by omega))) rfl rfl rfl ?_|refine s1 (C3 _ _ _) rfl rfl rfl ?_
   refine s1 (F4 _ _ _) rfl rfl rfl ?_;refine s5 rfl (fun g3=>?_) fun g3=>?_
   ·refine s7 [.int .i64 _] rfl ?_;first|exact G9 (by unfold I3;omega) (by omega)|exact I9 (by unfold I3;omega)|exact I8 (by omega)
   refine s1 (I0 _ _ _) rfl rfl rfl ?_;refine s4 rfl (fun g4=>?_) fun g4=>?_
   ·refine s31 (A8h _) rfl ?_;refine s1 (I0 _ _ _) rfl rfl rfl ?_;refine s4 rfl (fun g5=>?_) fun g5=>?_
    ·refine s7 [.int .i64 _] rfl ?_;first|exact G9 (by unfold I3;omega) (by omega)|exact I9 (by unfold I3;omega)|exact I8 (by omega)
    refine s1 (F4 _ _ _) rfl rfl rfl ?_;refine s1 (I0 _ _ _) rfl rfl rfl ?_;refine s4 rfl (fun g6=>?_) fun g6=>?_
    ·refine s4 rfl (fun g7=>?_) fun g7=>?_
     ·refine s7 [.int .i64 _] rfl ?_;first|exact G9 (by unfold I3;omega) (by omega)|exact I9 (by unfold I3;omega)|exact I8 (by omega)
     refine s31 (A8h _) rfl ?_;refine s1 (I0 _ _ _) rfl rfl rfl ?_;refine s4 rfl (fun g8=>?_) fun g8=>?_
     ·refine s7 [.int .i64 _] rfl ?_;first|exact G9 (by unfold I3;omega) (by omega)|exact I9 (by unfold I3;omega)|exact I8 (by omega)
     refine s1 (F4 _ _ _) rfl rfl rfl ?_;refine s31 (A3i _ _ _ _ _ _ _ _ (by omega)) rfl ?_;refine s1 (I0 _ _ _) rfl rfl rfl ?_;refine s4 rfl (fun g9=>?_) fun g9=>?_
     ·refine s7 [.int .i64 _] rfl ?_;first|exact G9 (by unfold I3;omega) (by omega)|exact I9 (by unfold I3;omega)|exact I8 (by omega)
     refine s7 [.int .i64 _] rfl ?_;first|exact G9 (by unfold I3;omega) (by omega)|exact I9 (by unfold I3;omega)|exact I8 (by omega)
    refine s4 rfl (fun g7=>?_) fun g7=>?_
    ·refine s31 (A3i _ _ _ _ _ _ _ _ (by omega)) rfl ?_;refine s1 (I0 _ _ _) rfl rfl rfl ?_;refine s4 rfl (fun g8=>?_) fun g8=>?_
     ·refine s7 [.int .i64 _] rfl ?_;first|exact G9 (by unfold I3;omega) (by omega)|exact I9 (by unfold I3;omega)|exact I8 (by omega)
     refine s7 [.int .i64 _] rfl ?_;first|exact G9 (by unfold I3;omega) (by omega)|exact I9 (by unfold I3;omega)|exact I8 (by omega)
    refine s1 (F4 _ _ _) rfl rfl rfl ?_;refine s31 (A3i _ _ _ _ _ _ _ _ (by omega)) rfl ?_;refine s1 (I0 _ _ _) rfl rfl rfl ?_;refine s4 rfl (fun g8=>?_) fun g8=>?_
    ·refine s7 [.int .i64 _] rfl ?_;first|exact G9 (by unfold I3;omega) (by omega)|exact I9 (by unfold I3;omega)|exact I8 (by omega)
    refine s7 [.int .i64 _] rfl ?_;first|exact G9 (by unfold I3;omega) (by omega)|exact I9 (by unfold I3;omega)|exact I8 (by omega)
   refine s1 (F4 _ _ _) rfl rfl rfl ?_;refine s1 (I0 _ _ _) rfl rfl rfl ?_;refine s4 rfl (fun g5=>?_) fun g5=>?_
   ·refine s4 rfl (fun g6=>?_) fun g6=>?_
    ·refine s7 [.int .i64 _] rfl ?_;first|exact G9 (by unfold I3;omega) (by omega)|exact I9 (by unfold I3;omega)|exact I8 (by omega)
    refine s31 (A8h _) rfl ?_;refine s1 (I0 _ _ _) rfl rfl rfl ?_;refine s4 rfl (fun g7=>?_) fun g7=>?_
    ·refine s7 [.int .i64 _] rfl ?_;first|exact G9 (by unfold I3;omega) (by omega)|exact I9 (by unfold I3;omega)|exact I8 (by omega)
    refine s1 (F4 _ _ _) rfl rfl rfl ?_;refine s31 (A3i _ _ _ _ _ _ _ _ (by omega)) rfl ?_;refine s1 (I0 _ _ _) rfl rfl rfl ?_;refine s4 rfl (fun g8=>?_) fun g8=>?_
    ·refine s7 [.int .i64 _] rfl ?_;first|exact G9 (by unfold I3;omega) (by omega)|exact I9 (by unfold I3;omega)|exact I8 (by omega)
    refine s7 [.int .i64 _] rfl ?_;first|exact G9 (by unfold I3;omega) (by omega)|exact I9 (by unfold I3;omega)|exact I8 (by omega)
   refine s4 rfl (fun g6=>?_) fun g6=>?_
   ·refine s31 (A3i _ _ _ _ _ _ _ _ (by omega)) rfl ?_;refine s1 (I0 _ _ _) rfl rfl rfl ?_;refine s4 rfl (fun g7=>?_) fun g7=>?_
    ·refine s7 [.int .i64 _] rfl ?_;first|exact G9 (by unfold I3;omega) (by omega)|exact I9 (by unfold I3;omega)|exact I8 (by omega)
    refine s7 [.int .i64 _] rfl ?_;first|exact G9 (by unfold I3;omega) (by omega)|exact I9 (by unfold I3;omega)|exact I8 (by omega)
   refine s1 (F4 _ _ _) rfl rfl rfl ?_;refine s31 (A3i _ _ _ _ _ _ _ _ (by omega)) rfl ?_;refine s1 (I0 _ _ _) rfl rfl rfl ?_;refine s4 rfl (fun g7=>?_) fun g7=>?_
   ·refine s7 [.int .i64 _] rfl ?_;first|exact G9 (by unfold I3;omega) (by omega)|exact I9 (by unfold I3;omega)|exact I8 (by omega)
   refine s7 [.int .i64 _] rfl ?_;first|exact G9 (by unfold I3;omega) (by omega)|exact I9 (by unfold I3;omega)|exact I8 (by omega)
  ·cases hs
 ·cases hs
theorem A8c{b:Bool}(h:(!b)=true):b=false:=by cases b<;>first|rfl|cases h
abbrev Cel:=Int×Int×Int×Int×Int×Int×Int×Int×Int×Int×Int×Int
def B5w(c:Cel):Int:=A5b (c.1) (c.2.1) (c.2.2.1) (c.2.2.2.1) (c.2.2.2.2.1) (c.2.2.2.2.2.1) (c.2.2.2.2.2.2.1) (c.2.2.2.2.2.2.2.1) (c.2.2.2.2.2.2.2.2.1) (c.2.2.2.2.2.2.2.2.2.1) (c.2.2.2.2.2.2.2.2.2.2.1) (c.2.2.2.2.2.2.2.2.2.2.2)
def wdC(c:Cel):Int:=c.2.2.2.1
def A8a(c l:Cel):Bool:=(c.2.2.2.2.1 == l.2.2.2.2.1 && (c.2.2.2.2.2.1 == l.2.2.2.2.2.1 && (c.2.2.2.2.2.2.1 == l.2.2.2.2.2.2.1 && (c.2.2.2.2.2.2.2.1 == l.2.2.2.2.2.2.2.1 && (c.2.2.2.2.2.2.2.2.1 == l.2.2.2.2.2.2.2.2.1 && (c.2.2.2.2.2.2.2.2.2.1 == l.2.2.2.2.2.2.2.2.2.1 && (c.2.2.2.2.2.2.2.2.2.2.1 == l.2.2.2.2.2.2.2.2.2.2.1 && (c.2.2.2.2.2.2.2.2.2.2.2 == l.2.2.2.2.2.2.2.2.2.2.2 && true))))))))
def aOk(c:Cel):Prop:=(-9223372036854775808≤c.2.2.2.2.1∧c.2.2.2.2.1≤9223372036854775807)
instance(c:Cel):Decidable (aOk c):=by unfold aOk;infer_instance
def B4v(c l:Cel):Prop:=B5w c≠0∨decide (wdC l=1)≠decide (wdC c=2)∨(wdC c=2∧A8a c l=false)
instance(c l:Cel):Decidable (B4v c l):=by unfold B4v;infer_instance
def q8:List Cel→Cel→Option Cel
 | [],l=>some l
 | c::r,l=>if B4v c l then none else q8 r c
def B0j(r:List Cel)(l:Cel):Option Unit:=match q8 r l with
 | some _=>none
 | none=>some ()
def B7y(r:List Cel)(l:Cel):Cel:=(q8 r l).getD l
def D0N(c:Cel):List U:=[.int .i64 (c.1),.int .i64 (c.2.1),.int .i64 (c.2.2.1),.int .i64 (c.2.2.2.1),.int .i64 (c.2.2.2.2.1),.int .i64 (c.2.2.2.2.2.1),.int .i64 (c.2.2.2.2.2.2.1),.int .i64 (c.2.2.2.2.2.2.2.1),.int .i64 (c.2.2.2.2.2.2.2.2.1),.int .i64 (c.2.2.2.2.2.2.2.2.2.1),.int .i64 (c.2.2.2.2.2.2.2.2.2.2.1),.int .i64 (c.2.2.2.2.2.2.2.2.2.2.2)]
def B2H(r:List Cel)(l:Cel):Option (Nat×List U):=i0 (B0j r l) (D0N (B7y r l)) (fun _=>[.int .i64 220])
theorem B9u(l:Cel):B2H [] l=some (0,D0N l):=rfl
theorem A9N{c l:Cel}{r:List Cel}(h:B4v c l):B2H (c::r) l=some (1,[.int .i64 220]):=by
 unfold B2H B0j q8;rw[if_pos h];rfl
theorem B6O{c l:Cel}{r:List Cel}(h:¬B4v c l):B2H (c::r) l=B2H r c:=by
 have e:q8 (c::r) l=q8 r c:=by rw[q8,if_neg h]
 unfold B2H B0j B7y;rw[e];cases q8 r c<;>rfl
noncomputable def C7Y:List (FuncId×FnC):=(95,M5 Tryd.prog [.a [3,3,3,3,3,3,3,3,3,3,3,3]] B1p [.s 3])::L0
theorem C18{G:Nat→Option Obj}(hst:B9 Tryd.prog G gl H0 n0):H6 Tryd.prog G gl C7Y:=(.cons (C6_ hst) .nil)
def A74:List U→Option (Nat×List U)
 | [u_s,.int .i64 n,.int .i64 i,.int .i64 l0,.int .i64 l1,.int .i64 l2,.int .i64 l3,.int .i64 l4,.int .i64 l5,.int .i64 l6,.int .i64 l7,.int .i64 l8,.int .i64 l9,.int .i64 l10,.int .i64 l11]=>(L6 rCl u_s).bind fun s=>if n=((el s).length:Int)∧0≤i∧i≤n∧n≤1000∧∀ c ∈ el s,aOk c then B2H ((el s).drop i.toNat) (l0,l1,l2,l3,l4,l5,l6,l7,l8,l9,l10,l11)else none
 | _=>none
theorem A14(s:(Option (List (Int×Int×Int×Int×Int×Int×Int×Int×Int×Int×Int×Int))))(n:Int)(i:Int)(l0:Int)(l1:Int)(l2:Int)(l3:Int)(l4:Int)(l5:Int)(l6:Int)(l7:Int)(l8:Int)(l9:Int)(l10:Int)(l11:Int)(hc:n=((el s).length:Int)∧0≤i∧i≤n∧n≤1000∧∀ c ∈ el s,aOk c):A74 [B3 rCl s,.int .i64 n,.int .i64 i,.int .i64 l0,.int .i64 l1,.int .i64 l2,.int .i64 l3,.int .i64 l4,.int .i64 l5,.int .i64 l6,.int .i64 l7,.int .i64 l8,.int .i64 l9,.int .i64 l10,.int .i64 l11]=B2H ((el s).drop i.toNat) (l0,l1,l2,l3,l4,l5,l6,l7,l8,l9,l10,l11):=by
 simp only[A74,E5,D3];exact if_pos hc
def C5K:P8:=⟨[(4,.pointer (some ⟨5,0,none⟩)),(17,dat 6 0 22),(18,h 1 3),(19,h 2 3)],[(5,.cells 60 [h 3 3,h 4 3,h 5 3,h 6 3,h 7 3,h 8 3,h 9 3,h 10 3,h 11 3,h 12 3,h 13 3,h 14 3]),(6,.frz)],15,[⟨.exit 0,[(4,.pointer (some ⟨5,0,none⟩))],[(5,.cells 60 [h 0 3,h 1 3,h 2 3,h 3 3,h 4 3,h 5 3,h 6 3,h 7 3,h 8 3,h 9 3,h 10 3,h 11 3])],12⟩,⟨.ret,[(2,h 0 3)],[],1⟩]⟩
noncomputable def B9Y:Code:=(Tryd.f78.body).getD .skip
noncomputable def C5G:Code:=match F2 [true,true,true,false,true,false] B9Y with|some (.loop x)=>x|_=>.skip
theorem C5J:Tryd.f78.body=some B9Y:=rfl
theorem C5I:F2 [true,true,true,false,true,false] B9Y=some (.loop C5G):=by kernel_rfl
def C5H:Tr:=.lt 8 (.bin .lss) [h 2 3,h 1 3]<|.br 15 (.lt 8 (.inbs 12) [h 2 3,h 0 22]<|.br 16 (.lt 3 (.get 12 0) [h 0 22,h 2 3]<|.lt 3 (.get 12 1) [h 0 22,h 2 3]<|.lt 3 (.get 12 2) [h 0 22,h 2 3]<|.lt 3 (.get 12 3) [h 0 22,h 2 3]<|.lt 3 (.get 12 4) [h 0 22,h 2 3]<|.lt 3 (.get 12 5) [h 0 22,h 2 3]<|.lt 3 (.get 12 6) [h 0 22,h 2 3]<|.lt 3 (.get 12 7) [h 0 22,h 2 3]<|.lt 3 (.get 12 8) [h 0 22,h 2 3]<|.lt 3 (.get 12 9) [h 0 22,h 2 3]<|.lt 3 (.get 12 10) [h 0 22,h 2 3]<|.lt 3 (.get 12 11) [h 0 22,h 2 3]<|.fn B1p [h 17 3,h 18 3,h 19 3,h 20 3,h 21 3,h 22 3,h 23 3,h 24 3,h 25 3,h 26 3,h 27 3,h 28 3] 1<|.lt 8 (.bin .neq) [h 29 3,jI 0]<|.br 30 (.ret [jI 1,jI 220]) (.lt 8 (.bin .eql) [h 6 3,jI 1]<|.lt 8 (.bin .eql) [h 20 3,jI 2]<|.lt 8 (.bin .neq) [h 31 8,h 32 8]<|.br 33 (.ret [jI 1,jI 220]) (.lt 8 (.bin .eql) [h 20 3,jI 2]<|.br 34 (.lt 8 (.eqs) [h 21 3,h 7 3,h 22 3,h 8 3,h 23 3,h 9 3,h 24 3,h 10 3,h 25 3,h 11 3,h 26 3,h 12 3,h 27 3,h 13 3,h 28 3,h 14 3]<|.lt 8 (.un .not) [h 35 8]<|.br 36 (.ret [jI 1,jI 220]) (.lt 3 (.bin .add) [h 2 3,jI 1]<|.ret [jI (-1),h 0 22,h 1 3,h 37 3,h 17 3,h 18 3,h 19 3,h 20 3,h 21 3,h 22 3,h 23 3,h 24 3,h 25 3,h 26 3,h 27 3,h 28 3])) (.lt 3 (.bin .add) [h 2 3,jI 1]<|.ret [jI (-1),h 0 22,h 1 3,h 35 3,h 17 3,h 18 3,h 19 3,h 20 3,h 21 3,h 22 3,h 23 3,h 24 3,h 25 3,h 26 3,h 27 3,h 28 3])))) (.no)) (.ret [jI 0,h 3 3,h 4 3,h 5 3,h 6 3,h 7 3,h 8 3,h 9 3,h 10 3,h 11 3,h 12 3,h 13 3,h 14 3])
def B9X:List U→Nat
 | [u_s,.int .i64 n,.int .i64 i,.int .i64 l0,.int .i64 l1,.int .i64 l2,.int .i64 l3,.int .i64 l4,.int .i64 l5,.int .i64 l6,.int .i64 l7,.int .i64 l8,.int .i64 l9,.int .i64 l10,.int .i64 l11]=>(match L6 rCl u_s with|some s=>(n-i).toNat|none=>0)
 | _=>0
theorem B2E(s:(Option (List (Int×Int×Int×Int×Int×Int×Int×Int×Int×Int×Int×Int))))(n:Int)(i:Int)(l0:Int)(l1:Int)(l2:Int)(l3:Int)(l4:Int)(l5:Int)(l6:Int)(l7:Int)(l8:Int)(l9:Int)(l10:Int)(l11:Int):B9X [B3 rCl s,.int .i64 n,.int .i64 i,.int .i64 l0,.int .i64 l1,.int .i64 l2,.int .i64 l3,.int .i64 l4,.int .i64 l5,.int .i64 l6,.int .i64 l7,.int .i64 l8,.int .i64 l9,.int .i64 l10,.int .i64 l11]=(n-i).toNat:=by
 simp only[B9X,E5]
theorem C9O{G:Nat→Option Obj}(hst:B9 Tryd.prog G gl H0 n0):∀ (E:Nat→U) (base:Nat),@M0 ⟨E,G⟩ Tryd.prog base gl Tryd.f78.ntmps C5G (J9 Tryd.prog gl n0 7 C5K A74):=by
 refine O1 (C:=cx C7Y []) (dep:=60) (f:=78) (n0:=n0) (nB:=7) (H0:=H0) B9X C5H (cxg (C18 hst) .nil) hst Tryd.func78 C5J C5I (by kernel_rfl) (by kernel_rfl) (by kernel_rfl) ?_;intro us d outs hs;have hs0:=hs;unfold A74 at hs;split at hs
 ·skip;rename_i u_s n i l0 l1 l2 l3 l4 l5 l6 l7 l8 l9 l10 l11;have hq_s:=A9.1 hs;clear hs;obtain⟨s,hd_s,hs⟩:=hq_s;replace hd_s:=H5 hd_s;subst hd_s;split at hs
  ·rename_i hc;clear hs hs0;refine⟨rfl,?_⟩;unfold C5H;refine s0 (.cons 14 _ (.cons 13 _ (.cons 12 _ (.cons 11 _ (.cons 10 _ (.cons 9 _ (.cons 8 _ (.cons 7 _ (.cons 6 _ (.cons 5 _ (.cons 4 _ (.cons 3 _ (.cons 2 _ (.cons 1 _ (.cons 0 _ (.nil)))))))))))))))) rfl (by simp[Ev.ok,Ev.len]) ?_;refine s1 (F0 _ _ _) rfl rfl rfl ?_;refine s5 rfl (fun g0=>?_) fun g0=>?_
   ·refine s7 [.int .i64 _,.int .i64 _,.int .i64 _,.int .i64 _,.int .i64 _,.int .i64 _,.int .i64 _,.int .i64 _,.int .i64 _,.int .i64 _,.int .i64 _,.int .i64 _,.int .i64 _] rfl ?_;refine C6 (d:=0) ?_;rw[A14 s n i l0 l1 l2 l3 l4 l5 l6 l7 l8 l9 l10 l11 hc,A0R (el s) (by omega)];exact B9u (l0,l1,l2,l3,l4,l5,l6,l7,l8,l9,l10,l11)
   refine s1 (D6 rfl) rfl rfl rfl ?_;refine s5 rfl (fun g1=>?_) fun g1=>?_
   ·refine s8 ?_;first|omega
   refine s1 (u:=.int .i64 _) (B0 rfl (by omega) (by omega) rfl) rfl rfl rfl ?_;refine s1 (u:=.int .i64 _) (B0 rfl (by omega) (by omega) rfl) rfl rfl rfl ?_;refine s1 (u:=.int .i64 _) (B0 rfl (by omega) (by omega) rfl) rfl rfl rfl ?_;refine s1 (u:=.int .i64 _) (B0 rfl (by omega) (by omega) rfl) rfl rfl rfl ?_;refine s1 (u:=.int .i64 _) (B0 rfl (by omega) (by omega) rfl) rfl rfl rfl ?_;refine s1 (u:=.int .i64 _) (B0 rfl (by omega) (by omega) rfl) rfl rfl rfl ?_;refine s1 (u:=.int .i64 _) (B0 rfl (by omega) (by omega) rfl) rfl rfl rfl ?_;refine s1 (u:=.int .i64 _) (B0 rfl (by omega) (by omega) rfl) rfl rfl rfl ?_;refine s1 (u:=.int .i64 _) (B0 rfl (by omega) (by omega) rfl) rfl rfl rfl ?_;refine s1 (u:=.int .i64 _) (B0 rfl (by omega) (by omega) rfl) rfl rfl rfl ?_;refine s1 (u:=.int .i64 _) (B0 rfl (by omega) (by omega) rfl) rfl rfl rfl ?_;refine s1 (u:=.int .i64 _) (B0 rfl (by omega) (by omega) rfl) rfl rfl rfl ?_;refine s31 (C4I _ _ _ _ _ _ _ _ _ _ _ _ (A83 hc.2.2.2.2 (by omega) (by omega))) rfl ?_;refine s1 (I0 _ _ _) rfl rfl rfl ?_;refine s4 rfl (fun g2=>?_) fun g2=>?_
   ·refine s7 [.int .i64 _,.int .i64 _] rfl ?_;refine C6 (d:=1) ?_;rw[A14 s n i l0 l1 l2 l3 l4 l5 l6 l7 l8 l9 l10 l11 hc,P6 (el s) (i:=i) (by omega) (by omega)];refine A9N ?_;first|exact .inl ‹_›|exact .inr (.inl ‹_›)|exact .inr (.inr ⟨by assumption,A8c ‹_›⟩)
   refine s1 (F4 _ _ _) rfl rfl rfl ?_;refine s1 (F4 _ _ _) rfl rfl rfl ?_;refine s1 (d9 _ _) rfl rfl rfl ?_;refine s4 rfl (fun g3=>?_) fun g3=>?_
   ·refine s7 [.int .i64 _,.int .i64 _] rfl ?_;refine C6 (d:=1) ?_;rw[A14 s n i l0 l1 l2 l3 l4 l5 l6 l7 l8 l9 l10 l11 hc,P6 (el s) (i:=i) (by omega) (by omega)];refine A9N ?_;first|exact .inl ‹_›|exact .inr (.inl ‹_›)|exact .inr (.inr ⟨by assumption,A8c ‹_›⟩)
   refine s1 (F4 _ _ _) rfl rfl rfl ?_;refine s4 rfl (fun g4=>?_) fun g4=>?_
   ·refine s1 rfl rfl rfl rfl ?_;first|refine s1 (M4 _) rfl rfl rfl ?_|refine s1 (K4 _) rfl rfl rfl ?_
    first|refine s4 rfl (fun g5=>?_) (fun g5=>?_)|refine s4B rfl (fun g5=>?_) (fun g5=>?_)
    ·refine s7 [.int .i64 _,.int .i64 _] rfl ?_;refine C6 (d:=1) ?_;rw[A14 s n i l0 l1 l2 l3 l4 l5 l6 l7 l8 l9 l10 l11 hc,P6 (el s) (i:=i) (by omega) (by omega)];refine A9N ?_;first|exact .inl ‹_›|exact .inr (.inl ‹_›)|exact .inr (.inr ⟨by assumption,A8c ‹_›⟩)
    first|refine s1 (B6 (B4 (by omega) (by omega))) rfl rfl rfl ?_|refine s1 (C3 _ _ _) rfl rfl rfl ?_
    refine s7 [.int .i64 _,B3 rCl _,.int .i64 _,.int .i64 _,.int .i64 _,.int .i64 _,.int .i64 _,.int .i64 _,.int .i64 _,.int .i64 _,.int .i64 _,.int .i64 _,.int .i64 _,.int .i64 _,.int .i64 _,.int .i64 _] rfl ?_;refine B7 ?_ ?_
    ·refine(A14 s n (i+1) _ _ _ _ _ _ _ _ _ _ _ _ ⟨hc.1,by omega,by omega,hc.2.2.2⟩).trans ?_;rw[A14 s n i l0 l1 l2 l3 l4 l5 l6 l7 l8 l9 l10 l11 hc,P6 (el s) (i:=i) (by omega) (by omega)];refine(B6O ?_).symm
     rintro(h|h|⟨h,h2⟩)
     ·exact g2 h
     ·exact g3 h
     ·first|exact g4 h|(have g5:(!A8a ((el s).getD i.toNat default) (l0,l1,l2,l3,l4,l5,l6,l7,l8,l9,l10,l11))=false:=g5;rw[h2]at g5;cases g5)
    ·rw[B2E,B2E];omega
   first|refine s1 (B6 (B4 (by omega) (by omega))) rfl rfl rfl ?_|refine s1 (C3 _ _ _) rfl rfl rfl ?_
   refine s7 [.int .i64 _,B3 rCl _,.int .i64 _,.int .i64 _,.int .i64 _,.int .i64 _,.int .i64 _,.int .i64 _,.int .i64 _,.int .i64 _,.int .i64 _,.int .i64 _,.int .i64 _,.int .i64 _,.int .i64 _,.int .i64 _] rfl ?_;refine B7 ?_ ?_
   ·refine(A14 s n (i+1) _ _ _ _ _ _ _ _ _ _ _ _ ⟨hc.1,by omega,by omega,hc.2.2.2⟩).trans ?_;rw[A14 s n i l0 l1 l2 l3 l4 l5 l6 l7 l8 l9 l10 l11 hc,P6 (el s) (i:=i) (by omega) (by omega)];refine(B6O ?_).symm
    rintro(h|h|⟨h,h2⟩)
    ·exact g2 h
    ·exact g3 h
    ·first|exact g4 h|(have g5:(!A8a ((el s).getD i.toNat default) (l0,l1,l2,l3,l4,l5,l6,l7,l8,l9,l10,l11))=false:=g5;rw[h2]at g5;cases g5)
   ·rw[B2E,B2E];omega
  ·cases hs
 ·cases hs
noncomputable def B7X:List LpE:=(78,([true,true,true,false,true,false],J9 Tryd.prog gl n0 7 C5K A74))::[]
theorem B0N{G:Nat→Option Obj}(hst:B9 Tryd.prog G gl H0 n0):V1 Tryd.prog G gl B7X:=.cons Tryd.func78 C5J C5I (C9O hst) .nil
def A1r(l:List Cel):Int:=if(l.length:Int)<2∨80<(l.length:Int)then 220 else match q8 l (0,0,0,0,0,0,0,0,0,0,0,0)with
 | none=>220
 | some c=>if wdC c=1 then 220 else 0
theorem A2_{l:List Cel}(h:(l.length:Int)<2∨80<(l.length:Int)):A1r l=220:=if_pos h
theorem B1D{l:List Cel}{c:Cel}(h:B0j l c=none):q8 l c=some (B7y l c):=by
 unfold B0j at h;unfold B7y;cases hp:q8 l c with
 | some v=>rfl
 | none=>rw[hp]at h;cases h
theorem B7z{l:List Cel}{c:Cel}{u:Unit}(h:B0j l c=some u):q8 l c=none:=by
 unfold B0j at h;cases hp:q8 l c with
 | some v=>rw[hp]at h;cases h
 | none=>rfl
theorem A9Q{l:List Cel}(h:¬((l.length:Int)<2∨80<(l.length:Int))){u:Unit}(h2:B0j l (0,0,0,0,0,0,0,0,0,0,0,0)=some u):A1r l=220:=by unfold A1r;rw[if_neg h,B7z h2]
theorem A9P{l:List Cel}(h:¬((l.length:Int)<2∨80<(l.length:Int)))(h2:B0j l (0,0,0,0,0,0,0,0,0,0,0,0)=none)(h3:wdC (B7y l (0,0,0,0,0,0,0,0,0,0,0,0))=1):A1r l=220:=by unfold A1r;rw[if_neg h,B1D h2];exact if_pos h3
theorem A9O{l:List Cel}(h:¬((l.length:Int)<2∨80<(l.length:Int)))(h2:B0j l (0,0,0,0,0,0,0,0,0,0,0,0)=none)(h3:¬wdC (B7y l (0,0,0,0,0,0,0,0,0,0,0,0))=1):A1r l=0:=by unfold A1r;rw[if_neg h,B1D h2];exact if_neg h3
theorem C9P{s:Option (List Cel)}(h:¬80<((el s).length:Int))(h2:∀ c ∈ el s,aOk c):A74 [B3 rCl s,.int .i64 ((el s).length:Int),.int .i64 0,.int .i64 0,.int .i64 0,.int .i64 0,.int .i64 0,.int .i64 0,.int .i64 0,.int .i64 0,.int .i64 0,.int .i64 0,.int .i64 0,.int .i64 0,.int .i64 0]=B2H (el s) (0,0,0,0,0,0,0,0,0,0,0,0):=A14 s _ 0 0 0 0 0 0 0 0 0 0 0 0 0 ⟨rfl,by decide,by omega,by omega,h2⟩
noncomputable def C7q:List (FuncId×FnC):=(95,M5 Tryd.prog [.a [3,3,3,3,3,3,3,3,3,3,3,3]] B1p [.s 3])::L0
theorem C2W{G:Nat→Option Obj}(hst:B9 Tryd.prog G gl H0 n0):H6 Tryd.prog G gl C7q:=(.cons (C6_ hst) .nil)
def A9W:List U→Option (Nat×List U)
 | [u_s,.bool wr]=>(L6 rCl u_s).bind fun s=>if ∀ c ∈ el s,aOk c then some (0,[.int .i64 (A1r (el s))])else none
 | _=>none
theorem C3c(s:(Option (List (Int×Int×Int×Int×Int×Int×Int×Int×Int×Int×Int×Int))))(wr:Bool)(hc:∀ c ∈ el s,aOk c):A9W [B3 rCl s,.bool wr]=some (0,[.int .i64 (A1r (el s))]):=by
 simp only[A9W,E5,D3];exact if_pos hc
def C6I:Tr:=.lt 3 (.len) [h 0 22]<|.lt 8 (.bin .lss) [h 2 3,jI 2]<|.br 3 (.ret [jI 220]) (.lt 8 (.bin .gtr) [h 2 3,jI 80]<|.br 4 (.ret [jI 220]) (.lp A74 [h 0 22,h 2 3,jI 0,jI 0,jI 0,jI 0,jI 0,jI 0,jI 0,jI 0,jI 0,jI 0,jI 0,jI 0,jI 0] 0 12 (.lt 8 (.bin .eql) [h 8 3,jI 1]<|.br 17 (.ret [jI 220]) (.ret [jI 0])) (.lp A74 [h 0 22,h 2 3,jI 0,jI 0,jI 0,jI 0,jI 0,jI 0,jI 0,jI 0,jI 0,jI 0,jI 0,jI 0,jI 0] 1 1 (.ret [h 5 3]) (.no))))
theorem C6J{G:Nat→Option Obj}(hst:B9 Tryd.prog G gl H0 n0):S1 Tryd.prog G 78 [.a [22,8]] A9W [.s 3]:=by
 refine G6 (C:=cx C7q B7X) (d:=60) C6I (cxg (C2W hst) (B0N hst)) hst ⟨Tryd.f78,_,Tryd.func78,rfl⟩ (by kernel_rfl) (by kernel_rfl) ?_;intro us outs hs;unfold A9W at hs;split at hs
 ·skip;rename_i u_s wr;have hq_s:=A9.1 hs;clear hs;obtain⟨s,hd_s,hs⟩:=hq_s;replace hd_s:=H5 hd_s;subst hd_s;split at hs
  ·rename_i hc;cases hs;unfold C6I;refine s0 (.cons 1 _ (.cons 0 _ (.nil))) rfl (by simp[Ev.ok,Ev.len]) ?_;refine s1 (F7 _ _) rfl rfl rfl ?_;refine s1 (F0 _ _ _) rfl rfl rfl ?_;refine s4 rfl (fun g0=>?_) fun g0=>?_
   ·refine s7 [.int .i64 _] rfl ?_;refine congrArg (fun z=>[U.int .i64 z]) ?_;symm;first|exact A2_ (by omega)|exact A9Q (by omega) ‹_›|exact A9P (by omega) ‹_› ‹_›|exact A9O (by omega) ‹_› ‹_›
   refine s1 (Y8 _ _ _) rfl rfl rfl ?_;refine s4 rfl (fun g1=>?_) fun g1=>?_
   ·refine s7 [.int .i64 _] rfl ?_;refine congrArg (fun z=>[U.int .i64 z]) ?_;symm;first|exact A2_ (by omega)|exact A9Q (by omega) ‹_›|exact A9P (by omega) ‹_› ‹_›|exact A9O (by omega) ‹_› ‹_›
   refine s6 (C9P (by omega) hc) rfl (fun _=>rfl) (fun g2=>?_) (fun v2 g2=>?_)
   ·show Tr.sav _ _ (.cons 16 _ (.cons 15 _ (.cons 14 _ (.cons 13 _ (.cons 12 _ (.cons 11 _ (.cons 10 _ (.cons 9 _ (.cons 8 _ (.cons 7 _ (.cons 6 _ (.cons 5 _ _))))))))))));refine s1 (F4 _ _ _) rfl rfl rfl ?_;refine s4 rfl (fun g3=>?_) fun g3=>?_
    ·refine s7 [.int .i64 _] rfl ?_;refine congrArg (fun z=>[U.int .i64 z]) ?_;symm;first|exact A2_ (by omega)|exact A9Q (by omega) ‹_›|exact A9P (by omega) ‹_› ‹_›|exact A9O (by omega) ‹_› ‹_›
    refine s7 [.int .i64 _] rfl ?_;refine congrArg (fun z=>[U.int .i64 z]) ?_;symm;first|exact A2_ (by omega)|exact A9Q (by omega) ‹_›|exact A9P (by omega) ‹_› ‹_›|exact A9O (by omega) ‹_› ‹_›
   show Tr.sav _ _ (.cons 5 _ _);refine s7 [.int .i64 _] rfl ?_;refine congrArg (fun z=>[U.int .i64 z]) ?_;symm;first|exact A2_ (by omega)|exact A9Q (by omega) ‹_›|exact A9P (by omega) ‹_› ‹_›|exact A9O (by omega) ‹_› ‹_›
  ·cases hs
 ·cases hs
abbrev Row:=Option (List Cel)×Bool
def A4L(w:Int)(r:Row):Bool:=decide (A1r (el r.1)≠0) || decide (((el r.1).length:Int)≠w)
theorem B25{w:Int}{r:Row}(h:A1r (el r.1)≠0):A4L w r=true:=by unfold A4L;rw[decide_eq_true h];rfl
theorem B24{w:Int}{r:Row}(h:((el r.1).length:Int)≠w):A4L w r=true:=by unfold A4L;rw[decide_eq_true h,Bool.or_true]
theorem B51{w:Int}{r:Row}(h:¬A1r (el r.1)≠0)(h2:¬((el r.1).length:Int)≠w):A4L w r=false:=by unfold A4L;rw[decide_eq_false h,decide_eq_false h2];rfl
def O7(rows:Option (List Row)):Int:=((el ((el rows).getD 0 default).1).length:Int)
def A4C(rows:Option (List Row)):Prop:=∀ r ∈ el rows,∀ c ∈ el r.1,aOk c
instance(rows:Option (List Row)):Decidable (A4C rows):=by unfold A4C;infer_instance
noncomputable def C7s:List (FuncId×FnC):=(78,M5 Tryd.prog [.a [22,8]] A9W [.s 3])::L0
theorem C2Z{G:Nat→Option Obj}(hst:B9 Tryd.prog G gl H0 n0):H6 Tryd.prog G gl C7s:=(.cons (C6J hst) .nil)
def A9f:List U→Option (Nat×List U)
 | [u_rows,u_s,.int .i64 n,.int .i64 i]=>(L6 rRw u_rows).bind fun rows=>(L6 rRw u_s).bind fun s=>if n=((el s).length:Int)∧0≤i∧i≤n∧n≤1000∧0<((el rows).length:Int)∧A4C s then i0 (A10 (A4L (O7 rows)) ((el s).drop i.toNat) i) [] (fun _=>[.int .i64 420])else none
 | _=>none
theorem A5D(rows:(Option (List ((Option (List (Int×Int×Int×Int×Int×Int×Int×Int×Int×Int×Int×Int)))×Bool))))(s:(Option (List ((Option (List (Int×Int×Int×Int×Int×Int×Int×Int×Int×Int×Int×Int)))×Bool))))(n:Int)(i:Int)(hc:n=((el s).length:Int)∧0≤i∧i≤n∧n≤1000∧0<((el rows).length:Int)∧A4C s):A9f [B3 rRw rows,B3 rRw s,.int .i64 n,.int .i64 i]=i0 (A10 (A4L (O7 rows)) ((el s).drop i.toNat) i) [] (fun _=>[.int .i64 420]):=by
 simp only[A9f,E5,D3];exact if_pos hc
def C6Q:P8:=⟨[(0,dat 4 0 12),(13,dat 5 1 12),(14,h 2 3),(15,h 3 3)],[(4,.frz),(5,.frz)],4,[⟨.exit 0,[],[],0⟩,⟨.ret,[(2,h 0 3)],[],1⟩]⟩
noncomputable def C0V:Code:=(Tryd.f61.body).getD .skip
noncomputable def C6M:Code:=match F2 [true,true,false,true,false] C0V with|some (.loop x)=>x|_=>.skip
theorem C6P:Tryd.f61.body=some C0V:=rfl
theorem C6O:F2 [true,true,false,true,false] C0V=some (.loop C6M):=by kernel_rfl
def C6N:Tr:=.lt 8 (.bin .lss) [h 3 3,h 2 3]<|.br 4 (.lt 8 (.inbs 2) [h 3 3,h 1 12]<|.br 5 (.dt 22 (.get 2 0) [h 1 12,h 3 3]<|.lt 8 (.get 2 1) [h 1 12,h 3 3]<|.fn A9W [h 6 22,h 7 8] 1<|.lt 8 (.bin .neq) [h 8 3,jI 0]<|.br 9 (.ret [jI 1,jI 420]) (.lt 3 (.len) [h 6 22]<|.lt 8 (.inbs 2) [jI 0,h 0 12]<|.br 11 (.dt 22 (.get 2 0) [h 0 12,jI 0]<|.lt 3 (.len) [h 12 22]<|.lt 8 (.bin .neq) [h 10 3,h 13 3]<|.br 14 (.ret [jI 1,jI 420]) (.lt 3 (.bin .add) [h 3 3,jI 1]<|.ret [jI (-1),h 0 12,h 1 12,h 2 3,h 15 3])) (.no))) (.no)) (.ret [jI 0])
def C0U:List U→Nat
 | [u_rows,u_s,.int .i64 n,.int .i64 i]=>(match L6 rRw u_rows with|some rows=>(match L6 rRw u_s with|some s=>(n-i).toNat|none=>0)|none=>0)
 | _=>0
theorem C0T(rows:(Option (List ((Option (List (Int×Int×Int×Int×Int×Int×Int×Int×Int×Int×Int×Int)))×Bool))))(s:(Option (List ((Option (List (Int×Int×Int×Int×Int×Int×Int×Int×Int×Int×Int×Int)))×Bool))))(n:Int)(i:Int):C0U [B3 rRw rows,B3 rRw s,.int .i64 n,.int .i64 i]=(n-i).toNat:=by
 simp only[C0U,E5]
theorem C9f{G:Nat→Option Obj}(hst:B9 Tryd.prog G gl H0 n0):∀ (E:Nat→U) (base:Nat),@M0 ⟨E,G⟩ Tryd.prog base gl Tryd.f61.ntmps C6M (J9 Tryd.prog gl n0 6 C6Q A9f):=by
 refine O1 (C:=cx C7s B7X) (dep:=60) (f:=61) (n0:=n0) (nB:=6) (H0:=H0) C0U C6N (cxg (C2Z hst) (B0N hst)) hst Tryd.func61 C6P C6O (by kernel_rfl) (by kernel_rfl) (by kernel_rfl) ?_;intro us d outs hs;have hs0:=hs;unfold A9f at hs;split at hs
 ·skip;rename_i u_rows u_s n i;have hq_rows:=A9.1 hs;clear hs;obtain⟨rows,hd_rows,hs⟩:=hq_rows;replace hd_rows:=H5 hd_rows;subst hd_rows;have hq_s:=A9.1 hs;clear hs;obtain⟨s,hd_s,hs⟩:=hq_s;replace hd_s:=H5 hd_s;subst hd_s;split at hs
  ·rename_i hc;clear hs hs0;refine⟨rfl,?_⟩;unfold C6N;refine s0 (.cons 3 _ (.cons 2 _ (.cons 1 _ (.cons 0 _ (.nil))))) rfl (by simp[Ev.ok,Ev.len]) ?_;refine s1 (F0 _ _ _) rfl rfl rfl ?_;refine s5 rfl (fun g0=>?_) fun g0=>?_
   ·refine s7 [.int .i64 _] rfl ?_;refine C6 (d:=0) ?_;rw[A5D rows s n i hc,B1h (by omega)];rfl
   refine s1 (D6 rfl) rfl rfl rfl ?_;refine s5 rfl (fun g1=>?_) fun g1=>?_
   ·refine s8 ?_;omega
   refine s2 (r:=rCl) (B0 rfl (by omega) (by omega) rfl) rfl rfl ?_;refine s1 (u:=.bool _) (B0 rfl (by omega) (by omega) rfl) rfl rfl rfl ?_;refine s31 (C3c _ _ (hc.2.2.2.2.2 _ (a9 (by omega) (by omega)))) rfl ?_;refine s1 (I0 _ _ _) rfl rfl rfl ?_;refine s4 rfl (fun g2=>?_) fun g2=>?_
   ·refine s7 [.int .i64 _,.int .i64 _] rfl ?_;refine C6 (d:=1) ?_;rw[A5D rows s n i hc,A5P (by omega) (by omega) (by first|exact B25 ‹_›|exact B24 ‹_›)];rfl
   refine s1 (F7 _ _) rfl rfl rfl ?_;refine s1 (D6 rfl) rfl rfl rfl ?_;refine s5 rfl (fun g3=>?_) fun g3=>?_
   ·refine s8 ?_;omega
   refine s2 (r:=rCl) (B0 rfl (by omega) (by omega) rfl) rfl rfl ?_;refine s1 (F7 _ _) rfl rfl rfl ?_;refine s1 (I0 _ _ _) rfl rfl rfl ?_;refine s4 rfl (fun g4=>?_) fun g4=>?_
   ·refine s7 [.int .i64 _,.int .i64 _] rfl ?_;refine C6 (d:=1) ?_;rw[A5D rows s n i hc,A5P (by omega) (by omega) (by first|exact B25 ‹_›|exact B24 ‹_›)];rfl
   first|refine s1 (B6 (B4 (by omega) (by omega))) rfl rfl rfl ?_|refine s1 (C3 _ _ _) rfl rfl rfl ?_
   refine s7 [.int .i64 _,B3 rRw _,B3 rRw _,.int .i64 _,.int .i64 _] rfl ?_;refine B7 ?_ ?_
   ·rw[A5D rows s n (i+1) ⟨hc.1,by omega,by omega,hc.2.2.2⟩,A5D rows s n i hc,A9x (i:=i) (by omega) (by omega) (B51 ‹_› ‹_›)]
   ·rw[C0T,C0T];omega
  ·cases hs
 ·cases hs
noncomputable def B7b:List LpE:=(61,([true,true,false,true,false],J9 Tryd.prog gl n0 6 C6Q A9f))::B7X
theorem B0R{G:Nat→Option Obj}(hst:B9 Tryd.prog G gl H0 n0):V1 Tryd.prog G gl B7b:=.cons Tryd.func61 C6P C6O (C9f hst) (B0N hst)
def Y4(rows:Option (List Row)):Int:=if((el rows).length:Int)=0∨140<((el rows).length:Int)then 420 else if(el rows).any (A4L (O7 rows))=true then 420 else 0
theorem A4w{rows:Option (List Row)}(h:((el rows).length:Int)=0∨140<((el rows).length:Int)):Y4 rows=420:=if_pos h
theorem A4v{rows:Option (List Row)}(h:¬(((el rows).length:Int)=0∨140<((el rows).length:Int))){j:Int}(h2:A10 (A4L (O7 rows)) ((el rows).drop (0:Int).toNat) 0=some j):Y4 rows=420:=by
 unfold Y4;rw[if_neg h,if_pos];rcases A7n (p:=A4L (O7 rows)) (el rows) 0 (by decide)with⟨q,_⟩|⟨j,q,_,q2⟩
 ·rw[O5,q]at h2;cases h2
 ·exact q2
theorem A4u{rows:Option (List Row)}(h:¬(((el rows).length:Int)=0∨140<((el rows).length:Int)))(h2:A10 (A4L (O7 rows)) ((el rows).drop (0:Int).toNat) 0=none):Y4 rows=0:=by
 unfold Y4;rw[if_neg h,if_neg];rcases A7n (p:=A4L (O7 rows)) (el rows) 0 (by decide)with⟨_,q⟩|⟨j,q,_⟩
 ·rw[q];decide
 ·rw[O5,q]at h2;cases h2
noncomputable def C7t:List (FuncId×FnC):=(78,M5 Tryd.prog [.a [22,8]] A9W [.s 3])::L0
theorem C2a{G:Nat→Option Obj}(hst:B9 Tryd.prog G gl H0 n0):H6 Tryd.prog G gl C7t:=(.cons (C6J hst) .nil)
def A2S:List U→Option (Nat×List U)
 | [u_rows]=>(L6 rRw u_rows).bind fun rows=>if A4C rows then some (0,[.int .i64 (Y4 rows)])else none
 | _=>none
theorem C3f(rows:(Option (List ((Option (List (Int×Int×Int×Int×Int×Int×Int×Int×Int×Int×Int×Int)))×Bool))))(hc:A4C rows):A2S [B3 rRw rows]=some (0,[.int .i64 (Y4 rows)]):=by
 simp only[A2S,E5,D3];exact if_pos hc
def C6R:Tr:=.lt 3 (.len) [h 0 12]<|.lt 8 (.bin .eql) [h 1 3,jI 0]<|.br 2 (.ret [jI 420]) (.lt 8 (.bin .gtr) [h 1 3,jI 140]<|.br 3 (.ret [jI 420]) (.lp A9f [h 0 12,h 0 12,h 1 3,jI 0] 0 0 (.ret [jI 0]) (.lp A9f [h 0 12,h 0 12,h 1 3,jI 0] 1 1 (.ret [h 4 3]) (.no))))
theorem A5g{G:Nat→Option Obj}(hst:B9 Tryd.prog G gl H0 n0):S1 Tryd.prog G 61 [.s 12] A2S [.s 3]:=by
 refine G6 (C:=cx C7t B7b) (d:=60) C6R (cxg (C2a hst) (B0R hst)) hst ⟨Tryd.f61,_,Tryd.func61,rfl⟩ (by kernel_rfl) (by kernel_rfl) ?_;intro us outs hs;unfold A2S at hs;split at hs
 ·skip;rename_i u_rows;have hq_rows:=A9.1 hs;clear hs;obtain⟨rows,hd_rows,hs⟩:=hq_rows;replace hd_rows:=H5 hd_rows;subst hd_rows;split at hs
  ·rename_i hc;cases hs;unfold C6R;refine s0 (.cons 0 _ (.nil)) rfl (by simp[Ev.ok,Ev.len]) ?_;refine s1 (F7 _ _) rfl rfl rfl ?_;refine s1 (F4 _ _ _) rfl rfl rfl ?_;refine s4 rfl (fun g0=>?_) fun g0=>?_
   ·refine s7 [.int .i64 _] rfl ?_;refine congrArg (fun z=>[U.int .i64 z]) ?_;symm;first|exact A4w (by omega)|exact A4v (by omega) ‹_›|exact A4u (by omega) ‹_›
   refine s1 (Y8 _ _ _) rfl rfl rfl ?_;refine s4 rfl (fun g1=>?_) fun g1=>?_
   ·refine s7 [.int .i64 _] rfl ?_;refine congrArg (fun z=>[U.int .i64 z]) ?_;symm;first|exact A4w (by omega)|exact A4v (by omega) ‹_›|exact A4u (by omega) ‹_›
   refine s6 (A5D rows rows _ 0 ⟨rfl,by decide,by omega,by omega,by omega,hc⟩) rfl (fun _=>rfl) (fun g2=>?_) (fun v2 g2=>?_)
   ·show Tr.sav _ _ _;refine s7 [.int .i64 _] rfl ?_;refine congrArg (fun z=>[U.int .i64 z]) ?_;symm;first|exact A4w (by omega)|exact A4v (by omega) ‹_›|exact A4u (by omega) ‹_›
   show Tr.sav _ _ (.cons 4 _ _);refine s7 [.int .i64 _] rfl ?_;refine congrArg (fun z=>[U.int .i64 z]) ?_;symm;first|exact A4w (by omega)|exact A4v (by omega) ‹_›|exact A4u (by omega) ‹_›
  ·cases hs
 ·cases hs
def B8F(l:List Row):Nat→Nat
 | 0=>0
 | k+1=>if(l.getD k default).2=true then B8F l k else k+1
def B5f(l:List Row):Nat→Nat→Nat
 | 0,i=>i
 | f+1,i=>if(l.getD i default).2=true∧i+1<l.length then B5f l f (i+1)else i
def A2c(l:List Row)(i:Int):Int:=B8F l i.toNat
def A0D(l:List Row)(i:Int):Int:=B5f l (l.length-i.toNat) i.toNat
theorem B2g{l:List Row}{i:Int}(h:¬0<i)(h0:0≤i):A2c l i=i:=by
 have:i=0:=by omega
 subst this;rfl
theorem B63{l:List Row}{i:Int}(h:0<i)(h2:(l.getD (i-1).toNat default).2=true):A2c l i=A2c l (i-1):=by
 unfold A2c;rw[show i.toNat=(i-1).toNat+1 by omega,B8F,if_pos h2]
theorem A8u{l:List Row}{i:Int}(h:0<i)(h2:(l.getD (i-1).toNat default).2=false):A2c l i=i:=by
 unfold A2c;rw[show i.toNat=(i-1).toNat+1 by omega,B8F,if_neg (by rw[h2];decide)];omega
theorem B6j{l:List Row}{i:Int}(h0:0≤i)(h:(l.getD i.toNat default).2=true)(h2:i+1<(l.length:Int)):A0D l i=A0D l (i+1):=by
 unfold A0D;rw[show l.length-i.toNat=(l.length-(i+1).toNat)+1 by omega,B5f,if_pos ⟨h,by omega⟩,show(i+1).toNat=i.toNat+1 by omega]
theorem A4g{l:List Row}{i:Int}(h0:0≤i)(h:(l.getD i.toNat default).2=false∨¬i+1<(l.length:Int)):A0D l i=i:=by
 unfold A0D;cases hk:l.length-i.toNat with
 | zero=>show((i.toNat:Nat):Int)=i;omega
 | succ k =>
   rw[B5f,if_neg]
   ·omega
   ·rintro⟨h1,h2⟩
    rcases h with h|h
    ·rw[h]at h1;cases h1
    ·omega
theorem B64(l:List Row):∀ k,B8F l k≤k
 | 0=>A7 _
 | k+1=>by unfold B8F;split;exact Nat.le_succ_of_le (B64 l k);exact A7 _
theorem B6k(l:List Row):∀ f i,i≤B5f l f i∧(i<l.length→B5f l f i<l.length)
 | 0,i=>⟨A7 _,id⟩
 | f+1,i=>by
   unfold B5f;split
   ·rename_i h;obtain⟨a,b⟩:=B6k l f (i+1);exact⟨by omega,fun _=>b h.2⟩
   ·exact⟨A7 _,id⟩
theorem B6p{l:List Row}{i:Int}(h0:0≤i)(h1:i<(l.length:Int)):0≤A2c l i∧A2c l i≤i∧i≤A0D l i∧A0D l i<(l.length:Int):=by
 have a:=B64 l i.toNat;obtain⟨b,c⟩:=B6k l (l.length-i.toNat) i.toNat;have c:=c (by omega);unfold A2c A0D;omega
noncomputable def C7w:List (FuncId×FnC):=L0
theorem C2d{G:Nat→Option Obj}(hst:B9 Tryd.prog G gl H0 n0):H6 Tryd.prog G gl C7w:=.nil
def B1V:List U→Option (Nat×List U)
 | [u_rows,.int .i64 first,.int .i64 last]=>(L6 rRw u_rows).bind fun rows=>if 0≤first∧first<((el rows).length:Int)∧((el rows).length:Int)≤1000000 then some (0,[B3 rRw rows,.int .i64 (A2c (el rows) first),.int .i64 last])else none
 | _=>none
theorem A62(rows:(Option (List ((Option (List (Int×Int×Int×Int×Int×Int×Int×Int×Int×Int×Int×Int)))×Bool))))(first:Int)(last:Int)(hc:0≤first∧first<((el rows).length:Int)∧((el rows).length:Int)≤1000000):B1V [B3 rRw rows,.int .i64 first,.int .i64 last]=some (0,[B3 rRw rows,.int .i64 (A2c (el rows) first),.int .i64 last]):=by
 simp only[B1V,E5,D3];exact if_pos hc
def C6e:P8:=⟨[(0,dat 4 0 12),(4,h 1 3),(5,h 2 3)],[(4,.frz)],3,[⟨.exit 0,[(0,dat 5 0 12),(4,h 1 3),(5,h 2 3)],[(5,.frz)],3⟩]⟩
noncomputable def C0r:Code:=(Tryd.f45.body).getD .skip
noncomputable def C6a:Code:=match F2 [true,true,false,false] C0r with|some (.loop x)=>x|_=>.skip
theorem C6d:Tryd.f45.body=some C0r:=rfl
theorem C6c:F2 [true,true,false,false] C0r=some (.loop C6a):=by kernel_rfl
def C6b:Tr:=.lt 8 (.bin .gtr) [h 1 3,jI 0]<|.br 3 (.lt 3 (.bin .sub) [h 1 3,jI 1]<|.lt 8 (.inbs 2) [h 4 3,h 0 12]<|.br 5 (.lt 8 (.get 2 1) [h 0 12,h 4 3]<|.br 6 (.lt 3 (.bin .sub) [h 1 3,jI 1]<|.ret [jI (-1),h 0 12,h 7 3,h 2 3]) (.ret [jI 0,h 0 12,h 1 3,h 2 3])) (.no)) (.ret [jI 0,h 0 12,h 1 3,h 2 3])
def C0q:List U→Nat
 | [u_rows,.int .i64 first,.int .i64 last]=>(match L6 rRw u_rows with|some rows=>first.toNat|none=>0)
 | _=>0
theorem C0p(rows:(Option (List ((Option (List (Int×Int×Int×Int×Int×Int×Int×Int×Int×Int×Int×Int)))×Bool))))(first:Int)(last:Int):C0q [B3 rRw rows,.int .i64 first,.int .i64 last]=first.toNat:=by
 simp only[C0q,E5]
theorem C9y{G:Nat→Option Obj}(hst:B9 Tryd.prog G gl H0 n0):∀ (E:Nat→U) (base:Nat),@M0 ⟨E,G⟩ Tryd.prog base gl Tryd.f45.ntmps C6a (J9 Tryd.prog gl n0 6 C6e B1V):=by
 refine O1 (C:=cx C7w B7b) (dep:=60) (f:=45) (n0:=n0) (nB:=6) (H0:=H0) C0q C6b (cxg (C2d hst) (B0R hst)) hst Tryd.func45 C6d C6c (by kernel_rfl) (by kernel_rfl) (by kernel_rfl) ?_;intro us d outs hs;have hs0:=hs;unfold B1V at hs;split at hs
 ·skip;rename_i u_rows first last
  have hq_rows:=A9.1 hs;clear hs;obtain⟨rows,hd_rows,hs⟩:=hq_rows;replace hd_rows:=H5 hd_rows;subst hd_rows;split at hs
  ·rename_i hc;clear hs hs0;refine⟨rfl,?_⟩;unfold C6b;refine s0 (.cons 2 _ (.cons 1 _ (.cons 0 _ (.nil)))) rfl (by simp[Ev.ok,Ev.len]) ?_;refine s1 (Y8 _ _ _) rfl rfl rfl ?_;refine s5 rfl (fun g0=>?_) fun g0=>?_
   ·refine s7 [.int .i64 _,B3 rRw _,.int .i64 _,.int .i64 _] rfl ?_;refine C6 (d:=0) ?_;rw[A62 rows first last hc];first|(rw[B2g ‹_› (by omega)];done)|(rw[A8u ‹_› ‹_›];done)
   first|refine s1 (X9 (B4 (by omega) (by omega))) rfl rfl rfl ?_|refine s1 (m5 _ _ _) rfl rfl rfl ?_
   refine s1 (D6 rfl) rfl rfl rfl ?_;refine s5 rfl (fun g1=>?_) fun g1=>?_
   ·refine s8 ?_;first|omega|(simp_all;done)|(simp_all;omega)
   refine s1 (u:=.bool _) (B0 rfl (by omega) (by omega) rfl) rfl rfl rfl ?_;refine s5B rfl (fun g2=>?_) fun g2=>?_
   ·refine s7 [.int .i64 _,B3 rRw _,.int .i64 _,.int .i64 _] rfl ?_;refine C6 (d:=0) ?_;rw[A62 rows first last hc];first|(rw[B2g ‹_› (by omega)];done)|(rw[A8u ‹_› ‹_›];done)
   first|refine s1 (X9 (B4 (by omega) (by omega))) rfl rfl rfl ?_|refine s1 (m5 _ _ _) rfl rfl rfl ?_
   refine s7 [.int .i64 _,B3 rRw _,.int .i64 _,.int .i64 _] rfl ?_;refine B7 ?_ ?_
   ·rw[A62 rows first last hc,B63 ‹_› ‹_›];exact A62 _ _ _ ⟨by omega,by omega,hc.2.2⟩
   ·rw[C0p,C0p];omega
  ·cases hs
 ·cases hs
noncomputable def C29:List LpE:=(45,([true,true,false,false],J9 Tryd.prog gl n0 6 C6e B1V))::B7b
theorem B45{G:Nat→Option Obj}(hst:B9 Tryd.prog G gl H0 n0):V1 Tryd.prog G gl C29:=.cons Tryd.func45 C6d C6c (C9y hst) (B0R hst)
noncomputable def C7v:List (FuncId×FnC):=L0
theorem C2c{G:Nat→Option Obj}(hst:B9 Tryd.prog G gl H0 n0):H6 Tryd.prog G gl C7v:=.nil
def B1U:List U→Option (Nat×List U)
 | [u_rows,.int .i64 first,.int .i64 last]=>(L6 rRw u_rows).bind fun rows=>if 0≤last∧last<((el rows).length:Int)∧((el rows).length:Int)≤1000000 then some (0,[.int .i64 first,.int .i64 (A0D (el rows) last)])else none
 | _=>none
theorem A61(rows:(Option (List ((Option (List (Int×Int×Int×Int×Int×Int×Int×Int×Int×Int×Int×Int)))×Bool))))(first:Int)(last:Int)(hc:0≤last∧last<((el rows).length:Int)∧((el rows).length:Int)≤1000000):B1U [B3 rRw rows,.int .i64 first,.int .i64 last]=some (0,[.int .i64 first,.int .i64 (A0D (el rows) last)]):=by
 simp only[B1U,E5,D3];exact if_pos hc
def C6Z:P8:=⟨[(0,dat 7 0 12),(4,h 1 3),(5,h 2 3),(26,junk),(27,junk),(28,junk),(29,junk),(30,junk)],[(7,.frz)],3,[⟨.exit 2,[(4,h 0 3),(5,h 1 3)],[],2⟩]⟩
noncomputable def C0o:Code:=(Tryd.f45.body).getD .skip
noncomputable def C6V:Code:=match F2 [true,true,true,false,false] C0o with|some (.loop x)=>x|_=>.skip
theorem C6Y:Tryd.f45.body=some C0o:=rfl
theorem C6X:F2 [true,true,true,false,false] C0o=some (.loop C6V):=by kernel_rfl
def C6W:Tr:=.lt 8 (.inbs 2) [h 2 3,h 0 12]<|.br 3 (.lt 8 (.get 2 1) [h 0 12,h 2 3]<|.br 4 (.lt 3 (.bin .add) [h 2 3,jI 1]<|.lt 3 (.len) [h 0 12]<|.lt 8 (.bin .lss) [h 5 3,h 6 3]<|.br 7 (.lt 3 (.bin .add) [h 2 3,jI 1]<|.ret [jI (-1),h 0 12,h 1 3,h 8 3]) (.ret [jI 0,h 1 3,h 2 3])) (.ret [jI 0,h 1 3,h 2 3])) (.no)
def C0n:List U→Nat
 | [u_rows,.int .i64 first,.int .i64 last]=>(match L6 rRw u_rows with|some rows=>(((el rows).length:Int)-last).toNat|none=>0)
 | _=>0
theorem C0m(rows:(Option (List ((Option (List (Int×Int×Int×Int×Int×Int×Int×Int×Int×Int×Int×Int)))×Bool))))(first:Int)(last:Int):C0n [B3 rRw rows,.int .i64 first,.int .i64 last]=(((el rows).length:Int)-last).toNat:=by
 simp only[C0n,E5]
theorem C9x{G:Nat→Option Obj}(hst:B9 Tryd.prog G gl H0 n0):∀ (E:Nat→U) (base:Nat),@M0 ⟨E,G⟩ Tryd.prog base gl Tryd.f45.ntmps C6V (J9 Tryd.prog gl n0 8 C6Z B1U):=by
 refine O1 (C:=cx C7v C29) (dep:=60) (f:=45) (n0:=n0) (nB:=8) (H0:=H0) C0n C6W (cxg (C2c hst) (B45 hst)) hst Tryd.func45 C6Y C6X (by kernel_rfl) (by kernel_rfl) (by kernel_rfl) ?_;intro us d outs hs;have hs0:=hs;unfold B1U at hs;split at hs
 ·skip;rename_i u_rows first last
  have hq_rows:=A9.1 hs;clear hs;obtain⟨rows,hd_rows,hs⟩:=hq_rows;replace hd_rows:=H5 hd_rows;subst hd_rows;split at hs
  ·rename_i hc;clear hs hs0;refine⟨rfl,?_⟩;unfold C6W;refine s0 (.cons 2 _ (.cons 1 _ (.cons 0 _ (.nil)))) rfl (by simp[Ev.ok,Ev.len]) ?_;refine s1 (D6 rfl) rfl rfl rfl ?_;refine s5 rfl (fun g0=>?_) fun g0=>?_
   ·refine s8 ?_;first|omega|(simp_all;done)|(simp_all;omega)
   refine s1 (u:=.bool _) (B0 rfl (by omega) (by omega) rfl) rfl rfl rfl ?_;refine s5B rfl (fun g1=>?_) fun g1=>?_
   ·refine s7 [.int .i64 _,.int .i64 _,.int .i64 _] rfl ?_;refine C6 (d:=0) ?_;rw[A61 rows first last hc];first|(rw[A4g hc.1 (.inl ‹_›)];done)|(rw[A4g hc.1 (.inr ‹_›)];done)
   first|refine s1 (B6 (B4 (by omega) (by omega))) rfl rfl rfl ?_|refine s1 (C3 _ _ _) rfl rfl rfl ?_
   refine s1 (F7 _ _) rfl rfl rfl ?_;refine s1 (F0 _ _ _) rfl rfl rfl ?_;refine s5 rfl (fun g2=>?_) fun g2=>?_
   ·refine s7 [.int .i64 _,.int .i64 _,.int .i64 _] rfl ?_;refine C6 (d:=0) ?_;rw[A61 rows first last hc];first|(rw[A4g hc.1 (.inl ‹_›)];done)|(rw[A4g hc.1 (.inr ‹_›)];done)
   first|refine s1 (B6 (B4 (by omega) (by omega))) rfl rfl rfl ?_|refine s1 (C3 _ _ _) rfl rfl rfl ?_
   refine s7 [.int .i64 _,B3 rRw _,.int .i64 _,.int .i64 _] rfl ?_;refine B7 ?_ ?_
   ·rw[A61 rows first last hc,B6j hc.1 ‹_› ‹_›];exact A61 _ _ _ ⟨by omega,by omega,hc.2.2⟩
   ·rw[C0m,C0m];omega
  ·cases hs
 ·cases hs
noncomputable def C8E:List LpE:=(45,([true,true,true,false,false],J9 Tryd.prog gl n0 8 C6Z B1U))::C29
theorem C28{G:Nat→Option Obj}(hst:B9 Tryd.prog G gl H0 n0):V1 Tryd.prog G gl C8E:=.cons Tryd.func45 C6Y C6X (C9x hst) (B45 hst)
noncomputable def C7x:List (FuncId×FnC):=L0
theorem C2e{G:Nat→Option Obj}(hst:B9 Tryd.prog G gl H0 n0):H6 Tryd.prog G gl C7x:=.nil
def A8J:List U→Option (Nat×List U)
 | [u_rows,.int .i64 i]=>(L6 rRw u_rows).bind fun rows=>if 0≤i∧i<((el rows).length:Int)∧((el rows).length:Int)≤1000000 then some (0,[.int .i64 (A2c (el rows) i),.int .i64 (A0D (el rows) i)])else none
 | _=>none
theorem C3w(rows:(Option (List ((Option (List (Int×Int×Int×Int×Int×Int×Int×Int×Int×Int×Int×Int)))×Bool))))(i:Int)(hc:0≤i∧i<((el rows).length:Int)∧((el rows).length:Int)≤1000000):A8J [B3 rRw rows,.int .i64 i]=some (0,[.int .i64 (A2c (el rows) i),.int .i64 (A0D (el rows) i)]):=by
 simp only[A8J,E5,D3];exact if_pos hc
def C6f:Tr:=.fn B1V [h 0 12,h 1 3,h 1 3] 3<|.fn B1U [h 2 12,h 3 3,h 4 3] 2<|.ret [h 5 3,h 6 3]
theorem C0s{G:Nat→Option Obj}(hst:B9 Tryd.prog G gl H0 n0):S1 Tryd.prog G 45 [.s 12,.s 3] A8J [.s 3,.s 3]:=by
 refine G6 (C:=cx C7x C8E) (d:=60) C6f (cxg (C2e hst) (C28 hst)) hst ⟨Tryd.f45,_,Tryd.func45,rfl⟩ (by kernel_rfl) (by kernel_rfl) ?_;intro us outs hs;unfold A8J at hs;split at hs
 ·skip;rename_i u_rows i;have hq_rows:=A9.1 hs;clear hs;obtain⟨rows,hd_rows,hs⟩:=hq_rows;replace hd_rows:=H5 hd_rows;subst hd_rows;split at hs
  ·rename_i hc;cases hs;unfold C6f;refine s0 (.cons 1 _ (.cons 0 _ (.nil))) rfl (by simp[Ev.ok,Ev.len]) ?_;refine s3 (A62 _ _ _ hc) rfl ?_;show Tr.sav _ _ (.cons 4 _ (.cons 3 _ (.cons 2 _ _)));refine s32 (A61 _ _ _ hc) rfl rfl ?_;refine s7 [.int .i64 _,.int .i64 _] rfl ?_;rfl
  ·cases hs
 ·cases hs
theorem C1e(rows:Option (List Row)):Y4 rows=0∨Y4 rows=420:=by unfold Y4;split<;>(try split)<;>simp
theorem B9w{l:List Cel}(h:A1r l=0):2≤(l.length:Int)∧(l.length:Int)≤80:=by
 by_cases hq:(l.length:Int)<2∨80<(l.length:Int)
 ·rw[A2_ hq]at h;cases h
 ·omega
theorem A1Z{rows:Option (List Row)}(h:Y4 rows=0):0<((el rows).length:Int)∧((el rows).length:Int)≤140∧∀ r ∈ el rows,A1r (el r.1)=0∧((el r.1).length:Int)=O7 rows:=by
 unfold Y4 at h;split at h
 ·cases h
 ·rename_i h1;split at h
  ·cases h
  ·rename_i h2;refine⟨by omega,by omega,fun r hr=>?_⟩;have h3:A4L (O7 rows) r=false:=by
    cases hb:A4L (O7 rows) r with
    | false=>rfl
    | true=>exact absurd (T8.2 ⟨r,hr,hb⟩) h2
   unfold A4L at h3;rw[c9,decide_eq_false_iff_not,decide_eq_false_iff_not]at h3;exact⟨R9.1 h3.1,R9.1 h3.2⟩
theorem A18{rows:Option (List Row)}(h:Y4 rows=0):2≤O7 rows∧O7 rows≤80:=by
 obtain⟨h1,h2,h3⟩:=A1Z h;have hm:(el rows).getD 0 default ∈ el rows:=a9 (i:=0) (by decide) h1
 have:=h3 _ hm
 have:=B9w this.1;omega
theorem B2x(rows:Option (List Row)):(Y4 rows≠0∨(2≤O7 rows∧O7 rows≤80∧0<((el rows).length:Int)∧((el rows).length:Int)≤140))∧O7 rows=((el ((el rows).getD (0:Int).toNat default).1).length:Int):=by
 refine⟨?_,rfl⟩;by_cases h:Y4 rows=0
 ·have:=A18 h;have:=A1Z h;exact .inr ⟨by omega,by omega,by omega,by omega⟩
 ·exact .inl h
def A9e(rows:Option (List Row))(e r c:Int):Int:=if Y4 rows≠0 then Y4 rows else if 0≤r∧r<((el rows).length:Int)∧0≤c∧c≤O7 rows-e then 0 else 2
theorem U8{rows:Option (List Row)}{e r c:Int}(h:Y4 rows≠0):A9e rows e r c=Y4 rows:=if_pos h
theorem U7{rows:Option (List Row)}{e r c:Int}(h:¬Y4 rows≠0)(h2:¬(0≤r∧r<((el rows).length:Int)∧0≤c∧c≤O7 rows-e)):A9e rows e r c=2:=by unfold A9e;rw[if_neg h,if_neg h2]
theorem M7{rows:Option (List Row)}{e r c:Int}(h:¬Y4 rows≠0)(h2:0≤r∧r<((el rows).length:Int)∧0≤c∧c≤O7 rows-e):A9e rows e r c=0:=by unfold A9e;rw[if_neg h,if_pos h2]
def C86(l:List Cel)(i:Int):Cel:=if wdC (l.getD i.toNat default)=2 then l.getD (i-1).toNat default else l.getD i.toNat default
def A7u(c:Cel):Prop:=c.1=32∧c.2.1=0∧c.2.2.1=0∧wdC c=0
instance(c:Cel):Decidable (A7u c):=by unfold A7u;infer_instance
def D0j(n:Int):Bool:=decide (0≤Lib.indexByte [95,48,49,50,51,52,53,54,55,56,57,97,98,99,100,101,102,103,104,105,106,107,108,109,110,111,112,113,114,115,116,117,118,119,120,121,122,65,66,67,68,69,70,71,72,73,74,75,76,77,78,79,80,81,82,83,84,85,86,87,88,89,90] (UInt8.ofNat n.toNat))
def D0K(l:List Cel)(i:Int):Int:=if A7u (C86 l i)then 0 else if 128≤(C86 l i).1∨D0j (C86 l i).1=true then 1 else 2
theorem D0V{a:Cel}{x:Bool}(h:(a.1 == 32 && (a.2.1 == 0 && (a.2.2.1 == 0 && (a.2.2.2.1 == 0 && x))))=true):A7u a:=by
 simp only[J5,beq_iff_eq]at h;exact⟨h.1,h.2.1,h.2.2.1,h.2.2.2.1⟩
def D0M(rows:Option (List Row))(cols k:Int):Int:=D0K (el ((el rows).getD (k / cols).toNat default).1) (k%cols)
def bkN(rows:Option (List Row))(cols own lo:Int):Nat→Int→Int→Int→Bool×Int×Int
 | 0,_,r,c=>(false,r,c)
 | n+1,k,r,c=>if k<lo then(false,r,c)else if D0M rows cols k=own then bkN rows cols own lo n (k-1) (k / cols) (k%cols)else(true,r,c)
def bkS(rows:Option (List Row))(cols own lo k r c:Int):Bool×Int×Int:=bkN rows cols own lo (k-lo+1).toNat k r c
theorem A7Z{a b A B:Int}(h0:0≤a)(h1:a≤A)(h2:0≤b)(h3:b≤B):0≤a*b∧a*b≤A*B:=⟨Int.mul_nonneg h0 h2,Int.mul_le_mul h1 h3 h2 (by omega)⟩
theorem A8y{k cols n:Int}(h0:0≤k)(hc:0<cols)(h1:k<n*cols):0≤k / cols∧k / cols<n∧0≤k%cols∧k%cols<cols :=
 ⟨Int.ediv_nonneg h0 (by omega),Int.ediv_lt_of_lt_mul hc h1,A0Y _ (by omega),A0i _ hc⟩
def fwN(rows:Option (List Row))(cols own hi:Int):Nat→Int→Int→Int→Bool×Int×Int
 | 0,_,r,c=>(false,r,c)
 | n+1,k,r,c=>if hi≤k then(false,r,c)else if D0M rows cols k=own then fwN rows cols own hi n (k+1) (k / cols) (k%cols)else(true,r,c)
def fwS(rows:Option (List Row))(cols own hi k r c:Int):Bool×Int×Int:=fwN rows cols own hi (hi-k).toNat k r c
structure WF (rows:Option (List Row)) (w r c:Int):Prop where
 ck:Y4 rows=0
 co:w=O7 rows
 w0:2≤w
 w1:w≤80
 n1:((el rows).length:Int)≤140
 r0:0≤r
 r1:r<((el rows).length:Int)
 c0:0≤c
 c1:c<w
 m0:0≤r*w
 m1:r*w≤11200
 f0:0≤A2c (el rows) r
 f1:A2c (el rows) r≤r
 l0:r≤A0D (el rows) r
 l1:A0D (el rows) r<((el rows).length:Int)
 k0:A2c (el rows) r*w≤r*w+c
 k1:r*w+c<(A0D (el rows) r+1)*w
 rw:A1r (el ((el rows).getD r.toNat default).1)=0
 rl:((el ((el rows).getD r.toNat default).1).length:Int)=w
 t0:∀ own,0≤(fwS rows w own ((A0D (el rows) r+1)*w) (r*w+c) 0 0).2.2
 t1:∀ own,(fwS rows w own ((A0D (el rows) r+1)*w) (r*w+c) 0 0).2.2≤80
def C4a(rows:Option (List Row))(r c:Int):Int:=D0K (el ((el rows).getD r.toNat default).1) c
def C8M(rows:Option (List Row))(r c:Int):Int×Int:=(bkS rows (O7 rows) (C4a rows r c) (A2c (el rows) r*O7 rows) (r*O7 rows+c) 0 0).2
def C8K(rows:Option (List Row))(r c:Int):Int×Int:=(fwS rows (O7 rows) (C4a rows r c) ((A0D (el rows) r+1)*O7 rows) (r*O7 rows+c) 0 0).2
noncomputable def C7o:List (FuncId×FnC):=L0
theorem C2S{G:Nat→Option Obj}(hst:B9 Tryd.prog G gl H0 n0):H6 Tryd.prog G gl C7o:=.nil
def A0M:List U→Option (Nat×List U)
 | [u_l,.int .i64 c,.int .i64 i]=>(L6 rQ u_l).bind fun l=>if 0≤i∧i≤((el l).length:Int)∧((el l).length:Int)≤1000 then i0 (bU (((el l).drop i.toNat).any (inB c))) [] (fun _=>[])else none
 | _=>none
theorem t9(l:(Option (List (Int×Int))))(c:Int)(i:Int)(hc:0≤i∧i≤((el l).length:Int)∧((el l).length:Int)≤1000):A0M [B3 rQ l,.int .i64 c,.int .i64 i]=i0 (bU (((el l).drop i.toNat).any (inB c))) [] (fun _=>[]):=by
 simp only[A0M,E5,D3];exact if_pos hc
def C6C:P8:=⟨[(0,dat 4 0 12),(1,h 1 3),(5,h 2 3)],[(4,.frz)],3,[⟨.exit 0,[],[],0⟩,⟨.ret,[(4,.bool true)],[],0⟩]⟩
noncomputable def C0A:Code:=(Tryd.f99.body).getD .skip
noncomputable def C59:Code:=match F2 [true,false,true,false] C0A with|some (.loop x)=>x|_=>.skip
theorem C6B:Tryd.f99.body=some C0A:=rfl
theorem C6A:F2 [true,false,true,false] C0A=some (.loop C59):=by kernel_rfl
def C5_:Tr:=.lt 3 (.len) [h 0 12]<|.lt 8 (.bin .lss) [h 2 3,h 3 3]<|.br 4 (.lt 8 (.inbs 2) [h 2 3,h 0 12]<|.br 5 (.lt 3 (.get 2 0) [h 0 12,h 2 3]<|.lt 8 (.bin .geq) [h 1 3,h 6 3]<|.br 7 (.lt 8 (.inbs 2) [h 2 3,h 0 12]<|.br 8 (.lt 3 (.get 2 1) [h 0 12,h 2 3]<|.lt 8 (.bin .leq) [h 1 3,h 9 3]<|.br 10 (.ret [jI 1]) (.lt 3 (.bin .add) [h 2 3,jI 1]<|.ret [jI (-1),h 0 12,h 1 3,h 11 3])) (.no)) (.lt 3 (.bin .add) [h 2 3,jI 1]<|.ret [jI (-1),h 0 12,h 1 3,h 8 3])) (.no)) (.ret [jI 0])
def B9_:List U→Nat
 | [u_l,.int .i64 c,.int .i64 i]=>(match L6 rQ u_l with|some l=>(((el l).length:Int)-i).toNat|none=>0)
 | _=>0
theorem B2M(l:(Option (List (Int×Int))))(c:Int)(i:Int):B9_ [B3 rQ l,.int .i64 c,.int .i64 i]=(((el l).length:Int)-i).toNat:=by
 simp only[B9_,E5]
theorem C9b{G:Nat→Option Obj}(hst:B9 Tryd.prog G gl H0 n0):∀ (E:Nat→U) (base:Nat),@M0 ⟨E,G⟩ Tryd.prog base gl Tryd.f99.ntmps C59 (J9 Tryd.prog gl n0 5 C6C A0M):=by
 refine O1 (C:=cx C7o []) (dep:=60) (f:=99) (n0:=n0) (nB:=5) (H0:=H0) B9_ C5_ (cxg (C2S hst) .nil) hst Tryd.func99 C6B C6A (by kernel_rfl) (by kernel_rfl) (by kernel_rfl) ?_;intro us d outs hs;have hs0:=hs;unfold A0M at hs;split at hs
 ·skip;rename_i u_l c i;have hq_l:=A9.1 hs;clear hs;obtain⟨l,hd_l,hs⟩:=hq_l;replace hd_l:=H5 hd_l;subst hd_l;split at hs
  ·rename_i hc;clear hs hs0;refine⟨rfl,?_⟩;unfold C5_;refine s0 (.cons 2 _ (.cons 1 _ (.cons 0 _ (.nil)))) rfl (by simp[Ev.ok,Ev.len]) ?_;refine s1 (F7 _ _) rfl rfl rfl ?_;refine s1 (F0 _ _ _) rfl rfl rfl ?_;refine s5 rfl (fun g0=>?_) fun g0=>?_
   ·refine s7 [.int .i64 _] rfl ?_;refine C6 (d:=0) ?_;rw[t9 l c i hc,A82 (by omega)];rfl
   refine s1 (D6 rfl) rfl rfl rfl ?_;refine s5 rfl (fun g1=>?_) fun g1=>?_
   ·refine s8 ?_;first|omega
   refine s1 (u:=.int .i64 _) (B0 rfl (by omega) (by omega) rfl) rfl rfl rfl ?_;refine s1 (Q3 _ _ _) rfl rfl rfl ?_;refine s4 rfl (fun g2=>?_) fun g2=>?_
   ·refine s1 (D6 rfl) rfl rfl rfl ?_;refine s5 rfl (fun g3=>?_) fun g3=>?_
    ·refine s8 ?_;first|omega
    refine s1 (u:=.int .i64 _) (B0 rfl (by omega) (by omega) rfl) rfl rfl rfl ?_;refine s1 (t5 _ _ _) rfl rfl rfl ?_;refine s4 rfl (fun g4=>?_) fun g4=>?_
    ·refine s7 [.int .i64 _] rfl ?_;refine C6 (d:=1) ?_;rw[t9 l c i hc,B7S (i:=i) (by omega) (by omega) (B6z ‹_› ‹_›)];rfl
    first|refine s1 (B6 (B4 (by omega) (by omega))) rfl rfl rfl ?_|refine s1 (C3 _ _ _) rfl rfl rfl ?_
    refine s7 [.int .i64 _,B3 rQ _,.int .i64 _,.int .i64 _] rfl ?_;refine B7 ?_ ?_
    ·rw[t9 l c i hc,A8T (i:=i) (by omega) (by omega) (A8K (by omega))];exact t9 l c (i+1) ⟨by omega,by omega,hc.2.2⟩
    ·rw[B2M,B2M];omega
   first|refine s1 (B6 (B4 (by omega) (by omega))) rfl rfl rfl ?_|refine s1 (C3 _ _ _) rfl rfl rfl ?_
   refine s7 [.int .i64 _,B3 rQ _,.int .i64 _,.int .i64 _] rfl ?_;refine B7 ?_ ?_
   ·rw[t9 l c i hc,A8T (i:=i) (by omega) (by omega) (A8K (by omega))];exact t9 l c (i+1) ⟨by omega,by omega,hc.2.2⟩
   ·rw[B2M,B2M];omega
  ·cases hs
 ·cases hs
noncomputable def C8D:List LpE:=(99,([true,false,true,false],J9 Tryd.prog gl n0 5 C6C A0M))::[]
theorem C26{G:Nat→Option Obj}(hst:B9 Tryd.prog G gl H0 n0):V1 Tryd.prog G gl C8D:=.cons Tryd.func99 C6B C6A (C9b hst) .nil
theorem I7(c:Int):((el (some ([(768,879),(1155,1161),(1425,1469),(1552,1562),(1611,1631),(6832,6911),(7616,7679),(8203,8207),(8400,8447),(65024,65039),(65056,65071)]:List (Int×Int)))).drop (0:Int).toNat).any (inB c)=true↔inM c:=by
 unfold inM;show List.any _ _=true↔_;simp[B2,inB]
theorem N4(c:Int):((el (some ([(4352,4447),(11904,12350),(12353,13311),(13312,19903),(19968,40959),(40960,42191),(44032,55203),(63744,64255),(65072,65135),(65280,65376),(65504,65510),(127744,128591),(128640,128767),(129280,129535),(131072,262141)]:List (Int×Int)))).drop (0:Int).toNat).any (inB c)=true↔inW c:=by
 unfold inW;show List.any _ _=true↔_;simp only[O5,B2,A5l,List.any_nil,inB,Bool.or_false,K1,J5,decide_eq_true_eq];constructor<;>intro h<;>omega
noncomputable def C7Z:List (FuncId×FnC):=L0
theorem C19{G:Nat→Option Obj}(hst:B9 Tryd.prog G gl H0 n0):H6 Tryd.prog G gl C7Z:=.nil
def A3N:List U→Option (Nat×List U)
 | [.int .i64 c]=>some (0,[.int .i64 (A4G c)])
 | _=>none
theorem A2q(c:Int):A3N [.int .i64 c]=some (0,[.int .i64 (A4G c)]):=rfl
def C5L:Tr:=.lt 8 (.bin .geq) [h 0 3,jI 0]<|.br 1 (.lt 8 (.bin .leq) [h 0 3,jI 1114111]<|.br 2 (.lt 8 (.bin .lss) [h 0 3,jI 55296]<|.br 3 (.lt 8 (.bin .lss) [h 0 3,jI 32]<|.br 4 (.ret [jI (-1)]) (.lt 8 (.bin .geq) [h 0 3,jI 127]<|.br 5 (.lt 8 (.bin .lss) [h 0 3,jI 160]<|.br 6 (.ret [jI (-1)]) (.dt 12 (.mk 2) [jI 768,jI 879,jI 1155,jI 1161,jI 1425,jI 1469,jI 1552,jI 1562,jI 1611,jI 1631,jI 6832,jI 6911,jI 7616,jI 7679,jI 8203,jI 8207,jI 8400,jI 8447,jI 65024,jI 65039,jI 65056,jI 65071]<|.lp A0M [h 7 12,h 0 3,jI 0] 0 0 (.dt 12 (.mk 2) [jI 4352,jI 4447,jI 11904,jI 12350,jI 12353,jI 13311,jI 13312,jI 19903,jI 19968,jI 40959,jI 40960,jI 42191,jI 44032,jI 55203,jI 63744,jI 64255,jI 65072,jI 65135,jI 65280,jI 65376,jI 65504,jI 65510,jI 127744,jI 128591,jI 128640,jI 128767,jI 129280,jI 129535,jI 131072,jI 262141]<|.lp A0M [h 8 12,h 0 3,jI 0] 0 0 (.ret [jI 1]) (.lp A0M [h 8 12,h 0 3,jI 0] 1 0 (.ret [jI 2]) (.no))) (.lp A0M [h 7 12,h 0 3,jI 0] 1 0 (.ret [jI 0]) (.no)))) (.dt 12 (.mk 2) [jI 768,jI 879,jI 1155,jI 1161,jI 1425,jI 1469,jI 1552,jI 1562,jI 1611,jI 1631,jI 6832,jI 6911,jI 7616,jI 7679,jI 8203,jI 8207,jI 8400,jI 8447,jI 65024,jI 65039,jI 65056,jI 65071]<|.lp A0M [h 6 12,h 0 3,jI 0] 0 0 (.dt 12 (.mk 2) [jI 4352,jI 4447,jI 11904,jI 12350,jI 12353,jI 13311,jI 13312,jI 19903,jI 19968,jI 40959,jI 40960,jI 42191,jI 44032,jI 55203,jI 63744,jI 64255,jI 65072,jI 65135,jI 65280,jI 65376,jI 65504,jI 65510,jI 127744,jI 128591,jI 128640,jI 128767,jI 129280,jI 129535,jI 131072,jI 262141]<|.lp A0M [h 7 12,h 0 3,jI 0] 0 0 (.ret [jI 1]) (.lp A0M [h 7 12,h 0 3,jI 0] 1 0 (.ret [jI 2]) (.no))) (.lp A0M [h 6 12,h 0 3,jI 0] 1 0 (.ret [jI 0]) (.no))))) (.lt 8 (.bin .gtr) [h 0 3,jI 57343]<|.lt 8 (.un .not) [h 4 8]<|.br 5 (.ret [jI (-1)]) (.lt 8 (.bin .lss) [h 0 3,jI 32]<|.br 6 (.ret [jI (-1)]) (.lt 8 (.bin .geq) [h 0 3,jI 127]<|.br 7 (.lt 8 (.bin .lss) [h 0 3,jI 160]<|.br 8 (.ret [jI (-1)]) (.dt 12 (.mk 2) [jI 768,jI 879,jI 1155,jI 1161,jI 1425,jI 1469,jI 1552,jI 1562,jI 1611,jI 1631,jI 6832,jI 6911,jI 7616,jI 7679,jI 8203,jI 8207,jI 8400,jI 8447,jI 65024,jI 65039,jI 65056,jI 65071]<|.lp A0M [h 9 12,h 0 3,jI 0] 0 0 (.dt 12 (.mk 2) [jI 4352,jI 4447,jI 11904,jI 12350,jI 12353,jI 13311,jI 13312,jI 19903,jI 19968,jI 40959,jI 40960,jI 42191,jI 44032,jI 55203,jI 63744,jI 64255,jI 65072,jI 65135,jI 65280,jI 65376,jI 65504,jI 65510,jI 127744,jI 128591,jI 128640,jI 128767,jI 129280,jI 129535,jI 131072,jI 262141]<|.lp A0M [h 10 12,h 0 3,jI 0] 0 0 (.ret [jI 1]) (.lp A0M [h 10 12,h 0 3,jI 0] 1 0 (.ret [jI 2]) (.no))) (.lp A0M [h 9 12,h 0 3,jI 0] 1 0 (.ret [jI 0]) (.no)))) (.dt 12 (.mk 2) [jI 768,jI 879,jI 1155,jI 1161,jI 1425,jI 1469,jI 1552,jI 1562,jI 1611,jI 1631,jI 6832,jI 6911,jI 7616,jI 7679,jI 8203,jI 8207,jI 8400,jI 8447,jI 65024,jI 65039,jI 65056,jI 65071]<|.lp A0M [h 8 12,h 0 3,jI 0] 0 0 (.dt 12 (.mk 2) [jI 4352,jI 4447,jI 11904,jI 12350,jI 12353,jI 13311,jI 13312,jI 19903,jI 19968,jI 40959,jI 40960,jI 42191,jI 44032,jI 55203,jI 63744,jI 64255,jI 65072,jI 65135,jI 65280,jI 65376,jI 65504,jI 65510,jI 127744,jI 128591,jI 128640,jI 128767,jI 129280,jI 129535,jI 131072,jI 262141]<|.lp A0M [h 9 12,h 0 3,jI 0] 0 0 (.ret [jI 1]) (.lp A0M [h 9 12,h 0 3,jI 0] 1 0 (.ret [jI 2]) (.no))) (.lp A0M [h 8 12,h 0 3,jI 0] 1 0 (.ret [jI 0]) (.no))))))) (.ret [jI (-1)])) (.ret [jI (-1)])
theorem C5M{G:Nat→Option Obj}(hst:B9 Tryd.prog G gl H0 n0):S1 Tryd.prog G 89 [.s 3] A3N [.s 3]:=by
 refine G6 (C:=cx C7Z C8D) (d:=60) C5L (cxg (C19 hst) (C26 hst)) hst ⟨Tryd.f89,_,Tryd.func89,rfl⟩ (by kernel_rfl) (by kernel_rfl) ?_;intro us outs hs;unfold A3N at hs;split at hs
 ·skip;rename_i c;cases hs;unfold C5L;refine s0 (.cons 0 _ (.nil)) rfl (by simp[Ev.ok,Ev.len]) ?_;refine s1 (Q3 _ _ _) rfl rfl rfl ?_;refine s5 rfl (fun g0=>?_) fun g0=>?_
  ·refine s7 [.int .i64 _] rfl ?_;refine congrArg (fun z=>[U.int .i64 z]) ?_;symm;first|exact W1 (by unfold okU;omega)|exact j9 (by unfold okU;omega) (Q7 ‹_› (I7 c))|exact j8 (by unfold okU;omega) (J3 ‹_› (I7 c)) (Q7 ‹_› (N4 c))|exact V9 (by unfold okU;omega) (J3 ‹_› (I7 c)) (J3 ‹_› (N4 c))
  refine s1 (t5 _ _ _) rfl rfl rfl ?_;refine s5 rfl (fun g1=>?_) fun g1=>?_
  ·refine s7 [.int .i64 _] rfl ?_;refine congrArg (fun z=>[U.int .i64 z]) ?_;symm;first|exact W1 (by unfold okU;omega)|exact j9 (by unfold okU;omega) (Q7 ‹_› (I7 c))|exact j8 (by unfold okU;omega) (J3 ‹_› (I7 c)) (Q7 ‹_› (N4 c))|exact V9 (by unfold okU;omega) (J3 ‹_› (I7 c)) (J3 ‹_› (N4 c))
  refine s1 (F0 _ _ _) rfl rfl rfl ?_;refine s4 rfl (fun g2=>?_) fun g2=>?_
  ·refine s1 (F0 _ _ _) rfl rfl rfl ?_;refine s4 rfl (fun g3=>?_) fun g3=>?_
   ·refine s7 [.int .i64 _] rfl ?_;refine congrArg (fun z=>[U.int .i64 z]) ?_;symm;first|exact W1 (by unfold okU;omega)|exact j9 (by unfold okU;omega) (Q7 ‹_› (I7 c))|exact j8 (by unfold okU;omega) (J3 ‹_› (I7 c)) (Q7 ‹_› (N4 c))|exact V9 (by unfold okU;omega) (J3 ‹_› (I7 c)) (J3 ‹_› (N4 c))
   refine s1 (Q3 _ _ _) rfl rfl rfl ?_;refine s4 rfl (fun g4=>?_) fun g4=>?_
   ·refine s1 (F0 _ _ _) rfl rfl rfl ?_;refine s4 rfl (fun g5=>?_) fun g5=>?_
    ·refine s7 [.int .i64 _] rfl ?_;refine congrArg (fun z=>[U.int .i64 z]) ?_;symm;first|exact W1 (by unfold okU;omega)|exact j9 (by unfold okU;omega) (Q7 ‹_› (I7 c))|exact j8 (by unfold okU;omega) (J3 ‹_› (I7 c)) (Q7 ‹_› (N4 c))|exact V9 (by unfold okU;omega) (J3 ‹_› (I7 c)) (J3 ‹_› (N4 c))
    refine s2 (r:=rQ) (p7 [(_,_),(_,_),(_,_),(_,_),(_,_),(_,_),(_,_),(_,_),(_,_),(_,_),(_,_)] rfl (by decide) rfl) rfl rfl ?_;refine s6 (t9 _ _ 0 ⟨by decide,by decide,by decide⟩) rfl (fun _=>rfl) (fun g6=>?_) (fun v6 g6=>?_)
    ·show Tr.sav _ _ _;refine s2 (r:=rQ) (p7 [(_,_),(_,_),(_,_),(_,_),(_,_),(_,_),(_,_),(_,_),(_,_),(_,_),(_,_),(_,_),(_,_),(_,_),(_,_)] rfl (by decide) rfl) rfl rfl ?_;refine s6 (t9 _ _ 0 ⟨by decide,by decide,by decide⟩) rfl (fun _=>rfl) (fun g7=>?_) (fun v7 g7=>?_)
     ·show Tr.sav _ _ _;refine s7 [.int .i64 _] rfl ?_;refine congrArg (fun z=>[U.int .i64 z]) ?_;symm;first|exact W1 (by unfold okU;omega)|exact j9 (by unfold okU;omega) (Q7 ‹_› (I7 c))|exact j8 (by unfold okU;omega) (J3 ‹_› (I7 c)) (Q7 ‹_› (N4 c))|exact V9 (by unfold okU;omega) (J3 ‹_› (I7 c)) (J3 ‹_› (N4 c))
     show Tr.sav _ _ _;refine s7 [.int .i64 _] rfl ?_;refine congrArg (fun z=>[U.int .i64 z]) ?_;symm;first|exact W1 (by unfold okU;omega)|exact j9 (by unfold okU;omega) (Q7 ‹_› (I7 c))|exact j8 (by unfold okU;omega) (J3 ‹_› (I7 c)) (Q7 ‹_› (N4 c))|exact V9 (by unfold okU;omega) (J3 ‹_› (I7 c)) (J3 ‹_› (N4 c))
    show Tr.sav _ _ _;refine s7 [.int .i64 _] rfl ?_;refine congrArg (fun z=>[U.int .i64 z]) ?_;symm;first|exact W1 (by unfold okU;omega)|exact j9 (by unfold okU;omega) (Q7 ‹_› (I7 c))|exact j8 (by unfold okU;omega) (J3 ‹_› (I7 c)) (Q7 ‹_› (N4 c))|exact V9 (by unfold okU;omega) (J3 ‹_› (I7 c)) (J3 ‹_› (N4 c))
   refine s2 (r:=rQ) (p7 [(_,_),(_,_),(_,_),(_,_),(_,_),(_,_),(_,_),(_,_),(_,_),(_,_),(_,_)] rfl (by decide) rfl) rfl rfl ?_;refine s6 (t9 _ _ 0 ⟨by decide,by decide,by decide⟩) rfl (fun _=>rfl) (fun g5=>?_) (fun v5 g5=>?_)
   ·show Tr.sav _ _ _;refine s2 (r:=rQ) (p7 [(_,_),(_,_),(_,_),(_,_),(_,_),(_,_),(_,_),(_,_),(_,_),(_,_),(_,_),(_,_),(_,_),(_,_),(_,_)] rfl (by decide) rfl) rfl rfl ?_;refine s6 (t9 _ _ 0 ⟨by decide,by decide,by decide⟩) rfl (fun _=>rfl) (fun g6=>?_) (fun v6 g6=>?_)
    ·show Tr.sav _ _ _;refine s7 [.int .i64 _] rfl ?_;refine congrArg (fun z=>[U.int .i64 z]) ?_;symm;first|exact W1 (by unfold okU;omega)|exact j9 (by unfold okU;omega) (Q7 ‹_› (I7 c))|exact j8 (by unfold okU;omega) (J3 ‹_› (I7 c)) (Q7 ‹_› (N4 c))|exact V9 (by unfold okU;omega) (J3 ‹_› (I7 c)) (J3 ‹_› (N4 c))
    show Tr.sav _ _ _;refine s7 [.int .i64 _] rfl ?_;refine congrArg (fun z=>[U.int .i64 z]) ?_;symm;first|exact W1 (by unfold okU;omega)|exact j9 (by unfold okU;omega) (Q7 ‹_› (I7 c))|exact j8 (by unfold okU;omega) (J3 ‹_› (I7 c)) (Q7 ‹_› (N4 c))|exact V9 (by unfold okU;omega) (J3 ‹_› (I7 c)) (J3 ‹_› (N4 c))
   show Tr.sav _ _ _;refine s7 [.int .i64 _] rfl ?_;refine congrArg (fun z=>[U.int .i64 z]) ?_;symm;first|exact W1 (by unfold okU;omega)|exact j9 (by unfold okU;omega) (Q7 ‹_› (I7 c))|exact j8 (by unfold okU;omega) (J3 ‹_› (I7 c)) (Q7 ‹_› (N4 c))|exact V9 (by unfold okU;omega) (J3 ‹_› (I7 c)) (J3 ‹_› (N4 c))
  refine s1 (Y8 _ _ _) rfl rfl rfl ?_;refine s1 (M4 _) rfl rfl rfl ?_;refine s4 rfl (fun g3=>?_) fun g3=>?_
  ·refine s7 [.int .i64 _] rfl ?_;refine congrArg (fun z=>[U.int .i64 z]) ?_;symm;first|exact W1 (by unfold okU;omega)|exact j9 (by unfold okU;omega) (Q7 ‹_› (I7 c))|exact j8 (by unfold okU;omega) (J3 ‹_› (I7 c)) (Q7 ‹_› (N4 c))|exact V9 (by unfold okU;omega) (J3 ‹_› (I7 c)) (J3 ‹_› (N4 c))
  refine s1 (F0 _ _ _) rfl rfl rfl ?_;refine s4 rfl (fun g4=>?_) fun g4=>?_
  ·refine s7 [.int .i64 _] rfl ?_;refine congrArg (fun z=>[U.int .i64 z]) ?_;symm;first|exact W1 (by unfold okU;omega)|exact j9 (by unfold okU;omega) (Q7 ‹_› (I7 c))|exact j8 (by unfold okU;omega) (J3 ‹_› (I7 c)) (Q7 ‹_› (N4 c))|exact V9 (by unfold okU;omega) (J3 ‹_› (I7 c)) (J3 ‹_› (N4 c))
  refine s1 (Q3 _ _ _) rfl rfl rfl ?_;refine s4 rfl (fun g5=>?_) fun g5=>?_
  ·refine s1 (F0 _ _ _) rfl rfl rfl ?_;refine s4 rfl (fun g6=>?_) fun g6=>?_
   ·refine s7 [.int .i64 _] rfl ?_;refine congrArg (fun z=>[U.int .i64 z]) ?_;symm;first|exact W1 (by unfold okU;omega)|exact j9 (by unfold okU;omega) (Q7 ‹_› (I7 c))|exact j8 (by unfold okU;omega) (J3 ‹_› (I7 c)) (Q7 ‹_› (N4 c))|exact V9 (by unfold okU;omega) (J3 ‹_› (I7 c)) (J3 ‹_› (N4 c))
   refine s2 (r:=rQ) (p7 [(_,_),(_,_),(_,_),(_,_),(_,_),(_,_),(_,_),(_,_),(_,_),(_,_),(_,_)] rfl (by decide) rfl) rfl rfl ?_;refine s6 (t9 _ _ 0 ⟨by decide,by decide,by decide⟩) rfl (fun _=>rfl) (fun g7=>?_) (fun v7 g7=>?_)
   ·show Tr.sav _ _ _;refine s2 (r:=rQ) (p7 [(_,_),(_,_),(_,_),(_,_),(_,_),(_,_),(_,_),(_,_),(_,_),(_,_),(_,_),(_,_),(_,_),(_,_),(_,_)] rfl (by decide) rfl) rfl rfl ?_;refine s6 (t9 _ _ 0 ⟨by decide,by decide,by decide⟩) rfl (fun _=>rfl) (fun g8=>?_) (fun v8 g8=>?_)
    ·show Tr.sav _ _ _;refine s7 [.int .i64 _] rfl ?_;refine congrArg (fun z=>[U.int .i64 z]) ?_;symm;first|exact W1 (by unfold okU;omega)|exact j9 (by unfold okU;omega) (Q7 ‹_› (I7 c))|exact j8 (by unfold okU;omega) (J3 ‹_› (I7 c)) (Q7 ‹_› (N4 c))|exact V9 (by unfold okU;omega) (J3 ‹_› (I7 c)) (J3 ‹_› (N4 c))
    show Tr.sav _ _ _;refine s7 [.int .i64 _] rfl ?_;refine congrArg (fun z=>[U.int .i64 z]) ?_;symm;first|exact W1 (by unfold okU;omega)|exact j9 (by unfold okU;omega) (Q7 ‹_› (I7 c))|exact j8 (by unfold okU;omega) (J3 ‹_› (I7 c)) (Q7 ‹_› (N4 c))|exact V9 (by unfold okU;omega) (J3 ‹_› (I7 c)) (J3 ‹_› (N4 c))
   show Tr.sav _ _ _;refine s7 [.int .i64 _] rfl ?_;refine congrArg (fun z=>[U.int .i64 z]) ?_;symm;first|exact W1 (by unfold okU;omega)|exact j9 (by unfold okU;omega) (Q7 ‹_› (I7 c))|exact j8 (by unfold okU;omega) (J3 ‹_› (I7 c)) (Q7 ‹_› (N4 c))|exact V9 (by unfold okU;omega) (J3 ‹_› (I7 c)) (J3 ‹_› (N4 c))
  refine s2 (r:=rQ) (p7 [(_,_),(_,_),(_,_),(_,_),(_,_),(_,_),(_,_),(_,_),(_,_),(_,_),(_,_)] rfl (by decide) rfl) rfl rfl ?_;refine s6 (t9 _ _ 0 ⟨by decide,by decide,by decide⟩) rfl (fun _=>rfl) (fun g6=>?_) (fun v6 g6=>?_)
  ·show Tr.sav _ _ _;refine s2 (r:=rQ) (p7 [(_,_),(_,_),(_,_),(_,_),(_,_),(_,_),(_,_),(_,_),(_,_),(_,_),(_,_),(_,_),(_,_),(_,_),(_,_)] rfl (by decide) rfl) rfl rfl ?_;refine s6 (t9 _ _ 0 ⟨by decide,by decide,by decide⟩) rfl (fun _=>rfl) (fun g7=>?_) (fun v7 g7=>?_)
   ·show Tr.sav _ _ _;refine s7 [.int .i64 _] rfl ?_;refine congrArg (fun z=>[U.int .i64 z]) ?_;symm;first|exact W1 (by unfold okU;omega)|exact j9 (by unfold okU;omega) (Q7 ‹_› (I7 c))|exact j8 (by unfold okU;omega) (J3 ‹_› (I7 c)) (Q7 ‹_› (N4 c))|exact V9 (by unfold okU;omega) (J3 ‹_› (I7 c)) (J3 ‹_› (N4 c))
   show Tr.sav _ _ _;refine s7 [.int .i64 _] rfl ?_;refine congrArg (fun z=>[U.int .i64 z]) ?_;symm;first|exact W1 (by unfold okU;omega)|exact j9 (by unfold okU;omega) (Q7 ‹_› (I7 c))|exact j8 (by unfold okU;omega) (J3 ‹_› (I7 c)) (Q7 ‹_› (N4 c))|exact V9 (by unfold okU;omega) (J3 ‹_› (I7 c)) (J3 ‹_› (N4 c))
  show Tr.sav _ _ _;refine s7 [.int .i64 _] rfl ?_;refine congrArg (fun z=>[U.int .i64 z]) ?_;symm;first|exact W1 (by unfold okU;omega)|exact j9 (by unfold okU;omega) (Q7 ‹_› (I7 c))|exact j8 (by unfold okU;omega) (J3 ‹_› (I7 c)) (Q7 ‹_› (N4 c))|exact V9 (by unfold okU;omega) (J3 ‹_› (I7 c)) (J3 ‹_› (N4 c))
 ·cases hs
theorem lt8{i:Int}(h0:0≤i)(h1:i<8):i=0∨i=1∨i=2∨i=3∨i=4∨i=5∨i=6∨i=7:=by omega
@[irreducible] def A5r(b:Int):Int:=if b / 8%8=5 then 768 else if b / 8%4=1 then 769 else 0
@[irreducible] def A5q(b:Int):Int:=if b / 8%8=5 then 8400 else 0
@[irreducible] def sgB(b:Int):Int:=([32,97,122,233,20013,128512,65533,69]:List Int).getD (b%8).toNat 0
@[irreducible] def sgW(b:Int):Int:=A4G (([32,97,122,233,20013,128512,65533,69]:List Int).getD (b%8).toNat 0)-1
@[irreducible] def A5z(s:Int):Int:=([0,0,1,0,17,0,2,255]:List Int).getD (s%8).toNat 0
@[irreducible] def A5y(s:Int):Int:=([0,0,0,0,0,3,0,5]:List Int).getD (s%8).toNat 0
@[irreducible] def A5x(s:Int):Int:=([0,0,0,0,2,0,0,0]:List Int).getD (s%8).toNat 0
@[irreducible] def A5w(s:Int):Int:=([0,0,0,0,1056816,0,0,0]:List Int).getD (s%8).toNat 0
@[irreducible] def A5v(s:Int):Int:=([0,0,0,1,0,0,2,0]:List Int).getD (s%8).toNat 0
@[irreducible] def A5u(s:Int):Int:=([0,0,0,4,0,0,16777215,0]:List Int).getD (s%8).toNat 0
@[irreducible] def A5t(s:Int):Int:=([0,0,0,0,0,1,0,0]:List Int).getD (s%8).toNat 0
@[irreducible] def A5s(s:Int):Int:=([0,0,0,0,0,200,0,0]:List Int).getD (s%8).toNat 0
def C8R(b s:Int):Cel:=(sgB b,A5r b,A5q b,sgW b,A5z s,A5y s,A5x s,A5w s,A5v s,A5u s,A5t s,A5s s)
theorem C4P{b:Int}(h0:0≤b):let c:=([32,97,122,233,20013,128512,65533,69]:List Int).getD (b%8).toNat 0;(c=32∨c=97∨c=122∨c=233∨c=20013∨c=128512∨c=65533∨c=69)∧1≤A4G c∧A4G c≤2:=by
 rcases lt8 (A0Y b (by decide:(8:Int)≠0)) (A0i b (by decide))with h|h|h|h|h|h|h|h<;>rw[h]<;>decide
noncomputable def C7X:List (FuncId×FnC):=(89,M5 Tryd.prog [.s 3] A3N [.s 3])::L0
theorem C17{G:Nat→Option Obj}(hst:B9 Tryd.prog G gl H0 n0):H6 Tryd.prog G gl C7X:=(.cons (C5M hst) .nil)
def B06:List U→Option (Nat×List U)
 | [.int .u8 b,.int .u8 s]=>if 0≤b∧b≤255∧0≤s∧s≤255 then some (0,[.int .i64 (sgB b),.int .i64 (A5r b),.int .i64 (A5q b),.int .i64 (sgW b),.int .i64 (A5z s),.int .i64 (A5y s),.int .i64 (A5x s),.int .i64 (A5w s),.int .i64 (A5v s),.int .i64 (A5u s),.int .i64 (A5t s),.int .i64 (A5s s)])else none
 | _=>none
theorem C3R(b:Int)(s:Int)(hc:0≤b∧b≤255∧0≤s∧s≤255):B06 [.int .u8 b,.int .u8 s]=some (0,[.int .i64 (sgB b),.int .i64 (A5r b),.int .i64 (A5q b),.int .i64 (sgW b),.int .i64 (A5z s),.int .i64 (A5y s),.int .i64 (A5x s),.int .i64 (A5w s),.int .i64 (A5v s),.int .i64 (A5u s),.int .i64 (A5t s),.int .i64 (A5s s)]):=if_pos hc
def C5E:Tr:=.lt 4 (.bin .rem) [h 0 4,.int .u8 (8)]<|.lt 8 (.inb) [h 2 4,jI 8]<|.br 3 (.lt 3 (.sel) [h 2 4,jI 32,jI 97,jI 122,jI 233,jI 20013,jI 128512,jI 65533,jI 69]<|.lt 4 (.bin .rem) [h 1 4,.int .u8 (8)]<|.lt 8 (.inb) [h 5 4,jI 8]<|.br 6 (.lt 3 (.sel) [h 5 4,jI 0,jI 0,jI 1,jI 0,jI 17,jI 0,jI 2,jI 255]<|.lt 3 (.sel) [h 5 4,jI 0,jI 0,jI 0,jI 0,jI 0,jI 3,jI 0,jI 5]<|.lt 3 (.sel) [h 5 4,jI 0,jI 0,jI 0,jI 0,jI 2,jI 0,jI 0,jI 0]<|.lt 3 (.sel) [h 5 4,jI 0,jI 0,jI 0,jI 0,jI 1056816,jI 0,jI 0,jI 0]<|.lt 3 (.sel) [h 5 4,jI 0,jI 0,jI 0,jI 1,jI 0,jI 0,jI 2,jI 0]<|.lt 3 (.sel) [h 5 4,jI 0,jI 0,jI 0,jI 4,jI 0,jI 0,jI 16777215,jI 0]<|.lt 3 (.sel) [h 5 4,jI 0,jI 0,jI 0,jI 0,jI 0,jI 1,jI 0,jI 0]<|.lt 3 (.sel) [h 5 4,jI 0,jI 0,jI 0,jI 0,jI 0,jI 200,jI 0,jI 0]<|.fn A3N [h 4 3] 1<|.lt 3 (.bin .sub) [h 15 3,jI 1]<|.lt 4 (.bin .quo) [h 0 4,.int .u8 (8)]<|.lt 4 (.bin .rem) [h 17 4,.int .u8 (4)]<|.lt 8 (.bin .eql) [h 18 4,.int .u8 (1)]<|.br 19 (.lt 4 (.bin .quo) [h 0 4,.int .u8 (8)]<|.lt 4 (.bin .rem) [h 20 4,.int .u8 (8)]<|.lt 8 (.bin .eql) [h 21 4,.int .u8 (5)]<|.br 22 (.ret [h 4 3,jI 768,jI 8400,h 16 3,h 7 3,h 8 3,h 9 3,h 10 3,h 11 3,h 12 3,h 13 3,h 14 3]) (.ret [h 4 3,jI 769,jI 0,h 16 3,h 7 3,h 8 3,h 9 3,h 10 3,h 11 3,h 12 3,h 13 3,h 14 3])) (.lt 4 (.bin .quo) [h 0 4,.int .u8 (8)]<|.lt 4 (.bin .rem) [h 20 4,.int .u8 (8)]<|.lt 8 (.bin .eql) [h 21 4,.int .u8 (5)]<|.br 22 (.ret [h 4 3,jI 768,jI 8400,h 16 3,h 7 3,h 8 3,h 9 3,h 10 3,h 11 3,h 12 3,h 13 3,h 14 3]) (.ret [h 4 3,jI 0,jI 0,h 16 3,h 7 3,h 8 3,h 9 3,h 10 3,h 11 3,h 12 3,h 13 3,h 14 3]))) (.no)) (.no)
theorem C5F{G:Nat→Option Obj}(hst:B9 Tryd.prog G gl H0 n0):S1 Tryd.prog G 73 [.s 4,.s 4] B06 [.a [3,3,3,3,3,3,3,3,3,3,3,3]]:=by
 refine G6 (C:=cx C7X []) (d:=60) C5E (cxg (C17 hst) .nil) hst ⟨Tryd.f73,_,Tryd.func73,rfl⟩ (by kernel_rfl) (by kernel_rfl) ?_;intro us outs hs;unfold B06 at hs;split at hs
 ·skip;rename_i b s;split at hs
  ·rename_i hc;cases hs;have bi:=C4P (b:=b) (by omega);simp only[]at bi;unfold C5E;refine s0 (.cons 1 _ (.cons 0 _ (.nil))) rfl (by simp[Ev.ok,Ev.len]) ?_;first|refine s1 (P1 (by omega) (by omega)) rfl rfl rfl ?_|refine s1 (S5 _ _ _ (by omega)) rfl rfl rfl ?_
   refine s1 (A91 _ _ _ _) rfl rfl rfl ?_;refine s5 rfl (fun g0=>?_) fun g0=>?_
   ·refine s8 ?_;first|omega
   refine s1 (u5 [32,97,122,233,20013,128512,65533,69] (by omega) (by show _<((8:Nat):Int);omega)) rfl rfl rfl ?_;first|refine s1 (P1 (by omega) (by omega)) rfl rfl rfl ?_|refine s1 (S5 _ _ _ (by omega)) rfl rfl rfl ?_
   refine s1 (A91 _ _ _ _) rfl rfl rfl ?_;refine s5 rfl (fun g1=>?_) fun g1=>?_
   ·refine s8 ?_;first|omega
   refine s1 (u5 [0,0,1,0,17,0,2,255] (by omega) (by show _<((8:Nat):Int);omega)) rfl rfl rfl ?_;refine s1 (u5 [0,0,0,0,0,3,0,5] (by omega) (by show _<((8:Nat):Int);omega)) rfl rfl rfl ?_;refine s1 (u5 [0,0,0,0,2,0,0,0] (by omega) (by show _<((8:Nat):Int);omega)) rfl rfl rfl ?_;refine s1 (u5 [0,0,0,0,1056816,0,0,0] (by omega) (by show _<((8:Nat):Int);omega)) rfl rfl rfl ?_;refine s1 (u5 [0,0,0,1,0,0,2,0] (by omega) (by show _<((8:Nat):Int);omega)) rfl rfl rfl ?_;refine s1 (u5 [0,0,0,4,0,0,16777215,0] (by omega) (by show _<((8:Nat):Int);omega)) rfl rfl rfl ?_;refine s1 (u5 [0,0,0,0,0,1,0,0] (by omega) (by show _<((8:Nat):Int);omega)) rfl rfl rfl ?_;refine s1 (u5 [0,0,0,0,0,200,0,0] (by omega) (by show _<((8:Nat):Int);omega)) rfl rfl rfl ?_;refine s31 (A2q _) rfl ?_;first|refine s1 (X9 (B4 (by omega) (by omega))) rfl rfl rfl ?_|refine s1 (m5 _ _ _) rfl rfl rfl ?_
   first|refine s1 (R5 (by omega) (by omega) (W6 (by omega) (by omega))) rfl rfl rfl ?_|refine s1 (Y0 _ _ _ (by omega)) rfl rfl rfl ?_
   first|refine s1 (P1 (by omega) (by omega)) rfl rfl rfl ?_|refine s1 (S5 _ _ _ (by omega)) rfl rfl rfl ?_
   refine s1 (F4 _ _ _) rfl rfl rfl ?_;refine s4 rfl (fun g2=>?_) fun g2=>?_
   ·first|refine s1 (R5 (by omega) (by omega) (W6 (by omega) (by omega))) rfl rfl rfl ?_|refine s1 (Y0 _ _ _ (by omega)) rfl rfl rfl ?_
    first|refine s1 (P1 (by omega) (by omega)) rfl rfl rfl ?_|refine s1 (S5 _ _ _ (by omega)) rfl rfl rfl ?_
    refine s1 (F4 _ _ _) rfl rfl rfl ?_;refine s4 rfl (fun g3=>?_) fun g3=>?_
    ·refine s7 [.int .i64 _,.int .i64 _,.int .i64 _,.int .i64 _,.int .i64 _,.int .i64 _,.int .i64 _,.int .i64 _,.int .i64 _,.int .i64 _,.int .i64 _,.int .i64 _] rfl ?_;first|(unfold A5r A5q sgB sgW A5z A5y A5x A5w A5v A5u A5t A5s;rw[if_pos (by omega),if_pos (by omega)])|(unfold A5r A5q sgB sgW A5z A5y A5x A5w A5v A5u A5t A5s;rw[if_neg (by omega),if_pos (by omega),if_neg (by omega)])|(unfold A5r A5q sgB sgW A5z A5y A5x A5w A5v A5u A5t A5s;rw[if_neg (by omega),if_neg (by omega),if_neg (by omega)])
    refine s7 [.int .i64 _,.int .i64 _,.int .i64 _,.int .i64 _,.int .i64 _,.int .i64 _,.int .i64 _,.int .i64 _,.int .i64 _,.int .i64 _,.int .i64 _,.int .i64 _] rfl ?_;first|(unfold A5r A5q sgB sgW A5z A5y A5x A5w A5v A5u A5t A5s;rw[if_pos (by omega),if_pos (by omega)])|(unfold A5r A5q sgB sgW A5z A5y A5x A5w A5v A5u A5t A5s;rw[if_neg (by omega),if_pos (by omega),if_neg (by omega)])|(unfold A5r A5q sgB sgW A5z A5y A5x A5w A5v A5u A5t A5s;rw[if_neg (by omega),if_neg (by omega),if_neg (by omega)])
   first|refine s1 (R5 (by omega) (by omega) (W6 (by omega) (by omega))) rfl rfl rfl ?_|refine s1 (Y0 _ _ _ (by omega)) rfl rfl rfl ?_
   first|refine s1 (P1 (by omega) (by omega)) rfl rfl rfl ?_|refine s1 (S5 _ _ _ (by omega)) rfl rfl rfl ?_
   refine s1 (F4 _ _ _) rfl rfl rfl ?_;refine s4 rfl (fun g3=>?_) fun g3=>?_
   ·refine s7 [.int .i64 _,.int .i64 _,.int .i64 _,.int .i64 _,.int .i64 _,.int .i64 _,.int .i64 _,.int .i64 _,.int .i64 _,.int .i64 _,.int .i64 _,.int .i64 _] rfl ?_;first|(unfold A5r A5q sgB sgW A5z A5y A5x A5w A5v A5u A5t A5s;rw[if_pos (by omega),if_pos (by omega)])|(unfold A5r A5q sgB sgW A5z A5y A5x A5w A5v A5u A5t A5s;rw[if_neg (by omega),if_pos (by omega),if_neg (by omega)])|(unfold A5r A5q sgB sgW A5z A5y A5x A5w A5v A5u A5t A5s;rw[if_neg (by omega),if_neg (by omega),if_neg (by omega)])
   refine s7 [.int .i64 _,.int .i64 _,.int .i64 _,.int .i64 _,.int .i64 _,.int .i64 _,.int .i64 _,.int .i64 _,.int .i64 _,.int .i64 _,.int .i64 _,.int .i64 _] rfl ?_;first|(unfold A5r A5q sgB sgW A5z A5y A5x A5w A5v A5u A5t A5s;rw[if_pos (by omega),if_pos (by omega)])|(unfold A5r A5q sgB sgW A5z A5y A5x A5w A5v A5u A5t A5s;rw[if_neg (by omega),if_pos (by omega),if_neg (by omega)])|(unfold A5r A5q sgB sgW A5z A5y A5x A5w A5v A5u A5t A5s;rw[if_neg (by omega),if_neg (by omega),if_neg (by omega)])
  ·cases hs
 ·cases hs
end Go.Proofs.YtdkdbjgkedahfaaDoor
