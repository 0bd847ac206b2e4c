/- The law PickFound: for every input the call returns true, and the arguments read behind it as they read before. No condition. -/
import Derived.Test.YtdkdbjgkedahfaaDoorX8
namespace Go.Proofs.YtdkdbjgkedahfaaDoor
set_option linter.all false
open Go Go.Sx
set_option maxRecDepth 100000
set_option linter.unusedVariables false
set_option linter.unusedSimpArgs false
theorem C2Z(x:BitVec 64):x &&& ~~~(255#64)=(x >>> 8) <<< 8:=by
 have h:∀ i,i<64→(255#64).getLsbD i=decide (i<8):=by decide
 apply BitVec.eq_of_getLsbD_eq;intro i hi;rw[BitVec.getLsbD_and,BitVec.getLsbD_not,h i hi,BitVec.getLsbD_shiftLeft,BitVec.getLsbD_ushiftRight];by_cases h8:i<8
 ·simp[h8]
 ·simp[h8,hi,show 8+(i-8)=i by omega]
theorem C2F{a:Int}(h0 : -9223372036854775808≤a)(h1:a≤9223372036854775807):evU (.bin .andNot) [.int .i64 a,.int .i64 255]=.int .i64 (a-a%256):=by
 rw[B7Y];have e:(BitVec.ofInt IntKind.i64.bits a &&& ~~~BitVec.ofInt IntKind.i64.bits 255).toNat=((BitVec.ofInt 64 a >>> 8) <<< 8).toNat:=congrArg BitVec.toNat (C2Z (BitVec.ofInt 64 a));rw[e];have e2:((BitVec.ofInt 64 a >>> 8) <<< 8).toNat=(BitVec.ofInt 64 a).toNat / 256*256:=by
  rw[BitVec.toNat_shiftLeft,BitVec.toNat_ushiftRight,Nat.shiftLeft_eq,Nat.shiftRight_eq_div_pow]
  have:=(BitVec.ofInt 64 a).isLt;exact A0z (by omega)
 rw[e2,A2I];refine congrArg (U.int .i64) ?_;have e3:((2 ^ 64:Nat):Int)=18446744073709551616:=by decide
 rw[e3];generalize hA:(a%18446744073709551616).toNat=A;have hA1:(A:Int)=a%18446744073709551616:=by omega
 have e4:((A / 256*256:Nat):Int)=a%18446744073709551616-a%256:=by omega
 rw[e4];simp only[IntKind.wrap,IntKind.bits,IntKind.signed];simp;omega
def A2D(k n:Int):Int:=if(k=0∧n=0)∨(k=1∧0≤n∧n≤255)∨(k=2∧0≤n∧n≤16777215)then 0 else 130
def A5s:List U→Option (Nat×List U)
 | [.int .i64 k,.int .i64 n]=>some (0,[.int .i64 (A2D k n)])
 | _=>none
theorem A9R(k:Int)(n:Int):A5s [.int .i64 k,.int .i64 n]=some (0,[.int .i64 (A2D k n)]):=rfl
def C0D:Tr:=.lt 8 (.bin .lss) [h 0 3,jI 0]<|.br 2 (.ret [jI 130]) (.lt 8 (.bin .geq) [h 0 3,jI 3]<|.br 3 (.ret [jI 130]) (.lt 8 (.bin .lss) [h 1 3,jI 0]<|.br 4 (.ret [jI 130]) (.lt 8 (.inb) [h 0 3,jI 3]<|.br 5 (.lt 3 (.sel) [h 0 3,jI 0,jI 255,jI 16777215]<|.lt 8 (.bin .gtr) [h 1 3,h 6 3]<|.br 7 (.ret [jI 130]) (.ret [jI 0])) (.no))))
theorem C55{G:Nat→Option Obj}(hst:D2 Tryd.prog G gl H0 n0):c9 Tryd.prog G 111 [.a [3,3]] A5s [.s 3]:=by
 refine J7 (C:=cx C1H []) (d:=60) C0D (cxg (B4T hst) .nil) hst ⟨Tryd.f111,_,Tryd.func111,rfl⟩ (by kernel_rfl) (by kernel_rfl) ?_;intro us outs hs;unfold A5s at hs;split at hs
 ·skip;rename_i k n;cases hs;unfold C0D;refine s0 (.cons 1 _ (.cons 0 _ (.nil))) rfl (by simp[Ev.ok,Ev.len]) ?_;refine s1 (H7 _ _ _) rfl rfl rfl ?_;refine s4 rfl (fun g0=>?_) fun g0=>?_
  ·refine s7 [.int .i64 _] rfl ?_;simp only[A2D];first|(rw[if_pos (by omega)];done)|(rw[if_neg (by omega)];done)|((obtain rfl|rfl|rfl:k=0∨k=1∨k=2:=(by omega))<;>simp at *<;>first|(rw[if_pos (by omega)];done)|(rw[if_neg (by omega)];done)|omega)
  refine s1 (N5 _ _ _) rfl rfl rfl ?_;refine s4 rfl (fun g1=>?_) fun g1=>?_
  ·refine s7 [.int .i64 _] rfl ?_;simp only[A2D];first|(rw[if_pos (by omega)];done)|(rw[if_neg (by omega)];done)|((obtain rfl|rfl|rfl:k=0∨k=1∨k=2:=(by omega))<;>simp at *<;>first|(rw[if_pos (by omega)];done)|(rw[if_neg (by omega)];done)|omega)
  refine s1 (H7 _ _ _) rfl rfl rfl ?_;refine s4 rfl (fun g2=>?_) fun g2=>?_
  ·refine s7 [.int .i64 _] rfl ?_;simp only[A2D];first|(rw[if_pos (by omega)];done)|(rw[if_neg (by omega)];done)|((obtain rfl|rfl|rfl:k=0∨k=1∨k=2:=(by omega))<;>simp at *<;>first|(rw[if_pos (by omega)];done)|(rw[if_neg (by omega)];done)|omega)
  refine s1 (A9H _ _ _ _) rfl rfl rfl ?_;refine s5 rfl (fun g3=>?_) fun g3=>?_
  ·refine s8 ?_;first|omega|(simp_all;done)|(simp_all;omega)
  refine s1 (j8 [0,255,16777215] (by omega) (by show _<((3:Nat):Int);omega)) rfl rfl rfl ?_;refine s1 (w6 _ _ _) rfl rfl rfl ?_;refine s4 rfl (fun g4=>?_) fun g4=>?_
  ·refine s7 [.int .i64 _] rfl ?_;simp only[A2D];first|(rw[if_pos (by omega)];done)|(rw[if_neg (by omega)];done)|((obtain rfl|rfl|rfl:k=0∨k=1∨k=2:=(by omega))<;>simp at *<;>first|(rw[if_pos (by omega)];done)|(rw[if_neg (by omega)];done)|omega)
  refine s7 [.int .i64 _] rfl ?_;simp only[A2D];first|(rw[if_pos (by omega)];done)|(rw[if_neg (by omega)];done)|((obtain rfl|rfl|rfl:k=0∨k=1∨k=2:=(by omega))<;>simp at *<;>first|(rw[if_pos (by omega)];done)|(rw[if_neg (by omega)];done)|omega)
 ·cases hs
noncomputable def C1I:List (FuncId×FnC):=(111,R7 Tryd.prog [.a [3,3]] A5s [.s 3])::C1H
theorem B7o{G:Nat→Option Obj}(hst:D2 Tryd.prog G gl H0 n0):K2 Tryd.prog G gl C1I:=.cons (C55 hst) (B4T hst)
def A49(a u fk fn bk bn lk ln:Int):Int:=if a<0∨255<a∨u<0∨5<u then 140 else if A2D fk fn≠0 then A2D fk fn else if A2D bk bn≠0 then A2D bk bn else A2D lk ln
theorem A5U{a u fk fn bk bn lk ln:Int}(h:a<0∨255<a∨u<0∨5<u):A49 a u fk fn bk bn lk ln=140:=if_pos h
theorem A5T{a u fk fn bk bn lk ln:Int}(h:¬(a<0∨255<a∨u<0∨5<u))(h2:A2D fk fn≠0):A49 a u fk fn bk bn lk ln=A2D fk fn:=by unfold A49;rw[if_neg h,if_pos h2]
theorem A5S{a u fk fn bk bn lk ln:Int}(h:¬(a<0∨255<a∨u<0∨5<u))(h2:¬A2D fk fn≠0)(h3:A2D bk bn≠0):A49 a u fk fn bk bn lk ln=A2D bk bn:=by unfold A49;rw[if_neg h,if_neg h2,if_pos h3]
theorem A32{a u fk fn bk bn lk ln:Int}(h:¬(a<0∨255<a∨u<0∨5<u))(h2:¬A2D fk fn≠0)(h3:¬A2D bk bn≠0):A49 a u fk fn bk bn lk ln=A2D lk ln:=by unfold A49;rw[if_neg h,if_neg h2,if_neg h3]
theorem A5V{a u fk fn bk bn lk ln:Int}(h:¬(a<0∨255<a∨u<0∨5<u))(h2:¬A2D fk fn≠0)(h3:¬A2D bk bn≠0)(h4:¬A2D lk ln≠0):A49 a u fk fn bk bn lk ln=0:=by rw[A32 h h2 h3];exact W9.1 h4
def A33:List U→Option (Nat×List U)
 | [.int .i64 a,.int .i64 u,.int .i64 fk,.int .i64 fn,.int .i64 bk,.int .i64 bn,.int .i64 lk,.int .i64 ln]=>if(-9223372036854775808≤a∧a≤9223372036854775807)then some (0,[.int .i64 (A49 a u fk fn bk bn lk ln)])else none
 | _=>none
theorem A3M(a:Int)(u:Int)(fk:Int)(fn:Int)(bk:Int)(bn:Int)(lk:Int)(ln:Int)(hc:(-9223372036854775808≤a∧a≤9223372036854775807)):A33 [.int .i64 a,.int .i64 u,.int .i64 fk,.int .i64 fn,.int .i64 bk,.int .i64 bn,.int .i64 lk,.int .i64 ln]=some (0,[.int .i64 (A49 a u fk fn bk bn lk ln)]):=if_pos hc
def C3K:Tr:=.lt 3 (.bin .andNot) [h 0 3,jI 255]<|.lt 8 (.bin .neq) [h 8 3,jI 0]<|.br 9 (.ret [jI 140]) (.lt 8 (.bin .lss) [h 1 3,jI 0]<|.br 10 (.ret [jI 140]) (.lt 8 (.bin .gtr) [h 1 3,jI 5]<|.br 11 (.ret [jI 140]) (.fn A5s [h 2 3,h 3 3] 1<|.lt 8 (.bin .neq) [h 12 3,jI 0]<|.br 13 (.ret [h 12 3]) (.fn A5s [h 4 3,h 5 3] 1<|.lt 8 (.bin .neq) [h 14 3,jI 0]<|.br 15 (.ret [h 14 3]) (.fn A5s [h 6 3,h 7 3] 1<|.lt 8 (.bin .neq) [h 16 3,jI 0]<|.br 17 (.ret [h 16 3]) (.ret [jI 0]))))))
theorem C6J{G:Nat→Option Obj}(hst:D2 Tryd.prog G gl H0 n0):c9 Tryd.prog G 107 [.a [3,3,3,3,3,3,3,3]] A33 [.s 3]:=by
 refine J7 (C:=cx C1I []) (d:=60) C3K (cxg (B7o hst) .nil) hst ⟨Tryd.f107,_,Tryd.func107,rfl⟩ (by kernel_rfl) (by kernel_rfl) ?_;intro us outs hs;unfold A33 at hs;split at hs
 ·skip;rename_i a u fk fn bk bn lk ln;split at hs
  ·rename_i hc;cases hs;unfold C3K;refine s0 (.cons 7 _ (.cons 6 _ (.cons 5 _ (.cons 4 _ (.cons 3 _ (.cons 2 _ (.cons 1 _ (.cons 0 _ (.nil))))))))) rfl (by simp[Ev.ok,Ev.len]) ?_;refine s1 (C2F hc.1 hc.2) rfl rfl rfl ?_;refine s1 (K7 _ _ _) rfl rfl rfl ?_;refine s4 rfl (fun g0=>?_) fun g0=>?_
   ·refine s7 [.int .i64 _] rfl ?_;refine congrArg (fun z=>[U.int .i64 z]) ?_;symm;first|exact A5U (by omega)|exact A5T (by omega) ‹_›|exact A5S (by omega) ‹_› ‹_›|exact A32 (by omega) ‹_› ‹_›|exact A5V (by omega) ‹_› ‹_› ‹_›
   refine s1 (H7 _ _ _) rfl rfl rfl ?_;refine s4 rfl (fun g1=>?_) fun g1=>?_
   ·refine s7 [.int .i64 _] rfl ?_;refine congrArg (fun z=>[U.int .i64 z]) ?_;symm;first|exact A5U (by omega)|exact A5T (by omega) ‹_›|exact A5S (by omega) ‹_› ‹_›|exact A32 (by omega) ‹_› ‹_›|exact A5V (by omega) ‹_› ‹_› ‹_›
   refine s1 (w6 _ _ _) rfl rfl rfl ?_;refine s4 rfl (fun g2=>?_) fun g2=>?_
   ·refine s7 [.int .i64 _] rfl ?_;refine congrArg (fun z=>[U.int .i64 z]) ?_;symm;first|exact A5U (by omega)|exact A5T (by omega) ‹_›|exact A5S (by omega) ‹_› ‹_›|exact A32 (by omega) ‹_› ‹_›|exact A5V (by omega) ‹_› ‹_› ‹_›
   refine s31 (A9R _ _) rfl ?_;refine s1 (K7 _ _ _) rfl rfl rfl ?_;refine s4 rfl (fun g3=>?_) fun g3=>?_
   ·refine s7 [.int .i64 _] rfl ?_;refine congrArg (fun z=>[U.int .i64 z]) ?_;symm;first|exact A5U (by omega)|exact A5T (by omega) ‹_›|exact A5S (by omega) ‹_› ‹_›|exact A32 (by omega) ‹_› ‹_›|exact A5V (by omega) ‹_› ‹_› ‹_›
   refine s31 (A9R _ _) rfl ?_;refine s1 (K7 _ _ _) rfl rfl rfl ?_;refine s4 rfl (fun g4=>?_) fun g4=>?_
   ·refine s7 [.int .i64 _] rfl ?_;refine congrArg (fun z=>[U.int .i64 z]) ?_;symm;first|exact A5U (by omega)|exact A5T (by omega) ‹_›|exact A5S (by omega) ‹_› ‹_›|exact A32 (by omega) ‹_› ‹_›|exact A5V (by omega) ‹_› ‹_› ‹_›
   refine s31 (A9R _ _) rfl ?_;refine s1 (K7 _ _ _) rfl rfl rfl ?_;refine s4 rfl (fun g5=>?_) fun g5=>?_
   ·refine s7 [.int .i64 _] rfl ?_;refine congrArg (fun z=>[U.int .i64 z]) ?_;symm;first|exact A5U (by omega)|exact A5T (by omega) ‹_›|exact A5S (by omega) ‹_› ‹_›|exact A32 (by omega) ‹_› ‹_›|exact A5V (by omega) ‹_› ‹_› ‹_›
   refine s7 [.int .i64 _] rfl ?_;refine congrArg (fun z=>[U.int .i64 z]) ?_;symm;first|exact A5U (by omega)|exact A5T (by omega) ‹_›|exact A5S (by omega) ‹_› ‹_›|exact A32 (by omega) ‹_› ‹_›|exact A5V (by omega) ‹_› ‹_› ‹_›
  ·cases hs
 ·cases hs
def R3(b m0 m1 wd:Int):Prop:=(b=0∧m0=0∧m1=0∧wd=2)∨(0≤wd∧wd≤1∧A3I b=wd+1∧(m0=0∨A3I m0=0)∧(m1=0∨(m0≠0∧A3I m1=0)))
instance(b m0 m1 wd:Int):Decidable (R3 b m0 m1 wd):=by unfold R3;infer_instance
def A5w(b m0 m1 wd at_ un fk fn bk bn lk ln:Int):Int:=if R3 b m0 m1 wd∧A49 at_ un fk fn bk bn lk ln=0 then 0 else 221
theorem P9{b m0 m1 wd at_ un fk fn bk bn lk ln:Int}(h:R3 b m0 m1 wd)(h2:A49 at_ un fk fn bk bn lk ln=0):[U.int .i64 0]=[U.int .i64 (A5w b m0 m1 wd at_ un fk fn bk bn lk ln)]:=by unfold A5w;rw[if_pos ⟨h,h2⟩]
theorem V7{b m0 m1 wd at_ un fk fn bk bn lk ln:Int}(h:¬R3 b m0 m1 wd):[U.int .i64 221]=[U.int .i64 (A5w b m0 m1 wd at_ un fk fn bk bn lk ln)]:=by unfold A5w;rw[if_neg (fun h2=>h h2.1)]
theorem V6{b m0 m1 wd at_ un fk fn bk bn lk ln:Int}(h:A49 at_ un fk fn bk bn lk ln≠0):[U.int .i64 221]=[U.int .i64 (A5w b m0 m1 wd at_ un fk fn bk bn lk ln)]:=by unfold A5w;rw[if_neg (fun h2=>h h2.2)]
noncomputable def C43:List (FuncId×FnC):=(105,R7 Tryd.prog [.s 3] A58 [.s 3])::(107,R7 Tryd.prog [.a [3,3,3,3,3,3,3,3]] A33 [.s 3])::L0
theorem C00{G:Nat→Option Obj}(hst:D2 Tryd.prog G gl H0 n0):K2 Tryd.prog G gl C43:=(.cons (C20 hst) (.cons (C6J hst) .nil))
def B05:List U→Option (Nat×List U)
 | [.int .i64 b,.int .i64 m0,.int .i64 m1,.int .i64 wd,.int .i64 at_,.int .i64 un,.int .i64 fk,.int .i64 fn,.int .i64 bk,.int .i64 bn,.int .i64 lk,.int .i64 ln]=>if(-9223372036854775808≤at_∧at_≤9223372036854775807)then some (0,[.int .i64 (A5w b m0 m1 wd at_ un fk fn bk bn lk ln)])else none
 | _=>none
theorem C2Q(b:Int)(m0:Int)(m1:Int)(wd:Int)(at_:Int)(un:Int)(fk:Int)(fn:Int)(bk:Int)(bn:Int)(lk:Int)(ln:Int)(hc:(-9223372036854775808≤at_∧at_≤9223372036854775807)):B05 [.int .i64 b,.int .i64 m0,.int .i64 m1,.int .i64 wd,.int .i64 at_,.int .i64 un,.int .i64 fk,.int .i64 fn,.int .i64 bk,.int .i64 bn,.int .i64 lk,.int .i64 ln]=some (0,[.int .i64 (A5w b m0 m1 wd at_ un fk fn bk bn lk ln)]):=if_pos hc
def C4W:Tr:=.lt 8 (.eqs) [h 0 3,jI 0,h 1 3,jI 0,h 2 3,jI 0,h 3 3,jI 2,h 4 3,h 4 3,h 5 3,h 5 3,h 6 3,h 6 3,h 7 3,h 7 3,h 8 3,h 8 3,h 9 3,h 9 3,h 10 3,h 10 3,h 11 3,h 11 3]<|.br 12 (.fn A33 [h 4 3,h 5 3,h 6 3,h 7 3,h 8 3,h 9 3,h 10 3,h 11 3] 1<|.lt 8 (.bin .neq) [h 13 3,jI 0]<|.br 14 (.ret [jI 221]) (.ret [jI 0])) (.lt 8 (.bin .geq) [h 3 3,jI 0]<|.br 13 (.lt 8 (.bin .leq) [h 3 3,jI 1]<|.br 14 (.fn A58 [h 0 3] 1<|.lt 3 (.bin .add) [h 3 3,jI 1]<|.lt 8 (.bin .eql) [h 15 3,h 16 3]<|.br 17 (.lt 8 (.bin .neq) [h 1 3,jI 0]<|.br 18 (.fn A58 [h 1 3] 1<|.lt 8 (.bin .neq) [h 19 3,jI 0]<|.br 20 (.ret [jI 221]) (.lt 8 (.bin .eql) [h 1 3,jI 0]<|.lt 8 (.bin .neq) [h 2 3,jI 0]<|.br 22 (.br 21 (.ret [jI 221]) (.fn A58 [h 2 3] 1<|.lt 8 (.bin .neq) [h 23 3,jI 0]<|.br 24 (.ret [jI 221]) (.lt 8 (.bin .eql) [h 2 3,jI 0]<|.fn A33 [h 4 3,h 5 3,h 6 3,h 7 3,h 8 3,h 9 3,h 10 3,h 11 3] 1<|.lt 8 (.bin .neq) [h 26 3,jI 0]<|.br 27 (.ret [jI 221]) (.ret [jI 0])))) (.br 21 (.fn A33 [h 4 3,h 5 3,h 6 3,h 7 3,h 8 3,h 9 3,h 10 3,h 11 3] 1<|.lt 8 (.bin .neq) [h 23 3,jI 0]<|.br 24 (.ret [jI 221]) (.ret [jI 0])) (.lt 8 (.bin .eql) [h 2 3,jI 0]<|.fn A33 [h 4 3,h 5 3,h 6 3,h 7 3,h 8 3,h 9 3,h 10 3,h 11 3] 1<|.lt 8 (.bin .neq) [h 24 3,jI 0]<|.br 25 (.ret [jI 221]) (.ret [jI 0]))))) (.lt 8 (.bin .eql) [h 1 3,jI 0]<|.lt 8 (.bin .neq) [h 2 3,jI 0]<|.br 20 (.br 19 (.ret [jI 221]) (.fn A58 [h 2 3] 1<|.lt 8 (.bin .neq) [h 21 3,jI 0]<|.br 22 (.ret [jI 221]) (.lt 8 (.bin .eql) [h 2 3,jI 0]<|.fn A33 [h 4 3,h 5 3,h 6 3,h 7 3,h 8 3,h 9 3,h 10 3,h 11 3] 1<|.lt 8 (.bin .neq) [h 24 3,jI 0]<|.br 25 (.ret [jI 221]) (.ret [jI 0])))) (.br 19 (.fn A33 [h 4 3,h 5 3,h 6 3,h 7 3,h 8 3,h 9 3,h 10 3,h 11 3] 1<|.lt 8 (.bin .neq) [h 21 3,jI 0]<|.br 22 (.ret [jI 221]) (.ret [jI 0])) (.lt 8 (.bin .eql) [h 2 3,jI 0]<|.fn A33 [h 4 3,h 5 3,h 6 3,h 7 3,h 8 3,h 9 3,h 10 3,h 11 3] 1<|.lt 8 (.bin .neq) [h 22 3,jI 0]<|.br 23 (.ret [jI 221]) (.ret [jI 0]))))) (.ret [jI 221])) (.ret [jI 221])) (.ret [jI 221]))
theorem C4X{G:Nat→Option Obj}(hst:D2 Tryd.prog G gl H0 n0):c9 Tryd.prog G 95 [.a [3,3,3,3,3,3,3,3,3,3,3,3]] B05 [.s 3]:=by
 refine J7 (C:=cx C43 []) (d:=60) C4W (cxg (C00 hst) .nil) hst ⟨Tryd.f95,_,Tryd.func95,rfl⟩ (by kernel_rfl) (by kernel_rfl) ?_;intro us outs hs;unfold B05 at hs;split at hs
 ·skip;rename_i b m0 m1 wd at_ un fk fn bk bn lk ln;split at hs
  ·rename_i hc;cases hs;unfold C4W;refine s0 (.cons 11 _ (.cons 10 _ (.cons 9 _ (.cons 8 _ (.cons 7 _ (.cons 6 _ (.cons 5 _ (.cons 4 _ (.cons 3 _ (.cons 2 _ (.cons 1 _ (.cons 0 _ (.nil))))))))))))) rfl (by simp[Ev.ok,Ev.len]) ?_;refine s1 rfl rfl rfl rfl ?_;first|refine s4 rfl (fun g0=>?_) (fun g0=>?_)|refine s4B rfl (fun g0=>?_) (fun g0=>?_)
   ·have g0:(b=0∧m0=0∧m1=0∧wd=2):=by simpa using g0
    refine s31 (A3M _ _ _ _ _ _ _ _ (by omega)) rfl ?_;refine s1 (K7 _ _ _) rfl rfl rfl ?_;refine s4 rfl (fun g1=>?_) fun g1=>?_
    ·refine s7 [.int .i64 _] rfl ?_;first|exact P9 (by unfold R3;omega) (by omega)|exact V7 (by unfold R3;omega)|exact V6 (by omega)
    refine s7 [.int .i64 _] rfl ?_;first|exact P9 (by unfold R3;omega) (by omega)|exact V7 (by unfold R3;omega)|exact V6 (by omega)
   have g0:¬(b=0∧m0=0∧m1=0∧wd=2):=by simpa using g0
   refine s1 (N5 _ _ _) rfl rfl rfl ?_;refine s5 rfl (fun g1=>?_) fun g1=>?_
   ·refine s7 [.int .i64 _] rfl ?_;first|exact P9 (by unfold R3;omega) (by omega)|exact V7 (by unfold R3;omega)|exact V6 (by omega)
   refine s1 (A0d _ _ _) rfl rfl rfl ?_;refine s5 rfl (fun g2=>?_) fun g2=>?_
   ·refine s7 [.int .i64 _] rfl ?_;first|exact P9 (by unfold R3;omega) (by omega)|exact V7 (by unfold R3;omega)|exact V6 (by omega)
   refine s31 (A76 _) rfl ?_;first|refine s1 (C7 (B9 (by omega) (by omega))) rfl rfl rfl ?_|refine s1 (D9 _ _ _) rfl rfl rfl ?_
   refine s1 (I4 _ _ _) rfl rfl rfl ?_;refine s5 rfl (fun g3=>?_) fun g3=>?_
   ·refine s7 [.int .i64 _] rfl ?_;first|exact P9 (by unfold R3;omega) (by omega)|exact V7 (by unfold R3;omega)|exact V6 (by omega)
   refine s1 (K7 _ _ _) rfl rfl rfl ?_;refine s4 rfl (fun g4=>?_) fun g4=>?_
   ·refine s31 (A76 _) rfl ?_;refine s1 (K7 _ _ _) rfl rfl rfl ?_;refine s4 rfl (fun g5=>?_) fun g5=>?_
    ·refine s7 [.int .i64 _] rfl ?_;first|exact P9 (by unfold R3;omega) (by omega)|exact V7 (by unfold R3;omega)|exact V6 (by omega)
    refine s1 (I4 _ _ _) rfl rfl rfl ?_;refine s1 (K7 _ _ _) rfl rfl rfl ?_;refine s4 rfl (fun g6=>?_) fun g6=>?_
    ·refine s4 rfl (fun g7=>?_) fun g7=>?_
     ·refine s7 [.int .i64 _] rfl ?_;first|exact P9 (by unfold R3;omega) (by omega)|exact V7 (by unfold R3;omega)|exact V6 (by omega)
     refine s31 (A76 _) rfl ?_;refine s1 (K7 _ _ _) rfl rfl rfl ?_;refine s4 rfl (fun g8=>?_) fun g8=>?_
     ·refine s7 [.int .i64 _] rfl ?_;first|exact P9 (by unfold R3;omega) (by omega)|exact V7 (by unfold R3;omega)|exact V6 (by omega)
     refine s1 (I4 _ _ _) rfl rfl rfl ?_;refine s31 (A3M _ _ _ _ _ _ _ _ (by omega)) rfl ?_;refine s1 (K7 _ _ _) rfl rfl rfl ?_;refine s4 rfl (fun g9=>?_) fun g9=>?_
     ·refine s7 [.int .i64 _] rfl ?_;first|exact P9 (by unfold R3;omega) (by omega)|exact V7 (by unfold R3;omega)|exact V6 (by omega)
     refine s7 [.int .i64 _] rfl ?_;first|exact P9 (by unfold R3;omega) (by omega)|exact V7 (by unfold R3;omega)|exact V6 (by omega)
    refine s4 rfl (fun g7=>?_) fun g7=>?_
    ·refine s31 (A3M _ _ _ _ _ _ _ _ (by omega)) rfl ?_;refine s1 (K7 _ _ _) rfl rfl rfl ?_;refine s4 rfl (fun g8=>?_) fun g8=>?_
     ·refine s7 [.int .i64 _] rfl ?_;first|exact P9 (by unfold R3;omega) (by omega)|exact V7 (by unfold R3;omega)|exact V6 (by omega)
     refine s7 [.int .i64 _] rfl ?_;first|exact P9 (by unfold R3;omega) (by omega)|exact V7 (by unfold R3;omega)|exact V6 (by omega)
    refine s1 (I4 _ _ _) rfl rfl rfl ?_;refine s31 (A3M _ _ _ _ _ _ _ _ (by omega)) rfl ?_;refine s1 (K7 _ _ _) rfl rfl rfl ?_;refine s4 rfl (fun g8=>?_) fun g8=>?_
    ·refine s7 [.int .i64 _] rfl ?_;first|exact P9 (by unfold R3;omega) (by omega)|exact V7 (by unfold R3;omega)|exact V6 (by omega)
    refine s7 [.int .i64 _] rfl ?_;first|exact P9 (by unfold R3;omega) (by omega)|exact V7 (by unfold R3;omega)|exact V6 (by omega)
   refine s1 (I4 _ _ _) rfl rfl rfl ?_;refine s1 (K7 _ _ _) rfl rfl rfl ?_;refine s4 rfl (fun g5=>?_) fun g5=>?_
   ·refine s4 rfl (fun g6=>?_) fun g6=>?_
    ·refine s7 [.int .i64 _] rfl ?_;first|exact P9 (by unfold R3;omega) (by omega)|exact V7 (by unfold R3;omega)|exact V6 (by omega)
    refine s31 (A76 _) rfl ?_;refine s1 (K7 _ _ _) rfl rfl rfl ?_;refine s4 rfl (fun g7=>?_) fun g7=>?_
    ·refine s7 [.int .i64 _] rfl ?_;first|exact P9 (by unfold R3;omega) (by omega)|exact V7 (by unfold R3;omega)|exact V6 (by omega)
    refine s1 (I4 _ _ _) rfl rfl rfl ?_;refine s31 (A3M _ _ _ _ _ _ _ _ (by omega)) rfl ?_;refine s1 (K7 _ _ _) rfl rfl rfl ?_;refine s4 rfl (fun g8=>?_) fun g8=>?_
    ·refine s7 [.int .i64 _] rfl ?_;first|exact P9 (by unfold R3;omega) (by omega)|exact V7 (by unfold R3;omega)|exact V6 (by omega)
    refine s7 [.int .i64 _] rfl ?_;first|exact P9 (by unfold R3;omega) (by omega)|exact V7 (by unfold R3;omega)|exact V6 (by omega)
   refine s4 rfl (fun g6=>?_) fun g6=>?_
   ·refine s31 (A3M _ _ _ _ _ _ _ _ (by omega)) rfl ?_;refine s1 (K7 _ _ _) rfl rfl rfl ?_;refine s4 rfl (fun g7=>?_) fun g7=>?_
    ·refine s7 [.int .i64 _] rfl ?_;first|exact P9 (by unfold R3;omega) (by omega)|exact V7 (by unfold R3;omega)|exact V6 (by omega)
    refine s7 [.int .i64 _] rfl ?_;first|exact P9 (by unfold R3;omega) (by omega)|exact V7 (by unfold R3;omega)|exact V6 (by omega)
   refine s1 (I4 _ _ _) rfl rfl rfl ?_;refine s31 (A3M _ _ _ _ _ _ _ _ (by omega)) rfl ?_;refine s1 (K7 _ _ _) rfl rfl rfl ?_;refine s4 rfl (fun g7=>?_) fun g7=>?_
   ·refine s7 [.int .i64 _] rfl ?_;first|exact P9 (by unfold R3;omega) (by omega)|exact V7 (by unfold R3;omega)|exact V6 (by omega)
   refine s7 [.int .i64 _] rfl ?_;first|exact P9 (by unfold R3;omega) (by omega)|exact V7 (by unfold R3;omega)|exact V6 (by omega)
  ·cases hs
 ·cases hs
theorem B9B{b:Bool}(h:(!b)=true):b=false:=by cases b<;>first|rfl|cases h
abbrev Cel:=Int×Int×Int×Int×Int×Int×Int×Int×Int×Int×Int×Int
def A97(c:Cel):Int:=A5w (c.1) (c.2.1) (c.2.2.1) (c.2.2.2.1) (c.2.2.2.2.1) (c.2.2.2.2.2.1) (c.2.2.2.2.2.2.1) (c.2.2.2.2.2.2.2.1) (c.2.2.2.2.2.2.2.2.1) (c.2.2.2.2.2.2.2.2.2.1) (c.2.2.2.2.2.2.2.2.2.2.1) (c.2.2.2.2.2.2.2.2.2.2.2)
def wdC(c:Cel):Int:=c.2.2.2.1
def B68(c l:Cel):Bool:=(c.2.2.2.2.1 == l.2.2.2.2.1 && (c.2.2.2.2.2.1 == l.2.2.2.2.2.1 && (c.2.2.2.2.2.2.1 == l.2.2.2.2.2.2.1 && (c.2.2.2.2.2.2.2.1 == l.2.2.2.2.2.2.2.1 && (c.2.2.2.2.2.2.2.2.1 == l.2.2.2.2.2.2.2.2.1 && (c.2.2.2.2.2.2.2.2.2.1 == l.2.2.2.2.2.2.2.2.2.1 && (c.2.2.2.2.2.2.2.2.2.2.1 == l.2.2.2.2.2.2.2.2.2.2.1 && (c.2.2.2.2.2.2.2.2.2.2.2 == l.2.2.2.2.2.2.2.2.2.2.2 && true))))))))
def aOk(c:Cel):Prop:=(-9223372036854775808≤c.2.2.2.2.1∧c.2.2.2.2.1≤9223372036854775807)
instance(c:Cel):Decidable (aOk c):=by unfold aOk;infer_instance
def B7j(c l:Cel):Prop:=A97 c≠0∨decide (wdC l=1)≠decide (wdC c=2)∨(wdC c=2∧B68 c l=false)
instance(c l:Cel):Decidable (B7j c l):=by unfold B7j;infer_instance
def o7:List Cel→Cel→Option Cel
 | [],l=>some l
 | c::r,l=>if B7j c l then none else o7 r c
def A9x(r:List Cel)(l:Cel):Option Unit:=match o7 r l with
 | some _=>none
 | none=>some ()
def B7H(r:List Cel)(l:Cel):Cel:=(o7 r l).getD l
def C7E(c:Cel):List U:=[.int .i64 (c.1),.int .i64 (c.2.1),.int .i64 (c.2.2.1),.int .i64 (c.2.2.2.1),.int .i64 (c.2.2.2.2.1),.int .i64 (c.2.2.2.2.2.1),.int .i64 (c.2.2.2.2.2.2.1),.int .i64 (c.2.2.2.2.2.2.2.1),.int .i64 (c.2.2.2.2.2.2.2.2.1),.int .i64 (c.2.2.2.2.2.2.2.2.2.1),.int .i64 (c.2.2.2.2.2.2.2.2.2.2.1),.int .i64 (c.2.2.2.2.2.2.2.2.2.2.2)]
def B1W(r:List Cel)(l:Cel):Option (Nat×List U):=A0Q (A9x r l) (C7E (B7H r l)) (fun _=>[.int .i64 220])
theorem B8l(l:Cel):B1W [] l=some (0,C7E l):=rfl
theorem A8g{c l:Cel}{r:List Cel}(h:B7j c l):B1W (c::r) l=some (1,[.int .i64 220]):=by
 unfold B1W A9x o7;rw[if_pos h];rfl
theorem B5j{c l:Cel}{r:List Cel}(h:¬B7j c l):B1W (c::r) l=B1W r c:=by
 have e:o7 (c::r) l=o7 r c:=by rw[o7,if_neg h]
 unfold B1W A9x B7H;rw[e];cases o7 r c<;>rfl
noncomputable def C4j:List (FuncId×FnC):=(95,R7 Tryd.prog [.a [3,3,3,3,3,3,3,3,3,3,3,3]] B05 [.s 3])::L0
theorem C0e{G:Nat→Option Obj}(hst:D2 Tryd.prog G gl H0 n0):K2 Tryd.prog G gl C4j:=(.cons (C4X hst) .nil)
def A7W:List U→Option (Nat×List U)
 | [u_s,.int .i64 n,.int .i64 i,.int .i64 l0,.int .i64 l1,.int .i64 l2,.int .i64 l3,.int .i64 l4,.int .i64 l5,.int .i64 l6,.int .i64 l7,.int .i64 l8,.int .i64 l9,.int .i64 l10,.int .i64 l11]=>(P3 rCl u_s).bind fun s=>if n=((el s).length:Int)∧0≤i∧i≤n∧n≤1000∧∀ c ∈ el s,aOk c then B1W ((el s).drop i.toNat) (l0,l1,l2,l3,l4,l5,l6,l7,l8,l9,l10,l11)else none
 | _=>none
theorem A1c(s:(Option (List (Int×Int×Int×Int×Int×Int×Int×Int×Int×Int×Int×Int))))(n:Int)(i:Int)(l0:Int)(l1:Int)(l2:Int)(l3:Int)(l4:Int)(l5:Int)(l6:Int)(l7:Int)(l8:Int)(l9:Int)(l10:Int)(l11:Int)(hc:n=((el s).length:Int)∧0≤i∧i≤n∧n≤1000∧∀ c ∈ el s,aOk c):A7W [B2 rCl s,.int .i64 n,.int .i64 i,.int .i64 l0,.int .i64 l1,.int .i64 l2,.int .i64 l3,.int .i64 l4,.int .i64 l5,.int .i64 l6,.int .i64 l7,.int .i64 l8,.int .i64 l9,.int .i64 l10,.int .i64 l11]=B1W ((el s).drop i.toNat) (l0,l1,l2,l3,l4,l5,l6,l7,l8,l9,l10,l11):=by
 simp only[A7W,G5,E4];exact if_pos hc
def C3R:T8:=⟨[(4,.pointer (some ⟨5,0,none⟩)),(17,dat 6 0 22),(18,h 1 3),(19,h 2 3)],[(5,.cells 60 [h 3 3,h 4 3,h 5 3,h 6 3,h 7 3,h 8 3,h 9 3,h 10 3,h 11 3,h 12 3,h 13 3,h 14 3]),(6,.frz)],15,[⟨.exit 0,[(4,.pointer (some ⟨5,0,none⟩))],[(5,.cells 60 [h 0 3,h 1 3,h 2 3,h 3 3,h 4 3,h 5 3,h 6 3,h 7 3,h 8 3,h 9 3,h 10 3,h 11 3])],12⟩,⟨.ret,[(2,h 0 3)],[],1⟩]⟩
noncomputable def B8g:Code:=(Tryd.f78.body).getD .skip
noncomputable def C3N:Code:=match G3 [true,true,true,false,true,false] B8g with|some (.loop x)=>x|_=>.skip
theorem C3Q:Tryd.f78.body=some B8g:=rfl
theorem C3P:G3 [true,true,true,false,true,false] B8g=some (.loop C3N):=by kernel_rfl
def C3O:Tr:=.lt 8 (.bin .lss) [h 2 3,h 1 3]<|.br 15 (.lt 8 (.inbs 12) [h 2 3,h 0 22]<|.br 16 (.lt 3 (.get 12 0) [h 0 22,h 2 3]<|.lt 3 (.get 12 1) [h 0 22,h 2 3]<|.lt 3 (.get 12 2) [h 0 22,h 2 3]<|.lt 3 (.get 12 3) [h 0 22,h 2 3]<|.lt 3 (.get 12 4) [h 0 22,h 2 3]<|.lt 3 (.get 12 5) [h 0 22,h 2 3]<|.lt 3 (.get 12 6) [h 0 22,h 2 3]<|.lt 3 (.get 12 7) [h 0 22,h 2 3]<|.lt 3 (.get 12 8) [h 0 22,h 2 3]<|.lt 3 (.get 12 9) [h 0 22,h 2 3]<|.lt 3 (.get 12 10) [h 0 22,h 2 3]<|.lt 3 (.get 12 11) [h 0 22,h 2 3]<|.fn B05 [h 17 3,h 18 3,h 19 3,h 20 3,h 21 3,h 22 3,h 23 3,h 24 3,h 25 3,h 26 3,h 27 3,h 28 3] 1<|.lt 8 (.bin .neq) [h 29 3,jI 0]<|.br 30 (.ret [jI 1,jI 220]) (.lt 8 (.bin .eql) [h 6 3,jI 1]<|.lt 8 (.bin .eql) [h 20 3,jI 2]<|.lt 8 (.bin .neq) [h 31 8,h 32 8]<|.br 33 (.ret [jI 1,jI 220]) (.lt 8 (.bin .eql) [h 20 3,jI 2]<|.br 34 (.lt 8 (.eqs) [h 21 3,h 7 3,h 22 3,h 8 3,h 23 3,h 9 3,h 24 3,h 10 3,h 25 3,h 11 3,h 26 3,h 12 3,h 27 3,h 13 3,h 28 3,h 14 3]<|.lt 8 (.un .not) [h 35 8]<|.br 36 (.ret [jI 1,jI 220]) (.lt 3 (.bin .add) [h 2 3,jI 1]<|.ret [jI (-1),h 0 22,h 1 3,h 37 3,h 17 3,h 18 3,h 19 3,h 20 3,h 21 3,h 22 3,h 23 3,h 24 3,h 25 3,h 26 3,h 27 3,h 28 3])) (.lt 3 (.bin .add) [h 2 3,jI 1]<|.ret [jI (-1),h 0 22,h 1 3,h 35 3,h 17 3,h 18 3,h 19 3,h 20 3,h 21 3,h 22 3,h 23 3,h 24 3,h 25 3,h 26 3,h 27 3,h 28 3])))) (.no)) (.ret [jI 0,h 3 3,h 4 3,h 5 3,h 6 3,h 7 3,h 8 3,h 9 3,h 10 3,h 11 3,h 12 3,h 13 3,h 14 3])
def B8f:List U→Nat
 | [u_s,.int .i64 n,.int .i64 i,.int .i64 l0,.int .i64 l1,.int .i64 l2,.int .i64 l3,.int .i64 l4,.int .i64 l5,.int .i64 l6,.int .i64 l7,.int .i64 l8,.int .i64 l9,.int .i64 l10,.int .i64 l11]=>(match P3 rCl u_s with|some s=>(n-i).toNat|none=>0)
 | _=>0
theorem B1T(s:(Option (List (Int×Int×Int×Int×Int×Int×Int×Int×Int×Int×Int×Int))))(n:Int)(i:Int)(l0:Int)(l1:Int)(l2:Int)(l3:Int)(l4:Int)(l5:Int)(l6:Int)(l7:Int)(l8:Int)(l9:Int)(l10:Int)(l11:Int):B8f [B2 rCl s,.int .i64 n,.int .i64 i,.int .i64 l0,.int .i64 l1,.int .i64 l2,.int .i64 l3,.int .i64 l4,.int .i64 l5,.int .i64 l6,.int .i64 l7,.int .i64 l8,.int .i64 l9,.int .i64 l10,.int .i64 l11]=(n-i).toNat:=by
 simp only[B8f,G5]
theorem C6L{G:Nat→Option Obj}(hst:D2 Tryd.prog G gl H0 n0):∀ (E:Nat→U) (base:Nat),@M9 ⟨E,G⟩ Tryd.prog base gl Tryd.f78.ntmps C3N (M0 Tryd.prog gl n0 7 C3R A7W):=by
 refine V2 (C:=cx C4j []) (dep:=60) (f:=78) (n0:=n0) (nB:=7) (H0:=H0) B8f C3O (cxg (C0e hst) .nil) hst Tryd.func78 C3Q C3P (by kernel_rfl) (by kernel_rfl) (by kernel_rfl) ?_;intro us d outs hs;have hs0:=hs;unfold A7W at hs;split at hs
 ·skip;rename_i u_s n i l0 l1 l2 l3 l4 l5 l6 l7 l8 l9 l10 l11;have hq_s:=B4.1 hs;clear hs;obtain⟨s,hd_s,hs⟩:=hq_s;replace hd_s:=K5 hd_s;subst hd_s;split at hs
  ·rename_i hc;clear hs hs0;refine⟨rfl,?_⟩;unfold C3O;refine s0 (.cons 14 _ (.cons 13 _ (.cons 12 _ (.cons 11 _ (.cons 10 _ (.cons 9 _ (.cons 8 _ (.cons 7 _ (.cons 6 _ (.cons 5 _ (.cons 4 _ (.cons 3 _ (.cons 2 _ (.cons 1 _ (.cons 0 _ (.nil)))))))))))))))) rfl (by simp[Ev.ok,Ev.len]) ?_;refine s1 (H7 _ _ _) rfl rfl rfl ?_;refine s5 rfl (fun g0=>?_) fun g0=>?_
   ·refine s7 [.int .i64 _,.int .i64 _,.int .i64 _,.int .i64 _,.int .i64 _,.int .i64 _,.int .i64 _,.int .i64 _,.int .i64 _,.int .i64 _,.int .i64 _,.int .i64 _,.int .i64 _] rfl ?_;refine C9 (d:=0) ?_;rw[A1c s n i l0 l1 l2 l3 l4 l5 l6 l7 l8 l9 l10 l11 hc,A4V (el s) (by omega)];exact B8l (l0,l1,l2,l3,l4,l5,l6,l7,l8,l9,l10,l11)
   refine s1 (F6 rfl) rfl rfl rfl ?_;refine s5 rfl (fun g1=>?_) fun g1=>?_
   ·refine s8 ?_;first|omega
   refine s1 (u:=.int .i64 _) (C6 rfl (by omega) (by omega) rfl) rfl rfl rfl ?_;refine s1 (u:=.int .i64 _) (C6 rfl (by omega) (by omega) rfl) rfl rfl rfl ?_;refine s1 (u:=.int .i64 _) (C6 rfl (by omega) (by omega) rfl) rfl rfl rfl ?_;refine s1 (u:=.int .i64 _) (C6 rfl (by omega) (by omega) rfl) rfl rfl rfl ?_;refine s1 (u:=.int .i64 _) (C6 rfl (by omega) (by omega) rfl) rfl rfl rfl ?_;refine s1 (u:=.int .i64 _) (C6 rfl (by omega) (by omega) rfl) rfl rfl rfl ?_;refine s1 (u:=.int .i64 _) (C6 rfl (by omega) (by omega) rfl) rfl rfl rfl ?_;refine s1 (u:=.int .i64 _) (C6 rfl (by omega) (by omega) rfl) rfl rfl rfl ?_;refine s1 (u:=.int .i64 _) (C6 rfl (by omega) (by omega) rfl) rfl rfl rfl ?_;refine s1 (u:=.int .i64 _) (C6 rfl (by omega) (by omega) rfl) rfl rfl rfl ?_;refine s1 (u:=.int .i64 _) (C6 rfl (by omega) (by omega) rfl) rfl rfl rfl ?_;refine s1 (u:=.int .i64 _) (C6 rfl (by omega) (by omega) rfl) rfl rfl rfl ?_;refine s31 (C2Q _ _ _ _ _ _ _ _ _ _ _ _ (C2b hc.2.2.2.2 (by omega) (by omega))) rfl ?_;refine s1 (K7 _ _ _) rfl rfl rfl ?_;refine s4 rfl (fun g2=>?_) fun g2=>?_
   ·refine s7 [.int .i64 _,.int .i64 _] rfl ?_;refine C9 (d:=1) ?_;rw[A1c s n i l0 l1 l2 l3 l4 l5 l6 l7 l8 l9 l10 l11 hc,S5 (el s) (i:=i) (by omega) (by omega)];refine A8g ?_;first|exact .inl ‹_›|exact .inr (.inl ‹_›)|exact .inr (.inr ⟨by assumption,B9B ‹_›⟩)
   refine s1 (I4 _ _ _) rfl rfl rfl ?_;refine s1 (I4 _ _ _) rfl rfl rfl ?_;refine s1 (C5w _ _) rfl rfl rfl ?_;refine s4 rfl (fun g3=>?_) fun g3=>?_
   ·refine s7 [.int .i64 _,.int .i64 _] rfl ?_;refine C9 (d:=1) ?_;rw[A1c s n i l0 l1 l2 l3 l4 l5 l6 l7 l8 l9 l10 l11 hc,S5 (el s) (i:=i) (by omega) (by omega)];refine A8g ?_;first|exact .inl ‹_›|exact .inr (.inl ‹_›)|exact .inr (.inr ⟨by assumption,B9B ‹_›⟩)
   refine s1 (I4 _ _ _) rfl rfl rfl ?_;refine s4 rfl (fun g4=>?_) fun g4=>?_
   ·refine s1 rfl rfl rfl rfl ?_;first|refine s1 (t6 _) rfl rfl rfl ?_|refine s1 (A1V _) rfl rfl rfl ?_
    first|refine s4 rfl (fun g5=>?_) (fun g5=>?_)|refine s4B rfl (fun g5=>?_) (fun g5=>?_)
    ·refine s7 [.int .i64 _,.int .i64 _] rfl ?_;refine C9 (d:=1) ?_;rw[A1c s n i l0 l1 l2 l3 l4 l5 l6 l7 l8 l9 l10 l11 hc,S5 (el s) (i:=i) (by omega) (by omega)];refine A8g ?_;first|exact .inl ‹_›|exact .inr (.inl ‹_›)|exact .inr (.inr ⟨by assumption,B9B ‹_›⟩)
    first|refine s1 (C7 (B9 (by omega) (by omega))) rfl rfl rfl ?_|refine s1 (D9 _ _ _) rfl rfl rfl ?_
    refine s7 [.int .i64 _,B2 rCl _,.int .i64 _,.int .i64 _,.int .i64 _,.int .i64 _,.int .i64 _,.int .i64 _,.int .i64 _,.int .i64 _,.int .i64 _,.int .i64 _,.int .i64 _,.int .i64 _,.int .i64 _,.int .i64 _] rfl ?_;refine D5 ?_ ?_
    ·refine(A1c s n (i+1) _ _ _ _ _ _ _ _ _ _ _ _ ⟨hc.1,by omega,by omega,hc.2.2.2⟩).trans ?_;rw[A1c s n i l0 l1 l2 l3 l4 l5 l6 l7 l8 l9 l10 l11 hc,S5 (el s) (i:=i) (by omega) (by omega)];refine(B5j ?_).symm
     rintro(h|h|⟨h,h2⟩)
     ·exact g2 h
     ·exact g3 h
     ·first|exact g4 h|(have g5:(!B68 ((el s).getD i.toNat default) (l0,l1,l2,l3,l4,l5,l6,l7,l8,l9,l10,l11))=false:=g5;rw[h2]at g5;cases g5)
    ·rw[B1T,B1T];omega
   first|refine s1 (C7 (B9 (by omega) (by omega))) rfl rfl rfl ?_|refine s1 (D9 _ _ _) rfl rfl rfl ?_
   refine s7 [.int .i64 _,B2 rCl _,.int .i64 _,.int .i64 _,.int .i64 _,.int .i64 _,.int .i64 _,.int .i64 _,.int .i64 _,.int .i64 _,.int .i64 _,.int .i64 _,.int .i64 _,.int .i64 _,.int .i64 _,.int .i64 _] rfl ?_;refine D5 ?_ ?_
   ·refine(A1c s n (i+1) _ _ _ _ _ _ _ _ _ _ _ _ ⟨hc.1,by omega,by omega,hc.2.2.2⟩).trans ?_;rw[A1c s n i l0 l1 l2 l3 l4 l5 l6 l7 l8 l9 l10 l11 hc,S5 (el s) (i:=i) (by omega) (by omega)];refine(B5j ?_).symm
    rintro(h|h|⟨h,h2⟩)
    ·exact g2 h
    ·exact g3 h
    ·first|exact g4 h|(have g5:(!B68 ((el s).getD i.toNat default) (l0,l1,l2,l3,l4,l5,l6,l7,l8,l9,l10,l11))=false:=g5;rw[h2]at g5;cases g5)
   ·rw[B1T,B1T];omega
  ·cases hs
 ·cases hs
noncomputable def B6r:List LpE:=(78,([true,true,true,false,true,false],M0 Tryd.prog gl n0 7 C3R A7W))::[]
theorem A9g{G:Nat→Option Obj}(hst:D2 Tryd.prog G gl H0 n0):Y6 Tryd.prog G gl B6r:=.cons Tryd.func78 C3Q C3P (C6L hst) .nil
def A2n(l:List Cel):Int:=if(l.length:Int)<2∨80<(l.length:Int)then 220 else match o7 l (0,0,0,0,0,0,0,0,0,0,0,0)with
 | none=>220
 | some c=>if wdC c=1 then 220 else 0
theorem A60{l:List Cel}(h:(l.length:Int)<2∨80<(l.length:Int)):A2n l=220:=if_pos h
theorem B0S{l:List Cel}{c:Cel}(h:A9x l c=none):o7 l c=some (B7H l c):=by
 unfold A9x at h;unfold B7H;cases hp:o7 l c with
 | some v=>rfl
 | none=>rw[hp]at h;cases h
theorem B7I{l:List Cel}{c:Cel}{u:Unit}(h:A9x l c=some u):o7 l c=none:=by
 unfold A9x at h;cases hp:o7 l c with
 | some v=>rw[hp]at h;cases h
 | none=>rfl
theorem A8j{l:List Cel}(h:¬((l.length:Int)<2∨80<(l.length:Int))){u:Unit}(h2:A9x l (0,0,0,0,0,0,0,0,0,0,0,0)=some u):A2n l=220:=by unfold A2n;rw[if_neg h,B7I h2]
theorem A8i{l:List Cel}(h:¬((l.length:Int)<2∨80<(l.length:Int)))(h2:A9x l (0,0,0,0,0,0,0,0,0,0,0,0)=none)(h3:wdC (B7H l (0,0,0,0,0,0,0,0,0,0,0,0))=1):A2n l=220:=by unfold A2n;rw[if_neg h,B0S h2];exact if_pos h3
theorem A8h{l:List Cel}(h:¬((l.length:Int)<2∨80<(l.length:Int)))(h2:A9x l (0,0,0,0,0,0,0,0,0,0,0,0)=none)(h3:¬wdC (B7H l (0,0,0,0,0,0,0,0,0,0,0,0))=1):A2n l=0:=by unfold A2n;rw[if_neg h,B0S h2];exact if_neg h3
theorem C6M{s:Option (List Cel)}(h:¬80<((el s).length:Int))(h2:∀ c ∈ el s,aOk c):A7W [B2 rCl s,.int .i64 ((el s).length:Int),.int .i64 0,.int .i64 0,.int .i64 0,.int .i64 0,.int .i64 0,.int .i64 0,.int .i64 0,.int .i64 0,.int .i64 0,.int .i64 0,.int .i64 0,.int .i64 0,.int .i64 0]=B1W (el s) (0,0,0,0,0,0,0,0,0,0,0,0):=A1c s _ 0 0 0 0 0 0 0 0 0 0 0 0 0 ⟨rfl,by decide,by omega,by omega,h2⟩
noncomputable def C4n:List (FuncId×FnC):=(95,R7 Tryd.prog [.a [3,3,3,3,3,3,3,3,3,3,3,3]] B05 [.s 3])::L0
theorem C0j{G:Nat→Option Obj}(hst:D2 Tryd.prog G gl H0 n0):K2 Tryd.prog G gl C4n:=(.cons (C4X hst) .nil)
def A8o:List U→Option (Nat×List U)
 | [u_s,.bool wr]=>(P3 rCl u_s).bind fun s=>if ∀ c ∈ el s,aOk c then some (0,[.int .i64 (A2n (el s))])else none
 | _=>none
theorem C1f(s:(Option (List (Int×Int×Int×Int×Int×Int×Int×Int×Int×Int×Int×Int))))(wr:Bool)(hc:∀ c ∈ el s,aOk c):A8o [B2 rCl s,.bool wr]=some (0,[.int .i64 (A2n (el s))]):=by
 simp only[A8o,G5,E4];exact if_pos hc
def C3d:Tr:=.lt 3 (.len) [h 0 22]<|.lt 8 (.bin .lss) [h 2 3,jI 2]<|.br 3 (.ret [jI 220]) (.lt 8 (.bin .gtr) [h 2 3,jI 80]<|.br 4 (.ret [jI 220]) (.lp A7W [h 0 22,h 2 3,jI 0,jI 0,jI 0,jI 0,jI 0,jI 0,jI 0,jI 0,jI 0,jI 0,jI 0,jI 0,jI 0] 0 12 (.lt 8 (.bin .eql) [h 8 3,jI 1]<|.br 17 (.ret [jI 220]) (.ret [jI 0])) (.lp A7W [h 0 22,h 2 3,jI 0,jI 0,jI 0,jI 0,jI 0,jI 0,jI 0,jI 0,jI 0,jI 0,jI 0,jI 0,jI 0] 1 1 (.ret [h 5 3]) (.no))))
theorem C3e{G:Nat→Option Obj}(hst:D2 Tryd.prog G gl H0 n0):c9 Tryd.prog G 78 [.a [22,8]] A8o [.s 3]:=by
 refine J7 (C:=cx C4n B6r) (d:=60) C3d (cxg (C0j hst) (A9g hst)) hst ⟨Tryd.f78,_,Tryd.func78,rfl⟩ (by kernel_rfl) (by kernel_rfl) ?_;intro us outs hs;unfold A8o at hs;split at hs
 ·skip;rename_i u_s wr;have hq_s:=B4.1 hs;clear hs;obtain⟨s,hd_s,hs⟩:=hq_s;replace hd_s:=K5 hd_s;subst hd_s;split at hs
  ·rename_i hc;cases hs;unfold C3d;refine s0 (.cons 1 _ (.cons 0 _ (.nil))) rfl (by simp[Ev.ok,Ev.len]) ?_;refine s1 (G8 _ _) rfl rfl rfl ?_;refine s1 (H7 _ _ _) rfl rfl rfl ?_;refine s4 rfl (fun g0=>?_) fun g0=>?_
   ·refine s7 [.int .i64 _] rfl ?_;refine congrArg (fun z=>[U.int .i64 z]) ?_;symm;first|exact A60 (by omega)|exact A8j (by omega) ‹_›|exact A8i (by omega) ‹_› ‹_›|exact A8h (by omega) ‹_› ‹_›
   refine s1 (w6 _ _ _) rfl rfl rfl ?_;refine s4 rfl (fun g1=>?_) fun g1=>?_
   ·refine s7 [.int .i64 _] rfl ?_;refine congrArg (fun z=>[U.int .i64 z]) ?_;symm;first|exact A60 (by omega)|exact A8j (by omega) ‹_›|exact A8i (by omega) ‹_› ‹_›|exact A8h (by omega) ‹_› ‹_›
   refine s6 (C6M (by omega) hc) rfl (fun _=>rfl) (fun g2=>?_) (fun v2 g2=>?_)
   ·show Tr.sav _ _ (.cons 16 _ (.cons 15 _ (.cons 14 _ (.cons 13 _ (.cons 12 _ (.cons 11 _ (.cons 10 _ (.cons 9 _ (.cons 8 _ (.cons 7 _ (.cons 6 _ (.cons 5 _ _))))))))))));refine s1 (I4 _ _ _) rfl rfl rfl ?_;refine s4 rfl (fun g3=>?_) fun g3=>?_
    ·refine s7 [.int .i64 _] rfl ?_;refine congrArg (fun z=>[U.int .i64 z]) ?_;symm;first|exact A60 (by omega)|exact A8j (by omega) ‹_›|exact A8i (by omega) ‹_› ‹_›|exact A8h (by omega) ‹_› ‹_›
    refine s7 [.int .i64 _] rfl ?_;refine congrArg (fun z=>[U.int .i64 z]) ?_;symm;first|exact A60 (by omega)|exact A8j (by omega) ‹_›|exact A8i (by omega) ‹_› ‹_›|exact A8h (by omega) ‹_› ‹_›
   show Tr.sav _ _ (.cons 5 _ _);refine s7 [.int .i64 _] rfl ?_;refine congrArg (fun z=>[U.int .i64 z]) ?_;symm;first|exact A60 (by omega)|exact A8j (by omega) ‹_›|exact A8i (by omega) ‹_› ‹_›|exact A8h (by omega) ‹_› ‹_›
  ·cases hs
 ·cases hs
abbrev Row:=Option (List Cel)×Bool
def A5F(w:Int)(r:Row):Bool:=decide (A2n (el r.1)≠0) || decide (((el r.1).length:Int)≠w)
theorem C0Q{w:Int}{r:Row}(h:A2n (el r.1)≠0):A5F w r=true:=by unfold A5F;rw[decide_eq_true h];rfl
theorem C0P{w:Int}{r:Row}(h:((el r.1).length:Int)≠w):A5F w r=true:=by unfold A5F;rw[decide_eq_true h,Bool.or_true]
theorem C0O{w:Int}{r:Row}(h:¬A2n (el r.1)≠0)(h2:¬((el r.1).length:Int)≠w):A5F w r=false:=by unfold A5F;rw[decide_eq_false h,decide_eq_false h2];rfl
def D0(rows:Option (List Row)):Int:=((el ((el rows).getD 0 default).1).length:Int)
def A1L(rows:Option (List Row)):Prop:=∀ r ∈ el rows,∀ c ∈ el r.1,aOk c
instance(rows:Option (List Row)):Decidable (A1L rows):=by unfold A1L;infer_instance
noncomputable def C4p:List (FuncId×FnC):=(78,R7 Tryd.prog [.a [22,8]] A8o [.s 3])::L0
theorem C0l{G:Nat→Option Obj}(hst:D2 Tryd.prog G gl H0 n0):K2 Tryd.prog G gl C4p:=(.cons (C3e hst) .nil)
def A8v:List U→Option (Nat×List U)
 | [u_rows,u_s,.int .i64 n,.int .i64 i]=>(P3 rRw u_rows).bind fun rows=>(P3 rRw u_s).bind fun s=>if n=((el s).length:Int)∧0≤i∧i≤n∧n≤1000∧0<((el rows).length:Int)∧A1L s then A0Q (A2b (A5F (D0 rows)) ((el s).drop i.toNat) i) [] (fun _=>[.int .i64 420])else none
 | _=>none
theorem A4n(rows:(Option (List ((Option (List (Int×Int×Int×Int×Int×Int×Int×Int×Int×Int×Int×Int)))×Bool))))(s:(Option (List ((Option (List (Int×Int×Int×Int×Int×Int×Int×Int×Int×Int×Int×Int)))×Bool))))(n:Int)(i:Int)(hc:n=((el s).length:Int)∧0≤i∧i≤n∧n≤1000∧0<((el rows).length:Int)∧A1L s):A8v [B2 rRw rows,B2 rRw s,.int .i64 n,.int .i64 i]=A0Q (A2b (A5F (D0 rows)) ((el s).drop i.toNat) i) [] (fun _=>[.int .i64 420]):=by
 simp only[A8v,G5,E4];exact if_pos hc
def C3l:T8:=⟨[(0,dat 4 0 12),(13,dat 5 1 12),(14,h 2 3),(15,h 3 3)],[(4,.frz),(5,.frz)],4,[⟨.exit 0,[],[],0⟩,⟨.ret,[(2,h 0 3)],[],1⟩]⟩
noncomputable def B83:Code:=(Tryd.f61.body).getD .skip
noncomputable def C3h:Code:=match G3 [true,true,false,true,false] B83 with|some (.loop x)=>x|_=>.skip
theorem C3k:Tryd.f61.body=some B83:=rfl
theorem C3j:G3 [true,true,false,true,false] B83=some (.loop C3h):=by kernel_rfl
def C3i:Tr:=.lt 8 (.bin .lss) [h 3 3,h 2 3]<|.br 4 (.lt 8 (.inbs 2) [h 3 3,h 1 12]<|.br 5 (.dt 22 (.get 2 0) [h 1 12,h 3 3]<|.lt 8 (.get 2 1) [h 1 12,h 3 3]<|.fn A8o [h 6 22,h 7 8] 1<|.lt 8 (.bin .neq) [h 8 3,jI 0]<|.br 9 (.ret [jI 1,jI 420]) (.lt 3 (.len) [h 6 22]<|.lt 8 (.inbs 2) [jI 0,h 0 12]<|.br 11 (.dt 22 (.get 2 0) [h 0 12,jI 0]<|.lt 3 (.len) [h 12 22]<|.lt 8 (.bin .neq) [h 10 3,h 13 3]<|.br 14 (.ret [jI 1,jI 420]) (.lt 3 (.bin .add) [h 3 3,jI 1]<|.ret [jI (-1),h 0 12,h 1 12,h 2 3,h 15 3])) (.no))) (.no)) (.ret [jI 0])
def B82:List U→Nat
 | [u_rows,u_s,.int .i64 n,.int .i64 i]=>(match P3 rRw u_rows with|some rows=>(match P3 rRw u_s with|some s=>(n-i).toNat|none=>0)|none=>0)
 | _=>0
theorem B81(rows:(Option (List ((Option (List (Int×Int×Int×Int×Int×Int×Int×Int×Int×Int×Int×Int)))×Bool))))(s:(Option (List ((Option (List (Int×Int×Int×Int×Int×Int×Int×Int×Int×Int×Int×Int)))×Bool))))(n:Int)(i:Int):B82 [B2 rRw rows,B2 rRw s,.int .i64 n,.int .i64 i]=(n-i).toNat:=by
 simp only[B82,G5]
theorem C6U{G:Nat→Option Obj}(hst:D2 Tryd.prog G gl H0 n0):∀ (E:Nat→U) (base:Nat),@M9 ⟨E,G⟩ Tryd.prog base gl Tryd.f61.ntmps C3h (M0 Tryd.prog gl n0 6 C3l A8v):=by
 refine V2 (C:=cx C4p B6r) (dep:=60) (f:=61) (n0:=n0) (nB:=6) (H0:=H0) B82 C3i (cxg (C0l hst) (A9g hst)) hst Tryd.func61 C3k C3j (by kernel_rfl) (by kernel_rfl) (by kernel_rfl) ?_;intro us d outs hs;have hs0:=hs;unfold A8v at hs;split at hs
 ·skip;rename_i u_rows u_s n i;have hq_rows:=B4.1 hs;clear hs;obtain⟨rows,hd_rows,hs⟩:=hq_rows;replace hd_rows:=K5 hd_rows;subst hd_rows;have hq_s:=B4.1 hs;clear hs;obtain⟨s,hd_s,hs⟩:=hq_s;replace hd_s:=K5 hd_s;subst hd_s;split at hs
  ·rename_i hc;clear hs hs0;refine⟨rfl,?_⟩;unfold C3i;refine s0 (.cons 3 _ (.cons 2 _ (.cons 1 _ (.cons 0 _ (.nil))))) rfl (by simp[Ev.ok,Ev.len]) ?_;refine s1 (H7 _ _ _) rfl rfl rfl ?_;refine s5 rfl (fun g0=>?_) fun g0=>?_
   ·refine s7 [.int .i64 _] rfl ?_;refine C9 (d:=0) ?_;rw[A4n rows s n i hc,B7W (by omega)];rfl
   refine s1 (F6 rfl) rfl rfl rfl ?_;refine s5 rfl (fun g1=>?_) fun g1=>?_
   ·refine s8 ?_;omega
   refine s2 (r:=rCl) (C6 rfl (by omega) (by omega) rfl) rfl rfl ?_;refine s1 (u:=.bool _) (C6 rfl (by omega) (by omega) rfl) rfl rfl rfl ?_;refine s31 (C1f _ _ (hc.2.2.2.2.2 _ (R6 (by omega) (by omega)))) rfl ?_;refine s1 (K7 _ _ _) rfl rfl rfl ?_;refine s4 rfl (fun g2=>?_) fun g2=>?_
   ·refine s7 [.int .i64 _,.int .i64 _] rfl ?_;refine C9 (d:=1) ?_;rw[A4n rows s n i hc,B0x (by omega) (by omega) (by first|exact C0Q ‹_›|exact C0P ‹_›)];rfl
   refine s1 (G8 _ _) rfl rfl rfl ?_;refine s1 (F6 rfl) rfl rfl rfl ?_;refine s5 rfl (fun g3=>?_) fun g3=>?_
   ·refine s8 ?_;omega
   refine s2 (r:=rCl) (C6 rfl (by omega) (by omega) rfl) rfl rfl ?_;refine s1 (G8 _ _) rfl rfl rfl ?_;refine s1 (K7 _ _ _) rfl rfl rfl ?_;refine s4 rfl (fun g4=>?_) fun g4=>?_
   ·refine s7 [.int .i64 _,.int .i64 _] rfl ?_;refine C9 (d:=1) ?_;rw[A4n rows s n i hc,B0x (by omega) (by omega) (by first|exact C0Q ‹_›|exact C0P ‹_›)];rfl
   first|refine s1 (C7 (B9 (by omega) (by omega))) rfl rfl rfl ?_|refine s1 (D9 _ _ _) rfl rfl rfl ?_
   refine s7 [.int .i64 _,B2 rRw _,B2 rRw _,.int .i64 _,.int .i64 _] rfl ?_;refine D5 ?_ ?_
   ·rw[A4n rows s n (i+1) ⟨hc.1,by omega,by omega,hc.2.2.2⟩,A4n rows s n i hc,B5E (i:=i) (by omega) (by omega) (C0O ‹_› ‹_›)]
   ·rw[B81,B81];omega
  ·cases hs
 ·cases hs
noncomputable def B6s:List LpE:=(61,([true,true,false,true,false],M0 Tryd.prog gl n0 6 C3l A8v))::B6r
theorem A9h{G:Nat→Option Obj}(hst:D2 Tryd.prog G gl H0 n0):Y6 Tryd.prog G gl B6s:=.cons Tryd.func61 C3k C3j (C6U hst) (A9g hst)
def V5(rows:Option (List Row)):Int:=if((el rows).length:Int)=0∨140<((el rows).length:Int)then 420 else if(el rows).any (A5F (D0 rows))=true then 420 else 0
theorem B2G{rows:Option (List Row)}(h:((el rows).length:Int)=0∨140<((el rows).length:Int)):V5 rows=420:=if_pos h
theorem B2F{rows:Option (List Row)}(h:¬(((el rows).length:Int)=0∨140<((el rows).length:Int))){j:Int}(h2:A2b (A5F (D0 rows)) ((el rows).drop (0:Int).toNat) 0=some j):V5 rows=420:=by
 unfold V5;rw[if_neg h,if_pos];rcases A7I (p:=A5F (D0 rows)) (el rows) 0 (by decide)with⟨q,_⟩|⟨j,q,_,q2⟩
 ·rw[T5,q]at h2;cases h2
 ·exact q2
theorem B2E{rows:Option (List Row)}(h:¬(((el rows).length:Int)=0∨140<((el rows).length:Int)))(h2:A2b (A5F (D0 rows)) ((el rows).drop (0:Int).toNat) 0=none):V5 rows=0:=by
 unfold V5;rw[if_neg h,if_neg];rcases A7I (p:=A5F (D0 rows)) (el rows) 0 (by decide)with⟨_,q⟩|⟨j,q,_⟩
 ·rw[q];decide
 ·rw[T5,q]at h2;cases h2
noncomputable def C4r:List (FuncId×FnC):=(78,R7 Tryd.prog [.a [22,8]] A8o [.s 3])::L0
theorem C0n{G:Nat→Option Obj}(hst:D2 Tryd.prog G gl H0 n0):K2 Tryd.prog G gl C4r:=(.cons (C3e hst) .nil)
def A1C:List U→Option (Nat×List U)
 | [u_rows]=>(P3 rRw u_rows).bind fun rows=>if A1L rows then some (0,[.int .i64 (V5 rows)])else none
 | _=>none
theorem B1c(rows:(Option (List ((Option (List (Int×Int×Int×Int×Int×Int×Int×Int×Int×Int×Int×Int)))×Bool))))(hc:A1L rows):A1C [B2 rRw rows]=some (0,[.int .i64 (V5 rows)]):=by
 simp only[A1C,G5,E4];exact if_pos hc
def C3n:Tr:=.lt 3 (.len) [h 0 12]<|.lt 8 (.bin .eql) [h 1 3,jI 0]<|.br 2 (.ret [jI 420]) (.lt 8 (.bin .gtr) [h 1 3,jI 140]<|.br 3 (.ret [jI 420]) (.lp A8v [h 0 12,h 0 12,h 1 3,jI 0] 0 0 (.ret [jI 0]) (.lp A8v [h 0 12,h 0 12,h 1 3,jI 0] 1 1 (.ret [h 4 3]) (.no))))
theorem A5J{G:Nat→Option Obj}(hst:D2 Tryd.prog G gl H0 n0):c9 Tryd.prog G 61 [.s 12] A1C [.s 3]:=by
 refine J7 (C:=cx C4r B6s) (d:=60) C3n (cxg (C0n hst) (A9h hst)) hst ⟨Tryd.f61,_,Tryd.func61,rfl⟩ (by kernel_rfl) (by kernel_rfl) ?_;intro us outs hs;unfold A1C at hs;split at hs
 ·skip;rename_i u_rows;have hq_rows:=B4.1 hs;clear hs;obtain⟨rows,hd_rows,hs⟩:=hq_rows;replace hd_rows:=K5 hd_rows;subst hd_rows;split at hs
  ·rename_i hc;cases hs;unfold C3n;refine s0 (.cons 0 _ (.nil)) rfl (by simp[Ev.ok,Ev.len]) ?_;refine s1 (G8 _ _) rfl rfl rfl ?_;refine s1 (I4 _ _ _) rfl rfl rfl ?_;refine s4 rfl (fun g0=>?_) fun g0=>?_
   ·refine s7 [.int .i64 _] rfl ?_;refine congrArg (fun z=>[U.int .i64 z]) ?_;symm;first|exact B2G (by omega)|exact B2F (by omega) ‹_›|exact B2E (by omega) ‹_›
   refine s1 (w6 _ _ _) rfl rfl rfl ?_;refine s4 rfl (fun g1=>?_) fun g1=>?_
   ·refine s7 [.int .i64 _] rfl ?_;refine congrArg (fun z=>[U.int .i64 z]) ?_;symm;first|exact B2G (by omega)|exact B2F (by omega) ‹_›|exact B2E (by omega) ‹_›
   refine s6 (A4n rows rows _ 0 ⟨rfl,by decide,by omega,by omega,by omega,hc⟩) rfl (fun _=>rfl) (fun g2=>?_) (fun v2 g2=>?_)
   ·show Tr.sav _ _ _;refine s7 [.int .i64 _] rfl ?_;refine congrArg (fun z=>[U.int .i64 z]) ?_;symm;first|exact B2G (by omega)|exact B2F (by omega) ‹_›|exact B2E (by omega) ‹_›
   show Tr.sav _ _ (.cons 4 _ _);refine s7 [.int .i64 _] rfl ?_;refine congrArg (fun z=>[U.int .i64 z]) ?_;symm;first|exact B2G (by omega)|exact B2F (by omega) ‹_›|exact B2E (by omega) ‹_›
  ·cases hs
 ·cases hs
def B3p(l:List Row):Nat→Nat
 | 0=>0
 | k+1=>if(l.getD k default).2=true then B3p l k else k+1
def A93(l:List Row):Nat→Nat→Nat
 | 0,i=>i
 | f+1,i=>if(l.getD i default).2=true∧i+1<l.length then A93 l f (i+1)else i
def Z0(l:List Row)(i:Int):Int:=B3p l i.toNat
def J0(l:List Row)(i:Int):Int:=A93 l (l.length-i.toNat) i.toNat
theorem B9h{l:List Row}{i:Int}(h:¬0<i)(h0:0≤i):Z0 l i=i:=by
 have:i=0:=by omega
 subst this;rfl
theorem B1w{l:List Row}{i:Int}(h:0<i)(h2:(l.getD (i-1).toNat default).2=true):Z0 l i=Z0 l (i-1):=by
 unfold Z0;rw[show i.toNat=(i-1).toNat+1 by omega,B3p,if_pos h2]
theorem B6Q{l:List Row}{i:Int}(h:0<i)(h2:(l.getD (i-1).toNat default).2=false):Z0 l i=i:=by
 unfold Z0;rw[show i.toNat=(i-1).toNat+1 by omega,B3p,if_neg (by rw[h2];decide)];omega
theorem A8E{l:List Row}{i:Int}(h0:0≤i)(h:(l.getD i.toNat default).2=true)(h2:i+1<(l.length:Int)):J0 l i=J0 l (i+1):=by
 unfold J0;rw[show l.length-i.toNat=(l.length-(i+1).toNat)+1 by omega,A93,if_pos ⟨h,by omega⟩,show(i+1).toNat=i.toNat+1 by omega]
theorem A8z{l:List Row}{i:Int}(h0:0≤i)(h:(l.getD i.toNat default).2=false∨¬i+1<(l.length:Int)):J0 l i=i:=by
 unfold J0;cases hk:l.length-i.toNat with
 | zero=>show((i.toNat:Nat):Int)=i;omega
 | succ k =>
   rw[A93,if_neg]
   ·omega
   ·rintro⟨h1,h2⟩
    rcases h with h|h
    ·rw[h]at h1;cases h1
    ·omega
theorem B6R(l:List Row):∀ k,B3p l k≤k
 | 0=>A7 _
 | k+1=>by unfold B3p;split;exact Nat.le_succ_of_le (B6R l k);exact A7 _
theorem B56(l:List Row):∀ f i,i≤A93 l f i∧(i<l.length→A93 l f i<l.length)
 | 0,i=>⟨A7 _,id⟩
 | f+1,i=>by
   unfold A93;split
   ·rename_i h;obtain⟨a,b⟩:=B56 l f (i+1);exact⟨by omega,fun _=>b h.2⟩
   ·exact⟨A7 _,id⟩
theorem A4v{l:List Row}{i:Int}(h0:0≤i)(h1:i<(l.length:Int)):0≤Z0 l i∧Z0 l i≤i∧i≤J0 l i∧J0 l i<(l.length:Int):=by
 have a:=B6R l i.toNat;obtain⟨b,c⟩:=B56 l (l.length-i.toNat) i.toNat;have c:=c (by omega);unfold Z0 J0;omega
noncomputable def C4u:List (FuncId×FnC):=L0
theorem C0q{G:Nat→Option Obj}(hst:D2 Tryd.prog G gl H0 n0):K2 Tryd.prog G gl C4u:=.nil
def B0j:List U→Option (Nat×List U)
 | [u_rows,.int .i64 first,.int .i64 last]=>(P3 rRw u_rows).bind fun rows=>if 0≤first∧first<((el rows).length:Int)∧((el rows).length:Int)≤1000000 then some (0,[B2 rRw rows,.int .i64 (Z0 (el rows) first),.int .i64 last])else none
 | _=>none
theorem A6a(rows:(Option (List ((Option (List (Int×Int×Int×Int×Int×Int×Int×Int×Int×Int×Int×Int)))×Bool))))(first:Int)(last:Int)(hc:0≤first∧first<((el rows).length:Int)∧((el rows).length:Int)≤1000000):B0j [B2 rRw rows,.int .i64 first,.int .i64 last]=some (0,[B2 rRw rows,.int .i64 (Z0 (el rows) first),.int .i64 last]):=by
 simp only[B0j,G5,E4];exact if_pos hc
def C30:T8:=⟨[(0,dat 4 0 12),(4,h 1 3),(5,h 2 3)],[(4,.frz)],3,[⟨.exit 0,[(0,dat 5 0 12),(4,h 1 3),(5,h 2 3)],[(5,.frz)],3⟩]⟩
noncomputable def B9S:Code:=(Tryd.f45.body).getD .skip
noncomputable def C3w:Code:=match G3 [true,true,false,false] B9S with|some (.loop x)=>x|_=>.skip
theorem C3z:Tryd.f45.body=some B9S:=rfl
theorem C3y:G3 [true,true,false,false] B9S=some (.loop C3w):=by kernel_rfl
def C3x:Tr:=.lt 8 (.bin .gtr) [h 1 3,jI 0]<|.br 3 (.lt 3 (.bin .sub) [h 1 3,jI 1]<|.lt 8 (.inbs 2) [h 4 3,h 0 12]<|.br 5 (.lt 8 (.get 2 1) [h 0 12,h 4 3]<|.br 6 (.lt 3 (.bin .sub) [h 1 3,jI 1]<|.ret [jI (-1),h 0 12,h 7 3,h 2 3]) (.ret [jI 0,h 0 12,h 1 3,h 2 3])) (.no)) (.ret [jI 0,h 0 12,h 1 3,h 2 3])
def B9R:List U→Nat
 | [u_rows,.int .i64 first,.int .i64 last]=>(match P3 rRw u_rows with|some rows=>first.toNat|none=>0)
 | _=>0
theorem B9Q(rows:(Option (List ((Option (List (Int×Int×Int×Int×Int×Int×Int×Int×Int×Int×Int×Int)))×Bool))))(first:Int)(last:Int):B9R [B2 rRw rows,.int .i64 first,.int .i64 last]=first.toNat:=by
 simp only[B9R,G5]
theorem C6j{G:Nat→Option Obj}(hst:D2 Tryd.prog G gl H0 n0):∀ (E:Nat→U) (base:Nat),@M9 ⟨E,G⟩ Tryd.prog base gl Tryd.f45.ntmps C3w (M0 Tryd.prog gl n0 6 C30 B0j):=by
 refine V2 (C:=cx C4u B6s) (dep:=60) (f:=45) (n0:=n0) (nB:=6) (H0:=H0) B9R C3x (cxg (C0q hst) (A9h hst)) hst Tryd.func45 C3z C3y (by kernel_rfl) (by kernel_rfl) (by kernel_rfl) ?_;intro us d outs hs;have hs0:=hs;unfold B0j at hs;split at hs
 ·skip;rename_i u_rows first last
  have hq_rows:=B4.1 hs;clear hs;obtain⟨rows,hd_rows,hs⟩:=hq_rows;replace hd_rows:=K5 hd_rows;subst hd_rows;split at hs
  ·rename_i hc;clear hs hs0;refine⟨rfl,?_⟩;unfold C3x;refine s0 (.cons 2 _ (.cons 1 _ (.cons 0 _ (.nil)))) rfl (by simp[Ev.ok,Ev.len]) ?_;refine s1 (w6 _ _ _) rfl rfl rfl ?_;refine s5 rfl (fun g0=>?_) fun g0=>?_
   ·refine s7 [.int .i64 _,B2 rRw _,.int .i64 _,.int .i64 _] rfl ?_;refine C9 (d:=0) ?_;rw[A6a rows first last hc];first|(rw[B9h ‹_› (by omega)];done)|(rw[B6Q ‹_› ‹_›];done)
   first|refine s1 (S4 (B9 (by omega) (by omega))) rfl rfl rfl ?_|refine s1 (A0b _ _ _) rfl rfl rfl ?_
   refine s1 (F6 rfl) rfl rfl rfl ?_;refine s5 rfl (fun g1=>?_) fun g1=>?_
   ·refine s8 ?_;first|omega|(simp_all;done)|(simp_all;omega)
   refine s1 (u:=.bool _) (C6 rfl (by omega) (by omega) rfl) rfl rfl rfl ?_;refine s5B rfl (fun g2=>?_) fun g2=>?_
   ·refine s7 [.int .i64 _,B2 rRw _,.int .i64 _,.int .i64 _] rfl ?_;refine C9 (d:=0) ?_;rw[A6a rows first last hc];first|(rw[B9h ‹_› (by omega)];done)|(rw[B6Q ‹_› ‹_›];done)
   first|refine s1 (S4 (B9 (by omega) (by omega))) rfl rfl rfl ?_|refine s1 (A0b _ _ _) rfl rfl rfl ?_
   refine s7 [.int .i64 _,B2 rRw _,.int .i64 _,.int .i64 _] rfl ?_;refine D5 ?_ ?_
   ·rw[A6a rows first last hc,B1w ‹_› ‹_›];exact A6a _ _ _ ⟨by omega,by omega,hc.2.2⟩
   ·rw[B9Q,B9Q];omega
  ·cases hs
 ·cases hs
noncomputable def C1D:List LpE:=(45,([true,true,false,false],M0 Tryd.prog gl n0 6 C30 B0j))::B6s
theorem B4R{G:Nat→Option Obj}(hst:D2 Tryd.prog G gl H0 n0):Y6 Tryd.prog G gl C1D:=.cons Tryd.func45 C3z C3y (C6j hst) (A9h hst)
noncomputable def C4t:List (FuncId×FnC):=L0
theorem C0p{G:Nat→Option Obj}(hst:D2 Tryd.prog G gl H0 n0):K2 Tryd.prog G gl C4t:=.nil
def B0i:List U→Option (Nat×List U)
 | [u_rows,.int .i64 first,.int .i64 last]=>(P3 rRw u_rows).bind fun rows=>if 0≤last∧last<((el rows).length:Int)∧((el rows).length:Int)≤1000000 then some (0,[.int .i64 first,.int .i64 (J0 (el rows) last)])else none
 | _=>none
theorem A6Z(rows:(Option (List ((Option (List (Int×Int×Int×Int×Int×Int×Int×Int×Int×Int×Int×Int)))×Bool))))(first:Int)(last:Int)(hc:0≤last∧last<((el rows).length:Int)∧((el rows).length:Int)≤1000000):B0i [B2 rRw rows,.int .i64 first,.int .i64 last]=some (0,[.int .i64 first,.int .i64 (J0 (el rows) last)]):=by
 simp only[B0i,G5,E4];exact if_pos hc
def C3v:T8:=⟨[(0,dat 7 0 12),(4,h 1 3),(5,h 2 3),(26,junk),(27,junk),(28,junk),(29,junk),(30,junk)],[(7,.frz)],3,[⟨.exit 2,[(4,h 0 3),(5,h 1 3)],[],2⟩]⟩
noncomputable def B9P:Code:=(Tryd.f45.body).getD .skip
noncomputable def C3r:Code:=match G3 [true,true,true,false,false] B9P with|some (.loop x)=>x|_=>.skip
theorem C3u:Tryd.f45.body=some B9P:=rfl
theorem C3t:G3 [true,true,true,false,false] B9P=some (.loop C3r):=by kernel_rfl
def C3s:Tr:=.lt 8 (.inbs 2) [h 2 3,h 0 12]<|.br 3 (.lt 8 (.get 2 1) [h 0 12,h 2 3]<|.br 4 (.lt 3 (.bin .add) [h 2 3,jI 1]<|.lt 3 (.len) [h 0 12]<|.lt 8 (.bin .lss) [h 5 3,h 6 3]<|.br 7 (.lt 3 (.bin .add) [h 2 3,jI 1]<|.ret [jI (-1),h 0 12,h 1 3,h 8 3]) (.ret [jI 0,h 1 3,h 2 3])) (.ret [jI 0,h 1 3,h 2 3])) (.no)
def B9O:List U→Nat
 | [u_rows,.int .i64 first,.int .i64 last]=>(match P3 rRw u_rows with|some rows=>(((el rows).length:Int)-last).toNat|none=>0)
 | _=>0
theorem B9N(rows:(Option (List ((Option (List (Int×Int×Int×Int×Int×Int×Int×Int×Int×Int×Int×Int)))×Bool))))(first:Int)(last:Int):B9O [B2 rRw rows,.int .i64 first,.int .i64 last]=(((el rows).length:Int)-last).toNat:=by
 simp only[B9O,G5]
theorem C6i{G:Nat→Option Obj}(hst:D2 Tryd.prog G gl H0 n0):∀ (E:Nat→U) (base:Nat),@M9 ⟨E,G⟩ Tryd.prog base gl Tryd.f45.ntmps C3r (M0 Tryd.prog gl n0 8 C3v B0i):=by
 refine V2 (C:=cx C4t C1D) (dep:=60) (f:=45) (n0:=n0) (nB:=8) (H0:=H0) B9O C3s (cxg (C0p hst) (B4R hst)) hst Tryd.func45 C3u C3t (by kernel_rfl) (by kernel_rfl) (by kernel_rfl) ?_;intro us d outs hs;have hs0:=hs;unfold B0i at hs;split at hs
 ·skip;rename_i u_rows first last
  have hq_rows:=B4.1 hs;clear hs;obtain⟨rows,hd_rows,hs⟩:=hq_rows;replace hd_rows:=K5 hd_rows;subst hd_rows;split at hs
  ·rename_i hc;clear hs hs0;refine⟨rfl,?_⟩;unfold C3s;refine s0 (.cons 2 _ (.cons 1 _ (.cons 0 _ (.nil)))) rfl (by simp[Ev.ok,Ev.len]) ?_;refine s1 (F6 rfl) rfl rfl rfl ?_;refine s5 rfl (fun g0=>?_) fun g0=>?_
   ·refine s8 ?_;first|omega|(simp_all;done)|(simp_all;omega)
   refine s1 (u:=.bool _) (C6 rfl (by omega) (by omega) rfl) rfl rfl rfl ?_;refine s5B rfl (fun g1=>?_) fun g1=>?_
   ·refine s7 [.int .i64 _,.int .i64 _,.int .i64 _] rfl ?_;refine C9 (d:=0) ?_;rw[A6Z rows first last hc];first|(rw[A8z hc.1 (.inl ‹_›)];done)|(rw[A8z hc.1 (.inr ‹_›)];done)
   first|refine s1 (C7 (B9 (by omega) (by omega))) rfl rfl rfl ?_|refine s1 (D9 _ _ _) rfl rfl rfl ?_
   refine s1 (G8 _ _) rfl rfl rfl ?_;refine s1 (H7 _ _ _) rfl rfl rfl ?_;refine s5 rfl (fun g2=>?_) fun g2=>?_
   ·refine s7 [.int .i64 _,.int .i64 _,.int .i64 _] rfl ?_;refine C9 (d:=0) ?_;rw[A6Z rows first last hc];first|(rw[A8z hc.1 (.inl ‹_›)];done)|(rw[A8z hc.1 (.inr ‹_›)];done)
   first|refine s1 (C7 (B9 (by omega) (by omega))) rfl rfl rfl ?_|refine s1 (D9 _ _ _) rfl rfl rfl ?_
   refine s7 [.int .i64 _,B2 rRw _,.int .i64 _,.int .i64 _] rfl ?_;refine D5 ?_ ?_
   ·rw[A6Z rows first last hc,A8E hc.1 ‹_› ‹_›];exact A6Z _ _ _ ⟨by omega,by omega,hc.2.2⟩
   ·rw[B9N,B9N];omega
  ·cases hs
 ·cases hs
noncomputable def C1C:List LpE:=(45,([true,true,true,false,false],M0 Tryd.prog gl n0 8 C3v B0i))::C1D
theorem B4Q{G:Nat→Option Obj}(hst:D2 Tryd.prog G gl H0 n0):Y6 Tryd.prog G gl C1C:=.cons Tryd.func45 C3u C3t (C6i hst) (B4R hst)
noncomputable def C4v:List (FuncId×FnC):=L0
theorem C0r{G:Nat→Option Obj}(hst:D2 Tryd.prog G gl H0 n0):K2 Tryd.prog G gl C4v:=.nil
def A4K:List U→Option (Nat×List U)
 | [u_rows,.int .i64 i]=>(P3 rRw u_rows).bind fun rows=>if 0≤i∧i<((el rows).length:Int)∧((el rows).length:Int)≤1000000 then some (0,[.int .i64 (Z0 (el rows) i),.int .i64 (J0 (el rows) i)])else none
 | _=>none
theorem B1n(rows:(Option (List ((Option (List (Int×Int×Int×Int×Int×Int×Int×Int×Int×Int×Int×Int)))×Bool))))(i:Int)(hc:0≤i∧i<((el rows).length:Int)∧((el rows).length:Int)≤1000000):A4K [B2 rRw rows,.int .i64 i]=some (0,[.int .i64 (Z0 (el rows) i),.int .i64 (J0 (el rows) i)]):=by
 simp only[A4K,G5,E4];exact if_pos hc
def C31:Tr:=.fn B0j [h 0 12,h 1 3,h 1 3] 3<|.fn B0i [h 2 12,h 3 3,h 4 3] 2<|.ret [h 5 3,h 6 3]
theorem B6B{G:Nat→Option Obj}(hst:D2 Tryd.prog G gl H0 n0):c9 Tryd.prog G 45 [.s 12,.s 3] A4K [.s 3,.s 3]:=by
 refine J7 (C:=cx C4v C1C) (d:=60) C31 (cxg (C0r hst) (B4Q hst)) hst ⟨Tryd.f45,_,Tryd.func45,rfl⟩ (by kernel_rfl) (by kernel_rfl) ?_;intro us outs hs;unfold A4K at hs;split at hs
 ·skip;rename_i u_rows i;have hq_rows:=B4.1 hs;clear hs;obtain⟨rows,hd_rows,hs⟩:=hq_rows;replace hd_rows:=K5 hd_rows;subst hd_rows;split at hs
  ·rename_i hc;cases hs;unfold C31;refine s0 (.cons 1 _ (.cons 0 _ (.nil))) rfl (by simp[Ev.ok,Ev.len]) ?_;refine s3 (A6a _ _ _ hc) rfl ?_;show Tr.sav _ _ (.cons 4 _ (.cons 3 _ (.cons 2 _ _)));refine s32 (A6Z _ _ _ hc) rfl rfl ?_;refine s7 [.int .i64 _,.int .i64 _] rfl ?_;rfl
  ·cases hs
 ·cases hs
theorem B8m{l:List Cel}(h:A2n l=0):2≤(l.length:Int)∧(l.length:Int)≤80:=by
 by_cases hq:(l.length:Int)<2∨80<(l.length:Int)
 ·rw[A60 hq]at h;cases h
 ·omega
theorem S6{rows:Option (List Row)}(h:V5 rows=0):0<((el rows).length:Int)∧((el rows).length:Int)≤140∧∀ r ∈ el rows,A2n (el r.1)=0∧((el r.1).length:Int)=D0 rows:=by
 unfold V5 at h;split at h
 ·cases h
 ·rename_i h1;split at h
  ·cases h
  ·rename_i h2;refine⟨by omega,by omega,fun r hr=>?_⟩;have h3:A5F (D0 rows) r=false:=by
    cases hb:A5F (D0 rows) r with
    | false=>rfl
    | true=>exact absurd (Q6.2 ⟨r,hr,hb⟩) h2
   unfold A5F at h3;rw[X0,decide_eq_false_iff_not,decide_eq_false_iff_not]at h3;exact⟨W9.1 h3.1,W9.1 h3.2⟩
theorem X8{rows:Option (List Row)}(h:V5 rows=0):2≤D0 rows∧D0 rows≤80:=by
 obtain⟨h1,h2,h3⟩:=S6 h;have hm:(el rows).getD 0 default ∈ el rows:=R6 (i:=0) (by decide) h1
 have:=h3 _ hm
 have:=B8m this.1;omega
theorem A9T(rows:Option (List Row)):(V5 rows≠0∨(2≤D0 rows∧D0 rows≤80∧0<((el rows).length:Int)∧((el rows).length:Int)≤140))∧D0 rows=((el ((el rows).getD (0:Int).toNat default).1).length:Int):=by
 refine⟨?_,rfl⟩;by_cases h:V5 rows=0
 ·have:=X8 h;have:=S6 h;exact .inr ⟨by omega,by omega,by omega,by omega⟩
 ·exact .inl h
def A0s(rows:Option (List Row))(e r c:Int):Int:=if V5 rows≠0 then V5 rows else if 0≤r∧r<((el rows).length:Int)∧0≤c∧c≤D0 rows-e then 0 else 2
def ifE(e a:Int):Int:=if e=0 then a else 0
theorem Z5{rows:Option (List Row)}{e r c:Int}(h:V5 rows≠0):A0s rows e r c=V5 rows:=if_pos h
theorem Z4{rows:Option (List Row)}{e r c:Int}(h:¬V5 rows≠0)(h2:¬(0≤r∧r<((el rows).length:Int)∧0≤c∧c≤D0 rows-e)):A0s rows e r c=2:=by unfold A0s;rw[if_neg h,if_neg h2]
theorem R0{rows:Option (List Row)}{e r c:Int}(h:¬V5 rows≠0)(h2:0≤r∧r<((el rows).length:Int)∧0≤c∧c≤D0 rows-e):A0s rows e r c=0:=by unfold A0s;rw[if_neg h,if_pos h2]
def C10(rows:Option (List Row))(r c:Int):List U:=[.int .i64 (ifE (A0s rows 0 r c) (Z0 (el rows) r)),.int .i64 0,.int .i64 (ifE (A0s rows 0 r c) (J0 (el rows) r)),.int .i64 (ifE (A0s rows 0 r c) (D0 rows)),.int .i64 (A0s rows 0 r c)]
theorem A0X{rows:Option (List Row)}{r c e:Int}(h:A0s rows 0 r c=e)(he:e≠0):[U.int .i64 0,U.int .i64 0,U.int .i64 0,U.int .i64 0,U.int .i64 e]=C10 rows r c:=by
 unfold C10 ifE;rw[h,if_neg he,if_neg he,if_neg he]
theorem A5k{rows:Option (List Row)}{r c:Int}(h:A0s rows 0 r c=0):[U.int .i64 (Z0 (el rows) r),U.int .i64 0,U.int .i64 (J0 (el rows) r),U.int .i64 (D0 rows),U.int .i64 0]=C10 rows r c:=by
 unfold C10 ifE;rw[h,if_pos rfl,if_pos rfl,if_pos rfl]
noncomputable def C4s:List (FuncId×FnC):=(61,R7 Tryd.prog [.s 12] A1C [.s 3])::(45,R7 Tryd.prog [.s 12,.s 3] A4K [.s 3,.s 3])::L0
theorem C0o{G:Nat→Option Obj}(hst:D2 Tryd.prog G gl H0 n0):K2 Tryd.prog G gl C4s:=(.cons (A5J hst) (.cons (B6B hst) .nil))
def A26:List U→Option (Nat×List U)
 | [u_rows,.int .i64 r,.int .i64 c]=>(P3 rRw u_rows).bind fun rows=>if A1L rows then some (0,[.int .i64 (ifE (A0s rows 0 r c) (Z0 (el rows) r)),.int .i64 (0),.int .i64 (ifE (A0s rows 0 r c) (J0 (el rows) r)),.int .i64 (ifE (A0s rows 0 r c) (D0 rows)),.int .i64 (A0s rows 0 r c)])else none
 | _=>none
theorem C1y(rows:(Option (List ((Option (List (Int×Int×Int×Int×Int×Int×Int×Int×Int×Int×Int×Int)))×Bool))))(r:Int)(c:Int)(hc:A1L rows):A26 [B2 rRw rows,.int .i64 r,.int .i64 c]=some (0,[.int .i64 (ifE (A0s rows 0 r c) (Z0 (el rows) r)),.int .i64 (0),.int .i64 (ifE (A0s rows 0 r c) (J0 (el rows) r)),.int .i64 (ifE (A0s rows 0 r c) (D0 rows)),.int .i64 (A0s rows 0 r c)]):=by
 simp only[A26,G5,E4];exact if_pos hc
def C3q:Tr:=.fn A1C [h 0 12] 1<|.lt 8 (.bin .neq) [h 3 3,jI 0]<|.br 4 (.lt 8 (.bin .neq) [h 3 3,jI 0]<|.br 5 (.ret [jI 0,jI 0,jI 0,jI 0,h 3 3]) (.fn A4K [h 0 12,h 1 3] 2<|.lt 8 (.inbs 2) [jI 0,h 0 12]<|.br 8 (.dt 22 (.get 2 0) [h 0 12,jI 0]<|.lt 3 (.len) [h 9 22]<|.ret [h 6 3,jI 0,h 7 3,h 10 3,jI 0]) (.no))) (.lt 8 (.inbs 2) [jI 0,h 0 12]<|.br 5 (.dt 22 (.get 2 0) [h 0 12,jI 0]<|.lt 3 (.len) [h 6 22]<|.lt 3 (.bin .sub) [h 7 3,jI 0]<|.lt 8 (.bin .geq) [h 1 3,jI 0]<|.br 9 (.lt 3 (.len) [h 0 12]<|.lt 8 (.bin .lss) [h 1 3,h 10 3]<|.br 11 (.lt 8 (.bin .geq) [h 2 3,jI 0]<|.br 12 (.lt 8 (.bin .leq) [h 2 3,h 8 3]<|.lt 8 (.un .not) [h 13 8]<|.br 14 (.ret [jI 0,jI 0,jI 0,jI 0,jI 2]) (.fn A4K [h 0 12,h 1 3] 2<|.lt 8 (.inbs 2) [jI 0,h 0 12]<|.br 17 (.dt 22 (.get 2 0) [h 0 12,jI 0]<|.lt 3 (.len) [h 18 22]<|.ret [h 15 3,jI 0,h 16 3,h 19 3,jI 0]) (.no))) (.ret [jI 0,jI 0,jI 0,jI 0,jI 2])) (.ret [jI 0,jI 0,jI 0,jI 0,jI 2])) (.ret [jI 0,jI 0,jI 0,jI 0,jI 2])) (.no))
theorem C6h{G:Nat→Option Obj}(hst:D2 Tryd.prog G gl H0 n0):c9 Tryd.prog G 16 [.s 12,.a [3,3]] A26 [.a [3,3],.a [3,3],.s 3]:=by
 refine J7 (C:=cx C4s C1C) (d:=60) C3q (cxg (C0o hst) (B4Q hst)) hst ⟨Tryd.f16,_,Tryd.func16,rfl⟩ (by kernel_rfl) (by kernel_rfl) ?_;intro us outs hs;unfold A26 at hs;split at hs
 ·skip;rename_i u_rows r c;have hq_rows:=B4.1 hs;clear hs;obtain⟨rows,hd_rows,hs⟩:=hq_rows;replace hd_rows:=K5 hd_rows;subst hd_rows;split at hs
  ·rename_i hc;cases hs;have qd:=A9T rows;unfold C3q;refine s0 (.cons 2 _ (.cons 1 _ (.cons 0 _ (.nil)))) rfl (by simp[Ev.ok,Ev.len]) ?_;refine s31 (B1c _ hc) rfl ?_;refine s1 (K7 _ _ _) rfl rfl rfl ?_;refine s4 rfl (fun g0=>?_) fun g0=>?_
   ·refine s1 (K7 _ _ _) rfl rfl rfl ?_;refine s4 rfl (fun g1=>?_) fun g1=>?_
    ·refine s7 [.int .i64 _,.int .i64 _,.int .i64 _,.int .i64 _,.int .i64 _] rfl ?_;first|exact A0X (Z5 ‹_›) ‹_›|exact A0X (Z4 ‹_› (by omega)) (by decide)|exact(by rw[← qd.2];exact A5k (R0 ‹_› (by omega)))
    refine s32 (B1n _ _ ⟨by omega,by omega,by omega⟩) rfl rfl ?_;refine s1 (F6 rfl) rfl rfl rfl ?_;refine s5 rfl (fun g2=>?_) fun g2=>?_
    ·refine s8 ?_;omega
    refine s2 (r:=rCl) (C6 rfl (by omega) (by omega) rfl) rfl rfl ?_;refine s1 (G8 _ _) rfl rfl rfl ?_;refine s7 [.int .i64 _,.int .i64 _,.int .i64 _,.int .i64 _,.int .i64 _] rfl ?_;first|exact A0X (Z5 ‹_›) ‹_›|exact A0X (Z4 ‹_› (by omega)) (by decide)|exact(by rw[← qd.2];exact A5k (R0 ‹_› (by omega)))
   refine s1 (F6 rfl) rfl rfl rfl ?_;refine s5 rfl (fun g1=>?_) fun g1=>?_
   ·refine s8 ?_;omega
   refine s2 (r:=rCl) (C6 rfl (by omega) (by omega) rfl) rfl rfl ?_;refine s1 (G8 _ _) rfl rfl rfl ?_;first|refine s1 (S4 (B9 (by omega) (by omega))) rfl rfl rfl ?_|refine s1 (A0b _ _ _) rfl rfl rfl ?_
   refine s1 (N5 _ _ _) rfl rfl rfl ?_;refine s5 rfl (fun g2=>?_) fun g2=>?_
   ·refine s7 [.int .i64 _,.int .i64 _,.int .i64 _,.int .i64 _,.int .i64 _] rfl ?_;first|exact A0X (Z5 ‹_›) ‹_›|exact A0X (Z4 ‹_› (by omega)) (by decide)|exact(by rw[← qd.2];exact A5k (R0 ‹_› (by omega)))
   refine s1 (G8 _ _) rfl rfl rfl ?_;refine s1 (H7 _ _ _) rfl rfl rfl ?_;refine s5 rfl (fun g3=>?_) fun g3=>?_
   ·refine s7 [.int .i64 _,.int .i64 _,.int .i64 _,.int .i64 _,.int .i64 _] rfl ?_;first|exact A0X (Z5 ‹_›) ‹_›|exact A0X (Z4 ‹_› (by omega)) (by decide)|exact(by rw[← qd.2];exact A5k (R0 ‹_› (by omega)))
   refine s1 (N5 _ _ _) rfl rfl rfl ?_;refine s5 rfl (fun g4=>?_) fun g4=>?_
   ·refine s7 [.int .i64 _,.int .i64 _,.int .i64 _,.int .i64 _,.int .i64 _] rfl ?_;first|exact A0X (Z5 ‹_›) ‹_›|exact A0X (Z4 ‹_› (by omega)) (by decide)|exact(by rw[← qd.2];exact A5k (R0 ‹_› (by omega)))
   refine s1 (A0d _ _ _) rfl rfl rfl ?_;refine s1 (t6 _) rfl rfl rfl ?_;refine s4 rfl (fun g5=>?_) fun g5=>?_
   ·refine s7 [.int .i64 _,.int .i64 _,.int .i64 _,.int .i64 _,.int .i64 _] rfl ?_;first|exact A0X (Z5 ‹_›) ‹_›|exact A0X (Z4 ‹_› (by omega)) (by decide)|exact(by rw[← qd.2];exact A5k (R0 ‹_› (by omega)))
   refine s32 (B1n _ _ ⟨by omega,by omega,by omega⟩) rfl rfl ?_;refine s1 (F6 rfl) rfl rfl rfl ?_;refine s5 rfl (fun g6=>?_) fun g6=>?_
   ·refine s8 ?_;omega
   refine s2 (r:=rCl) (C6 rfl (by omega) (by omega) rfl) rfl rfl ?_;refine s1 (G8 _ _) rfl rfl rfl ?_;refine s7 [.int .i64 _,.int .i64 _,.int .i64 _,.int .i64 _,.int .i64 _] rfl ?_;first|exact A0X (Z5 ‹_›) ‹_›|exact A0X (Z4 ‹_› (by omega)) (by decide)|exact(by rw[← qd.2];exact A5k (R0 ‹_› (by omega)))
  ·cases hs
 ·cases hs
theorem B0R:∀ {r:List Cel} {l v:Cel},o7 r l=some v→∀ i,i<r.length→¬B7j (r.getD i default) (if i=0 then l else r.getD (i-1) default)
 | [],l,v,_,i,hi=>by simp at hi
 | c::r,l,v,h,i,hi=>by
   rw[o7]at h;split at h
   ·cases h
   ·rename_i hb;cases i with
    | zero=>exact hb
    | succ i =>
      have:=B0R h i (by simpa using hi);cases i with
      | zero=>exact this
      | succ i=>exact this
theorem A6z{l:List Cel}(h:A2n l=0){i:Int}(h0:0≤i)(h1:i<(l.length:Int)):A97 (l.getD i.toNat default)=0∧(wdC (l.getD i.toNat default)=2→0<i∧wdC (l.getD (i-1).toNat default)=1):=by
 unfold A2n at h;split at h
 ·cases h
 ·cases hg:o7 l (0,0,0,0,0,0,0,0,0,0,0,0)with
  | none=>rw[hg]at h;cases h
  | some v =>
    have:=B0R hg i.toNat (by omega);by_cases hz:i.toNat=0
    ·rw[if_pos hz]at this;refine⟨V9 fun e=>this (.inl e),fun h2=>?_⟩;exact absurd (.inr (.inl (by rw[h2];decide))) this
    ·rw[if_neg hz]at this;have e:i.toNat-1=(i-1).toNat:=by omega
     rw[e]at this;refine⟨V9 fun e=>this (.inl e),fun h2=>⟨by omega,V9 fun e=>this (.inr (.inl (by rw[h2,decide_eq_false e];decide)))⟩⟩
theorem C5n{c:Cel}(h:A97 c=0):R3 c.1 c.2.1 c.2.2.1 (wdC c):=by
 unfold A97 A5w at h;split at h
 ·rename_i hq;exact hq.1
 ·cases h
theorem B4Z(c:Int):A3I c = -1∨(0≤c∧c≤1114111):=by
 by_cases h:¬okU c∨c≤31∨(127≤c∧c≤159)
 ·exact .inl (Q8 h)
 ·have:okU c:=V9 fun e=>h (.inl e)
  unfold okU at this;exact .inr (by omega)
theorem C5o{b m0 m1 wd:Int}(h:R3 b m0 m1 wd):(0≤b∧b≤1114111)∧(0≤m0∧m0≤1114111)∧(0≤m1∧m1≤1114111)∧0≤wd∧wd≤2:=by
 unfold R3 at h;have h1:=B4Z b;have h2:=B4Z m0;have h3:=B4Z m1;omega
def B5K(l:List Cel)(i:Int):Cel:=if wdC (l.getD i.toNat default)=2 then l.getD (i-1).toNat default else l.getD i.toNat default
def A6r(c:Cel):Prop:=c.1=32∧c.2.1=0∧c.2.2.1=0∧wdC c=0
instance(c:Cel):Decidable (A6r c):=by unfold A6r;infer_instance
def C7Q(n:Int):Bool:=decide (0≤Lib.indexByte [95,48,49,50,51,52,53,54,55,56,57,97,98,99,100,101,102,103,104,105,106,107,108,109,110,111,112,113,114,115,116,117,118,119,120,121,122,65,66,67,68,69,70,71,72,73,74,75,76,77,78,79,80,81,82,83,84,85,86,87,88,89,90] (UInt8.ofNat n.toNat))
def C56(l:List Cel)(i:Int):Int:=if A6r (B5K l i)then 0 else if 128≤(B5K l i).1∨C7Q (B5K l i).1=true then 1 else 2
theorem C67{l:List Cel}{i:Int}(h:(l.getD i.toNat default).2.2.2.1=2):B5K l i=l.getD (i-1).toNat default:=if_pos h
theorem C66{l:List Cel}{i:Int}(h:¬(l.getD i.toNat default).2.2.2.1=2):B5K l i=l.getD i.toNat default:=if_neg h
theorem C7G{a:Cel}{x:Bool}(h:(a.1 == 32 && (a.2.1 == 0 && (a.2.2.1 == 0 && (a.2.2.2.1 == 0 && x))))=true):A6r a:=by
 simp only[I0,beq_iff_eq]at h;exact⟨h.1,h.2.1,h.2.2.1,h.2.2.2.1⟩
def C0E(rows:Option (List Row))(cols k:Int):Int:=C56 (el ((el rows).getD (k / cols).toNat default).1) (k%cols)
def bkN(rows:Option (List Row))(cols own lo:Int):Nat→Int→Int→Int→Bool×Int×Int
 | 0,_,r,c=>(false,r,c)
 | n+1,k,r,c=>if k<lo then(false,r,c)else if C0E rows cols k=own then bkN rows cols own lo n (k-1) (k / cols) (k%cols)else(true,r,c)
def bkS(rows:Option (List Row))(cols own lo k r c:Int):Bool×Int×Int:=bkN rows cols own lo (k-lo+1).toNat k r c
theorem A2p{a b A B:Int}(h0:0≤a)(h1:a≤A)(h2:0≤b)(h3:b≤B):0≤a*b∧a*b≤A*B:=⟨r7 h0 h2,Int.mul_le_mul h1 h3 h2 (by omega)⟩
theorem A3e{k cols n:Int}(h0:0≤k)(hc:0<cols)(h1:k<n*cols):0≤k / cols∧k / cols<n∧0≤k%cols∧k%cols<cols :=
 ⟨Int.ediv_nonneg h0 (by omega),Int.ediv_lt_of_lt_mul hc h1,P6 _ (by omega),Z3 _ hc⟩
def fwN(rows:Option (List Row))(cols own hi:Int):Nat→Int→Int→Int→Bool×Int×Int
 | 0,_,r,c=>(false,r,c)
 | n+1,k,r,c=>if hi≤k then(false,r,c)else if C0E rows cols k=own then fwN rows cols own hi n (k+1) (k / cols) (k%cols)else(true,r,c)
def fwS(rows:Option (List Row))(cols own hi k r c:Int):Bool×Int×Int:=fwN rows cols own hi (hi-k).toNat k r c
theorem B9g{rows:Option (List Row)}{cols own hi:Int}(hc:0<cols):∀ (n:Nat) (k r c:Int),0≤c→c≤cols→0≤(fwN rows cols own hi n k r c).2.2∧(fwN rows cols own hi n k r c).2.2≤cols
 | 0,k,r,c,h0,h1=>⟨h0,h1⟩
 | n+1,k,r,c,h0,h1=>by
   unfold fwN;split
   ·exact⟨h0,h1⟩
   ·split
    ·exact B9g hc n _ _ _ (P6 _ (by omega)) (Int.le_of_lt (Z3 _ hc))
    ·exact⟨h0,h1⟩
structure WF (rows:Option (List Row)) (w r c:Int):Prop where
 ck:V5 rows=0
 co:w=D0 rows
 w0:2≤w
 w1:w≤80
 n1:((el rows).length:Int)≤140
 r0:0≤r
 r1:r<((el rows).length:Int)
 c0:0≤c
 c1:c<w
 m0:0≤r*w
 m1:r*w≤11200
 f0:0≤Z0 (el rows) r
 f1:Z0 (el rows) r≤r
 l0:r≤J0 (el rows) r
 l1:J0 (el rows) r<((el rows).length:Int)
 k0:Z0 (el rows) r*w≤r*w+c
 k1:r*w+c<(J0 (el rows) r+1)*w
 rw:A2n (el ((el rows).getD r.toNat default).1)=0
 rl:((el ((el rows).getD r.toNat default).1).length:Int)=w
 t0:∀ own,0≤(fwS rows w own ((J0 (el rows) r+1)*w) (r*w+c) 0 0).2.2
 t1:∀ own,(fwS rows w own ((J0 (el rows) r+1)*w) (r*w+c) 0 0).2.2≤80
theorem C6D{rows:Option (List Row)}{w r c:Int}(hw:w=D0 rows)(h:V5 rows=0)(r0:0≤r)(r1:r<((el rows).length:Int))(c0:0≤c)(c1:c<w):WF rows w r c:=by
 have hc:=X8 h;have hl:=S6 h;have hb:=A4v (l:=el rows) r0 r1;have m:=A2p (a:=r) (b:=w) (A:=140) (B:=80) (by omega) (by omega) (by omega) (by omega);have e1:Z0 (el rows) r*w≤r*w:=E5 (by omega) (by omega);have e2:(r+1)*w≤(J0 (el rows) r+1)*w:=E5 (by omega) (by omega);rw[W8,W7]at e2;have hr:=hl.2.2 _ (R6 r0 r1);have ht:=fun own=>B9g (rows:=rows) (cols:=w) (own:=own) (hi:=(J0 (el rows) r+1)*w) (by omega) ((J0 (el rows) r+1)*w-(r*w+c)).toNat (r*w+c) 0 0 (by omega) (by omega)
 exact⟨h,hw,by omega,by omega,by omega,r0,r1,c0,c1,by omega,by omega,by omega,by omega,by omega,by omega,by omega,by omega,hr.1,by rw[hr.2,hw],fun own=>(ht own).1,fun own=>by have:=(ht own).2;show(fwN _ _ _ _ _ _ _ _).2.2≤80;omega⟩
def C2i(rows:Option (List Row))(r c:Int):Int:=C56 (el ((el rows).getD r.toNat default).1) c
def C5D(rows:Option (List Row))(r c:Int):Int×Int:=(bkS rows (D0 rows) (C2i rows r c) (Z0 (el rows) r*D0 rows) (r*D0 rows+c) 0 0).2
def C5B(rows:Option (List Row))(r c:Int):Int×Int:=(fwS rows (D0 rows) (C2i rows r c) ((J0 (el rows) r+1)*D0 rows) (r*D0 rows+c) 0 0).2
noncomputable def C4m:List (FuncId×FnC):=L0
theorem C0i{G:Nat→Option Obj}(hst:D2 Tryd.prog G gl H0 n0):K2 Tryd.prog G gl C4m:=.nil
def x5:List U→Option (Nat×List U)
 | [u_l,.int .i64 c,.int .i64 i]=>(P3 rQ u_l).bind fun l=>if 0≤i∧i≤((el l).length:Int)∧((el l).length:Int)≤1000 then A0Q (bU (((el l).drop i.toNat).any (inB c))) [] (fun _=>[])else none
 | _=>none
theorem i9(l:(Option (List (Int×Int))))(c:Int)(i:Int)(hc:0≤i∧i≤((el l).length:Int)∧((el l).length:Int)≤1000):x5 [B2 rQ l,.int .i64 c,.int .i64 i]=A0Q (bU (((el l).drop i.toNat).any (inB c))) [] (fun _=>[]):=by
 simp only[x5,G5,E4];exact if_pos hc
def C3c:T8:=⟨[(0,dat 4 0 12),(1,h 1 3),(5,h 2 3)],[(4,.frz)],3,[⟨.exit 0,[],[],0⟩,⟨.ret,[(4,.bool true)],[],0⟩]⟩
noncomputable def B8r:Code:=(Tryd.f99.body).getD .skip
noncomputable def C3Y:Code:=match G3 [true,false,true,false] B8r with|some (.loop x)=>x|_=>.skip
theorem C3b:Tryd.f99.body=some B8r:=rfl
theorem C3a:G3 [true,false,true,false] B8r=some (.loop C3Y):=by kernel_rfl
def C3Z:Tr:=.lt 3 (.len) [h 0 12]<|.lt 8 (.bin .lss) [h 2 3,h 3 3]<|.br 4 (.lt 8 (.inbs 2) [h 2 3,h 0 12]<|.br 5 (.lt 3 (.get 2 0) [h 0 12,h 2 3]<|.lt 8 (.bin .geq) [h 1 3,h 6 3]<|.br 7 (.lt 8 (.inbs 2) [h 2 3,h 0 12]<|.br 8 (.lt 3 (.get 2 1) [h 0 12,h 2 3]<|.lt 8 (.bin .leq) [h 1 3,h 9 3]<|.br 10 (.ret [jI 1]) (.lt 3 (.bin .add) [h 2 3,jI 1]<|.ret [jI (-1),h 0 12,h 1 3,h 11 3])) (.no)) (.lt 3 (.bin .add) [h 2 3,jI 1]<|.ret [jI (-1),h 0 12,h 1 3,h 8 3])) (.no)) (.ret [jI 0])
def B8q:List U→Nat
 | [u_l,.int .i64 c,.int .i64 i]=>(match P3 rQ u_l with|some l=>(((el l).length:Int)-i).toNat|none=>0)
 | _=>0
theorem B1Z(l:(Option (List (Int×Int))))(c:Int)(i:Int):B8q [B2 rQ l,.int .i64 c,.int .i64 i]=(((el l).length:Int)-i).toNat:=by
 simp only[B8q,G5]
theorem C6Q{G:Nat→Option Obj}(hst:D2 Tryd.prog G gl H0 n0):∀ (E:Nat→U) (base:Nat),@M9 ⟨E,G⟩ Tryd.prog base gl Tryd.f99.ntmps C3Y (M0 Tryd.prog gl n0 5 C3c x5):=by
 refine V2 (C:=cx C4m []) (dep:=60) (f:=99) (n0:=n0) (nB:=5) (H0:=H0) B8q C3Z (cxg (C0i hst) .nil) hst Tryd.func99 C3b C3a (by kernel_rfl) (by kernel_rfl) (by kernel_rfl) ?_;intro us d outs hs;have hs0:=hs;unfold x5 at hs;split at hs
 ·skip;rename_i u_l c i;have hq_l:=B4.1 hs;clear hs;obtain⟨l,hd_l,hs⟩:=hq_l;replace hd_l:=K5 hd_l;subst hd_l;split at hs
  ·rename_i hc;clear hs hs0;refine⟨rfl,?_⟩;unfold C3Z;refine s0 (.cons 2 _ (.cons 1 _ (.cons 0 _ (.nil)))) rfl (by simp[Ev.ok,Ev.len]) ?_;refine s1 (G8 _ _) rfl rfl rfl ?_;refine s1 (H7 _ _ _) rfl rfl rfl ?_;refine s5 rfl (fun g0=>?_) fun g0=>?_
   ·refine s7 [.int .i64 _] rfl ?_;refine C9 (d:=0) ?_;rw[i9 l c i hc,A8N (by omega)];rfl
   refine s1 (F6 rfl) rfl rfl rfl ?_;refine s5 rfl (fun g1=>?_) fun g1=>?_
   ·refine s8 ?_;first|omega
   refine s1 (u:=.int .i64 _) (C6 rfl (by omega) (by omega) rfl) rfl rfl rfl ?_;refine s1 (N5 _ _ _) rfl rfl rfl ?_;refine s4 rfl (fun g2=>?_) fun g2=>?_
   ·refine s1 (F6 rfl) rfl rfl rfl ?_;refine s5 rfl (fun g3=>?_) fun g3=>?_
    ·refine s8 ?_;first|omega
    refine s1 (u:=.int .i64 _) (C6 rfl (by omega) (by omega) rfl) rfl rfl rfl ?_;refine s1 (A0d _ _ _) rfl rfl rfl ?_;refine s4 rfl (fun g4=>?_) fun g4=>?_
    ·refine s7 [.int .i64 _] rfl ?_;refine C9 (d:=1) ?_;rw[i9 l c i hc,B6n (i:=i) (by omega) (by omega) (B6M ‹_› ‹_›)];rfl
    first|refine s1 (C7 (B9 (by omega) (by omega))) rfl rfl rfl ?_|refine s1 (D9 _ _ _) rfl rfl rfl ?_
    refine s7 [.int .i64 _,B2 rQ _,.int .i64 _,.int .i64 _] rfl ?_;refine D5 ?_ ?_
    ·rw[i9 l c i hc,A7t (i:=i) (by omega) (by omega) (A7l (by omega))];exact i9 l c (i+1) ⟨by omega,by omega,hc.2.2⟩
    ·rw[B1Z,B1Z];omega
   first|refine s1 (C7 (B9 (by omega) (by omega))) rfl rfl rfl ?_|refine s1 (D9 _ _ _) rfl rfl rfl ?_
   refine s7 [.int .i64 _,B2 rQ _,.int .i64 _,.int .i64 _] rfl ?_;refine D5 ?_ ?_
   ·rw[i9 l c i hc,A7t (i:=i) (by omega) (by omega) (A7l (by omega))];exact i9 l c (i+1) ⟨by omega,by omega,hc.2.2⟩
   ·rw[B1Z,B1Z];omega
  ·cases hs
 ·cases hs
noncomputable def C46:List LpE:=(99,([true,false,true,false],M0 Tryd.prog gl n0 5 C3c x5))::[]
theorem C1B{G:Nat→Option Obj}(hst:D2 Tryd.prog G gl H0 n0):Y6 Tryd.prog G gl C46:=.cons Tryd.func99 C3b C3a (C6Q hst) .nil
theorem H5(c:Int):((el (some ([(768,879),(1155,1161),(1425,1469),(1552,1562),(1611,1631),(6832,6911),(7616,7679),(8203,8207),(8400,8447),(65024,65039),(65056,65071)]:List (Int×Int)))).drop (0:Int).toNat).any (inB c)=true↔inM c:=by
 unfold inM;show List.any _ _=true↔_;simp[B0,inB]
theorem L3(c:Int):((el (some ([(4352,4447),(11904,12350),(12353,13311),(13312,19903),(19968,40959),(40960,42191),(44032,55203),(63744,64255),(65072,65135),(65280,65376),(65504,65510),(127744,128591),(128640,128767),(129280,129535),(131072,262141)]:List (Int×Int)))).drop (0:Int).toNat).any (inB c)=true↔inW c:=by
 unfold inW;show List.any _ _=true↔_;simp only[T5,B0,A5O,List.any_nil,inB,Bool.or_false,I5,I0,decide_eq_true_eq];constructor<;>intro h<;>omega
noncomputable def C4k:List (FuncId×FnC):=L0
theorem C0f{G:Nat→Option Obj}(hst:D2 Tryd.prog G gl H0 n0):K2 Tryd.prog G gl C4k:=.nil
def B21:List U→Option (Nat×List U)
 | [.int .i64 c]=>some (0,[.int .i64 (A3I c)])
 | _=>none
theorem C1Z(c:Int):B21 [.int .i64 c]=some (0,[.int .i64 (A3I c)]):=rfl
def C3S:Tr:=.lt 8 (.bin .geq) [h 0 3,jI 0]<|.br 1 (.lt 8 (.bin .leq) [h 0 3,jI 1114111]<|.br 2 (.lt 8 (.bin .lss) [h 0 3,jI 55296]<|.br 3 (.lt 8 (.bin .lss) [h 0 3,jI 32]<|.br 4 (.ret [jI (-1)]) (.lt 8 (.bin .geq) [h 0 3,jI 127]<|.br 5 (.lt 8 (.bin .lss) [h 0 3,jI 160]<|.br 6 (.ret [jI (-1)]) (.dt 12 (.mk 2) [jI 768,jI 879,jI 1155,jI 1161,jI 1425,jI 1469,jI 1552,jI 1562,jI 1611,jI 1631,jI 6832,jI 6911,jI 7616,jI 7679,jI 8203,jI 8207,jI 8400,jI 8447,jI 65024,jI 65039,jI 65056,jI 65071]<|.lp x5 [h 7 12,h 0 3,jI 0] 0 0 (.dt 12 (.mk 2) [jI 4352,jI 4447,jI 11904,jI 12350,jI 12353,jI 13311,jI 13312,jI 19903,jI 19968,jI 40959,jI 40960,jI 42191,jI 44032,jI 55203,jI 63744,jI 64255,jI 65072,jI 65135,jI 65280,jI 65376,jI 65504,jI 65510,jI 127744,jI 128591,jI 128640,jI 128767,jI 129280,jI 129535,jI 131072,jI 262141]<|.lp x5 [h 8 12,h 0 3,jI 0] 0 0 (.ret [jI 1]) (.lp x5 [h 8 12,h 0 3,jI 0] 1 0 (.ret [jI 2]) (.no))) (.lp x5 [h 7 12,h 0 3,jI 0] 1 0 (.ret [jI 0]) (.no)))) (.dt 12 (.mk 2) [jI 768,jI 879,jI 1155,jI 1161,jI 1425,jI 1469,jI 1552,jI 1562,jI 1611,jI 1631,jI 6832,jI 6911,jI 7616,jI 7679,jI 8203,jI 8207,jI 8400,jI 8447,jI 65024,jI 65039,jI 65056,jI 65071]<|.lp x5 [h 6 12,h 0 3,jI 0] 0 0 (.dt 12 (.mk 2) [jI 4352,jI 4447,jI 11904,jI 12350,jI 12353,jI 13311,jI 13312,jI 19903,jI 19968,jI 40959,jI 40960,jI 42191,jI 44032,jI 55203,jI 63744,jI 64255,jI 65072,jI 65135,jI 65280,jI 65376,jI 65504,jI 65510,jI 127744,jI 128591,jI 128640,jI 128767,jI 129280,jI 129535,jI 131072,jI 262141]<|.lp x5 [h 7 12,h 0 3,jI 0] 0 0 (.ret [jI 1]) (.lp x5 [h 7 12,h 0 3,jI 0] 1 0 (.ret [jI 2]) (.no))) (.lp x5 [h 6 12,h 0 3,jI 0] 1 0 (.ret [jI 0]) (.no))))) (.lt 8 (.bin .gtr) [h 0 3,jI 57343]<|.lt 8 (.un .not) [h 4 8]<|.br 5 (.ret [jI (-1)]) (.lt 8 (.bin .lss) [h 0 3,jI 32]<|.br 6 (.ret [jI (-1)]) (.lt 8 (.bin .geq) [h 0 3,jI 127]<|.br 7 (.lt 8 (.bin .lss) [h 0 3,jI 160]<|.br 8 (.ret [jI (-1)]) (.dt 12 (.mk 2) [jI 768,jI 879,jI 1155,jI 1161,jI 1425,jI 1469,jI 1552,jI 1562,jI 1611,jI 1631,jI 6832,jI 6911,jI 7616,jI 7679,jI 8203,jI 8207,jI 8400,jI 8447,jI 65024,jI 65039,jI 65056,jI 65071]<|.lp x5 [h 9 12,h 0 3,jI 0] 0 0 (.dt 12 (.mk 2) [jI 4352,jI 4447,jI 11904,jI 12350,jI 12353,jI 13311,jI 13312,jI 19903,jI 19968,jI 40959,jI 40960,jI 42191,jI 44032,jI 55203,jI 63744,jI 64255,jI 65072,jI 65135,jI 65280,jI 65376,jI 65504,jI 65510,jI 127744,jI 128591,jI 128640,jI 128767,jI 129280,jI 129535,jI 131072,jI 262141]<|.lp x5 [h 10 12,h 0 3,jI 0] 0 0 (.ret [jI 1]) (.lp x5 [h 10 12,h 0 3,jI 0] 1 0 (.ret [jI 2]) (.no))) (.lp x5 [h 9 12,h 0 3,jI 0] 1 0 (.ret [jI 0]) (.no)))) (.dt 12 (.mk 2) [jI 768,jI 879,jI 1155,jI 1161,jI 1425,jI 1469,jI 1552,jI 1562,jI 1611,jI 1631,jI 6832,jI 6911,jI 7616,jI 7679,jI 8203,jI 8207,jI 8400,jI 8447,jI 65024,jI 65039,jI 65056,jI 65071]<|.lp x5 [h 8 12,h 0 3,jI 0] 0 0 (.dt 12 (.mk 2) [jI 4352,jI 4447,jI 11904,jI 12350,jI 12353,jI 13311,jI 13312,jI 19903,jI 19968,jI 40959,jI 40960,jI 42191,jI 44032,jI 55203,jI 63744,jI 64255,jI 65072,jI 65135,jI 65280,jI 65376,jI 65504,jI 65510,jI 127744,jI 128591,jI 128640,jI 128767,jI 129280,jI 129535,jI 131072,jI 262141]<|.lp x5 [h 9 12,h 0 3,jI 0] 0 0 (.ret [jI 1]) (.lp x5 [h 9 12,h 0 3,jI 0] 1 0 (.ret [jI 2]) (.no))) (.lp x5 [h 8 12,h 0 3,jI 0] 1 0 (.ret [jI 0]) (.no))))))) (.ret [jI (-1)])) (.ret [jI (-1)])
theorem C6N{G:Nat→Option Obj}(hst:D2 Tryd.prog G gl H0 n0):c9 Tryd.prog G 89 [.s 3] B21 [.s 3]:=by
 refine J7 (C:=cx C4k C46) (d:=60) C3S (cxg (C0f hst) (C1B hst)) hst ⟨Tryd.f89,_,Tryd.func89,rfl⟩ (by kernel_rfl) (by kernel_rfl) ?_;intro us outs hs;unfold B21 at hs;split at hs
 ·skip;rename_i c;cases hs;unfold C3S;refine s0 (.cons 0 _ (.nil)) rfl (by simp[Ev.ok,Ev.len]) ?_;refine s1 (N5 _ _ _) rfl rfl rfl ?_;refine s5 rfl (fun g0=>?_) fun g0=>?_
  ·refine s7 [.int .i64 _] rfl ?_;refine congrArg (fun z=>[U.int .i64 z]) ?_;symm;first|exact Q8 (by unfold okU;omega)|exact Y0 (by unfold okU;omega) (N9 ‹_› (H5 c))|exact X9 (by unfold okU;omega) (H8 ‹_› (H5 c)) (N9 ‹_› (L3 c))|exact R5 (by unfold okU;omega) (H8 ‹_› (H5 c)) (H8 ‹_› (L3 c))
  refine s1 (A0d _ _ _) rfl rfl rfl ?_;refine s5 rfl (fun g1=>?_) fun g1=>?_
  ·refine s7 [.int .i64 _] rfl ?_;refine congrArg (fun z=>[U.int .i64 z]) ?_;symm;first|exact Q8 (by unfold okU;omega)|exact Y0 (by unfold okU;omega) (N9 ‹_› (H5 c))|exact X9 (by unfold okU;omega) (H8 ‹_› (H5 c)) (N9 ‹_› (L3 c))|exact R5 (by unfold okU;omega) (H8 ‹_› (H5 c)) (H8 ‹_› (L3 c))
  refine s1 (H7 _ _ _) rfl rfl rfl ?_;refine s4 rfl (fun g2=>?_) fun g2=>?_
  ·refine s1 (H7 _ _ _) rfl rfl rfl ?_;refine s4 rfl (fun g3=>?_) fun g3=>?_
   ·refine s7 [.int .i64 _] rfl ?_;refine congrArg (fun z=>[U.int .i64 z]) ?_;symm;first|exact Q8 (by unfold okU;omega)|exact Y0 (by unfold okU;omega) (N9 ‹_› (H5 c))|exact X9 (by unfold okU;omega) (H8 ‹_› (H5 c)) (N9 ‹_› (L3 c))|exact R5 (by unfold okU;omega) (H8 ‹_› (H5 c)) (H8 ‹_› (L3 c))
   refine s1 (N5 _ _ _) rfl rfl rfl ?_;refine s4 rfl (fun g4=>?_) fun g4=>?_
   ·refine s1 (H7 _ _ _) rfl rfl rfl ?_;refine s4 rfl (fun g5=>?_) fun g5=>?_
    ·refine s7 [.int .i64 _] rfl ?_;refine congrArg (fun z=>[U.int .i64 z]) ?_;symm;first|exact Q8 (by unfold okU;omega)|exact Y0 (by unfold okU;omega) (N9 ‹_› (H5 c))|exact X9 (by unfold okU;omega) (H8 ‹_› (H5 c)) (N9 ‹_› (L3 c))|exact R5 (by unfold okU;omega) (H8 ‹_› (H5 c)) (H8 ‹_› (L3 c))
    refine s2 (r:=rQ) (p8 [(_,_),(_,_),(_,_),(_,_),(_,_),(_,_),(_,_),(_,_),(_,_),(_,_),(_,_)] rfl (by decide) rfl) rfl rfl ?_;refine s6 (i9 _ _ 0 ⟨by decide,by decide,by decide⟩) rfl (fun _=>rfl) (fun g6=>?_) (fun v6 g6=>?_)
    ·show Tr.sav _ _ _;refine s2 (r:=rQ) (p8 [(_,_),(_,_),(_,_),(_,_),(_,_),(_,_),(_,_),(_,_),(_,_),(_,_),(_,_),(_,_),(_,_),(_,_),(_,_)] rfl (by decide) rfl) rfl rfl ?_;refine s6 (i9 _ _ 0 ⟨by decide,by decide,by decide⟩) rfl (fun _=>rfl) (fun g7=>?_) (fun v7 g7=>?_)
     ·show Tr.sav _ _ _;refine s7 [.int .i64 _] rfl ?_;refine congrArg (fun z=>[U.int .i64 z]) ?_;symm;first|exact Q8 (by unfold okU;omega)|exact Y0 (by unfold okU;omega) (N9 ‹_› (H5 c))|exact X9 (by unfold okU;omega) (H8 ‹_› (H5 c)) (N9 ‹_› (L3 c))|exact R5 (by unfold okU;omega) (H8 ‹_› (H5 c)) (H8 ‹_› (L3 c))
     show Tr.sav _ _ _;refine s7 [.int .i64 _] rfl ?_;refine congrArg (fun z=>[U.int .i64 z]) ?_;symm;first|exact Q8 (by unfold okU;omega)|exact Y0 (by unfold okU;omega) (N9 ‹_› (H5 c))|exact X9 (by unfold okU;omega) (H8 ‹_› (H5 c)) (N9 ‹_› (L3 c))|exact R5 (by unfold okU;omega) (H8 ‹_› (H5 c)) (H8 ‹_› (L3 c))
    show Tr.sav _ _ _;refine s7 [.int .i64 _] rfl ?_;refine congrArg (fun z=>[U.int .i64 z]) ?_;symm;first|exact Q8 (by unfold okU;omega)|exact Y0 (by unfold okU;omega) (N9 ‹_› (H5 c))|exact X9 (by unfold okU;omega) (H8 ‹_› (H5 c)) (N9 ‹_› (L3 c))|exact R5 (by unfold okU;omega) (H8 ‹_› (H5 c)) (H8 ‹_› (L3 c))
   refine s2 (r:=rQ) (p8 [(_,_),(_,_),(_,_),(_,_),(_,_),(_,_),(_,_),(_,_),(_,_),(_,_),(_,_)] rfl (by decide) rfl) rfl rfl ?_;refine s6 (i9 _ _ 0 ⟨by decide,by decide,by decide⟩) rfl (fun _=>rfl) (fun g5=>?_) (fun v5 g5=>?_)
   ·show Tr.sav _ _ _;refine s2 (r:=rQ) (p8 [(_,_),(_,_),(_,_),(_,_),(_,_),(_,_),(_,_),(_,_),(_,_),(_,_),(_,_),(_,_),(_,_),(_,_),(_,_)] rfl (by decide) rfl) rfl rfl ?_;refine s6 (i9 _ _ 0 ⟨by decide,by decide,by decide⟩) rfl (fun _=>rfl) (fun g6=>?_) (fun v6 g6=>?_)
    ·show Tr.sav _ _ _;refine s7 [.int .i64 _] rfl ?_;refine congrArg (fun z=>[U.int .i64 z]) ?_;symm;first|exact Q8 (by unfold okU;omega)|exact Y0 (by unfold okU;omega) (N9 ‹_› (H5 c))|exact X9 (by unfold okU;omega) (H8 ‹_› (H5 c)) (N9 ‹_› (L3 c))|exact R5 (by unfold okU;omega) (H8 ‹_› (H5 c)) (H8 ‹_› (L3 c))
    show Tr.sav _ _ _;refine s7 [.int .i64 _] rfl ?_;refine congrArg (fun z=>[U.int .i64 z]) ?_;symm;first|exact Q8 (by unfold okU;omega)|exact Y0 (by unfold okU;omega) (N9 ‹_› (H5 c))|exact X9 (by unfold okU;omega) (H8 ‹_› (H5 c)) (N9 ‹_› (L3 c))|exact R5 (by unfold okU;omega) (H8 ‹_› (H5 c)) (H8 ‹_› (L3 c))
   show Tr.sav _ _ _;refine s7 [.int .i64 _] rfl ?_;refine congrArg (fun z=>[U.int .i64 z]) ?_;symm;first|exact Q8 (by unfold okU;omega)|exact Y0 (by unfold okU;omega) (N9 ‹_› (H5 c))|exact X9 (by unfold okU;omega) (H8 ‹_› (H5 c)) (N9 ‹_› (L3 c))|exact R5 (by unfold okU;omega) (H8 ‹_› (H5 c)) (H8 ‹_› (L3 c))
  refine s1 (w6 _ _ _) rfl rfl rfl ?_;refine s1 (t6 _) rfl rfl rfl ?_;refine s4 rfl (fun g3=>?_) fun g3=>?_
  ·refine s7 [.int .i64 _] rfl ?_;refine congrArg (fun z=>[U.int .i64 z]) ?_;symm;first|exact Q8 (by unfold okU;omega)|exact Y0 (by unfold okU;omega) (N9 ‹_› (H5 c))|exact X9 (by unfold okU;omega) (H8 ‹_› (H5 c)) (N9 ‹_› (L3 c))|exact R5 (by unfold okU;omega) (H8 ‹_› (H5 c)) (H8 ‹_› (L3 c))
  refine s1 (H7 _ _ _) rfl rfl rfl ?_;refine s4 rfl (fun g4=>?_) fun g4=>?_
  ·refine s7 [.int .i64 _] rfl ?_;refine congrArg (fun z=>[U.int .i64 z]) ?_;symm;first|exact Q8 (by unfold okU;omega)|exact Y0 (by unfold okU;omega) (N9 ‹_› (H5 c))|exact X9 (by unfold okU;omega) (H8 ‹_› (H5 c)) (N9 ‹_› (L3 c))|exact R5 (by unfold okU;omega) (H8 ‹_› (H5 c)) (H8 ‹_› (L3 c))
  refine s1 (N5 _ _ _) rfl rfl rfl ?_;refine s4 rfl (fun g5=>?_) fun g5=>?_
  ·refine s1 (H7 _ _ _) rfl rfl rfl ?_;refine s4 rfl (fun g6=>?_) fun g6=>?_
   ·refine s7 [.int .i64 _] rfl ?_;refine congrArg (fun z=>[U.int .i64 z]) ?_;symm;first|exact Q8 (by unfold okU;omega)|exact Y0 (by unfold okU;omega) (N9 ‹_› (H5 c))|exact X9 (by unfold okU;omega) (H8 ‹_› (H5 c)) (N9 ‹_› (L3 c))|exact R5 (by unfold okU;omega) (H8 ‹_› (H5 c)) (H8 ‹_› (L3 c))
   refine s2 (r:=rQ) (p8 [(_,_),(_,_),(_,_),(_,_),(_,_),(_,_),(_,_),(_,_),(_,_),(_,_),(_,_)] rfl (by decide) rfl) rfl rfl ?_;refine s6 (i9 _ _ 0 ⟨by decide,by decide,by decide⟩) rfl (fun _=>rfl) (fun g7=>?_) (fun v7 g7=>?_)
   ·show Tr.sav _ _ _;refine s2 (r:=rQ) (p8 [(_,_),(_,_),(_,_),(_,_),(_,_),(_,_),(_,_),(_,_),(_,_),(_,_),(_,_),(_,_),(_,_),(_,_),(_,_)] rfl (by decide) rfl) rfl rfl ?_;refine s6 (i9 _ _ 0 ⟨by decide,by decide,by decide⟩) rfl (fun _=>rfl) (fun g8=>?_) (fun v8 g8=>?_)
    ·show Tr.sav _ _ _;refine s7 [.int .i64 _] rfl ?_;refine congrArg (fun z=>[U.int .i64 z]) ?_;symm;first|exact Q8 (by unfold okU;omega)|exact Y0 (by unfold okU;omega) (N9 ‹_› (H5 c))|exact X9 (by unfold okU;omega) (H8 ‹_› (H5 c)) (N9 ‹_› (L3 c))|exact R5 (by unfold okU;omega) (H8 ‹_› (H5 c)) (H8 ‹_› (L3 c))
    show Tr.sav _ _ _;refine s7 [.int .i64 _] rfl ?_;refine congrArg (fun z=>[U.int .i64 z]) ?_;symm;first|exact Q8 (by unfold okU;omega)|exact Y0 (by unfold okU;omega) (N9 ‹_› (H5 c))|exact X9 (by unfold okU;omega) (H8 ‹_› (H5 c)) (N9 ‹_› (L3 c))|exact R5 (by unfold okU;omega) (H8 ‹_› (H5 c)) (H8 ‹_› (L3 c))
   show Tr.sav _ _ _;refine s7 [.int .i64 _] rfl ?_;refine congrArg (fun z=>[U.int .i64 z]) ?_;symm;first|exact Q8 (by unfold okU;omega)|exact Y0 (by unfold okU;omega) (N9 ‹_› (H5 c))|exact X9 (by unfold okU;omega) (H8 ‹_› (H5 c)) (N9 ‹_› (L3 c))|exact R5 (by unfold okU;omega) (H8 ‹_› (H5 c)) (H8 ‹_› (L3 c))
  refine s2 (r:=rQ) (p8 [(_,_),(_,_),(_,_),(_,_),(_,_),(_,_),(_,_),(_,_),(_,_),(_,_),(_,_)] rfl (by decide) rfl) rfl rfl ?_;refine s6 (i9 _ _ 0 ⟨by decide,by decide,by decide⟩) rfl (fun _=>rfl) (fun g6=>?_) (fun v6 g6=>?_)
  ·show Tr.sav _ _ _;refine s2 (r:=rQ) (p8 [(_,_),(_,_),(_,_),(_,_),(_,_),(_,_),(_,_),(_,_),(_,_),(_,_),(_,_),(_,_),(_,_),(_,_),(_,_)] rfl (by decide) rfl) rfl rfl ?_;refine s6 (i9 _ _ 0 ⟨by decide,by decide,by decide⟩) rfl (fun _=>rfl) (fun g7=>?_) (fun v7 g7=>?_)
   ·show Tr.sav _ _ _;refine s7 [.int .i64 _] rfl ?_;refine congrArg (fun z=>[U.int .i64 z]) ?_;symm;first|exact Q8 (by unfold okU;omega)|exact Y0 (by unfold okU;omega) (N9 ‹_› (H5 c))|exact X9 (by unfold okU;omega) (H8 ‹_› (H5 c)) (N9 ‹_› (L3 c))|exact R5 (by unfold okU;omega) (H8 ‹_› (H5 c)) (H8 ‹_› (L3 c))
   show Tr.sav _ _ _;refine s7 [.int .i64 _] rfl ?_;refine congrArg (fun z=>[U.int .i64 z]) ?_;symm;first|exact Q8 (by unfold okU;omega)|exact Y0 (by unfold okU;omega) (N9 ‹_› (H5 c))|exact X9 (by unfold okU;omega) (H8 ‹_› (H5 c)) (N9 ‹_› (L3 c))|exact R5 (by unfold okU;omega) (H8 ‹_› (H5 c)) (H8 ‹_› (L3 c))
  show Tr.sav _ _ _;refine s7 [.int .i64 _] rfl ?_;refine congrArg (fun z=>[U.int .i64 z]) ?_;symm;first|exact Q8 (by unfold okU;omega)|exact Y0 (by unfold okU;omega) (N9 ‹_› (H5 c))|exact X9 (by unfold okU;omega) (H8 ‹_› (H5 c)) (N9 ‹_› (L3 c))|exact R5 (by unfold okU;omega) (H8 ‹_› (H5 c)) (H8 ‹_› (L3 c))
 ·cases hs
theorem lt8{i:Int}(h0:0≤i)(h1:i<8):i=0∨i=1∨i=2∨i=3∨i=4∨i=5∨i=6∨i=7:=by omega
@[irreducible] def A5X(b:Int):Int:=if b / 8%8=5 then 768 else if b / 8%4=1 then 769 else 0
@[irreducible] def A5W(b:Int):Int:=if b / 8%8=5 then 8400 else 0
@[irreducible] def sgB(b:Int):Int:=([32,97,122,233,20013,128512,65533,69]:List Int).getD (b%8).toNat 0
@[irreducible] def sgW(b:Int):Int:=A3I (([32,97,122,233,20013,128512,65533,69]:List Int).getD (b%8).toNat 0)-1
@[irreducible] def A5f(s:Int):Int:=([0,0,1,0,17,0,2,255]:List Int).getD (s%8).toNat 0
@[irreducible] def A5e(s:Int):Int:=([0,0,0,0,0,3,0,5]:List Int).getD (s%8).toNat 0
@[irreducible] def A5d(s:Int):Int:=([0,0,0,0,2,0,0,0]:List Int).getD (s%8).toNat 0
@[irreducible] def A5c(s:Int):Int:=([0,0,0,0,1056816,0,0,0]:List Int).getD (s%8).toNat 0
@[irreducible] def A5b(s:Int):Int:=([0,0,0,1,0,0,2,0]:List Int).getD (s%8).toNat 0
@[irreducible] def A5a(s:Int):Int:=([0,0,0,4,0,0,16777215,0]:List Int).getD (s%8).toNat 0
@[irreducible] def A5Z(s:Int):Int:=([0,0,0,0,0,1,0,0]:List Int).getD (s%8).toNat 0
@[irreducible] def A5Y(s:Int):Int:=([0,0,0,0,0,200,0,0]:List Int).getD (s%8).toNat 0
def C5I(b s:Int):Cel:=(sgB b,A5X b,A5W b,sgW b,A5f s,A5e s,A5d s,A5c s,A5b s,A5a s,A5Z s,A5Y s)
theorem C2V{b:Int}(h0:0≤b):let c:=([32,97,122,233,20013,128512,65533,69]:List Int).getD (b%8).toNat 0;(c=32∨c=97∨c=122∨c=233∨c=20013∨c=128512∨c=65533∨c=69)∧1≤A3I c∧A3I c≤2:=by
 rcases lt8 (P6 b (by decide:(8:Int)≠0)) (Z3 b (by decide))with h|h|h|h|h|h|h|h<;>rw[h]<;>decide
noncomputable def C4i:List (FuncId×FnC):=(89,R7 Tryd.prog [.s 3] B21 [.s 3])::L0
theorem C0d{G:Nat→Option Obj}(hst:D2 Tryd.prog G gl H0 n0):K2 Tryd.prog G gl C4i:=(.cons (C6N hst) .nil)
def B0K:List U→Option (Nat×List U)
 | [.int .u8 b,.int .u8 s]=>if 0≤b∧b≤255∧0≤s∧s≤255 then some (0,[.int .i64 (sgB b),.int .i64 (A5X b),.int .i64 (A5W b),.int .i64 (sgW b),.int .i64 (A5f s),.int .i64 (A5e s),.int .i64 (A5d s),.int .i64 (A5c s),.int .i64 (A5b s),.int .i64 (A5a s),.int .i64 (A5Z s),.int .i64 (A5Y s)])else none
 | _=>none
theorem C1V(b:Int)(s:Int)(hc:0≤b∧b≤255∧0≤s∧s≤255):B0K [.int .u8 b,.int .u8 s]=some (0,[.int .i64 (sgB b),.int .i64 (A5X b),.int .i64 (A5W b),.int .i64 (sgW b),.int .i64 (A5f s),.int .i64 (A5e s),.int .i64 (A5d s),.int .i64 (A5c s),.int .i64 (A5b s),.int .i64 (A5a s),.int .i64 (A5Z s),.int .i64 (A5Y s)]):=if_pos hc
def C3L:Tr:=.lt 4 (.bin .rem) [h 0 4,.int .u8 (8)]<|.lt 8 (.inb) [h 2 4,jI 8]<|.br 3 (.lt 3 (.sel) [h 2 4,jI 32,jI 97,jI 122,jI 233,jI 20013,jI 128512,jI 65533,jI 69]<|.lt 4 (.bin .rem) [h 1 4,.int .u8 (8)]<|.lt 8 (.inb) [h 5 4,jI 8]<|.br 6 (.lt 3 (.sel) [h 5 4,jI 0,jI 0,jI 1,jI 0,jI 17,jI 0,jI 2,jI 255]<|.lt 3 (.sel) [h 5 4,jI 0,jI 0,jI 0,jI 0,jI 0,jI 3,jI 0,jI 5]<|.lt 3 (.sel) [h 5 4,jI 0,jI 0,jI 0,jI 0,jI 2,jI 0,jI 0,jI 0]<|.lt 3 (.sel) [h 5 4,jI 0,jI 0,jI 0,jI 0,jI 1056816,jI 0,jI 0,jI 0]<|.lt 3 (.sel) [h 5 4,jI 0,jI 0,jI 0,jI 1,jI 0,jI 0,jI 2,jI 0]<|.lt 3 (.sel) [h 5 4,jI 0,jI 0,jI 0,jI 4,jI 0,jI 0,jI 16777215,jI 0]<|.lt 3 (.sel) [h 5 4,jI 0,jI 0,jI 0,jI 0,jI 0,jI 1,jI 0,jI 0]<|.lt 3 (.sel) [h 5 4,jI 0,jI 0,jI 0,jI 0,jI 0,jI 200,jI 0,jI 0]<|.fn B21 [h 4 3] 1<|.lt 3 (.bin .sub) [h 15 3,jI 1]<|.lt 4 (.bin .quo) [h 0 4,.int .u8 (8)]<|.lt 4 (.bin .rem) [h 17 4,.int .u8 (4)]<|.lt 8 (.bin .eql) [h 18 4,.int .u8 (1)]<|.br 19 (.lt 4 (.bin .quo) [h 0 4,.int .u8 (8)]<|.lt 4 (.bin .rem) [h 20 4,.int .u8 (8)]<|.lt 8 (.bin .eql) [h 21 4,.int .u8 (5)]<|.br 22 (.ret [h 4 3,jI 768,jI 8400,h 16 3,h 7 3,h 8 3,h 9 3,h 10 3,h 11 3,h 12 3,h 13 3,h 14 3]) (.ret [h 4 3,jI 769,jI 0,h 16 3,h 7 3,h 8 3,h 9 3,h 10 3,h 11 3,h 12 3,h 13 3,h 14 3])) (.lt 4 (.bin .quo) [h 0 4,.int .u8 (8)]<|.lt 4 (.bin .rem) [h 20 4,.int .u8 (8)]<|.lt 8 (.bin .eql) [h 21 4,.int .u8 (5)]<|.br 22 (.ret [h 4 3,jI 768,jI 8400,h 16 3,h 7 3,h 8 3,h 9 3,h 10 3,h 11 3,h 12 3,h 13 3,h 14 3]) (.ret [h 4 3,jI 0,jI 0,h 16 3,h 7 3,h 8 3,h 9 3,h 10 3,h 11 3,h 12 3,h 13 3,h 14 3]))) (.no)) (.no)
theorem C3M{G:Nat→Option Obj}(hst:D2 Tryd.prog G gl H0 n0):c9 Tryd.prog G 73 [.s 4,.s 4] B0K [.a [3,3,3,3,3,3,3,3,3,3,3,3]]:=by
 refine J7 (C:=cx C4i []) (d:=60) C3L (cxg (C0d hst) .nil) hst ⟨Tryd.f73,_,Tryd.func73,rfl⟩ (by kernel_rfl) (by kernel_rfl) ?_;intro us outs hs;unfold B0K at hs;split at hs
 ·skip;rename_i b s;split at hs
  ·rename_i hc;cases hs;have bi:=C2V (b:=b) (by omega);simp only[]at bi;unfold C3L;refine s0 (.cons 1 _ (.cons 0 _ (.nil))) rfl (by simp[Ev.ok,Ev.len]) ?_;first|refine s1 (j9 (by omega) (by omega)) rfl rfl rfl ?_|refine s1 (A1_ _ _ _ (by omega)) rfl rfl rfl ?_
   refine s1 (A9H _ _ _ _) rfl rfl rfl ?_;refine s5 rfl (fun g0=>?_) fun g0=>?_
   ·refine s8 ?_;first|omega
   refine s1 (j8 [32,97,122,233,20013,128512,65533,69] (by omega) (by show _<((8:Nat):Int);omega)) rfl rfl rfl ?_;first|refine s1 (j9 (by omega) (by omega)) rfl rfl rfl ?_|refine s1 (A1_ _ _ _ (by omega)) rfl rfl rfl ?_
   refine s1 (A9H _ _ _ _) rfl rfl rfl ?_;refine s5 rfl (fun g1=>?_) fun g1=>?_
   ·refine s8 ?_;first|omega
   refine s1 (j8 [0,0,1,0,17,0,2,255] (by omega) (by show _<((8:Nat):Int);omega)) rfl rfl rfl ?_;refine s1 (j8 [0,0,0,0,0,3,0,5] (by omega) (by show _<((8:Nat):Int);omega)) rfl rfl rfl ?_;refine s1 (j8 [0,0,0,0,2,0,0,0] (by omega) (by show _<((8:Nat):Int);omega)) rfl rfl rfl ?_;refine s1 (j8 [0,0,0,0,1056816,0,0,0] (by omega) (by show _<((8:Nat):Int);omega)) rfl rfl rfl ?_;refine s1 (j8 [0,0,0,1,0,0,2,0] (by omega) (by show _<((8:Nat):Int);omega)) rfl rfl rfl ?_;refine s1 (j8 [0,0,0,4,0,0,16777215,0] (by omega) (by show _<((8:Nat):Int);omega)) rfl rfl rfl ?_;refine s1 (j8 [0,0,0,0,0,1,0,0] (by omega) (by show _<((8:Nat):Int);omega)) rfl rfl rfl ?_;refine s1 (j8 [0,0,0,0,0,200,0,0] (by omega) (by show _<((8:Nat):Int);omega)) rfl rfl rfl ?_;refine s31 (C1Z _) rfl ?_;first|refine s1 (S4 (B9 (by omega) (by omega))) rfl rfl rfl ?_|refine s1 (A0b _ _ _) rfl rfl rfl ?_
   first|refine s1 (A1f (by omega) (by omega) (A2L (by omega) (by omega))) rfl rfl rfl ?_|refine s1 (A5p _ _ _ (by omega)) rfl rfl rfl ?_
   first|refine s1 (j9 (by omega) (by omega)) rfl rfl rfl ?_|refine s1 (A1_ _ _ _ (by omega)) rfl rfl rfl ?_
   refine s1 (I4 _ _ _) rfl rfl rfl ?_;refine s4 rfl (fun g2=>?_) fun g2=>?_
   ·first|refine s1 (A1f (by omega) (by omega) (A2L (by omega) (by omega))) rfl rfl rfl ?_|refine s1 (A5p _ _ _ (by omega)) rfl rfl rfl ?_
    first|refine s1 (j9 (by omega) (by omega)) rfl rfl rfl ?_|refine s1 (A1_ _ _ _ (by omega)) rfl rfl rfl ?_
    refine s1 (I4 _ _ _) rfl rfl rfl ?_;refine s4 rfl (fun g3=>?_) fun g3=>?_
    ·refine s7 [.int .i64 _,.int .i64 _,.int .i64 _,.int .i64 _,.int .i64 _,.int .i64 _,.int .i64 _,.int .i64 _,.int .i64 _,.int .i64 _,.int .i64 _,.int .i64 _] rfl ?_;first|(unfold A5X A5W sgB sgW A5f A5e A5d A5c A5b A5a A5Z A5Y;rw[if_pos (by omega),if_pos (by omega)])|(unfold A5X A5W sgB sgW A5f A5e A5d A5c A5b A5a A5Z A5Y;rw[if_neg (by omega),if_pos (by omega),if_neg (by omega)])|(unfold A5X A5W sgB sgW A5f A5e A5d A5c A5b A5a A5Z A5Y;rw[if_neg (by omega),if_neg (by omega),if_neg (by omega)])
    refine s7 [.int .i64 _,.int .i64 _,.int .i64 _,.int .i64 _,.int .i64 _,.int .i64 _,.int .i64 _,.int .i64 _,.int .i64 _,.int .i64 _,.int .i64 _,.int .i64 _] rfl ?_;first|(unfold A5X A5W sgB sgW A5f A5e A5d A5c A5b A5a A5Z A5Y;rw[if_pos (by omega),if_pos (by omega)])|(unfold A5X A5W sgB sgW A5f A5e A5d A5c A5b A5a A5Z A5Y;rw[if_neg (by omega),if_pos (by omega),if_neg (by omega)])|(unfold A5X A5W sgB sgW A5f A5e A5d A5c A5b A5a A5Z A5Y;rw[if_neg (by omega),if_neg (by omega),if_neg (by omega)])
   first|refine s1 (A1f (by omega) (by omega) (A2L (by omega) (by omega))) rfl rfl rfl ?_|refine s1 (A5p _ _ _ (by omega)) rfl rfl rfl ?_
   first|refine s1 (j9 (by omega) (by omega)) rfl rfl rfl ?_|refine s1 (A1_ _ _ _ (by omega)) rfl rfl rfl ?_
   refine s1 (I4 _ _ _) rfl rfl rfl ?_;refine s4 rfl (fun g3=>?_) fun g3=>?_
   ·refine s7 [.int .i64 _,.int .i64 _,.int .i64 _,.int .i64 _,.int .i64 _,.int .i64 _,.int .i64 _,.int .i64 _,.int .i64 _,.int .i64 _,.int .i64 _,.int .i64 _] rfl ?_;first|(unfold A5X A5W sgB sgW A5f A5e A5d A5c A5b A5a A5Z A5Y;rw[if_pos (by omega),if_pos (by omega)])|(unfold A5X A5W sgB sgW A5f A5e A5d A5c A5b A5a A5Z A5Y;rw[if_neg (by omega),if_pos (by omega),if_neg (by omega)])|(unfold A5X A5W sgB sgW A5f A5e A5d A5c A5b A5a A5Z A5Y;rw[if_neg (by omega),if_neg (by omega),if_neg (by omega)])
   refine s7 [.int .i64 _,.int .i64 _,.int .i64 _,.int .i64 _,.int .i64 _,.int .i64 _,.int .i64 _,.int .i64 _,.int .i64 _,.int .i64 _,.int .i64 _,.int .i64 _] rfl ?_;first|(unfold A5X A5W sgB sgW A5f A5e A5d A5c A5b A5a A5Z A5Y;rw[if_pos (by omega),if_pos (by omega)])|(unfold A5X A5W sgB sgW A5f A5e A5d A5c A5b A5a A5Z A5Y;rw[if_neg (by omega),if_pos (by omega),if_neg (by omega)])|(unfold A5X A5W sgB sgW A5f A5e A5d A5c A5b A5a A5Z A5Y;rw[if_neg (by omega),if_neg (by omega),if_neg (by omega)])
  ·cases hs
 ·cases hs
end Go.Proofs.YtdkdbjgkedahfaaDoor
