/- The law KeysChecks: for every input the call returns true, and the arguments read behind it as they read before. No condition. -/
import Derived.Test.YtdimocjaepnifaaGreatDoorX10
namespace Go.Proofs.YtdimocjaepnifaaGreatDoor
set_option linter.all false
open Go Go.Sx
set_option maxRecDepth 100000
set_option linter.unusedVariables false
set_option linter.unusedSimpArgs false
def msP(m w b r cl:Int):Prop:=0≤w∧w≤3∧0≤b∧b≤3∧(w=0→b≤2)∧(w=3→b≤1)∧0≤m∧m≤7∧0≤r∧r≤39∧0≤cl∧cl≤79
instance(m w b r cl:Int):Decidable (msP m w b r cl):=by unfold msP;infer_instance
theorem J7(m w b r cl:Int):msP m w b r cl↔(0≤b∧0≤m∧m≤7∧0≤r∧r≤39∧0≤cl∧cl≤79)∧((w=0∧b≤2)∨(w=1∧b≤3)∨(w=2∧b≤3)∨(w=3∧b≤1)):=by
 unfold msP;omega
theorem K1(w:Int):(w=0∧([2,3,3,1]:List Int).getD w.toNat 0=2)∨(w=1∧([2,3,3,1]:List Int).getD w.toNat 0=3)∨(w=2∧([2,3,3,1]:List Int).getD w.toNat 0=3)∨(w=3∧([2,3,3,1]:List Int).getD w.toNat 0=1)∨w<0∨3<w:=by
 by_cases h:0≤w∧w≤3
 ·have:w=0∨w=1∨w=2∨w=3:=by omega
  rcases this with rfl|rfl|rfl|rfl<;>decide
 ·omega
noncomputable def B94:List (FuncId×FnC):=L0
theorem B7T{G:Nat→Option Obj}(hst:E6 Tryz.prog G gl H0 n0):L5 Tryz.prog G gl B94:=.nil
def B0P:List U→Option (Nat×List U)
 | [.int .i64 k,.int .i64 c,.int .i64 m,.int .i64 w,.int .i64 b,.int .i64 r,.int .i64 cl,.str t]=>some (0,[.bool (decide (msP m w b r cl))])
 | _=>none
theorem B7z(k:Int)(c:Int)(m:Int)(w:Int)(b:Int)(r:Int)(cl:Int)(t:(List UInt8)):B0P [.int .i64 k,.int .i64 c,.int .i64 m,.int .i64 w,.int .i64 b,.int .i64 r,.int .i64 cl,.str t]=some (0,[.bool (decide (msP m w b r cl))]):=rfl
def B83:Tr:=.lt 8 (.bin .geq) [h 3 3,jI 0]<|.br 8 (.lt 8 (.bin .leq) [h 3 3,jI 3]<|.br 9 (.lt 8 (.inb) [h 3 3,jI 4]<|.br 10 (.lt 3 (.sel) [h 3 3,jI 2,jI 3,jI 3,jI 1]<|.lt 8 (.bin .geq) [h 4 3,jI 0]<|.br 12 (.lt 8 (.bin .leq) [h 4 3,h 11 3]<|.br 13 (.lt 8 (.bin .geq) [h 2 3,jI 0]<|.br 14 (.lt 8 (.bin .leq) [h 2 3,jI 7]<|.br 15 (.lt 8 (.bin .geq) [h 5 3,jI 0]<|.br 16 (.lt 8 (.bin .leq) [h 5 3,jI 39]<|.br 17 (.lt 8 (.bin .geq) [h 6 3,jI 0]<|.br 18 (.lt 8 (.bin .leq) [h 6 3,jI 79]<|.ret [h 19 8]) (.ret [.bool false])) (.ret [.bool false])) (.ret [.bool false])) (.ret [.bool false])) (.ret [.bool false])) (.ret [.bool false])) (.ret [.bool false])) (.no)) (.ret [.bool false])) (.ret [.bool false])
theorem C1G{G:Nat→Option Obj}(hst:E6 Tryz.prog G gl H0 n0):T9 Tryz.prog G 37 [.a [3,3,3,3,3,3,3,9]] B0P [.s 8]:=by
 refine I5 (C:=cx B94 []) (d:=60) B83 (cxg (B7T hst) .nil) hst ⟨Tryz.f37,_,Tryz.func37,rfl⟩ (by kernel_rfl) (by kernel_rfl) ?_;intro us outs hs;unfold B0P at hs;split at hs
 ·skip;rename_i k c m w b r cl t;cases hs;unfold B83;refine s0 (.cons 7 _ (.cons 6 _ (.cons 5 _ (.cons 4 _ (.cons 3 _ (.cons 2 _ (.cons 1 _ (.cons 0 _ (.nil))))))))) rfl (by simp[Ev.ok,Ev.len]) ?_;refine s1 (E7 _ _ _) rfl rfl rfl ?_;refine s5 rfl (fun g0=>?_) fun g0=>?_
  ·refine s7 [.bool _] rfl ?_;have z1:=J7 m w b r cl;have z0:=K1 w;refine l1 ?_;first|(refine decide_eq_decide.2 ⟨fun h=>z1.2 ?_,fun h=>?_⟩;omega;(have:=z1.1 h;omega))|(symm;first|exact decide_eq_true (z1.2 (by omega))|exact decide_eq_false (fun h=>by have:=z1.1 h;omega)|(exfalso;omega))
  refine s1 (F4 _ _ _) rfl rfl rfl ?_;refine s5 rfl (fun g1=>?_) fun g1=>?_
  ·refine s7 [.bool _] rfl ?_;have z1:=J7 m w b r cl;have z0:=K1 w;refine l1 ?_;first|(refine decide_eq_decide.2 ⟨fun h=>z1.2 ?_,fun h=>?_⟩;omega;(have:=z1.1 h;omega))|(symm;first|exact decide_eq_true (z1.2 (by omega))|exact decide_eq_false (fun h=>by have:=z1.1 h;omega)|(exfalso;omega))
  refine s1 (A7J _ _ _ _) rfl rfl rfl ?_;refine s5 rfl (fun g2=>?_) fun g2=>?_
  ·refine s8 ?_
   (have z0:=K1 w;omega)
  refine s1 (A40 [2,3,3,1] (by omega) (by show _<((4:Nat):Int);omega)) rfl rfl rfl ?_;refine s1 (E7 _ _ _) rfl rfl rfl ?_;refine s5 rfl (fun g3=>?_) fun g3=>?_
  ·refine s7 [.bool _] rfl ?_;have z1:=J7 m w b r cl;have z0:=K1 w;refine l1 ?_;first|(refine decide_eq_decide.2 ⟨fun h=>z1.2 ?_,fun h=>?_⟩;omega;(have:=z1.1 h;omega))|(symm;first|exact decide_eq_true (z1.2 (by omega))|exact decide_eq_false (fun h=>by have:=z1.1 h;omega)|(exfalso;omega))
  refine s1 (F4 _ _ _) rfl rfl rfl ?_;refine s5 rfl (fun g4=>?_) fun g4=>?_
  ·refine s7 [.bool _] rfl ?_;have z1:=J7 m w b r cl;have z0:=K1 w;refine l1 ?_;first|(refine decide_eq_decide.2 ⟨fun h=>z1.2 ?_,fun h=>?_⟩;omega;(have:=z1.1 h;omega))|(symm;first|exact decide_eq_true (z1.2 (by omega))|exact decide_eq_false (fun h=>by have:=z1.1 h;omega)|(exfalso;omega))
  refine s1 (E7 _ _ _) rfl rfl rfl ?_;refine s5 rfl (fun g5=>?_) fun g5=>?_
  ·refine s7 [.bool _] rfl ?_;have z1:=J7 m w b r cl;have z0:=K1 w;refine l1 ?_;first|(refine decide_eq_decide.2 ⟨fun h=>z1.2 ?_,fun h=>?_⟩;omega;(have:=z1.1 h;omega))|(symm;first|exact decide_eq_true (z1.2 (by omega))|exact decide_eq_false (fun h=>by have:=z1.1 h;omega)|(exfalso;omega))
  refine s1 (F4 _ _ _) rfl rfl rfl ?_;refine s5 rfl (fun g6=>?_) fun g6=>?_
  ·refine s7 [.bool _] rfl ?_;have z1:=J7 m w b r cl;have z0:=K1 w;refine l1 ?_;first|(refine decide_eq_decide.2 ⟨fun h=>z1.2 ?_,fun h=>?_⟩;omega;(have:=z1.1 h;omega))|(symm;first|exact decide_eq_true (z1.2 (by omega))|exact decide_eq_false (fun h=>by have:=z1.1 h;omega)|(exfalso;omega))
  refine s1 (E7 _ _ _) rfl rfl rfl ?_;refine s5 rfl (fun g7=>?_) fun g7=>?_
  ·refine s7 [.bool _] rfl ?_;have z1:=J7 m w b r cl;have z0:=K1 w;refine l1 ?_;first|(refine decide_eq_decide.2 ⟨fun h=>z1.2 ?_,fun h=>?_⟩;omega;(have:=z1.1 h;omega))|(symm;first|exact decide_eq_true (z1.2 (by omega))|exact decide_eq_false (fun h=>by have:=z1.1 h;omega)|(exfalso;omega))
  refine s1 (F4 _ _ _) rfl rfl rfl ?_;refine s5 rfl (fun g8=>?_) fun g8=>?_
  ·refine s7 [.bool _] rfl ?_;have z1:=J7 m w b r cl;have z0:=K1 w;refine l1 ?_;first|(refine decide_eq_decide.2 ⟨fun h=>z1.2 ?_,fun h=>?_⟩;omega;(have:=z1.1 h;omega))|(symm;first|exact decide_eq_true (z1.2 (by omega))|exact decide_eq_false (fun h=>by have:=z1.1 h;omega)|(exfalso;omega))
  refine s1 (E7 _ _ _) rfl rfl rfl ?_;refine s5 rfl (fun g9=>?_) fun g9=>?_
  ·refine s7 [.bool _] rfl ?_;have z1:=J7 m w b r cl;have z0:=K1 w;refine l1 ?_;first|(refine decide_eq_decide.2 ⟨fun h=>z1.2 ?_,fun h=>?_⟩;omega;(have:=z1.1 h;omega))|(symm;first|exact decide_eq_true (z1.2 (by omega))|exact decide_eq_false (fun h=>by have:=z1.1 h;omega)|(exfalso;omega))
  refine s1 (F4 _ _ _) rfl rfl rfl ?_;refine s7 [.bool _] rfl ?_;have z1:=J7 m w b r cl;have z0:=K1 w;refine l1 ?_;first|(refine decide_eq_decide.2 ⟨fun h=>z1.2 ?_,fun h=>?_⟩;omega;(have:=z1.1 h;omega))|(symm;first|exact decide_eq_true (z1.2 (by omega))|exact decide_eq_false (fun h=>by have:=z1.1 h;omega)|(exfalso;omega))
 ·cases hs
noncomputable def B99:List (FuncId×FnC):=L0
theorem B7Y{G:Nat→Option Obj}(hst:E6 Tryz.prog G gl H0 n0):L5 Tryz.prog G gl B99:=.nil
def A8S:List U→Option (Nat×List U)
 | [.int .i64 k,.int .i64 c,.int .i64 m,.int .i64 w,.int .i64 b,.int .i64 r,.int .i64 cl,.str t]=>some (0,[.bool (decide (msP m w b r cl))])
 | _=>none
theorem B79(k:Int)(c:Int)(m:Int)(w:Int)(b:Int)(r:Int)(cl:Int)(t:(List UInt8)):A8S [.int .i64 k,.int .i64 c,.int .i64 m,.int .i64 w,.int .i64 b,.int .i64 r,.int .i64 cl,.str t]=some (0,[.bool (decide (msP m w b r cl))]):=rfl
def B9J:Tr:=.lt 8 (.bin .eql) [h 3 3,jI 0]<|.br 8 (.lt 8 (.bin .eql) [h 3 3,jI 3]<|.br 9 (.lt 8 (.bin .geq) [h 3 3,jI 0]<|.br 10 (.lt 8 (.bin .leq) [h 3 3,jI 3]<|.br 11 (.lt 8 (.bin .geq) [h 4 3,jI 0]<|.br 12 (.lt 8 (.bin .leq) [h 4 3,jI 1]<|.br 13 (.lt 8 (.bin .geq) [h 2 3,jI 0]<|.br 14 (.lt 8 (.bin .leq) [h 2 3,jI 7]<|.br 15 (.lt 8 (.bin .geq) [h 5 3,jI 0]<|.br 16 (.lt 8 (.bin .leq) [h 5 3,jI 39]<|.br 17 (.lt 8 (.bin .geq) [h 6 3,jI 0]<|.br 18 (.lt 8 (.bin .leq) [h 6 3,jI 79]<|.ret [h 19 8]) (.ret [.bool false])) (.ret [.bool false])) (.ret [.bool false])) (.ret [.bool false])) (.ret [.bool false])) (.ret [.bool false])) (.ret [.bool false])) (.ret [.bool false])) (.ret [.bool false])) (.lt 8 (.bin .geq) [h 3 3,jI 0]<|.br 10 (.lt 8 (.bin .leq) [h 3 3,jI 3]<|.br 11 (.lt 8 (.bin .geq) [h 4 3,jI 0]<|.br 12 (.lt 8 (.bin .leq) [h 4 3,jI 2]<|.br 13 (.lt 8 (.bin .geq) [h 2 3,jI 0]<|.br 14 (.lt 8 (.bin .leq) [h 2 3,jI 7]<|.br 15 (.lt 8 (.bin .geq) [h 5 3,jI 0]<|.br 16 (.lt 8 (.bin .leq) [h 5 3,jI 39]<|.br 17 (.lt 8 (.bin .geq) [h 6 3,jI 0]<|.br 18 (.lt 8 (.bin .leq) [h 6 3,jI 79]<|.ret [h 19 8]) (.ret [.bool false])) (.ret [.bool false])) (.ret [.bool false])) (.ret [.bool false])) (.ret [.bool false])) (.ret [.bool false])) (.ret [.bool false])) (.ret [.bool false])) (.ret [.bool false]))) (.lt 8 (.bin .eql) [h 3 3,jI 3]<|.br 9 (.lt 8 (.bin .geq) [h 3 3,jI 0]<|.br 10 (.lt 8 (.bin .leq) [h 3 3,jI 3]<|.br 11 (.lt 8 (.bin .geq) [h 4 3,jI 0]<|.br 12 (.lt 8 (.bin .leq) [h 4 3,jI 1]<|.br 13 (.lt 8 (.bin .geq) [h 2 3,jI 0]<|.br 14 (.lt 8 (.bin .leq) [h 2 3,jI 7]<|.br 15 (.lt 8 (.bin .geq) [h 5 3,jI 0]<|.br 16 (.lt 8 (.bin .leq) [h 5 3,jI 39]<|.br 17 (.lt 8 (.bin .geq) [h 6 3,jI 0]<|.br 18 (.lt 8 (.bin .leq) [h 6 3,jI 79]<|.ret [h 19 8]) (.ret [.bool false])) (.ret [.bool false])) (.ret [.bool false])) (.ret [.bool false])) (.ret [.bool false])) (.ret [.bool false])) (.ret [.bool false])) (.ret [.bool false])) (.ret [.bool false])) (.lt 8 (.bin .geq) [h 3 3,jI 0]<|.br 10 (.lt 8 (.bin .leq) [h 3 3,jI 3]<|.br 11 (.lt 8 (.bin .geq) [h 4 3,jI 0]<|.br 12 (.lt 8 (.bin .leq) [h 4 3,jI 3]<|.br 13 (.lt 8 (.bin .geq) [h 2 3,jI 0]<|.br 14 (.lt 8 (.bin .leq) [h 2 3,jI 7]<|.br 15 (.lt 8 (.bin .geq) [h 5 3,jI 0]<|.br 16 (.lt 8 (.bin .leq) [h 5 3,jI 39]<|.br 17 (.lt 8 (.bin .geq) [h 6 3,jI 0]<|.br 18 (.lt 8 (.bin .leq) [h 6 3,jI 79]<|.ret [h 19 8]) (.ret [.bool false])) (.ret [.bool false])) (.ret [.bool false])) (.ret [.bool false])) (.ret [.bool false])) (.ret [.bool false])) (.ret [.bool false])) (.ret [.bool false])) (.ret [.bool false])))
theorem B9K{G:Nat→Option Obj}(hst:E6 Tryz.prog G gl H0 n0):T9 Tryz.prog G 61 [.a [3,3,3,3,3,3,3,9]] A8S [.s 8]:=by
 refine I5 (C:=cx B99 []) (d:=60) B9J (cxg (B7Y hst) .nil) hst ⟨Tryz.f61,_,Tryz.func61,rfl⟩ (by kernel_rfl) (by kernel_rfl) ?_;intro us outs hs;unfold A8S at hs;split at hs
 ·skip;rename_i k c m w b r cl t;cases hs;unfold B9J;refine s0 (.cons 7 _ (.cons 6 _ (.cons 5 _ (.cons 4 _ (.cons 3 _ (.cons 2 _ (.cons 1 _ (.cons 0 _ (.nil))))))))) rfl (by simp[Ev.ok,Ev.len]) ?_;refine s1 (A8 _ _ _) rfl rfl rfl ?_;refine s4 rfl (fun g0=>?_) fun g0=>?_
  ·refine s1 (A8 _ _ _) rfl rfl rfl ?_;refine s4 rfl (fun g1=>?_) fun g1=>?_
   ·refine s1 (E7 _ _ _) rfl rfl rfl ?_;refine s5 rfl (fun g2=>?_) fun g2=>?_
    ·refine s7 [.bool _] rfl ?_;have z1:=J7 m w b r cl;have z0:=K1 w;refine l1 ?_;first|(refine decide_eq_decide.2 ⟨fun h=>z1.2 ?_,fun h=>?_⟩;omega;(have:=z1.1 h;omega))|(symm;first|exact decide_eq_true (z1.2 (by omega))|exact decide_eq_false (fun h=>by have:=z1.1 h;omega)|(exfalso;omega))
    refine s1 (F4 _ _ _) rfl rfl rfl ?_;refine s5 rfl (fun g3=>?_) fun g3=>?_
    ·refine s7 [.bool _] rfl ?_;have z1:=J7 m w b r cl;have z0:=K1 w;refine l1 ?_;first|(refine decide_eq_decide.2 ⟨fun h=>z1.2 ?_,fun h=>?_⟩;omega;(have:=z1.1 h;omega))|(symm;first|exact decide_eq_true (z1.2 (by omega))|exact decide_eq_false (fun h=>by have:=z1.1 h;omega)|(exfalso;omega))
    refine s1 (E7 _ _ _) rfl rfl rfl ?_;refine s5 rfl (fun g4=>?_) fun g4=>?_
    ·refine s7 [.bool _] rfl ?_;have z1:=J7 m w b r cl;have z0:=K1 w;refine l1 ?_;first|(refine decide_eq_decide.2 ⟨fun h=>z1.2 ?_,fun h=>?_⟩;omega;(have:=z1.1 h;omega))|(symm;first|exact decide_eq_true (z1.2 (by omega))|exact decide_eq_false (fun h=>by have:=z1.1 h;omega)|(exfalso;omega))
    refine s1 (F4 _ _ _) rfl rfl rfl ?_;refine s5 rfl (fun g5=>?_) fun g5=>?_
    ·refine s7 [.bool _] rfl ?_;have z1:=J7 m w b r cl;have z0:=K1 w;refine l1 ?_;first|(refine decide_eq_decide.2 ⟨fun h=>z1.2 ?_,fun h=>?_⟩;omega;(have:=z1.1 h;omega))|(symm;first|exact decide_eq_true (z1.2 (by omega))|exact decide_eq_false (fun h=>by have:=z1.1 h;omega)|(exfalso;omega))
    refine s1 (E7 _ _ _) rfl rfl rfl ?_;refine s5 rfl (fun g6=>?_) fun g6=>?_
    ·refine s7 [.bool _] rfl ?_;have z1:=J7 m w b r cl;have z0:=K1 w;refine l1 ?_;first|(refine decide_eq_decide.2 ⟨fun h=>z1.2 ?_,fun h=>?_⟩;omega;(have:=z1.1 h;omega))|(symm;first|exact decide_eq_true (z1.2 (by omega))|exact decide_eq_false (fun h=>by have:=z1.1 h;omega)|(exfalso;omega))
    refine s1 (F4 _ _ _) rfl rfl rfl ?_;refine s5 rfl (fun g7=>?_) fun g7=>?_
    ·refine s7 [.bool _] rfl ?_;have z1:=J7 m w b r cl;have z0:=K1 w;refine l1 ?_;first|(refine decide_eq_decide.2 ⟨fun h=>z1.2 ?_,fun h=>?_⟩;omega;(have:=z1.1 h;omega))|(symm;first|exact decide_eq_true (z1.2 (by omega))|exact decide_eq_false (fun h=>by have:=z1.1 h;omega)|(exfalso;omega))
    refine s1 (E7 _ _ _) rfl rfl rfl ?_;refine s5 rfl (fun g8=>?_) fun g8=>?_
    ·refine s7 [.bool _] rfl ?_;have z1:=J7 m w b r cl;have z0:=K1 w;refine l1 ?_;first|(refine decide_eq_decide.2 ⟨fun h=>z1.2 ?_,fun h=>?_⟩;omega;(have:=z1.1 h;omega))|(symm;first|exact decide_eq_true (z1.2 (by omega))|exact decide_eq_false (fun h=>by have:=z1.1 h;omega)|(exfalso;omega))
    refine s1 (F4 _ _ _) rfl rfl rfl ?_;refine s5 rfl (fun g9=>?_) fun g9=>?_
    ·refine s7 [.bool _] rfl ?_;have z1:=J7 m w b r cl;have z0:=K1 w;refine l1 ?_;first|(refine decide_eq_decide.2 ⟨fun h=>z1.2 ?_,fun h=>?_⟩;omega;(have:=z1.1 h;omega))|(symm;first|exact decide_eq_true (z1.2 (by omega))|exact decide_eq_false (fun h=>by have:=z1.1 h;omega)|(exfalso;omega))
    refine s1 (E7 _ _ _) rfl rfl rfl ?_;refine s5 rfl (fun g10=>?_) fun g10=>?_
    ·refine s7 [.bool _] rfl ?_;have z1:=J7 m w b r cl;have z0:=K1 w;refine l1 ?_;first|(refine decide_eq_decide.2 ⟨fun h=>z1.2 ?_,fun h=>?_⟩;omega;(have:=z1.1 h;omega))|(symm;first|exact decide_eq_true (z1.2 (by omega))|exact decide_eq_false (fun h=>by have:=z1.1 h;omega)|(exfalso;omega))
    refine s1 (F4 _ _ _) rfl rfl rfl ?_;refine s7 [.bool _] rfl ?_;have z1:=J7 m w b r cl;have z0:=K1 w;refine l1 ?_;first|(refine decide_eq_decide.2 ⟨fun h=>z1.2 ?_,fun h=>?_⟩;omega;(have:=z1.1 h;omega))|(symm;first|exact decide_eq_true (z1.2 (by omega))|exact decide_eq_false (fun h=>by have:=z1.1 h;omega)|(exfalso;omega))
   refine s1 (E7 _ _ _) rfl rfl rfl ?_;refine s5 rfl (fun g2=>?_) fun g2=>?_
   ·refine s7 [.bool _] rfl ?_;have z1:=J7 m w b r cl;have z0:=K1 w;refine l1 ?_;first|(refine decide_eq_decide.2 ⟨fun h=>z1.2 ?_,fun h=>?_⟩;omega;(have:=z1.1 h;omega))|(symm;first|exact decide_eq_true (z1.2 (by omega))|exact decide_eq_false (fun h=>by have:=z1.1 h;omega)|(exfalso;omega))
   refine s1 (F4 _ _ _) rfl rfl rfl ?_;refine s5 rfl (fun g3=>?_) fun g3=>?_
   ·refine s7 [.bool _] rfl ?_;have z1:=J7 m w b r cl;have z0:=K1 w;refine l1 ?_;first|(refine decide_eq_decide.2 ⟨fun h=>z1.2 ?_,fun h=>?_⟩;omega;(have:=z1.1 h;omega))|(symm;first|exact decide_eq_true (z1.2 (by omega))|exact decide_eq_false (fun h=>by have:=z1.1 h;omega)|(exfalso;omega))
   refine s1 (E7 _ _ _) rfl rfl rfl ?_;refine s5 rfl (fun g4=>?_) fun g4=>?_
   ·refine s7 [.bool _] rfl ?_;have z1:=J7 m w b r cl;have z0:=K1 w;refine l1 ?_;first|(refine decide_eq_decide.2 ⟨fun h=>z1.2 ?_,fun h=>?_⟩;omega;(have:=z1.1 h;omega))|(symm;first|exact decide_eq_true (z1.2 (by omega))|exact decide_eq_false (fun h=>by have:=z1.1 h;omega)|(exfalso;omega))
   refine s1 (F4 _ _ _) rfl rfl rfl ?_;refine s5 rfl (fun g5=>?_) fun g5=>?_
   ·refine s7 [.bool _] rfl ?_;have z1:=J7 m w b r cl;have z0:=K1 w;refine l1 ?_;first|(refine decide_eq_decide.2 ⟨fun h=>z1.2 ?_,fun h=>?_⟩;omega;(have:=z1.1 h;omega))|(symm;first|exact decide_eq_true (z1.2 (by omega))|exact decide_eq_false (fun h=>by have:=z1.1 h;omega)|(exfalso;omega))
   refine s1 (E7 _ _ _) rfl rfl rfl ?_;refine s5 rfl (fun g6=>?_) fun g6=>?_
   ·refine s7 [.bool _] rfl ?_;have z1:=J7 m w b r cl;have z0:=K1 w;refine l1 ?_;first|(refine decide_eq_decide.2 ⟨fun h=>z1.2 ?_,fun h=>?_⟩;omega;(have:=z1.1 h;omega))|(symm;first|exact decide_eq_true (z1.2 (by omega))|exact decide_eq_false (fun h=>by have:=z1.1 h;omega)|(exfalso;omega))
   refine s1 (F4 _ _ _) rfl rfl rfl ?_;refine s5 rfl (fun g7=>?_) fun g7=>?_
   ·refine s7 [.bool _] rfl ?_;have z1:=J7 m w b r cl;have z0:=K1 w;refine l1 ?_;first|(refine decide_eq_decide.2 ⟨fun h=>z1.2 ?_,fun h=>?_⟩;omega;(have:=z1.1 h;omega))|(symm;first|exact decide_eq_true (z1.2 (by omega))|exact decide_eq_false (fun h=>by have:=z1.1 h;omega)|(exfalso;omega))
   refine s1 (E7 _ _ _) rfl rfl rfl ?_;refine s5 rfl (fun g8=>?_) fun g8=>?_
   ·refine s7 [.bool _] rfl ?_;have z1:=J7 m w b r cl;have z0:=K1 w;refine l1 ?_;first|(refine decide_eq_decide.2 ⟨fun h=>z1.2 ?_,fun h=>?_⟩;omega;(have:=z1.1 h;omega))|(symm;first|exact decide_eq_true (z1.2 (by omega))|exact decide_eq_false (fun h=>by have:=z1.1 h;omega)|(exfalso;omega))
   refine s1 (F4 _ _ _) rfl rfl rfl ?_;refine s5 rfl (fun g9=>?_) fun g9=>?_
   ·refine s7 [.bool _] rfl ?_;have z1:=J7 m w b r cl;have z0:=K1 w;refine l1 ?_;first|(refine decide_eq_decide.2 ⟨fun h=>z1.2 ?_,fun h=>?_⟩;omega;(have:=z1.1 h;omega))|(symm;first|exact decide_eq_true (z1.2 (by omega))|exact decide_eq_false (fun h=>by have:=z1.1 h;omega)|(exfalso;omega))
   refine s1 (E7 _ _ _) rfl rfl rfl ?_;refine s5 rfl (fun g10=>?_) fun g10=>?_
   ·refine s7 [.bool _] rfl ?_;have z1:=J7 m w b r cl;have z0:=K1 w;refine l1 ?_;first|(refine decide_eq_decide.2 ⟨fun h=>z1.2 ?_,fun h=>?_⟩;omega;(have:=z1.1 h;omega))|(symm;first|exact decide_eq_true (z1.2 (by omega))|exact decide_eq_false (fun h=>by have:=z1.1 h;omega)|(exfalso;omega))
   refine s1 (F4 _ _ _) rfl rfl rfl ?_;refine s7 [.bool _] rfl ?_;have z1:=J7 m w b r cl;have z0:=K1 w;refine l1 ?_;first|(refine decide_eq_decide.2 ⟨fun h=>z1.2 ?_,fun h=>?_⟩;omega;(have:=z1.1 h;omega))|(symm;first|exact decide_eq_true (z1.2 (by omega))|exact decide_eq_false (fun h=>by have:=z1.1 h;omega)|(exfalso;omega))
  refine s1 (A8 _ _ _) rfl rfl rfl ?_;refine s4 rfl (fun g1=>?_) fun g1=>?_
  ·refine s1 (E7 _ _ _) rfl rfl rfl ?_;refine s5 rfl (fun g2=>?_) fun g2=>?_
   ·refine s7 [.bool _] rfl ?_;have z1:=J7 m w b r cl;have z0:=K1 w;refine l1 ?_;first|(refine decide_eq_decide.2 ⟨fun h=>z1.2 ?_,fun h=>?_⟩;omega;(have:=z1.1 h;omega))|(symm;first|exact decide_eq_true (z1.2 (by omega))|exact decide_eq_false (fun h=>by have:=z1.1 h;omega)|(exfalso;omega))
   refine s1 (F4 _ _ _) rfl rfl rfl ?_;refine s5 rfl (fun g3=>?_) fun g3=>?_
   ·refine s7 [.bool _] rfl ?_;have z1:=J7 m w b r cl;have z0:=K1 w;refine l1 ?_;first|(refine decide_eq_decide.2 ⟨fun h=>z1.2 ?_,fun h=>?_⟩;omega;(have:=z1.1 h;omega))|(symm;first|exact decide_eq_true (z1.2 (by omega))|exact decide_eq_false (fun h=>by have:=z1.1 h;omega)|(exfalso;omega))
   refine s1 (E7 _ _ _) rfl rfl rfl ?_;refine s5 rfl (fun g4=>?_) fun g4=>?_
   ·refine s7 [.bool _] rfl ?_;have z1:=J7 m w b r cl;have z0:=K1 w;refine l1 ?_;first|(refine decide_eq_decide.2 ⟨fun h=>z1.2 ?_,fun h=>?_⟩;omega;(have:=z1.1 h;omega))|(symm;first|exact decide_eq_true (z1.2 (by omega))|exact decide_eq_false (fun h=>by have:=z1.1 h;omega)|(exfalso;omega))
   refine s1 (F4 _ _ _) rfl rfl rfl ?_;refine s5 rfl (fun g5=>?_) fun g5=>?_
   ·refine s7 [.bool _] rfl ?_;have z1:=J7 m w b r cl;have z0:=K1 w;refine l1 ?_;first|(refine decide_eq_decide.2 ⟨fun h=>z1.2 ?_,fun h=>?_⟩;omega;(have:=z1.1 h;omega))|(symm;first|exact decide_eq_true (z1.2 (by omega))|exact decide_eq_false (fun h=>by have:=z1.1 h;omega)|(exfalso;omega))
   refine s1 (E7 _ _ _) rfl rfl rfl ?_;refine s5 rfl (fun g6=>?_) fun g6=>?_
   ·refine s7 [.bool _] rfl ?_;have z1:=J7 m w b r cl;have z0:=K1 w;refine l1 ?_;first|(refine decide_eq_decide.2 ⟨fun h=>z1.2 ?_,fun h=>?_⟩;omega;(have:=z1.1 h;omega))|(symm;first|exact decide_eq_true (z1.2 (by omega))|exact decide_eq_false (fun h=>by have:=z1.1 h;omega)|(exfalso;omega))
   refine s1 (F4 _ _ _) rfl rfl rfl ?_;refine s5 rfl (fun g7=>?_) fun g7=>?_
   ·refine s7 [.bool _] rfl ?_;have z1:=J7 m w b r cl;have z0:=K1 w;refine l1 ?_;first|(refine decide_eq_decide.2 ⟨fun h=>z1.2 ?_,fun h=>?_⟩;omega;(have:=z1.1 h;omega))|(symm;first|exact decide_eq_true (z1.2 (by omega))|exact decide_eq_false (fun h=>by have:=z1.1 h;omega)|(exfalso;omega))
   refine s1 (E7 _ _ _) rfl rfl rfl ?_;refine s5 rfl (fun g8=>?_) fun g8=>?_
   ·refine s7 [.bool _] rfl ?_;have z1:=J7 m w b r cl;have z0:=K1 w;refine l1 ?_;first|(refine decide_eq_decide.2 ⟨fun h=>z1.2 ?_,fun h=>?_⟩;omega;(have:=z1.1 h;omega))|(symm;first|exact decide_eq_true (z1.2 (by omega))|exact decide_eq_false (fun h=>by have:=z1.1 h;omega)|(exfalso;omega))
   refine s1 (F4 _ _ _) rfl rfl rfl ?_;refine s5 rfl (fun g9=>?_) fun g9=>?_
   ·refine s7 [.bool _] rfl ?_;have z1:=J7 m w b r cl;have z0:=K1 w;refine l1 ?_;first|(refine decide_eq_decide.2 ⟨fun h=>z1.2 ?_,fun h=>?_⟩;omega;(have:=z1.1 h;omega))|(symm;first|exact decide_eq_true (z1.2 (by omega))|exact decide_eq_false (fun h=>by have:=z1.1 h;omega)|(exfalso;omega))
   refine s1 (E7 _ _ _) rfl rfl rfl ?_;refine s5 rfl (fun g10=>?_) fun g10=>?_
   ·refine s7 [.bool _] rfl ?_;have z1:=J7 m w b r cl;have z0:=K1 w;refine l1 ?_;first|(refine decide_eq_decide.2 ⟨fun h=>z1.2 ?_,fun h=>?_⟩;omega;(have:=z1.1 h;omega))|(symm;first|exact decide_eq_true (z1.2 (by omega))|exact decide_eq_false (fun h=>by have:=z1.1 h;omega)|(exfalso;omega))
   refine s1 (F4 _ _ _) rfl rfl rfl ?_;refine s7 [.bool _] rfl ?_;have z1:=J7 m w b r cl;have z0:=K1 w;refine l1 ?_;first|(refine decide_eq_decide.2 ⟨fun h=>z1.2 ?_,fun h=>?_⟩;omega;(have:=z1.1 h;omega))|(symm;first|exact decide_eq_true (z1.2 (by omega))|exact decide_eq_false (fun h=>by have:=z1.1 h;omega)|(exfalso;omega))
  refine s1 (E7 _ _ _) rfl rfl rfl ?_;refine s5 rfl (fun g2=>?_) fun g2=>?_
  ·refine s7 [.bool _] rfl ?_;have z1:=J7 m w b r cl;have z0:=K1 w;refine l1 ?_;first|(refine decide_eq_decide.2 ⟨fun h=>z1.2 ?_,fun h=>?_⟩;omega;(have:=z1.1 h;omega))|(symm;first|exact decide_eq_true (z1.2 (by omega))|exact decide_eq_false (fun h=>by have:=z1.1 h;omega)|(exfalso;omega))
  refine s1 (F4 _ _ _) rfl rfl rfl ?_;refine s5 rfl (fun g3=>?_) fun g3=>?_
  ·refine s7 [.bool _] rfl ?_;have z1:=J7 m w b r cl;have z0:=K1 w;refine l1 ?_;first|(refine decide_eq_decide.2 ⟨fun h=>z1.2 ?_,fun h=>?_⟩;omega;(have:=z1.1 h;omega))|(symm;first|exact decide_eq_true (z1.2 (by omega))|exact decide_eq_false (fun h=>by have:=z1.1 h;omega)|(exfalso;omega))
  refine s1 (E7 _ _ _) rfl rfl rfl ?_;refine s5 rfl (fun g4=>?_) fun g4=>?_
  ·refine s7 [.bool _] rfl ?_;have z1:=J7 m w b r cl;have z0:=K1 w;refine l1 ?_;first|(refine decide_eq_decide.2 ⟨fun h=>z1.2 ?_,fun h=>?_⟩;omega;(have:=z1.1 h;omega))|(symm;first|exact decide_eq_true (z1.2 (by omega))|exact decide_eq_false (fun h=>by have:=z1.1 h;omega)|(exfalso;omega))
  refine s1 (F4 _ _ _) rfl rfl rfl ?_;refine s5 rfl (fun g5=>?_) fun g5=>?_
  ·refine s7 [.bool _] rfl ?_;have z1:=J7 m w b r cl;have z0:=K1 w;refine l1 ?_;first|(refine decide_eq_decide.2 ⟨fun h=>z1.2 ?_,fun h=>?_⟩;omega;(have:=z1.1 h;omega))|(symm;first|exact decide_eq_true (z1.2 (by omega))|exact decide_eq_false (fun h=>by have:=z1.1 h;omega)|(exfalso;omega))
  refine s1 (E7 _ _ _) rfl rfl rfl ?_;refine s5 rfl (fun g6=>?_) fun g6=>?_
  ·refine s7 [.bool _] rfl ?_;have z1:=J7 m w b r cl;have z0:=K1 w;refine l1 ?_;first|(refine decide_eq_decide.2 ⟨fun h=>z1.2 ?_,fun h=>?_⟩;omega;(have:=z1.1 h;omega))|(symm;first|exact decide_eq_true (z1.2 (by omega))|exact decide_eq_false (fun h=>by have:=z1.1 h;omega)|(exfalso;omega))
  refine s1 (F4 _ _ _) rfl rfl rfl ?_;refine s5 rfl (fun g7=>?_) fun g7=>?_
  ·refine s7 [.bool _] rfl ?_;have z1:=J7 m w b r cl;have z0:=K1 w;refine l1 ?_;first|(refine decide_eq_decide.2 ⟨fun h=>z1.2 ?_,fun h=>?_⟩;omega;(have:=z1.1 h;omega))|(symm;first|exact decide_eq_true (z1.2 (by omega))|exact decide_eq_false (fun h=>by have:=z1.1 h;omega)|(exfalso;omega))
  refine s1 (E7 _ _ _) rfl rfl rfl ?_;refine s5 rfl (fun g8=>?_) fun g8=>?_
  ·refine s7 [.bool _] rfl ?_;have z1:=J7 m w b r cl;have z0:=K1 w;refine l1 ?_;first|(refine decide_eq_decide.2 ⟨fun h=>z1.2 ?_,fun h=>?_⟩;omega;(have:=z1.1 h;omega))|(symm;first|exact decide_eq_true (z1.2 (by omega))|exact decide_eq_false (fun h=>by have:=z1.1 h;omega)|(exfalso;omega))
  refine s1 (F4 _ _ _) rfl rfl rfl ?_;refine s5 rfl (fun g9=>?_) fun g9=>?_
  ·refine s7 [.bool _] rfl ?_;have z1:=J7 m w b r cl;have z0:=K1 w;refine l1 ?_;first|(refine decide_eq_decide.2 ⟨fun h=>z1.2 ?_,fun h=>?_⟩;omega;(have:=z1.1 h;omega))|(symm;first|exact decide_eq_true (z1.2 (by omega))|exact decide_eq_false (fun h=>by have:=z1.1 h;omega)|(exfalso;omega))
  refine s1 (E7 _ _ _) rfl rfl rfl ?_;refine s5 rfl (fun g10=>?_) fun g10=>?_
  ·refine s7 [.bool _] rfl ?_;have z1:=J7 m w b r cl;have z0:=K1 w;refine l1 ?_;first|(refine decide_eq_decide.2 ⟨fun h=>z1.2 ?_,fun h=>?_⟩;omega;(have:=z1.1 h;omega))|(symm;first|exact decide_eq_true (z1.2 (by omega))|exact decide_eq_false (fun h=>by have:=z1.1 h;omega)|(exfalso;omega))
  refine s1 (F4 _ _ _) rfl rfl rfl ?_;refine s7 [.bool _] rfl ?_;have z1:=J7 m w b r cl;have z0:=K1 w;refine l1 ?_;first|(refine decide_eq_decide.2 ⟨fun h=>z1.2 ?_,fun h=>?_⟩;omega;(have:=z1.1 h;omega))|(symm;first|exact decide_eq_true (z1.2 (by omega))|exact decide_eq_false (fun h=>by have:=z1.1 h;omega)|(exfalso;omega))
 ·cases hs
def B1q:List U→Option (Nat×List U)
 | [.str s,.str u]=>if u=[27]then some (0,[.bool (decide (0≤Lib.indexByte s 27))])else none
 | _=>none
theorem B8r(s:(List UInt8))(u:(List UInt8))(hc:u=[27]):B1q [.str s,.str u]=some (0,[.bool (decide (0≤Lib.indexByte s 27))]):=if_pos hc
theorem C19{G:Nat→Option Obj}(hst:E6 Tryz.prog G gl H0 n0):T9 Tryz.prog G 28 [.s 9,.s 9] B1q [.s 8]:=by
 intro us outs w vs R hsh hs hG hR;unfold B1q at hs;split at hs
 ·skip;rename_i s u;split at hs
  ·rename_i hc;cases hs;have hv:=A0f (vs2:=[.string ⟨⟨s⟩⟩,.string ⟨⟨u⟩⟩]) hsh rfl;subst hv;refine B33 (vr:=[.bool (decide (0≤Lib.indexByte s 27))]) Tryz.func28 rfl (by kernel_rfl) rfl ?_;subst hc;exact(Tryz.strings_Contains_one ⟨⟨s⟩⟩ 27 w).mono fun e w' ⟨h1,h2⟩=>⟨h1,by subst h2;exact RowKit.Below.refl _ _⟩
  ·cases hs
 ·cases hs
def bU(b:Bool):Option Unit:=if b then some ()else none
theorem n7{b:Bool}{u:Unit}(h:bU b=some u):b=true:=by cases b<;>first|rfl|cases h
theorem n8{b:Bool}(h:bU b=none):b=false:=by cases b<;>first|rfl|cases h
def isE(x:UInt8):Bool:=decide (x=27)
theorem B8i{l:List UInt8}{i:Int}(h:(l.length:Int)≤i):(l.drop i.toNat).any isE=false:=by rw[A7W l h];rfl
theorem B9m{x:UInt8}(h:((x.toNat:Nat):Int)=27):x=27:=by
 apply UInt8.toNat_inj.1;show x.toNat=27;omega
theorem A9u(l:List UInt8)(n:Nat):l.getD n default=l.getD n 0:=rfl
theorem C1z{l:List UInt8}{i:Int}(h0:0≤i)(h1:i<(l.length:Int))(h2:(((l.getD i.toNat 0).toNat:Nat):Int)=27):(l.drop i.toNat).any isE=true:=by
 rw[A0b l h0 h1,Z0,A9u,B9m h2];rfl
theorem C10{l:List UInt8}{i:Int}(h0:0≤i)(h1:i<(l.length:Int))(h2:¬(((l.getD i.toNat 0).toNat:Nat):Int)=27):(l.drop i.toNat).any isE=(l.drop (i+1).toNat).any isE:=by
 rw[A0b l h0 h1,Z0,A9u];have:isE (l.getD i.toNat 0)=false:=decide_eq_false fun h=>h2 (by rw[h];rfl)
 rw[this,P2]
noncomputable def C0B:List (FuncId×FnC):=(34,U2 Tryz.prog [.s 3,.s 3] Q0 [.s 8])::(61,U2 Tryz.prog [.a [3,3,3,3,3,3,3,9]] A8S [.s 8])::L0
theorem B7b{G:Nat→Option Obj}(hst:E6 Tryz.prog G gl H0 n0):L5 Tryz.prog G gl C0B:=(.cons (B3K hst) (.cons (B9K hst) .nil))
def A8T:List U→Option (Nat×List U)
 | [.int .i64 i,.int .i64 k,.int .i64 c,.int .i64 m,.int .i64 w,.int .i64 b,.int .i64 r,.int .i64 cl,.str t]=>if 0≤i∧i≤(t.length:Int)∧(t.length:Int)≤140737488351232 then A8E (bU ((t.drop i.toNat).any isE)) [.int .i64 k,.int .i64 c,.int .i64 m,.int .i64 w,.int .i64 b,.int .i64 r,.int .i64 cl,.str t] (fun _=>[])else none
 | _=>none
theorem A4e(i:Int)(k:Int)(c:Int)(m:Int)(w:Int)(b:Int)(r:Int)(cl:Int)(t:(List UInt8))(hc:0≤i∧i≤(t.length:Int)∧(t.length:Int)≤140737488351232):A8T [.int .i64 i,.int .i64 k,.int .i64 c,.int .i64 m,.int .i64 w,.int .i64 b,.int .i64 r,.int .i64 cl,.str t]=A8E (bU ((t.drop i.toNat).any isE)) [.int .i64 k,.int .i64 c,.int .i64 m,.int .i64 w,.int .i64 b,.int .i64 r,.int .i64 cl,.str t] (fun _=>[]):=if_pos hc
def B9S:d7:=⟨[(1,.pointer (some ⟨6,0,none⟩)),(3,h 0 3)],[(6,.cells 23 [h 1 3,h 2 3,h 3 3,h 4 3,h 5 3,h 6 3,h 7 3,h 8 9])],9,[⟨.exit 1,[(1,.pointer (some ⟨6,0,none⟩))],[(6,.cells 23 [h 0 3,h 1 3,h 2 3,h 3 3,h 4 3,h 5 3,h 6 3,h 7 9])],8⟩,⟨.ret,[(2,.bool false)],[],0⟩]⟩
noncomputable def B5x:Code:=(Tryz.f32.body).getD .skip
noncomputable def B9N:Code:=match J2 [true,false,true,false,true,true,true,true,true,false,false,true,false] B5x with|some (.loop x)=>x|_=>.skip
theorem B9R:Tryz.f32.body=some B5x:=rfl
theorem B9P:J2 [true,false,true,false,true,true,true,true,true,false,false,true,false] B5x=some (.loop B9N):=by kernel_rfl
def B9O:Tr:=.lt 3 (.len) [h 8 9]<|.lt 8 (.bin .lss) [h 0 3,h 9 3]<|.br 10 (.lt 4 (.idx) [h 8 9,h 0 3]<|.lt 8 (.bin .eql) [h 11 4,.int .u8 (27)]<|.br 12 (.ret [jI 1]) (.lt 3 (.bin .add) [h 0 3,jI 1]<|.ret [jI (-1),h 13 3,h 1 3,h 2 3,h 3 3,h 4 3,h 5 3,h 6 3,h 7 3,h 8 9])) (.ret [jI 0,h 1 3,h 2 3,h 3 3,h 4 3,h 5 3,h 6 3,h 7 3,h 8 9])
def B9Q:List U→Nat
 | [.int .i64 i,.int .i64 k,.int .i64 c,.int .i64 m,.int .i64 w,.int .i64 b,.int .i64 r,.int .i64 cl,.str t]=>((t.length:Int)-i).toNat
 | _=>0
theorem B5w(i:Int)(k:Int)(c:Int)(m:Int)(w:Int)(b:Int)(r:Int)(cl:Int)(t:(List UInt8)):B9Q [.int .i64 i,.int .i64 k,.int .i64 c,.int .i64 m,.int .i64 w,.int .i64 b,.int .i64 r,.int .i64 cl,.str t]=((t.length:Int)-i).toNat:=rfl
theorem C1M{G:Nat→Option Obj}(hst:E6 Tryz.prog G gl H0 n0):∀ (E:Nat→U) (base:Nat),@v6 ⟨E,G⟩ Tryz.prog base gl Tryz.f32.ntmps B9N (A1M Tryz.prog gl n0 7 B9S A8T):=by
 refine A4l (C:=cx C0B []) (dep:=60) (f:=32) (n0:=n0) (nB:=7) (H0:=H0) B9Q B9O (cxg (B7b hst) .nil) hst Tryz.func32 B9R B9P (by kernel_rfl) (by kernel_rfl) (by kernel_rfl) ?_;intro us d outs hs;have hs0:=hs;unfold A8T at hs;split at hs
 ·skip;rename_i i k c m w b r cl t;split at hs
  ·rename_i hc;clear hs hs0;refine⟨rfl,?_⟩;unfold B9O;refine s0 (.cons 8 _ (.cons 7 _ (.cons 6 _ (.cons 5 _ (.cons 4 _ (.cons 3 _ (.cons 2 _ (.cons 1 _ (.cons 0 _ (.nil)))))))))) rfl (by simp[Ev.ok,Ev.len]) ?_;refine s1 (A7I _) rfl rfl rfl ?_;refine s1 (P9 _ _ _) rfl rfl rfl ?_;refine s5 rfl (fun g0=>?_) fun g0=>?_
   ·refine s7 [.int .i64 _,.int .i64 _,.int .i64 _,.int .i64 _,.int .i64 _,.int .i64 _,.int .i64 _,.int .i64 _,.str _] rfl ?_;refine Z9 (d:=0) ?_;rw[A4e i k c m w b r cl t hc,B8i (by omega)];rfl
   refine s1 (B2s _ _ _ (by omega) (by simp[*]<;>omega)) rfl rfl rfl ?_;refine s1 (A8 _ _ _) rfl rfl rfl ?_;refine s4 rfl (fun g1=>?_) fun g1=>?_
   ·refine s7 [.int .i64 _] rfl ?_;refine Z9 (d:=1) ?_;rw[A4e i k c m w b r cl t hc,C1z (i:=i) (by omega) (by omega) ‹_›];rfl
   first|refine s1 (J8 (D8 (by omega) (by omega))) rfl rfl rfl ?_|refine s1 (L4 _ _ _) rfl rfl rfl ?_
   refine s7 [.int .i64 _,.int .i64 _,.int .i64 _,.int .i64 _,.int .i64 _,.int .i64 _,.int .i64 _,.int .i64 _,.int .i64 _,.str _] rfl ?_;refine A0X ?_ ?_
   ·rw[A4e i k c m w b r cl t hc,C10 (i:=i) (by omega) (by omega) ‹_›];exact A4e (i+1) k c m w b r cl t ⟨by omega,by omega,hc.2.2⟩
   ·rw[B5w,B5w];omega
  ·cases hs
 ·cases hs
noncomputable def B7u:List LpE:=(32,([true,false,true,false,true,true,true,true,true,false,false,true,false],A1M Tryz.prog gl n0 7 B9S A8T))::[]
theorem B18{G:Nat→Option Obj}(hst:E6 Tryz.prog G gl H0 n0):A2X Tryz.prog G gl B7u:=.cons Tryz.func32 B9R B9P (C1M hst) .nil
theorem B8z(t:List UInt8):(0≤Lib.indexByte t 27)↔t.any isE=true:=by
 induction t with
 | nil=>simp[Lib.indexByte]
 | cons b l ih =>
   have h:=Lib.indexByte_ge l 27;rw[Lib.indexByte,Z0];by_cases e:b=27
   ·subst e;simp[isE]
   ·have e1:(b == 27)=false:=by simp[e]
    have e2:isE b=false:=decide_eq_false e;rw[e1,e2,P2,← ih];by_cases e3:Lib.indexByte l 27 = -1
    ·simp[e3]
    ·simp[e3];omega
def M2(k c m w b r cl:Int)(t:List UInt8):Prop :=
 (k=1∧w=0∧b=0∧r=0∧cl=0∧t=[]∧A4 c m)∨(k=2∧c=0∧t=[]∧msP m w b r cl)∨(k=3∧c=0∧m=0∧w=0∧b=0∧r=0∧cl=0∧t.length≤1000∧t.any isE=false)∨(k=4∧c=0∧m=0∧b=0∧r=0∧cl=0∧t=[]∧0≤w∧w≤1)
instance(k c m w b r cl:Int)(t:List UInt8):Decidable (M2 k c m w b r cl t):=by unfold M2;infer_instance
noncomputable def C0A:List (FuncId×FnC):=(34,U2 Tryz.prog [.s 3,.s 3] Q0 [.s 8])::(61,U2 Tryz.prog [.a [3,3,3,3,3,3,3,9]] A8S [.s 8])::L0
theorem B7a{G:Nat→Option Obj}(hst:E6 Tryz.prog G gl H0 n0):L5 Tryz.prog G gl C0A:=(.cons (B3K hst) (.cons (B9K hst) .nil))
def A5p:List U→Option (Nat×List U)
 | [.int .i64 k,.int .i64 c,.int .i64 m,.int .i64 w,.int .i64 b,.int .i64 r,.int .i64 cl,.str t]=>if -9223372036854775808≤m∧m≤9223372036854775807∧(t.length:Int)≤140737488351232 then some (0,[.bool (decide (M2 k c m w b r cl t))])else none
 | _=>none
theorem B3L(k:Int)(c:Int)(m:Int)(w:Int)(b:Int)(r:Int)(cl:Int)(t:(List UInt8))(hc : -9223372036854775808≤m∧m≤9223372036854775807∧(t.length:Int)≤140737488351232):A5p [.int .i64 k,.int .i64 c,.int .i64 m,.int .i64 w,.int .i64 b,.int .i64 r,.int .i64 cl,.str t]=some (0,[.bool (decide (M2 k c m w b r cl t))]):=if_pos hc
def B9M:Tr:=.lt 8 (.bin .eql) [h 0 3,jI 1]<|.br 8 (.lt 8 (.eqs) [h 0 3,h 0 3,h 1 3,h 1 3,h 2 3,h 2 3,h 3 3,jI 0,h 4 3,jI 0,h 5 3,jI 0,h 6 3,jI 0,h 7 9,.string ⟨⟨[]⟩⟩]<|.br 9 (.fn Q0 [h 1 3,h 2 3] 1<|.ret [h 10 8]) (.ret [.bool false])) (.lt 8 (.bin .eql) [h 0 3,jI 2]<|.br 9 (.lt 8 (.eqs) [h 0 3,h 0 3,h 1 3,jI 0,h 2 3,h 2 3,h 3 3,h 3 3,h 4 3,h 4 3,h 5 3,h 5 3,h 6 3,h 6 3,h 7 9,.string ⟨⟨[]⟩⟩]<|.br 10 (.fn A8S [h 0 3,h 1 3,h 2 3,h 3 3,h 4 3,h 5 3,h 6 3,h 7 9] 1<|.ret [h 11 8]) (.ret [.bool false])) (.lt 8 (.bin .eql) [h 0 3,jI 3]<|.br 10 (.lp A8T [jI 0,h 0 3,h 1 3,h 2 3,h 3 3,h 4 3,h 5 3,h 6 3,h 7 9] 0 8 (.lt 8 (.eqs) [h 11 3,h 11 3,h 12 3,jI 0,h 13 3,jI 0,h 14 3,jI 0,h 15 3,jI 0,h 16 3,jI 0,h 17 3,jI 0,h 18 9,h 18 9]<|.br 19 (.lt 3 (.len) [h 18 9]<|.lt 8 (.bin .leq) [h 20 3,jI 1000]<|.ret [h 21 8]) (.ret [.bool false])) (.lp A8T [jI 0,h 0 3,h 1 3,h 2 3,h 3 3,h 4 3,h 5 3,h 6 3,h 7 9] 1 0 (.ret [.bool false]) (.no))) (.lt 8 (.bin .eql) [h 0 3,jI 4]<|.br 11 (.lt 8 (.eqs) [h 0 3,h 0 3,h 1 3,jI 0,h 2 3,jI 0,h 3 3,h 3 3,h 4 3,jI 0,h 5 3,jI 0,h 6 3,jI 0,h 7 9,.string ⟨⟨[]⟩⟩]<|.br 12 (.lt 8 (.bin .geq) [h 3 3,jI 0]<|.br 13 (.lt 8 (.bin .leq) [h 3 3,jI 1]<|.ret [h 14 8]) (.ret [.bool false])) (.ret [.bool false])) (.ret [.bool false]))))
theorem B5v{G:Nat→Option Obj}(hst:E6 Tryz.prog G gl H0 n0):T9 Tryz.prog G 32 [.a [3,3,3,3,3,3,3,9]] A5p [.s 8]:=by
 refine I5 (C:=cx C0A B7u) (d:=60) B9M (cxg (B7a hst) (B18 hst)) hst ⟨Tryz.f32,_,Tryz.func32,rfl⟩ (by kernel_rfl) (by kernel_rfl) ?_;intro us outs hs;unfold A5p at hs;split at hs
 ·skip;rename_i k c m w b r cl t;split at hs
  ·rename_i hc;cases hs;unfold B9M;refine s0 (.cons 7 _ (.cons 6 _ (.cons 5 _ (.cons 4 _ (.cons 3 _ (.cons 2 _ (.cons 1 _ (.cons 0 _ (.nil))))))))) rfl (by simp[Ev.ok,Ev.len]) ?_;refine s1 (A8 _ _ _) rfl rfl rfl ?_;refine s4 rfl (fun g0=>?_) fun g0=>?_
   ·refine s1 rfl rfl rfl rfl ?_;first|refine s5 rfl (fun g1=>?_) (fun g1=>?_)|refine s5B rfl (fun g1=>?_) (fun g1=>?_)
    ·refine s7 [.bool _] rfl ?_;refine l1 ?_;unfold M2
     (try replace g3:=n7 g3)
     (try replace g3:=n8 g3)
     first|(simp_all;done)|(simp_all;omega)
    refine s31 (M0 _ _ (by omega)) rfl ?_;refine s7 [.bool _] rfl ?_;refine l1 ?_;unfold M2
    (try replace g3:=n7 g3)
    (try replace g3:=n8 g3)
    first|(simp_all;done)|(simp_all;omega)
   refine s1 (A8 _ _ _) rfl rfl rfl ?_;refine s4 rfl (fun g1=>?_) fun g1=>?_
   ·refine s1 rfl rfl rfl rfl ?_;first|refine s5 rfl (fun g2=>?_) (fun g2=>?_)|refine s5B rfl (fun g2=>?_) (fun g2=>?_)
    ·refine s7 [.bool _] rfl ?_;refine l1 ?_;unfold M2
     (try replace g3:=n7 g3)
     (try replace g3:=n8 g3)
     first|(simp_all;done)|(simp_all;omega)
    refine s31 (B79 _ _ _ _ _ _ _ _) rfl ?_;refine s7 [.bool _] rfl ?_;refine l1 ?_;unfold M2
    (try replace g3:=n7 g3)
    (try replace g3:=n8 g3)
    first|(simp_all;done)|(simp_all;omega)
   refine s1 (A8 _ _ _) rfl rfl rfl ?_;refine s4 rfl (fun g2=>?_) fun g2=>?_
   ·refine s6 (A4e _ _ _ _ _ _ _ _ _ (by omega)) rfl (fun _=>rfl) (fun g3=>?_) (fun v3 g3=>?_)
    ·show Tr.sav _ _ (.cons 18 _ (.cons 17 _ (.cons 16 _ (.cons 15 _ (.cons 14 _ (.cons 13 _ (.cons 12 _ (.cons 11 _ _))))))));refine s1 rfl rfl rfl rfl ?_;first|refine s5 rfl (fun g4=>?_) (fun g4=>?_)|refine s5B rfl (fun g4=>?_) (fun g4=>?_)
     ·refine s7 [.bool _] rfl ?_;refine l1 ?_;unfold M2
      (try replace g3:=n7 g3)
      (try replace g3:=n8 g3)
      first|(simp_all;done)|(simp_all;omega)
     refine s1 (A7I _) rfl rfl rfl ?_;refine s1 (F4 _ _ _) rfl rfl rfl ?_;refine s7 [.bool _] rfl ?_;refine l1 ?_;unfold M2
     (try replace g3:=n7 g3)
     (try replace g3:=n8 g3)
     first|(simp_all;done)|(simp_all;omega)
    show Tr.sav _ _ _;refine s7 [.bool _] rfl ?_;refine l1 ?_;unfold M2
    (try replace g3:=n7 g3)
    (try replace g3:=n8 g3)
    first|(simp_all;done)|(simp_all;omega)
   refine s1 (A8 _ _ _) rfl rfl rfl ?_;refine s5 rfl (fun g3=>?_) fun g3=>?_
   ·refine s7 [.bool _] rfl ?_;refine l1 ?_;unfold M2
    (try replace g3:=n7 g3)
    (try replace g3:=n8 g3)
    first|(simp_all;done)|(simp_all;omega)
   refine s1 rfl rfl rfl rfl ?_;first|refine s5 rfl (fun g4=>?_) (fun g4=>?_)|refine s5B rfl (fun g4=>?_) (fun g4=>?_)
   ·refine s7 [.bool _] rfl ?_;refine l1 ?_;unfold M2
    (try replace g3:=n7 g3)
    (try replace g3:=n8 g3)
    first|(simp_all;done)|(simp_all;omega)
   refine s1 (E7 _ _ _) rfl rfl rfl ?_;refine s5 rfl (fun g5=>?_) fun g5=>?_
   ·refine s7 [.bool _] rfl ?_;refine l1 ?_;unfold M2
    (try replace g3:=n7 g3)
    (try replace g3:=n8 g3)
    first|(simp_all;done)|(simp_all;omega)
   refine s1 (F4 _ _ _) rfl rfl rfl ?_;refine s7 [.bool _] rfl ?_;refine l1 ?_;unfold M2
   (try replace g3:=n7 g3)
   (try replace g3:=n8 g3)
   first|(simp_all;done)|(simp_all;omega)
  ·cases hs
 ·cases hs
noncomputable def C0C:List (FuncId×FnC):=(32,U2 Tryz.prog [.a [3,3,3,3,3,3,3,9]] A5p [.s 8])::L0
theorem B7c{G:Nat→Option Obj}(hst:E6 Tryz.prog G gl H0 n0):L5 Tryz.prog G gl C0C:=(.cons (B5v hst) .nil)
def T6:List U→Option (Nat×List U)
 | [.int .i64 k,.int .i64 c,.int .i64 m,.int .i64 w,.int .i64 b,.int .i64 r,.int .i64 cl,.str t]=>if -9223372036854775808≤m∧m≤9223372036854775807∧(t.length:Int)≤140737488351232 then some (0,[.int .i64 (if M2 k c m w b r cl t then 0 else 430)])else none
 | _=>none
theorem N5(k:Int)(c:Int)(m:Int)(w:Int)(b:Int)(r:Int)(cl:Int)(t:(List UInt8))(hc : -9223372036854775808≤m∧m≤9223372036854775807∧(t.length:Int)≤140737488351232):T6 [.int .i64 k,.int .i64 c,.int .i64 m,.int .i64 w,.int .i64 b,.int .i64 r,.int .i64 cl,.str t]=some (0,[.int .i64 (if M2 k c m w b r cl t then 0 else 430)]):=if_pos hc
def B9U:Tr:=.fn A5p [h 0 3,h 1 3,h 2 3,h 3 3,h 4 3,h 5 3,h 6 3,h 7 9] 1<|.lt 8 (.un .not) [h 8 8]<|.br 9 (.ret [jI 430]) (.ret [jI 0])
theorem C1Q{G:Nat→Option Obj}(hst:E6 Tryz.prog G gl H0 n0):T9 Tryz.prog G 14 [.a [3,3,3,3,3,3,3,9]] T6 [.s 3]:=by
 refine I5 (C:=cx C0C B7u) (d:=60) B9U (cxg (B7c hst) (B18 hst)) hst ⟨Tryz.f14,_,Tryz.func14,rfl⟩ (by kernel_rfl) (by kernel_rfl) ?_;intro us outs hs;unfold T6 at hs;split at hs
 ·skip;rename_i k c m w b r cl t;split at hs
  ·rename_i hc;cases hs;unfold B9U;refine s0 (.cons 7 _ (.cons 6 _ (.cons 5 _ (.cons 4 _ (.cons 3 _ (.cons 2 _ (.cons 1 _ (.cons 0 _ (.nil))))))))) rfl (by simp[Ev.ok,Ev.len]) ?_;refine s31 (B3L _ _ _ _ _ _ _ _ hc) rfl ?_;first|refine s1 (F1 _) rfl rfl rfl ?_|refine s1 (N7 _) rfl rfl rfl ?_
   first|refine s4 rfl (fun g0=>?_) (fun g0=>?_)|refine s4B rfl (fun g0=>?_) (fun g0=>?_)
   ·refine s7 [.int .i64 _] rfl ?_;refine l0 ?_;first|(rw[if_pos (of_decide_eq_true ‹_›)];done)|(rw[if_neg (of_decide_eq_false ‹_›)];done)|(simp_all;done)
   refine s7 [.int .i64 _] rfl ?_;refine l0 ?_;first|(rw[if_pos (of_decide_eq_true ‹_›)];done)|(rw[if_neg (of_decide_eq_false ‹_›)];done)|(simp_all;done)
  ·cases hs
 ·cases hs
theorem A2C{a b c:Int}(h0:0≤b)(h1:b<c)(h2:(a=128∧c=64)∨(a=192∧c=32)∨(a=224∧c=16)∨(a=240∧c=8)):evU (.bin .or) [.int .u8 a,.int .u8 b]=.int .u8 (a+b):=by
 rw[A5z];have k1:∀ n:Nat,n<64→IntKind.u8.wrap (BitVec.ofInt IntKind.u8.bits 128 ||| BitVec.ofInt IntKind.u8.bits (n:Int)).toNat=128+(n:Int):=by decide
 have k2:∀ n:Nat,n<32→IntKind.u8.wrap (BitVec.ofInt IntKind.u8.bits 192 ||| BitVec.ofInt IntKind.u8.bits (n:Int)).toNat=192+(n:Int):=by decide
 have k3:∀ n:Nat,n<16→IntKind.u8.wrap (BitVec.ofInt IntKind.u8.bits 224 ||| BitVec.ofInt IntKind.u8.bits (n:Int)).toNat=224+(n:Int):=by decide
 have k4:∀ n:Nat,n<8→IntKind.u8.wrap (BitVec.ofInt IntKind.u8.bits 240 ||| BitVec.ofInt IntKind.u8.bits (n:Int)).toNat=240+(n:Int):=by decide
 obtain⟨n,rfl⟩:∃ n:Nat,b=n:=⟨b.toNat,by omega⟩;congr 1
 rcases h2 with⟨rfl,rfl⟩|⟨rfl,rfl⟩|⟨rfl,rfl⟩|⟨rfl,rfl⟩
 ·exact k1 n (by omega)
 ·exact k2 n (by omega)
 ·exact k3 n (by omega)
 ·exact k4 n (by omega)
theorem Y6{j:IntKind}(a:Int):evU (.conv .u8) [.int j a]=.int .u8 (a%256):=by
 rw[D9];congr 1
def C0i(c:Int):Int:=if okU c then c else 65533
def A9Z(c:Int):List Int:=if c<128 then[c]else if c<2048 then[192+c / 64,128+c%64]else if c<65536 then[224+c / 4096,128+c / 64%64,128+c%64]else[240+c / 262144,128+c / 4096%64,128+c / 64%64,128+c%64]
def A5_(c:Int):List UInt8:=iB (A9Z (C0i c))
theorem J4{c:Int}(h:okU c):C0i c=c:=if_pos h
theorem A1H{c:Int}(h:¬okU c):C0i c=65533:=if_neg h
theorem A1L{c:Int}(h:c<128):A9Z c=[c]:=if_pos h
theorem A1K{c:Int}(h:¬c<128)(h2:c<2048):A9Z c=[192+c / 64,128+c%64]:=by unfold A9Z;rw[if_neg h,if_pos h2]
theorem A1J{c:Int}(h:¬c<128)(h2:¬c<2048)(h3:c<65536):A9Z c=[224+c / 4096,128+c / 64%64,128+c%64]:=by unfold A9Z;rw[if_neg h,if_neg h2,if_pos h3]
theorem A1I{c:Int}(h:¬c<128)(h2:¬c<2048)(h3:¬c<65536):A9Z c=[240+c / 262144,128+c / 4096%64,128+c / 64%64,128+c%64]:=by unfold A9Z;rw[if_neg h,if_neg h2,if_neg h3]
noncomputable def C0D:List (FuncId×FnC):=L0
theorem B7d{G:Nat→Option Obj}(hst:E6 Tryz.prog G gl H0 n0):L5 Tryz.prog G gl C0D:=.nil
def A2P:List U→Option (Nat×List U)
 | [.int .i64 c]=>some (0,[.str (A5_ c)])
 | _=>none
theorem A1G(c:Int):A2P [.int .i64 c]=some (0,[.str (A5_ c)]):=rfl
def B9V:Tr:=.lt 8 (.bin .geq) [h 0 3,jI 0]<|.br 1 (.lt 8 (.bin .leq) [h 0 3,jI 1114111]<|.br 2 (.lt 3 (.bin .shr) [h 0 3,.int .u64 (11)]<|.lt 8 (.bin .neq) [h 3 3,jI 27]<|.lt 8 (.un .not) [h 4 8]<|.br 5 (.ret [.string ⟨⟨[239,191,189]⟩⟩]) (.lt 8 (.bin .lss) [h 0 3,jI 128]<|.br 6 (.lt 4 (.conv .u8) [h 0 3]<|.lt 9 (.mks) [h 7 4]<|.ret [h 8 9]) (.lt 8 (.bin .lss) [h 0 3,jI 2048]<|.br 7 (.lt 3 (.bin .shr) [h 0 3,.int .u64 (6)]<|.lt 4 (.conv .u8) [h 8 3]<|.lt 4 (.bin .or) [.int .u8 (192),h 9 4]<|.lt 3 (.bin .shr) [h 0 3,jI 0]<|.lt 4 (.conv .u8) [h 11 3]<|.lt 4 (.bin .and) [h 12 4,.int .u8 (63)]<|.lt 4 (.bin .or) [.int .u8 (128),h 13 4]<|.lt 9 (.mks) [h 10 4,h 14 4]<|.ret [h 15 9]) (.lt 8 (.bin .lss) [h 0 3,jI 65536]<|.br 8 (.lt 3 (.bin .shr) [h 0 3,.int .u64 (12)]<|.lt 4 (.conv .u8) [h 9 3]<|.lt 4 (.bin .or) [.int .u8 (224),h 10 4]<|.lt 3 (.bin .shr) [h 0 3,jI 6]<|.lt 4 (.conv .u8) [h 12 3]<|.lt 4 (.bin .and) [h 13 4,.int .u8 (63)]<|.lt 4 (.bin .or) [.int .u8 (128),h 14 4]<|.lt 3 (.bin .shr) [h 0 3,jI 0]<|.lt 4 (.conv .u8) [h 16 3]<|.lt 4 (.bin .and) [h 17 4,.int .u8 (63)]<|.lt 4 (.bin .or) [.int .u8 (128),h 18 4]<|.lt 9 (.mks) [h 11 4,h 15 4,h 19 4]<|.ret [h 20 9]) (.lt 3 (.bin .shr) [h 0 3,.int .u64 (18)]<|.lt 4 (.conv .u8) [h 9 3]<|.lt 4 (.bin .or) [.int .u8 (240),h 10 4]<|.lt 3 (.bin .shr) [h 0 3,jI 12]<|.lt 4 (.conv .u8) [h 12 3]<|.lt 4 (.bin .and) [h 13 4,.int .u8 (63)]<|.lt 4 (.bin .or) [.int .u8 (128),h 14 4]<|.lt 3 (.bin .shr) [h 0 3,jI 6]<|.lt 4 (.conv .u8) [h 16 3]<|.lt 4 (.bin .and) [h 17 4,.int .u8 (63)]<|.lt 4 (.bin .or) [.int .u8 (128),h 18 4]<|.lt 3 (.bin .shr) [h 0 3,jI 0]<|.lt 4 (.conv .u8) [h 20 3]<|.lt 4 (.bin .and) [h 21 4,.int .u8 (63)]<|.lt 4 (.bin .or) [.int .u8 (128),h 22 4]<|.lt 9 (.mks) [h 11 4,h 15 4,h 19 4,h 23 4]<|.ret [h 24 9]))))) (.ret [.string ⟨⟨[239,191,189]⟩⟩])) (.ret [.string ⟨⟨[239,191,189]⟩⟩])
theorem C1R{G:Nat→Option Obj}(hst:E6 Tryz.prog G gl H0 n0):T9 Tryz.prog G 77 [.s 3] A2P [.s 9]:=by
 refine I5 (C:=cx C0D []) (d:=60) B9V (cxg (B7d hst) .nil) hst ⟨Tryz.f77,_,Tryz.func77,rfl⟩ (by kernel_rfl) (by kernel_rfl) ?_;intro us outs hs;unfold A2P at hs;split at hs
 ·skip;rename_i c;cases hs;unfold B9V;refine s0 (.cons 0 _ (.nil)) rfl (by simp[Ev.ok,Ev.len]) ?_;refine s1 (E7 _ _ _) rfl rfl rfl ?_;refine s5 rfl (fun g0=>?_) fun g0=>?_
  ·refine s7 [.str _] rfl ?_;refine congrArg (fun z=>[U.str z]) ?_;symm;unfold A5_;first|(rw[J4 (by unfold okU;omega),A1L (by omega)];done)|(rw[J4 (by unfold okU;omega),A1L (by omega)];refine congrArg iB ?_;simp only[C8,and_true,true_and];omega)|(rw[J4 (by unfold okU;omega),A1K (by omega) (by omega)];done)|(rw[J4 (by unfold okU;omega),A1K (by omega) (by omega)];refine congrArg iB ?_;simp only[C8,and_true,true_and];omega)|(rw[J4 (by unfold okU;omega),A1J (by omega) (by omega) (by omega)];done)|(rw[J4 (by unfold okU;omega),A1J (by omega) (by omega) (by omega)];refine congrArg iB ?_;simp only[C8,and_true,true_and];omega)|(rw[J4 (by unfold okU;omega),A1I (by omega) (by omega) (by omega)];done)|(rw[J4 (by unfold okU;omega),A1I (by omega) (by omega) (by omega)];refine congrArg iB ?_;simp only[C8,and_true,true_and];omega)|(rw[A1H (by unfold okU;omega)];rfl)|(rw[A1H (by unfold okU;omega)];decide)
  refine s1 (F4 _ _ _) rfl rfl rfl ?_;refine s5 rfl (fun g1=>?_) fun g1=>?_
  ·refine s7 [.str _] rfl ?_;refine congrArg (fun z=>[U.str z]) ?_;symm;unfold A5_;first|(rw[J4 (by unfold okU;omega),A1L (by omega)];done)|(rw[J4 (by unfold okU;omega),A1L (by omega)];refine congrArg iB ?_;simp only[C8,and_true,true_and];omega)|(rw[J4 (by unfold okU;omega),A1K (by omega) (by omega)];done)|(rw[J4 (by unfold okU;omega),A1K (by omega) (by omega)];refine congrArg iB ?_;simp only[C8,and_true,true_and];omega)|(rw[J4 (by unfold okU;omega),A1J (by omega) (by omega) (by omega)];done)|(rw[J4 (by unfold okU;omega),A1J (by omega) (by omega) (by omega)];refine congrArg iB ?_;simp only[C8,and_true,true_and];omega)|(rw[J4 (by unfold okU;omega),A1I (by omega) (by omega) (by omega)];done)|(rw[J4 (by unfold okU;omega),A1I (by omega) (by omega) (by omega)];refine congrArg iB ?_;simp only[C8,and_true,true_and];omega)|(rw[A1H (by unfold okU;omega)];rfl)|(rw[A1H (by unfold okU;omega)];decide)
  refine s1 (m5 2048 (by decide) (by decide)) rfl rfl rfl ?_;refine s1 (H1 _ _ _) rfl rfl rfl ?_;refine s1 (F1 _) rfl rfl rfl ?_;refine s4 rfl (fun g2=>?_) fun g2=>?_
  ·refine s7 [.str _] rfl ?_;refine congrArg (fun z=>[U.str z]) ?_;symm;unfold A5_;first|(rw[J4 (by unfold okU;omega),A1L (by omega)];done)|(rw[J4 (by unfold okU;omega),A1L (by omega)];refine congrArg iB ?_;simp only[C8,and_true,true_and];omega)|(rw[J4 (by unfold okU;omega),A1K (by omega) (by omega)];done)|(rw[J4 (by unfold okU;omega),A1K (by omega) (by omega)];refine congrArg iB ?_;simp only[C8,and_true,true_and];omega)|(rw[J4 (by unfold okU;omega),A1J (by omega) (by omega) (by omega)];done)|(rw[J4 (by unfold okU;omega),A1J (by omega) (by omega) (by omega)];refine congrArg iB ?_;simp only[C8,and_true,true_and];omega)|(rw[J4 (by unfold okU;omega),A1I (by omega) (by omega) (by omega)];done)|(rw[J4 (by unfold okU;omega),A1I (by omega) (by omega) (by omega)];refine congrArg iB ?_;simp only[C8,and_true,true_and];omega)|(rw[A1H (by unfold okU;omega)];rfl)|(rw[A1H (by unfold okU;omega)];decide)
  refine s1 (P9 _ _ _) rfl rfl rfl ?_;refine s4 rfl (fun g3=>?_) fun g3=>?_
  ·first|refine s1 (D0 (x8 (by omega) (by omega))) rfl rfl rfl ?_|refine s1 (Y6 _) rfl rfl rfl ?_
   refine s1 (A2D [_] (by simp only[C3,J5,or_false,forall_eq_or_imp,forall_eq];omega)) rfl rfl rfl ?_;refine s7 [.str _] rfl ?_;refine congrArg (fun z=>[U.str z]) ?_;symm;unfold A5_;first|(rw[J4 (by unfold okU;omega),A1L (by omega)];done)|(rw[J4 (by unfold okU;omega),A1L (by omega)];refine congrArg iB ?_;simp only[C8,and_true,true_and];omega)|(rw[J4 (by unfold okU;omega),A1K (by omega) (by omega)];done)|(rw[J4 (by unfold okU;omega),A1K (by omega) (by omega)];refine congrArg iB ?_;simp only[C8,and_true,true_and];omega)|(rw[J4 (by unfold okU;omega),A1J (by omega) (by omega) (by omega)];done)|(rw[J4 (by unfold okU;omega),A1J (by omega) (by omega) (by omega)];refine congrArg iB ?_;simp only[C8,and_true,true_and];omega)|(rw[J4 (by unfold okU;omega),A1I (by omega) (by omega) (by omega)];done)|(rw[J4 (by unfold okU;omega),A1I (by omega) (by omega) (by omega)];refine congrArg iB ?_;simp only[C8,and_true,true_and];omega)|(rw[A1H (by unfold okU;omega)];rfl)|(rw[A1H (by unfold okU;omega)];decide)
  refine s1 (P9 _ _ _) rfl rfl rfl ?_;refine s4 rfl (fun g4=>?_) fun g4=>?_
  ·refine s1 (m5 64 (by decide) (by decide)) rfl rfl rfl ?_;first|refine s1 (D0 (x8 (by omega) (by omega))) rfl rfl rfl ?_|refine s1 (Y6 _) rfl rfl rfl ?_
   refine s1 (A2C (c:=32) (by omega) (by omega) (by decide)) rfl rfl rfl ?_;refine s1 (m5 1 (by decide) (by decide)) rfl rfl rfl ?_;first|refine s1 (D0 (x8 (by omega) (by omega))) rfl rfl rfl ?_|refine s1 (Y6 _) rfl rfl rfl ?_
   refine s1 (x4 6 64 (by decide) (by decide) (by decide)) rfl rfl rfl ?_;refine s1 (A2C (c:=64) (by omega) (by omega) (by decide)) rfl rfl rfl ?_;refine s1 (A2D [_,_] (by simp only[C3,J5,or_false,forall_eq_or_imp,forall_eq];omega)) rfl rfl rfl ?_;refine s7 [.str _] rfl ?_;refine congrArg (fun z=>[U.str z]) ?_;symm;unfold A5_;first|(rw[J4 (by unfold okU;omega),A1L (by omega)];done)|(rw[J4 (by unfold okU;omega),A1L (by omega)];refine congrArg iB ?_;simp only[C8,and_true,true_and];omega)|(rw[J4 (by unfold okU;omega),A1K (by omega) (by omega)];done)|(rw[J4 (by unfold okU;omega),A1K (by omega) (by omega)];refine congrArg iB ?_;simp only[C8,and_true,true_and];omega)|(rw[J4 (by unfold okU;omega),A1J (by omega) (by omega) (by omega)];done)|(rw[J4 (by unfold okU;omega),A1J (by omega) (by omega) (by omega)];refine congrArg iB ?_;simp only[C8,and_true,true_and];omega)|(rw[J4 (by unfold okU;omega),A1I (by omega) (by omega) (by omega)];done)|(rw[J4 (by unfold okU;omega),A1I (by omega) (by omega) (by omega)];refine congrArg iB ?_;simp only[C8,and_true,true_and];omega)|(rw[A1H (by unfold okU;omega)];rfl)|(rw[A1H (by unfold okU;omega)];decide)
  refine s1 (P9 _ _ _) rfl rfl rfl ?_;refine s4 rfl (fun g5=>?_) fun g5=>?_
  ·refine s1 (m5 4096 (by decide) (by decide)) rfl rfl rfl ?_;first|refine s1 (D0 (x8 (by omega) (by omega))) rfl rfl rfl ?_|refine s1 (Y6 _) rfl rfl rfl ?_
   refine s1 (A2C (c:=16) (by omega) (by omega) (by decide)) rfl rfl rfl ?_;refine s1 (m5 64 (by decide) (by decide)) rfl rfl rfl ?_;first|refine s1 (D0 (x8 (by omega) (by omega))) rfl rfl rfl ?_|refine s1 (Y6 _) rfl rfl rfl ?_
   refine s1 (x4 6 64 (by decide) (by decide) (by decide)) rfl rfl rfl ?_;refine s1 (A2C (c:=64) (by omega) (by omega) (by decide)) rfl rfl rfl ?_;refine s1 (m5 1 (by decide) (by decide)) rfl rfl rfl ?_;first|refine s1 (D0 (x8 (by omega) (by omega))) rfl rfl rfl ?_|refine s1 (Y6 _) rfl rfl rfl ?_
   refine s1 (x4 6 64 (by decide) (by decide) (by decide)) rfl rfl rfl ?_;refine s1 (A2C (c:=64) (by omega) (by omega) (by decide)) rfl rfl rfl ?_;refine s1 (A2D [_,_,_] (by simp only[C3,J5,or_false,forall_eq_or_imp,forall_eq];omega)) rfl rfl rfl ?_;refine s7 [.str _] rfl ?_;refine congrArg (fun z=>[U.str z]) ?_;symm;unfold A5_;first|(rw[J4 (by unfold okU;omega),A1L (by omega)];done)|(rw[J4 (by unfold okU;omega),A1L (by omega)];refine congrArg iB ?_;simp only[C8,and_true,true_and];omega)|(rw[J4 (by unfold okU;omega),A1K (by omega) (by omega)];done)|(rw[J4 (by unfold okU;omega),A1K (by omega) (by omega)];refine congrArg iB ?_;simp only[C8,and_true,true_and];omega)|(rw[J4 (by unfold okU;omega),A1J (by omega) (by omega) (by omega)];done)|(rw[J4 (by unfold okU;omega),A1J (by omega) (by omega) (by omega)];refine congrArg iB ?_;simp only[C8,and_true,true_and];omega)|(rw[J4 (by unfold okU;omega),A1I (by omega) (by omega) (by omega)];done)|(rw[J4 (by unfold okU;omega),A1I (by omega) (by omega) (by omega)];refine congrArg iB ?_;simp only[C8,and_true,true_and];omega)|(rw[A1H (by unfold okU;omega)];rfl)|(rw[A1H (by unfold okU;omega)];decide)
  refine s1 (m5 262144 (by decide) (by decide)) rfl rfl rfl ?_;first|refine s1 (D0 (x8 (by omega) (by omega))) rfl rfl rfl ?_|refine s1 (Y6 _) rfl rfl rfl ?_
  refine s1 (A2C (c:=8) (by omega) (by omega) (by decide)) rfl rfl rfl ?_;refine s1 (m5 4096 (by decide) (by decide)) rfl rfl rfl ?_;first|refine s1 (D0 (x8 (by omega) (by omega))) rfl rfl rfl ?_|refine s1 (Y6 _) rfl rfl rfl ?_
  refine s1 (x4 6 64 (by decide) (by decide) (by decide)) rfl rfl rfl ?_;refine s1 (A2C (c:=64) (by omega) (by omega) (by decide)) rfl rfl rfl ?_;refine s1 (m5 64 (by decide) (by decide)) rfl rfl rfl ?_;first|refine s1 (D0 (x8 (by omega) (by omega))) rfl rfl rfl ?_|refine s1 (Y6 _) rfl rfl rfl ?_
  refine s1 (x4 6 64 (by decide) (by decide) (by decide)) rfl rfl rfl ?_;refine s1 (A2C (c:=64) (by omega) (by omega) (by decide)) rfl rfl rfl ?_;refine s1 (m5 1 (by decide) (by decide)) rfl rfl rfl ?_;first|refine s1 (D0 (x8 (by omega) (by omega))) rfl rfl rfl ?_|refine s1 (Y6 _) rfl rfl rfl ?_
  refine s1 (x4 6 64 (by decide) (by decide) (by decide)) rfl rfl rfl ?_;refine s1 (A2C (c:=64) (by omega) (by omega) (by decide)) rfl rfl rfl ?_;refine s1 (A2D [_,_,_,_] (by simp only[C3,J5,or_false,forall_eq_or_imp,forall_eq];omega)) rfl rfl rfl ?_;refine s7 [.str _] rfl ?_;refine congrArg (fun z=>[U.str z]) ?_;symm;unfold A5_;first|(rw[J4 (by unfold okU;omega),A1L (by omega)];done)|(rw[J4 (by unfold okU;omega),A1L (by omega)];refine congrArg iB ?_;simp only[C8,and_true,true_and];omega)|(rw[J4 (by unfold okU;omega),A1K (by omega) (by omega)];done)|(rw[J4 (by unfold okU;omega),A1K (by omega) (by omega)];refine congrArg iB ?_;simp only[C8,and_true,true_and];omega)|(rw[J4 (by unfold okU;omega),A1J (by omega) (by omega) (by omega)];done)|(rw[J4 (by unfold okU;omega),A1J (by omega) (by omega) (by omega)];refine congrArg iB ?_;simp only[C8,and_true,true_and];omega)|(rw[J4 (by unfold okU;omega),A1I (by omega) (by omega) (by omega)];done)|(rw[J4 (by unfold okU;omega),A1I (by omega) (by omega) (by omega)];refine congrArg iB ?_;simp only[C8,and_true,true_and];omega)|(rw[A1H (by unfold okU;omega)];rfl)|(rw[A1H (by unfold okU;omega)];decide)
 ·cases hs
def C08:Nat→Nat→List UInt8
 | 0,_=>[]
 | k+1,n=>if n<10 then[UInt8.ofNat (48+n)]else C08 k (n / 10)++[UInt8.ofNat (48+n%10)]
theorem B30:∀ (k n:Nat),n<10 ^ (k+1)→C08 (k+1) n=Lib.decDigits n
 | 0,n,h=>by
   have h1:n<10:=by simpa using h
   show(if n<10 then _ else _)=_;rw[if_pos h1,Lib.decDigits_one h1]
 | k+1,n,h=>by
   show(if n<10 then _ else _)=_;by_cases h1:n<10
   ·rw[if_pos h1,Lib.decDigits_one h1]
   ·rw[if_neg h1];have h2:n / 10<10 ^ (k+1):=Nat.div_lt_of_lt_mul (by rw[X3,← Nat.pow_succ];exact h);rw[B30 k (n / 10) h2];conv=>rhs;rw[Lib.decDigits,dif_neg h1]
def itz(n:Int):List UInt8:=if 0≤n∧n<100000 then C08 5 n.toNat else Lib.itoa n
theorem B6f(n:Int):itz n=Lib.itoa n:=by
 unfold itz;by_cases h:0≤n∧n<100000
 ·rw[if_pos h,B30 4 n.toNat (by show n.toNat<100000;omega),← Lib.itoa_nonneg,A0O h.1]
 ·rw[if_neg h]
def A0L:List U→Option (Nat×List U)
 | [.int .i64 n]=>if -9223372036854775808≤n∧n≤9223372036854775807 then some (0,[.str (itz n)])else none
 | _=>none
theorem x3(n:Int)(hc : -9223372036854775808≤n∧n≤9223372036854775807):A0L [.int .i64 n]=some (0,[.str (itz n)]):=if_pos hc
theorem B6h{G:Nat→Option Obj}(hst:E6 Tryz.prog G gl H0 n0):T9 Tryz.prog G 79 [.s 3] A0L [.s 9]:=by
 intro us outs w vs R hsh hs hG hR;unfold A0L at hs;split at hs
 ·skip;rename_i n;split at hs
  ·rename_i hc;cases hs;have hv:=A0f (vs2:=[.int .i64 n]) hsh rfl;subst hv;refine B33 (vr:=[.string ⟨⟨itz n⟩⟩]) Tryz.func79 rfl (by kernel_rfl) rfl ?_;rw[B6f];refine(Tryz.strconv_Itoa n (by omega) (by omega) w (A9M (id:=3) hst hG (by decide) (by decide) (by kernel_rfl) (by kernel_rfl) (by kernel_rfl))).mono fun e w' ⟨h1,k,os,h2⟩=>⟨h1,?_⟩
   subst h2;exact Go.Lib.below_grow _ w (A7 _) k os
  ·cases hs
 ·cases hs
def nuL:List Int:=[2,3,5,6,15,17,18,19,20,21,23,24]
def leL:List UInt8:=[65,66,67,68,70,72,80,81,82,83]
def A37(k:Int):List UInt8:=(leL.drop k.toNat).take ((k+1).toNat-k.toNat)
def spS(ck:Bool)(k m:Int):List UInt8 :=
 if 10≤k then if 0<m then[27,91]++itz (nuL.getD (k-10).toNat 0)++[59]++itz (m+1)++[126]else[27,91]++itz (nuL.getD (k-10).toNat 0)++[126]
 else if 0<m then[27,91,49,59]++itz (m+1)++A37 k else if 6≤k then[27,79]++A37 k else if ck=true then[27,79]++A37 k else[27,91]++A37 k
theorem C1V(n:Nat):0≤nuL.getD n 0∧nuL.getD n 0≤24:=by
 have h:∀ n:Nat,n<12→0≤nuL.getD n 0∧nuL.getD n 0≤24:=by decide
 rcases F2 n 12 with k|k
 ·exact h n k
 ·have e:nuL.getD n 0=0:=by
   rw[B9,A1B.2 (by exact k)];rfl
  rw[e];decide
theorem A9n{n:Int}(h : -9223372036854775808≤n)(h2:n≤9223372036854775807):(itz n).length≤21:=by rw[B6f];exact Lib.itoa_length_le n h h2
noncomputable def C0J:List (FuncId×FnC):=(79,U2 Tryz.prog [.s 3] A0L [.s 9])::L0
theorem B7j{G:Nat→Option Obj}(hst:E6 Tryz.prog G gl H0 n0):L5 Tryz.prog G gl C0J:=(.cons (B6h hst) .nil)
def A2U:List U→Option (Nat×List U)
 | [.bool b0,.bool b1,.bool ck,.bool b3,.bool b4,.bool b5,.bool b6,.bool pa,.bool fo,.bool b9,.bool b10,.int .i64 mo,.bool sg,.int .i64 k,.int .i64 m]=>if 0≤k∧k≤21∧0≤m∧m≤7 then some (0,[.str (spS ck k m)])else none
 | _=>none
theorem A1S(b0:Bool)(b1:Bool)(ck:Bool)(b3:Bool)(b4:Bool)(b5:Bool)(b6:Bool)(pa:Bool)(fo:Bool)(b9:Bool)(b10:Bool)(mo:Int)(sg:Bool)(k:Int)(m:Int)(hc:0≤k∧k≤21∧0≤m∧m≤7):A2U [.bool b0,.bool b1,.bool ck,.bool b3,.bool b4,.bool b5,.bool b6,.bool pa,.bool fo,.bool b9,.bool b10,.int .i64 mo,.bool sg,.int .i64 k,.int .i64 m]=some (0,[.str (spS ck k m)]):=if_pos hc
def B9l:Tr:=.lt 3 (.bin .add) [h 14 3,jI 1]<|.fn A0L [h 15 3] 1<|.lt 8 (.bin .geq) [h 13 3,jI 10]<|.br 17 (.lt 8 (.bin .gtr) [h 14 3,jI 0]<|.br 18 (.lt 3 (.bin .sub) [h 13 3,jI 10]<|.lt 8 (.inb) [h 19 3,jI 12]<|.br 20 (.lt 3 (.sel) [h 19 3,jI 2,jI 3,jI 5,jI 6,jI 15,jI 17,jI 18,jI 19,jI 20,jI 21,jI 23,jI 24]<|.fn A0L [h 21 3] 1<|.lt 9 (.bin .add) [.string ⟨⟨[27,91]⟩⟩,h 22 9]<|.lt 9 (.bin .add) [h 23 9,.string ⟨⟨[59]⟩⟩]<|.lt 9 (.bin .add) [h 24 9,h 16 9]<|.lt 9 (.bin .add) [h 25 9,.string ⟨⟨[126]⟩⟩]<|.ret [h 26 9]) (.no)) (.lt 8 (.bin .geq) [h 13 3,jI 10]<|.br 19 (.lt 3 (.bin .sub) [h 13 3,jI 10]<|.lt 8 (.inb) [h 20 3,jI 12]<|.br 21 (.lt 3 (.sel) [h 20 3,jI 2,jI 3,jI 5,jI 6,jI 15,jI 17,jI 18,jI 19,jI 20,jI 21,jI 23,jI 24]<|.fn A0L [h 22 3] 1<|.lt 9 (.bin .add) [.string ⟨⟨[27,91]⟩⟩,h 23 9]<|.lt 9 (.bin .add) [h 24 9,.string ⟨⟨[126]⟩⟩]<|.ret [h 25 9]) (.no)) (.lt 8 (.bin .gtr) [h 14 3,jI 0]<|.br 20 (.lt 9 (.bin .add) [.string ⟨⟨[27,91,49,59]⟩⟩,h 16 9]<|.lt 3 (.bin .add) [h 13 3,jI 1]<|.lt 9 (.sub) [.string ⟨⟨[65,66,67,68,70,72,80,81,82,83]⟩⟩,h 13 3,h 22 3]<|.lt 9 (.bin .add) [h 21 9,h 23 9]<|.ret [h 24 9]) (.lt 8 (.bin .geq) [h 13 3,jI 6]<|.br 21 (.lt 3 (.bin .add) [h 13 3,jI 1]<|.lt 9 (.sub) [.string ⟨⟨[65,66,67,68,70,72,80,81,82,83]⟩⟩,h 13 3,h 22 3]<|.lt 9 (.bin .add) [.string ⟨⟨[27,79]⟩⟩,h 23 9]<|.ret [h 24 9]) (.br 2 (.lt 3 (.bin .add) [h 13 3,jI 1]<|.lt 9 (.sub) [.string ⟨⟨[65,66,67,68,70,72,80,81,82,83]⟩⟩,h 13 3,h 22 3]<|.lt 9 (.bin .add) [.string ⟨⟨[27,79]⟩⟩,h 23 9]<|.ret [h 24 9]) (.lt 3 (.bin .add) [h 13 3,jI 1]<|.lt 9 (.sub) [.string ⟨⟨[65,66,67,68,70,72,80,81,82,83]⟩⟩,h 13 3,h 22 3]<|.lt 9 (.bin .add) [.string ⟨⟨[27,91]⟩⟩,h 23 9]<|.ret [h 24 9])))))) (.lt 8 (.bin .geq) [h 13 3,jI 10]<|.br 18 (.lt 3 (.bin .sub) [h 13 3,jI 10]<|.lt 8 (.inb) [h 19 3,jI 12]<|.br 20 (.lt 3 (.sel) [h 19 3,jI 2,jI 3,jI 5,jI 6,jI 15,jI 17,jI 18,jI 19,jI 20,jI 21,jI 23,jI 24]<|.fn A0L [h 21 3] 1<|.lt 9 (.bin .add) [.string ⟨⟨[27,91]⟩⟩,h 22 9]<|.lt 9 (.bin .add) [h 23 9,.string ⟨⟨[126]⟩⟩]<|.ret [h 24 9]) (.no)) (.lt 8 (.bin .gtr) [h 14 3,jI 0]<|.br 19 (.lt 9 (.bin .add) [.string ⟨⟨[27,91,49,59]⟩⟩,h 16 9]<|.lt 3 (.bin .add) [h 13 3,jI 1]<|.lt 9 (.sub) [.string ⟨⟨[65,66,67,68,70,72,80,81,82,83]⟩⟩,h 13 3,h 21 3]<|.lt 9 (.bin .add) [h 20 9,h 22 9]<|.ret [h 23 9]) (.lt 8 (.bin .geq) [h 13 3,jI 6]<|.br 20 (.lt 3 (.bin .add) [h 13 3,jI 1]<|.lt 9 (.sub) [.string ⟨⟨[65,66,67,68,70,72,80,81,82,83]⟩⟩,h 13 3,h 21 3]<|.lt 9 (.bin .add) [.string ⟨⟨[27,79]⟩⟩,h 22 9]<|.ret [h 23 9]) (.br 2 (.lt 3 (.bin .add) [h 13 3,jI 1]<|.lt 9 (.sub) [.string ⟨⟨[65,66,67,68,70,72,80,81,82,83]⟩⟩,h 13 3,h 21 3]<|.lt 9 (.bin .add) [.string ⟨⟨[27,79]⟩⟩,h 22 9]<|.ret [h 23 9]) (.lt 3 (.bin .add) [h 13 3,jI 1]<|.lt 9 (.sub) [.string ⟨⟨[65,66,67,68,70,72,80,81,82,83]⟩⟩,h 13 3,h 21 3]<|.lt 9 (.bin .add) [.string ⟨⟨[27,91]⟩⟩,h 22 9]<|.ret [h 23 9])))))
theorem C1y{G:Nat→Option Obj}(hst:E6 Tryz.prog G gl H0 n0):T9 Tryz.prog G 78 [.a [8,8,8,8,8,8,8,8,8,8,8,3,8],.s 3,.s 3] A2U [.s 9]:=by
 refine I5 (C:=cx C0J []) (d:=60) B9l (cxg (B7j hst) .nil) hst ⟨Tryz.f78,_,Tryz.func78,rfl⟩ (by kernel_rfl) (by kernel_rfl) ?_;intro us outs hs;unfold A2U at hs;split at hs
 ·skip;rename_i b0 b1 ck b3 b4 b5 b6 pa fo b9 b10 mo sg k m;split at hs
  ·rename_i hc;cases hs;have l1:=A9n (n:=m+1) (by omega) (by omega);have q1:0≤([2,3,5,6,15,17,18,19,20,21,23,24]:List Int).getD (k-10).toNat 0∧([2,3,5,6,15,17,18,19,20,21,23,24]:List Int).getD (k-10).toNat 0≤24:=C1V _;have l2:(itz (([2,3,5,6,15,17,18,19,20,21,23,24]:List Int).getD (k-10).toNat 0)).length≤21:=A9n (by omega) (by omega);unfold B9l;refine s0 (.cons 14 _ (.cons 13 _ (.cons 12 _ (.cons 11 _ (.cons 10 _ (.cons 9 _ (.cons 8 _ (.cons 7 _ (.cons 6 _ (.cons 5 _ (.cons 4 _ (.cons 3 _ (.cons 2 _ (.cons 1 _ (.cons 0 _ (.nil)))))))))))))))) rfl (by simp[Ev.ok,Ev.len]) ?_;first|refine s1 (J8 (D8 (by omega) (by omega))) rfl rfl rfl ?_|refine s1 (L4 _ _ _) rfl rfl rfl ?_
   refine s31 (x3 _ (by omega)) rfl ?_;refine s1 (E7 _ _ _) rfl rfl rfl ?_;refine s4 rfl (fun g0=>?_) fun g0=>?_
   ·refine s1 (A7K _ _ _) rfl rfl rfl ?_;refine s4 rfl (fun g1=>?_) fun g1=>?_
    ·first|refine s1 (S9 (D8 (by omega) (by omega))) rfl rfl rfl ?_|refine s1 (W7 _ _ _) rfl rfl rfl ?_
     refine s1 (A7J _ _ _ _) rfl rfl rfl ?_;refine s5 rfl (fun g2=>?_) fun g2=>?_
     ·refine s8 ?_;first|omega
     refine s1 (A40 [2,3,5,6,15,17,18,19,20,21,23,24] (by omega) (by show _<((12:Nat):Int);omega)) rfl rfl rfl ?_;refine s31 (x3 _ (by omega)) rfl ?_;refine s1 (H4 _ _ (by simp only[A9,B3,A6,B0];omega)) rfl rfl rfl ?_;refine s1 (H4 _ _ (by simp only[A9,B3,A6,B0];omega)) rfl rfl rfl ?_;refine s1 (H4 _ _ (by simp only[A9,B3,A6,B0];omega)) rfl rfl rfl ?_;refine s1 (H4 _ _ (by simp only[A9,B3,A6,B0];omega)) rfl rfl rfl ?_;refine s7 [.str _] rfl ?_;refine congrArg (fun z=>[U.str z]) ?_;unfold spS A37
     (repeat' split)<;>first|(exfalso;omega)|rfl|(simp;done)|(simp_all;done)
    refine s1 (E7 _ _ _) rfl rfl rfl ?_;refine s4 rfl (fun g2=>?_) fun g2=>?_
    ·first|refine s1 (S9 (D8 (by omega) (by omega))) rfl rfl rfl ?_|refine s1 (W7 _ _ _) rfl rfl rfl ?_
     refine s1 (A7J _ _ _ _) rfl rfl rfl ?_;refine s5 rfl (fun g3=>?_) fun g3=>?_
     ·refine s8 ?_;first|omega
     refine s1 (A40 [2,3,5,6,15,17,18,19,20,21,23,24] (by omega) (by show _<((12:Nat):Int);omega)) rfl rfl rfl ?_;refine s31 (x3 _ (by omega)) rfl ?_;refine s1 (H4 _ _ (by simp only[A9,B3,A6,B0];omega)) rfl rfl rfl ?_;refine s1 (H4 _ _ (by simp only[A9,B3,A6,B0];omega)) rfl rfl rfl ?_;refine s7 [.str _] rfl ?_;refine congrArg (fun z=>[U.str z]) ?_;unfold spS A37
     (repeat' split)<;>first|(exfalso;omega)|rfl|(simp;done)|(simp_all;done)
    refine s1 (A7K _ _ _) rfl rfl rfl ?_;refine s4 rfl (fun g3=>?_) fun g3=>?_
    ·refine s1 (H4 _ _ (by simp only[A9,B3,A6,B0];omega)) rfl rfl rfl ?_;first|refine s1 (J8 (D8 (by omega) (by omega))) rfl rfl rfl ?_|refine s1 (L4 _ _ _) rfl rfl rfl ?_
     refine s1 (m4 _ _ _ _ _ (by omega) (by omega) (by simp[*]<;>omega)) rfl rfl rfl ?_;refine s1 (H4 _ _ (by simp only[A9,B3,A6,B0];omega)) rfl rfl rfl ?_;refine s7 [.str _] rfl ?_;refine congrArg (fun z=>[U.str z]) ?_;unfold spS A37
     (repeat' split)<;>first|(exfalso;omega)|rfl|(simp;done)|(simp_all;done)
    refine s1 (E7 _ _ _) rfl rfl rfl ?_;refine s4 rfl (fun g4=>?_) fun g4=>?_
    ·first|refine s1 (J8 (D8 (by omega) (by omega))) rfl rfl rfl ?_|refine s1 (L4 _ _ _) rfl rfl rfl ?_
     refine s1 (m4 _ _ _ _ _ (by omega) (by omega) (by simp[*]<;>omega)) rfl rfl rfl ?_;refine s1 (H4 _ _ (by simp only[A9,B3,A6,B0];omega)) rfl rfl rfl ?_;refine s7 [.str _] rfl ?_;refine congrArg (fun z=>[U.str z]) ?_;unfold spS A37
     (repeat' split)<;>first|(exfalso;omega)|rfl|(simp;done)|(simp_all;done)
    first|refine s4 rfl (fun g5=>?_) (fun g5=>?_)|refine s4B rfl (fun g5=>?_) (fun g5=>?_)
    ·first|refine s1 (J8 (D8 (by omega) (by omega))) rfl rfl rfl ?_|refine s1 (L4 _ _ _) rfl rfl rfl ?_
     refine s1 (m4 _ _ _ _ _ (by omega) (by omega) (by simp[*]<;>omega)) rfl rfl rfl ?_;refine s1 (H4 _ _ (by simp only[A9,B3,A6,B0];omega)) rfl rfl rfl ?_;refine s7 [.str _] rfl ?_;refine congrArg (fun z=>[U.str z]) ?_;unfold spS A37
     (repeat' split)<;>first|(exfalso;omega)|rfl|(simp;done)|(simp_all;done)
    first|refine s1 (J8 (D8 (by omega) (by omega))) rfl rfl rfl ?_|refine s1 (L4 _ _ _) rfl rfl rfl ?_
    refine s1 (m4 _ _ _ _ _ (by omega) (by omega) (by simp[*]<;>omega)) rfl rfl rfl ?_;refine s1 (H4 _ _ (by simp only[A9,B3,A6,B0];omega)) rfl rfl rfl ?_;refine s7 [.str _] rfl ?_;refine congrArg (fun z=>[U.str z]) ?_;unfold spS A37
    (repeat' split)<;>first|(exfalso;omega)|rfl|(simp;done)|(simp_all;done)
   refine s1 (E7 _ _ _) rfl rfl rfl ?_;refine s4 rfl (fun g1=>?_) fun g1=>?_
   ·first|refine s1 (S9 (D8 (by omega) (by omega))) rfl rfl rfl ?_|refine s1 (W7 _ _ _) rfl rfl rfl ?_
    refine s1 (A7J _ _ _ _) rfl rfl rfl ?_;refine s5 rfl (fun g2=>?_) fun g2=>?_
    ·refine s8 ?_;first|omega
    refine s1 (A40 [2,3,5,6,15,17,18,19,20,21,23,24] (by omega) (by show _<((12:Nat):Int);omega)) rfl rfl rfl ?_;refine s31 (x3 _ (by omega)) rfl ?_;refine s1 (H4 _ _ (by simp only[A9,B3,A6,B0];omega)) rfl rfl rfl ?_;refine s1 (H4 _ _ (by simp only[A9,B3,A6,B0];omega)) rfl rfl rfl ?_;refine s7 [.str _] rfl ?_;refine congrArg (fun z=>[U.str z]) ?_;unfold spS A37
    (repeat' split)<;>first|(exfalso;omega)|rfl|(simp;done)|(simp_all;done)
   refine s1 (A7K _ _ _) rfl rfl rfl ?_;refine s4 rfl (fun g2=>?_) fun g2=>?_
   ·refine s1 (H4 _ _ (by simp only[A9,B3,A6,B0];omega)) rfl rfl rfl ?_;first|refine s1 (J8 (D8 (by omega) (by omega))) rfl rfl rfl ?_|refine s1 (L4 _ _ _) rfl rfl rfl ?_
    refine s1 (m4 _ _ _ _ _ (by omega) (by omega) (by simp[*]<;>omega)) rfl rfl rfl ?_;refine s1 (H4 _ _ (by simp only[A9,B3,A6,B0];omega)) rfl rfl rfl ?_;refine s7 [.str _] rfl ?_;refine congrArg (fun z=>[U.str z]) ?_;unfold spS A37
    (repeat' split)<;>first|(exfalso;omega)|rfl|(simp;done)|(simp_all;done)
   refine s1 (E7 _ _ _) rfl rfl rfl ?_;refine s4 rfl (fun g3=>?_) fun g3=>?_
   ·first|refine s1 (J8 (D8 (by omega) (by omega))) rfl rfl rfl ?_|refine s1 (L4 _ _ _) rfl rfl rfl ?_
    refine s1 (m4 _ _ _ _ _ (by omega) (by omega) (by simp[*]<;>omega)) rfl rfl rfl ?_;refine s1 (H4 _ _ (by simp only[A9,B3,A6,B0];omega)) rfl rfl rfl ?_;refine s7 [.str _] rfl ?_;refine congrArg (fun z=>[U.str z]) ?_;unfold spS A37
    (repeat' split)<;>first|(exfalso;omega)|rfl|(simp;done)|(simp_all;done)
   first|refine s4 rfl (fun g4=>?_) (fun g4=>?_)|refine s4B rfl (fun g4=>?_) (fun g4=>?_)
   ·first|refine s1 (J8 (D8 (by omega) (by omega))) rfl rfl rfl ?_|refine s1 (L4 _ _ _) rfl rfl rfl ?_
    refine s1 (m4 _ _ _ _ _ (by omega) (by omega) (by simp[*]<;>omega)) rfl rfl rfl ?_;refine s1 (H4 _ _ (by simp only[A9,B3,A6,B0];omega)) rfl rfl rfl ?_;refine s7 [.str _] rfl ?_;refine congrArg (fun z=>[U.str z]) ?_;unfold spS A37
    (repeat' split)<;>first|(exfalso;omega)|rfl|(simp;done)|(simp_all;done)
   first|refine s1 (J8 (D8 (by omega) (by omega))) rfl rfl rfl ?_|refine s1 (L4 _ _ _) rfl rfl rfl ?_
   refine s1 (m4 _ _ _ _ _ (by omega) (by omega) (by simp[*]<;>omega)) rfl rfl rfl ?_;refine s1 (H4 _ _ (by simp only[A9,B3,A6,B0];omega)) rfl rfl rfl ?_;refine s7 [.str _] rfl ?_;refine congrArg (fun z=>[U.str z]) ?_;unfold spS A37
   (repeat' split)<;>first|(exfalso;omega)|rfl|(simp;done)|(simp_all;done)
  ·cases hs
 ·cases hs
def rM:Rw (Int×(List UInt8)):=rC (Q7 .i64) (r1 A7_)
def kmL:List (Int×List UInt8):=[(1114135,[13]),(1114136,[9]),(1114137,[127]),(1114138,[27])]
def kmG(c:Int):List UInt8:=(kmL.find? (fun a=>(c == a.1 && true))).elim [] (fun a=>a.2)
def kmH(c:Int):Bool:=kmL.any (fun a=>(c == a.1 && true))
theorem t7(c:Int):kmH c=decide (c=1114135∨c=1114136∨c=1114137∨c=1114138):=by
 unfold kmH kmL;rw[K3];simp
theorem t8(c:Int):kmG c=if c=1114135 then[13]else if c=1114136 then[9]else if c=1114137 then[127]else if c=1114138 then[27]else[]:=by
 unfold kmG kmL;simp only[A0J,A1e,List.find?_nil];by_cases h1:c=1114135
 ·subst h1;rfl
 ·by_cases h2:c=1114136
  ·subst h2;rfl
  ·by_cases h3:c=1114137
   ·subst h3;rfl
   ·by_cases h4:c=1114138
    ·subst h4;rfl
    ·have e1:(c == 1114135)=false:=by simp[h1]
     have e2:(c == 1114136)=false:=by simp[h2]
     have e3:(c == 1114137)=false:=by simp[h3]
     have e4:(c == 1114138)=false:=by simp[h4]
     rw[e1,e2,e3,e4,if_neg h1,if_neg h2,if_neg h3,if_neg h4];rfl
theorem B1N{c:Int}(h:kmH c=false):c≠1114135∧c≠1114136∧c≠1114137∧c≠1114138:=by
 rw[t7]at h
 have:=of_decide_eq_false h;omega
theorem C0u(c:Int):(kmG c).length≤1:=by
 rw[t8]
 (repeat' split)<;>decide
theorem B55(c:Int):(A5_ c).length≤4:=by
 unfold A5_ iB A9Z;rw[F7]
 (repeat' split)<;>simp
theorem B6w{x:Option (List (Int×List UInt8))}(c:Int)(hx:el x=kmL):evU (.mget 2 1 1) [J6 rM x,.str [],.int .i64 c]=.str (kmG c):=by
 have h:=B6u (x:=x) (z:=([]:List UInt8)) (kc:=[.int .i64 c]) (r:=rM) (w:=2) (kw:=1) (o:=1) U.str (fun a=>(c == a.1 && true)) (fun a=>a.2) rfl rfl (fun _=>rfl) (fun _=>rfl);rw[hx]at h;exact h
theorem B6v{x:Option (List (Int×List UInt8))}(c:Int)(hx:el x=kmL):evU (.mhas 2 1) [J6 rM x,.int .i64 c]=.bool (kmH c):=by
 have h:=B6t (x:=x) (kc:=[.int .i64 c]) (r:=rM) (w:=2) (kw:=1) (fun a=>(c == a.1 && true)) rfl rfl (fun _=>rfl);rw[hx]at h;exact h
theorem N6(l:List Int):(iB l).length=l.length:=by unfold iB;rw[F7]
def Y7(m:Int):List UInt8:=if m / 2%2*2≠0 then[27]else[]
def keS(ck:Bool)(c m:Int):List UInt8 :=
 if c=1114136∧m=1 then[27,91,90]else if c=1114135 then Y7 m++[13]else if c=1114136 then Y7 m++[9]else if c=1114137 then Y7 m++[127]else if c=1114138 then Y7 m++[27]
 else if c<1114113 then(if m / 4%2*4≠0 then Y7 m++iB [M9 c]else Y7 m++A5_ c)else spS ck (c-1114113) m
noncomputable def C0L:List (FuncId×FnC):=(66,U2 Tryz.prog [.s 3] A2W [.s 4,.s 8])::(77,U2 Tryz.prog [.s 3] A2P [.s 9])::(78,U2 Tryz.prog [.a [8,8,8,8,8,8,8,8,8,8,8,3,8],.s 3,.s 3] A2U [.s 9])::L0
theorem B7l{G:Nat→Option Obj}(hst:E6 Tryz.prog G gl H0 n0):L5 Tryz.prog G gl C0L:=(.cons (B68 hst) (.cons (C1R hst) (.cons (C1y hst) .nil)))
def A28:List U→Option (Nat×List U)
 | [.bool b0,.bool b1,.bool ck,.bool b3,.bool b4,.bool b5,.bool b6,.bool pa,.bool fo,.bool b9,.bool b10,.int .i64 mo,.bool sg,.int .i64 k,.int .i64 c,.int .i64 m,.int .i64 w,.int .i64 b,.int .i64 r,.int .i64 cl,.str t]=>if A4 c m then some (0,[.str (keS ck c m)])else none
 | _=>none
theorem A6S(b0:Bool)(b1:Bool)(ck:Bool)(b3:Bool)(b4:Bool)(b5:Bool)(b6:Bool)(pa:Bool)(fo:Bool)(b9:Bool)(b10:Bool)(mo:Int)(sg:Bool)(k:Int)(c:Int)(m:Int)(w:Int)(b:Int)(r:Int)(cl:Int)(t:(List UInt8))(hc:A4 c m):A28 [.bool b0,.bool b1,.bool ck,.bool b3,.bool b4,.bool b5,.bool b6,.bool pa,.bool fo,.bool b9,.bool b10,.int .i64 mo,.bool sg,.int .i64 k,.int .i64 c,.int .i64 m,.int .i64 w,.int .i64 b,.int .i64 r,.int .i64 cl,.str t]=some (0,[.str (keS ck c m)]):=if_pos hc
def B9r:Tr:=.lt 3 (.bin .and) [h 15 3,jI 2]<|.lt 8 (.bin .neq) [h 21 3,jI 0]<|.br 22 (.dt 12 (.mk 2) []<|.dt 12 (.mput 2 1) [h 23 12,jI 1114135,.string ⟨⟨[13]⟩⟩]<|.dt 12 (.mput 2 1) [h 24 12,jI 1114136,.string ⟨⟨[9]⟩⟩]<|.dt 12 (.mput 2 1) [h 25 12,jI 1114137,.string ⟨⟨[127]⟩⟩]<|.dt 12 (.mput 2 1) [h 26 12,jI 1114138,.string ⟨⟨[27]⟩⟩]<|.lt 9 (.mget 2 1 1) [h 27 12,.string ⟨⟨[]⟩⟩,h 14 3]<|.lt 8 (.mhas 2 1) [h 27 12,h 14 3]<|.lt 8 (.bin .eql) [h 14 3,jI 1114136]<|.br 30 (.lt 8 (.bin .eql) [h 15 3,jI 1]<|.br 31 (.ret [.string ⟨⟨[27,91,90]⟩⟩]) (.br 29 (.lt 9 (.bin .add) [.string ⟨⟨[27]⟩⟩,h 28 9]<|.ret [h 32 9]) (.lt 8 (.bin .lss) [h 14 3,jI 1114113]<|.br 32 (.lt 3 (.bin .and) [h 15 3,jI 4]<|.lt 8 (.bin .neq) [h 33 3,jI 0]<|.br 34 (.fn A2W [h 14 3] 2<|.lt 9 (.mks) [h 35 4]<|.lt 9 (.bin .add) [.string ⟨⟨[27]⟩⟩,h 37 9]<|.ret [h 38 9]) (.lt 8 (.bin .lss) [h 14 3,jI 1114113]<|.br 35 (.fn A2P [h 14 3] 1<|.lt 9 (.bin .add) [.string ⟨⟨[27]⟩⟩,h 36 9]<|.ret [h 37 9]) (.lt 3 (.bin .sub) [h 14 3,jI 1114113]<|.fn A2U [h 0 8,h 1 8,h 2 8,h 3 8,h 4 8,h 5 8,h 6 8,h 7 8,h 8 8,h 9 8,h 10 8,h 11 3,h 12 8,h 36 3,h 15 3] 1<|.ret [h 37 9]))) (.lt 8 (.bin .lss) [h 14 3,jI 1114113]<|.br 33 (.fn A2P [h 14 3] 1<|.lt 9 (.bin .add) [.string ⟨⟨[27]⟩⟩,h 34 9]<|.ret [h 35 9]) (.lt 3 (.bin .sub) [h 14 3,jI 1114113]<|.fn A2U [h 0 8,h 1 8,h 2 8,h 3 8,h 4 8,h 5 8,h 6 8,h 7 8,h 8 8,h 9 8,h 10 8,h 11 3,h 12 8,h 34 3,h 15 3] 1<|.ret [h 35 9]))))) (.br 29 (.lt 9 (.bin .add) [.string ⟨⟨[27]⟩⟩,h 28 9]<|.ret [h 31 9]) (.lt 8 (.bin .lss) [h 14 3,jI 1114113]<|.br 31 (.lt 3 (.bin .and) [h 15 3,jI 4]<|.lt 8 (.bin .neq) [h 32 3,jI 0]<|.br 33 (.fn A2W [h 14 3] 2<|.lt 9 (.mks) [h 34 4]<|.lt 9 (.bin .add) [.string ⟨⟨[27]⟩⟩,h 36 9]<|.ret [h 37 9]) (.lt 8 (.bin .lss) [h 14 3,jI 1114113]<|.br 34 (.fn A2P [h 14 3] 1<|.lt 9 (.bin .add) [.string ⟨⟨[27]⟩⟩,h 35 9]<|.ret [h 36 9]) (.lt 3 (.bin .sub) [h 14 3,jI 1114113]<|.fn A2U [h 0 8,h 1 8,h 2 8,h 3 8,h 4 8,h 5 8,h 6 8,h 7 8,h 8 8,h 9 8,h 10 8,h 11 3,h 12 8,h 35 3,h 15 3] 1<|.ret [h 36 9]))) (.lt 8 (.bin .lss) [h 14 3,jI 1114113]<|.br 32 (.fn A2P [h 14 3] 1<|.lt 9 (.bin .add) [.string ⟨⟨[27]⟩⟩,h 33 9]<|.ret [h 34 9]) (.lt 3 (.bin .sub) [h 14 3,jI 1114113]<|.fn A2U [h 0 8,h 1 8,h 2 8,h 3 8,h 4 8,h 5 8,h 6 8,h 7 8,h 8 8,h 9 8,h 10 8,h 11 3,h 12 8,h 33 3,h 15 3] 1<|.ret [h 34 9]))))) (.dt 12 (.mk 2) []<|.dt 12 (.mput 2 1) [h 23 12,jI 1114135,.string ⟨⟨[13]⟩⟩]<|.dt 12 (.mput 2 1) [h 24 12,jI 1114136,.string ⟨⟨[9]⟩⟩]<|.dt 12 (.mput 2 1) [h 25 12,jI 1114137,.string ⟨⟨[127]⟩⟩]<|.dt 12 (.mput 2 1) [h 26 12,jI 1114138,.string ⟨⟨[27]⟩⟩]<|.lt 9 (.mget 2 1 1) [h 27 12,.string ⟨⟨[]⟩⟩,h 14 3]<|.lt 8 (.mhas 2 1) [h 27 12,h 14 3]<|.lt 8 (.bin .eql) [h 14 3,jI 1114136]<|.br 30 (.lt 8 (.bin .eql) [h 15 3,jI 1]<|.br 31 (.ret [.string ⟨⟨[27,91,90]⟩⟩]) (.br 29 (.lt 9 (.bin .add) [.string ⟨⟨[]⟩⟩,h 28 9]<|.ret [h 32 9]) (.lt 8 (.bin .lss) [h 14 3,jI 1114113]<|.br 32 (.lt 3 (.bin .and) [h 15 3,jI 4]<|.lt 8 (.bin .neq) [h 33 3,jI 0]<|.br 34 (.fn A2W [h 14 3] 2<|.lt 9 (.mks) [h 35 4]<|.lt 9 (.bin .add) [.string ⟨⟨[]⟩⟩,h 37 9]<|.ret [h 38 9]) (.lt 8 (.bin .lss) [h 14 3,jI 1114113]<|.br 35 (.fn A2P [h 14 3] 1<|.lt 9 (.bin .add) [.string ⟨⟨[]⟩⟩,h 36 9]<|.ret [h 37 9]) (.lt 3 (.bin .sub) [h 14 3,jI 1114113]<|.fn A2U [h 0 8,h 1 8,h 2 8,h 3 8,h 4 8,h 5 8,h 6 8,h 7 8,h 8 8,h 9 8,h 10 8,h 11 3,h 12 8,h 36 3,h 15 3] 1<|.ret [h 37 9]))) (.lt 8 (.bin .lss) [h 14 3,jI 1114113]<|.br 33 (.fn A2P [h 14 3] 1<|.lt 9 (.bin .add) [.string ⟨⟨[]⟩⟩,h 34 9]<|.ret [h 35 9]) (.lt 3 (.bin .sub) [h 14 3,jI 1114113]<|.fn A2U [h 0 8,h 1 8,h 2 8,h 3 8,h 4 8,h 5 8,h 6 8,h 7 8,h 8 8,h 9 8,h 10 8,h 11 3,h 12 8,h 34 3,h 15 3] 1<|.ret [h 35 9]))))) (.br 29 (.lt 9 (.bin .add) [.string ⟨⟨[]⟩⟩,h 28 9]<|.ret [h 31 9]) (.lt 8 (.bin .lss) [h 14 3,jI 1114113]<|.br 31 (.lt 3 (.bin .and) [h 15 3,jI 4]<|.lt 8 (.bin .neq) [h 32 3,jI 0]<|.br 33 (.fn A2W [h 14 3] 2<|.lt 9 (.mks) [h 34 4]<|.lt 9 (.bin .add) [.string ⟨⟨[]⟩⟩,h 36 9]<|.ret [h 37 9]) (.lt 8 (.bin .lss) [h 14 3,jI 1114113]<|.br 34 (.fn A2P [h 14 3] 1<|.lt 9 (.bin .add) [.string ⟨⟨[]⟩⟩,h 35 9]<|.ret [h 36 9]) (.lt 3 (.bin .sub) [h 14 3,jI 1114113]<|.fn A2U [h 0 8,h 1 8,h 2 8,h 3 8,h 4 8,h 5 8,h 6 8,h 7 8,h 8 8,h 9 8,h 10 8,h 11 3,h 12 8,h 35 3,h 15 3] 1<|.ret [h 36 9]))) (.lt 8 (.bin .lss) [h 14 3,jI 1114113]<|.br 32 (.fn A2P [h 14 3] 1<|.lt 9 (.bin .add) [.string ⟨⟨[]⟩⟩,h 33 9]<|.ret [h 34 9]) (.lt 3 (.bin .sub) [h 14 3,jI 1114113]<|.fn A2U [h 0 8,h 1 8,h 2 8,h 3 8,h 4 8,h 5 8,h 6 8,h 7 8,h 8 8,h 9 8,h 10 8,h 11 3,h 12 8,h 33 3,h 15 3] 1<|.ret [h 34 9])))))
theorem B3y{G:Nat→Option Obj}(hst:E6 Tryz.prog G gl H0 n0):T9 Tryz.prog G 50 [.a [8,8,8,8,8,8,8,8,8,8,8,3,8],.a [3,3,3,3,3,3,3,9]] A28 [.s 9]:=by
 refine I5 (C:=cx C0L []) (d:=60) B9r (cxg (B7l hst) .nil) hst ⟨Tryz.f50,_,Tryz.func50,rfl⟩ (by kernel_rfl) (by kernel_rfl) ?_;intro us outs hs;unfold A28 at hs;split at hs
 ·skip;rename_i b0 b1 ck b3 b4 b5 b6 pa fo b9 b10 mo sg k c m w b r cl t;split at hs
  ·rename_i hc;cases hs;have z1:=B7 c;have z2:=C0u c;have z3:=B55 c;have hk:=hc;unfold A4 chP okU at hk;unfold B9r;refine s0L ?_;show Tr.sav _ _ (.cons 20 _ (.cons 19 _ (.cons 18 _ (.cons 17 _ (.cons 16 _ (.cons 15 _ (.cons 14 _ (.cons 13 _ (.cons 12 _ (.cons 11 _ (.cons 10 _ (.cons 9 _ (.cons 8 _ (.cons 7 _ (.cons 6 _ (.cons 5 _ (.cons 4 _ (.cons 3 _ (.cons 2 _ (.cons 1 _ (.cons 0 _ (.nil))))))))))))))))))))));refine s1 (B3t _) rfl rfl rfl ?_;refine s1 (H1 _ _ _) rfl rfl rfl ?_;refine s4 rfl (fun g0=>?_) fun g0=>?_
   ·refine s2 (r:=rM) (B6s [] rfl (by decide) rfl) rfl rfl ?_;refine s2 (r:=rM) (Y5 (fun a b=>(a.1 == b.1 && true)) (_,_) rfl rfl (fun _=>rfl) (K4 _)) rfl rfl ?_;refine s2 (r:=rM) (Y5 (fun a b=>(a.1 == b.1 && true)) (_,_) rfl rfl (fun _=>rfl) (K4 _)) rfl rfl ?_;refine s2 (r:=rM) (Y5 (fun a b=>(a.1 == b.1 && true)) (_,_) rfl rfl (fun _=>rfl) (K4 _)) rfl rfl ?_;refine s2 (r:=rM) (Y5 (fun a b=>(a.1 == b.1 && true)) (_,_) rfl rfl (fun _=>rfl) (K4 _)) rfl rfl ?_;refine s1 (B6w _ rfl) rfl rfl rfl ?_;refine s1 (B6v _ rfl) rfl rfl rfl ?_;refine s1 (A8 _ _ _) rfl rfl rfl ?_;refine s4 rfl (fun g1=>?_) fun g1=>?_
    ·refine s1 (A8 _ _ _) rfl rfl rfl ?_;refine s4 rfl (fun g2=>?_) fun g2=>?_
     ·refine s7 [.str _] rfl ?_;refine congrArg (fun z=>[U.str z]) ?_
      (try simp only[t7,decide_eq_true_eq,decide_eq_false_iff_not]at *)
      (try rw[t8])
      unfold keS Y7
      (repeat' split)<;>first|(exfalso;omega)|rfl
     first|refine s4 rfl (fun g3=>?_) (fun g3=>?_)|refine s4B rfl (fun g3=>?_) (fun g3=>?_)
     ·refine s1 (H4 _ _ (by simp only[A9,B3,A6,N6];omega)) rfl rfl rfl ?_;refine s7 [.str _] rfl ?_;refine congrArg (fun z=>[U.str z]) ?_
      (try simp only[t7,decide_eq_true_eq,decide_eq_false_iff_not]at *)
      (try rw[t8])
      unfold keS Y7
      (repeat' split)<;>first|(exfalso;omega)|rfl
     refine s1 (P9 _ _ _) rfl rfl rfl ?_;refine s4 rfl (fun g4=>?_) fun g4=>?_
     ·refine s1 (A2E _) rfl rfl rfl ?_;refine s1 (H1 _ _ _) rfl rfl rfl ?_;refine s4 rfl (fun g5=>?_) fun g5=>?_
      ·refine s32 (A3g _) rfl rfl ?_;refine s1 (A2D [_] (by simp only[C3,J5,or_false,forall_eq_or_imp,forall_eq];omega)) rfl rfl rfl ?_;refine s1 (H4 _ _ (by simp only[A9,B3,A6,N6];omega)) rfl rfl rfl ?_;refine s7 [.str _] rfl ?_;refine congrArg (fun z=>[U.str z]) ?_
       (try simp only[t7,decide_eq_true_eq,decide_eq_false_iff_not]at *)
       (try rw[t8])
       unfold keS Y7
       (repeat' split)<;>first|(exfalso;omega)|rfl
      refine s1 (P9 _ _ _) rfl rfl rfl ?_;refine s4 rfl (fun g6=>?_) fun g6=>?_
      ·refine s31 (A1G _) rfl ?_;refine s1 (H4 _ _ (by simp only[A9,B3,A6,N6];omega)) rfl rfl rfl ?_;refine s7 [.str _] rfl ?_;refine congrArg (fun z=>[U.str z]) ?_
       (try simp only[t7,decide_eq_true_eq,decide_eq_false_iff_not]at *)
       (try rw[t8])
       unfold keS Y7
       (repeat' split)<;>first|(exfalso;omega)|rfl
      first|refine s1 (S9 (D8 (by omega) (by omega))) rfl rfl rfl ?_|refine s1 (W7 _ _ _) rfl rfl rfl ?_
      refine s31 (A1S _ _ _ _ _ _ _ _ _ _ _ _ _ _ _ (by have z6:=B1N ‹_›;omega)) rfl ?_;refine s7 [.str _] rfl ?_;refine congrArg (fun z=>[U.str z]) ?_
      (try simp only[t7,decide_eq_true_eq,decide_eq_false_iff_not]at *)
      (try rw[t8])
      unfold keS Y7
      (repeat' split)<;>first|(exfalso;omega)|rfl
     refine s1 (P9 _ _ _) rfl rfl rfl ?_;refine s4 rfl (fun g5=>?_) fun g5=>?_
     ·refine s31 (A1G _) rfl ?_;refine s1 (H4 _ _ (by simp only[A9,B3,A6,N6];omega)) rfl rfl rfl ?_;refine s7 [.str _] rfl ?_;refine congrArg (fun z=>[U.str z]) ?_
      (try simp only[t7,decide_eq_true_eq,decide_eq_false_iff_not]at *)
      (try rw[t8])
      unfold keS Y7
      (repeat' split)<;>first|(exfalso;omega)|rfl
     first|refine s1 (S9 (D8 (by omega) (by omega))) rfl rfl rfl ?_|refine s1 (W7 _ _ _) rfl rfl rfl ?_
     refine s31 (A1S _ _ _ _ _ _ _ _ _ _ _ _ _ _ _ (by have z6:=B1N ‹_›;omega)) rfl ?_;refine s7 [.str _] rfl ?_;refine congrArg (fun z=>[U.str z]) ?_
     (try simp only[t7,decide_eq_true_eq,decide_eq_false_iff_not]at *)
     (try rw[t8])
     unfold keS Y7
     (repeat' split)<;>first|(exfalso;omega)|rfl
    first|refine s4 rfl (fun g2=>?_) (fun g2=>?_)|refine s4B rfl (fun g2=>?_) (fun g2=>?_)
    ·refine s1 (H4 _ _ (by simp only[A9,B3,A6,N6];omega)) rfl rfl rfl ?_;refine s7 [.str _] rfl ?_;refine congrArg (fun z=>[U.str z]) ?_
     (try simp only[t7,decide_eq_true_eq,decide_eq_false_iff_not]at *)
     (try rw[t8])
     unfold keS Y7
     (repeat' split)<;>first|(exfalso;omega)|rfl
    refine s1 (P9 _ _ _) rfl rfl rfl ?_;refine s4 rfl (fun g3=>?_) fun g3=>?_
    ·refine s1 (A2E _) rfl rfl rfl ?_;refine s1 (H1 _ _ _) rfl rfl rfl ?_;refine s4 rfl (fun g4=>?_) fun g4=>?_
     ·refine s32 (A3g _) rfl rfl ?_;refine s1 (A2D [_] (by simp only[C3,J5,or_false,forall_eq_or_imp,forall_eq];omega)) rfl rfl rfl ?_;refine s1 (H4 _ _ (by simp only[A9,B3,A6,N6];omega)) rfl rfl rfl ?_;refine s7 [.str _] rfl ?_;refine congrArg (fun z=>[U.str z]) ?_
      (try simp only[t7,decide_eq_true_eq,decide_eq_false_iff_not]at *)
      (try rw[t8])
      unfold keS Y7
      (repeat' split)<;>first|(exfalso;omega)|rfl
     refine s1 (P9 _ _ _) rfl rfl rfl ?_;refine s4 rfl (fun g5=>?_) fun g5=>?_
     ·refine s31 (A1G _) rfl ?_;refine s1 (H4 _ _ (by simp only[A9,B3,A6,N6];omega)) rfl rfl rfl ?_;refine s7 [.str _] rfl ?_;refine congrArg (fun z=>[U.str z]) ?_
      (try simp only[t7,decide_eq_true_eq,decide_eq_false_iff_not]at *)
      (try rw[t8])
      unfold keS Y7
      (repeat' split)<;>first|(exfalso;omega)|rfl
     first|refine s1 (S9 (D8 (by omega) (by omega))) rfl rfl rfl ?_|refine s1 (W7 _ _ _) rfl rfl rfl ?_
     refine s31 (A1S _ _ _ _ _ _ _ _ _ _ _ _ _ _ _ (by have z6:=B1N ‹_›;omega)) rfl ?_;refine s7 [.str _] rfl ?_;refine congrArg (fun z=>[U.str z]) ?_
     (try simp only[t7,decide_eq_true_eq,decide_eq_false_iff_not]at *)
     (try rw[t8])
     unfold keS Y7
     (repeat' split)<;>first|(exfalso;omega)|rfl
    refine s1 (P9 _ _ _) rfl rfl rfl ?_;refine s4 rfl (fun g4=>?_) fun g4=>?_
    ·refine s31 (A1G _) rfl ?_;refine s1 (H4 _ _ (by simp only[A9,B3,A6,N6];omega)) rfl rfl rfl ?_;refine s7 [.str _] rfl ?_;refine congrArg (fun z=>[U.str z]) ?_
     (try simp only[t7,decide_eq_true_eq,decide_eq_false_iff_not]at *)
     (try rw[t8])
     unfold keS Y7
     (repeat' split)<;>first|(exfalso;omega)|rfl
    first|refine s1 (S9 (D8 (by omega) (by omega))) rfl rfl rfl ?_|refine s1 (W7 _ _ _) rfl rfl rfl ?_
    refine s31 (A1S _ _ _ _ _ _ _ _ _ _ _ _ _ _ _ (by have z6:=B1N ‹_›;omega)) rfl ?_;refine s7 [.str _] rfl ?_;refine congrArg (fun z=>[U.str z]) ?_
    (try simp only[t7,decide_eq_true_eq,decide_eq_false_iff_not]at *)
    (try rw[t8])
    unfold keS Y7
    (repeat' split)<;>first|(exfalso;omega)|rfl
   refine s2 (r:=rM) (B6s [] rfl (by decide) rfl) rfl rfl ?_;refine s2 (r:=rM) (Y5 (fun a b=>(a.1 == b.1 && true)) (_,_) rfl rfl (fun _=>rfl) (K4 _)) rfl rfl ?_;refine s2 (r:=rM) (Y5 (fun a b=>(a.1 == b.1 && true)) (_,_) rfl rfl (fun _=>rfl) (K4 _)) rfl rfl ?_;refine s2 (r:=rM) (Y5 (fun a b=>(a.1 == b.1 && true)) (_,_) rfl rfl (fun _=>rfl) (K4 _)) rfl rfl ?_;refine s2 (r:=rM) (Y5 (fun a b=>(a.1 == b.1 && true)) (_,_) rfl rfl (fun _=>rfl) (K4 _)) rfl rfl ?_;refine s1 (B6w _ rfl) rfl rfl rfl ?_;refine s1 (B6v _ rfl) rfl rfl rfl ?_;refine s1 (A8 _ _ _) rfl rfl rfl ?_;refine s4 rfl (fun g1=>?_) fun g1=>?_
   ·refine s1 (A8 _ _ _) rfl rfl rfl ?_;refine s4 rfl (fun g2=>?_) fun g2=>?_
    ·refine s7 [.str _] rfl ?_;refine congrArg (fun z=>[U.str z]) ?_
     (try simp only[t7,decide_eq_true_eq,decide_eq_false_iff_not]at *)
     (try rw[t8])
     unfold keS Y7
     (repeat' split)<;>first|(exfalso;omega)|rfl
    first|refine s4 rfl (fun g3=>?_) (fun g3=>?_)|refine s4B rfl (fun g3=>?_) (fun g3=>?_)
    ·refine s1 (H4 _ _ (by simp only[A9,B3,A6,N6];omega)) rfl rfl rfl ?_;refine s7 [.str _] rfl ?_;refine congrArg (fun z=>[U.str z]) ?_
     (try simp only[t7,decide_eq_true_eq,decide_eq_false_iff_not]at *)
     (try rw[t8])
     unfold keS Y7
     (repeat' split)<;>first|(exfalso;omega)|rfl
    refine s1 (P9 _ _ _) rfl rfl rfl ?_;refine s4 rfl (fun g4=>?_) fun g4=>?_
    ·refine s1 (A2E _) rfl rfl rfl ?_;refine s1 (H1 _ _ _) rfl rfl rfl ?_;refine s4 rfl (fun g5=>?_) fun g5=>?_
     ·refine s32 (A3g _) rfl rfl ?_;refine s1 (A2D [_] (by simp only[C3,J5,or_false,forall_eq_or_imp,forall_eq];omega)) rfl rfl rfl ?_;refine s1 (H4 _ _ (by simp only[A9,B3,A6,N6];omega)) rfl rfl rfl ?_;refine s7 [.str _] rfl ?_;refine congrArg (fun z=>[U.str z]) ?_
      (try simp only[t7,decide_eq_true_eq,decide_eq_false_iff_not]at *)
      (try rw[t8])
      unfold keS Y7
      (repeat' split)<;>first|(exfalso;omega)|rfl
     refine s1 (P9 _ _ _) rfl rfl rfl ?_;refine s4 rfl (fun g6=>?_) fun g6=>?_
     ·refine s31 (A1G _) rfl ?_;refine s1 (H4 _ _ (by simp only[A9,B3,A6,N6];omega)) rfl rfl rfl ?_;refine s7 [.str _] rfl ?_;refine congrArg (fun z=>[U.str z]) ?_
      (try simp only[t7,decide_eq_true_eq,decide_eq_false_iff_not]at *)
      (try rw[t8])
      unfold keS Y7
      (repeat' split)<;>first|(exfalso;omega)|rfl
     first|refine s1 (S9 (D8 (by omega) (by omega))) rfl rfl rfl ?_|refine s1 (W7 _ _ _) rfl rfl rfl ?_
     refine s31 (A1S _ _ _ _ _ _ _ _ _ _ _ _ _ _ _ (by have z6:=B1N ‹_›;omega)) rfl ?_;refine s7 [.str _] rfl ?_;refine congrArg (fun z=>[U.str z]) ?_
     (try simp only[t7,decide_eq_true_eq,decide_eq_false_iff_not]at *)
     (try rw[t8])
     unfold keS Y7
     (repeat' split)<;>first|(exfalso;omega)|rfl
    refine s1 (P9 _ _ _) rfl rfl rfl ?_;refine s4 rfl (fun g5=>?_) fun g5=>?_
    ·refine s31 (A1G _) rfl ?_;refine s1 (H4 _ _ (by simp only[A9,B3,A6,N6];omega)) rfl rfl rfl ?_;refine s7 [.str _] rfl ?_;refine congrArg (fun z=>[U.str z]) ?_
     (try simp only[t7,decide_eq_true_eq,decide_eq_false_iff_not]at *)
     (try rw[t8])
     unfold keS Y7
     (repeat' split)<;>first|(exfalso;omega)|rfl
    first|refine s1 (S9 (D8 (by omega) (by omega))) rfl rfl rfl ?_|refine s1 (W7 _ _ _) rfl rfl rfl ?_
    refine s31 (A1S _ _ _ _ _ _ _ _ _ _ _ _ _ _ _ (by have z6:=B1N ‹_›;omega)) rfl ?_;refine s7 [.str _] rfl ?_;refine congrArg (fun z=>[U.str z]) ?_
    (try simp only[t7,decide_eq_true_eq,decide_eq_false_iff_not]at *)
    (try rw[t8])
    unfold keS Y7
    (repeat' split)<;>first|(exfalso;omega)|rfl
   first|refine s4 rfl (fun g2=>?_) (fun g2=>?_)|refine s4B rfl (fun g2=>?_) (fun g2=>?_)
   ·refine s1 (H4 _ _ (by simp only[A9,B3,A6,N6];omega)) rfl rfl rfl ?_;refine s7 [.str _] rfl ?_;refine congrArg (fun z=>[U.str z]) ?_
    (try simp only[t7,decide_eq_true_eq,decide_eq_false_iff_not]at *)
    (try rw[t8])
    unfold keS Y7
    (repeat' split)<;>first|(exfalso;omega)|rfl
   refine s1 (P9 _ _ _) rfl rfl rfl ?_;refine s4 rfl (fun g3=>?_) fun g3=>?_
   ·refine s1 (A2E _) rfl rfl rfl ?_;refine s1 (H1 _ _ _) rfl rfl rfl ?_;refine s4 rfl (fun g4=>?_) fun g4=>?_
    ·refine s32 (A3g _) rfl rfl ?_;refine s1 (A2D [_] (by simp only[C3,J5,or_false,forall_eq_or_imp,forall_eq];omega)) rfl rfl rfl ?_;refine s1 (H4 _ _ (by simp only[A9,B3,A6,N6];omega)) rfl rfl rfl ?_;refine s7 [.str _] rfl ?_;refine congrArg (fun z=>[U.str z]) ?_
     (try simp only[t7,decide_eq_true_eq,decide_eq_false_iff_not]at *)
     (try rw[t8])
     unfold keS Y7
     (repeat' split)<;>first|(exfalso;omega)|rfl
    refine s1 (P9 _ _ _) rfl rfl rfl ?_;refine s4 rfl (fun g5=>?_) fun g5=>?_
    ·refine s31 (A1G _) rfl ?_;refine s1 (H4 _ _ (by simp only[A9,B3,A6,N6];omega)) rfl rfl rfl ?_;refine s7 [.str _] rfl ?_;refine congrArg (fun z=>[U.str z]) ?_
     (try simp only[t7,decide_eq_true_eq,decide_eq_false_iff_not]at *)
     (try rw[t8])
     unfold keS Y7
     (repeat' split)<;>first|(exfalso;omega)|rfl
    first|refine s1 (S9 (D8 (by omega) (by omega))) rfl rfl rfl ?_|refine s1 (W7 _ _ _) rfl rfl rfl ?_
    refine s31 (A1S _ _ _ _ _ _ _ _ _ _ _ _ _ _ _ (by have z6:=B1N ‹_›;omega)) rfl ?_;refine s7 [.str _] rfl ?_;refine congrArg (fun z=>[U.str z]) ?_
    (try simp only[t7,decide_eq_true_eq,decide_eq_false_iff_not]at *)
    (try rw[t8])
    unfold keS Y7
    (repeat' split)<;>first|(exfalso;omega)|rfl
   refine s1 (P9 _ _ _) rfl rfl rfl ?_;refine s4 rfl (fun g4=>?_) fun g4=>?_
   ·refine s31 (A1G _) rfl ?_;refine s1 (H4 _ _ (by simp only[A9,B3,A6,N6];omega)) rfl rfl rfl ?_;refine s7 [.str _] rfl ?_;refine congrArg (fun z=>[U.str z]) ?_
    (try simp only[t7,decide_eq_true_eq,decide_eq_false_iff_not]at *)
    (try rw[t8])
    unfold keS Y7
    (repeat' split)<;>first|(exfalso;omega)|rfl
   first|refine s1 (S9 (D8 (by omega) (by omega))) rfl rfl rfl ?_|refine s1 (W7 _ _ _) rfl rfl rfl ?_
   refine s31 (A1S _ _ _ _ _ _ _ _ _ _ _ _ _ _ _ (by have z6:=B1N ‹_›;omega)) rfl ?_;refine s7 [.str _] rfl ?_;refine congrArg (fun z=>[U.str z]) ?_
   (try simp only[t7,decide_eq_true_eq,decide_eq_false_iff_not]at *)
   (try rw[t8])
   unfold keS Y7
   (repeat' split)<;>first|(exfalso;omega)|rfl
  ·cases hs
 ·cases hs
end Go.Proofs.YtdimocjaepnifaaGreatDoor
