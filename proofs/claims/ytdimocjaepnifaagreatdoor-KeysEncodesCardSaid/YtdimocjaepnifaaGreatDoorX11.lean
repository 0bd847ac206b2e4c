/- The law KeysEncodes: for every input the call returns true, and the arguments read behind it as they read before. No condition. -/
import Derived.Test.YtdimocjaepnifaaGreatDoorX10
namespace Go.Proofs.YtdimocjaepnifaaGreatDoor
set_option linter.all false
open Go Go.Sx
set_option maxRecDepth 100000
set_option linter.unusedVariables false
set_option linter.unusedSimpArgs false
def msP(m w b r cl:Int):Prop:=0≤w∧w≤3∧0≤b∧b≤3∧(w=0→b≤2)∧(w=3→b≤1)∧0≤m∧m≤7∧0≤r∧r≤39∧0≤cl∧cl≤79
instance(m w b r cl:Int):Decidable (msP m w b r cl):=by unfold msP;infer_instance
theorem K8(m w b r cl:Int):msP m w b r cl↔(0≤b∧0≤m∧m≤7∧0≤r∧r≤39∧0≤cl∧cl≤79)∧((w=0∧b≤2)∨(w=1∧b≤3)∨(w=2∧b≤3)∨(w=3∧b≤1)):=by
 unfold msP;omega
theorem L2(w:Int):(w=0∧([2,3,3,1]:List Int).getD w.toNat 0=2)∨(w=1∧([2,3,3,1]:List Int).getD w.toNat 0=3)∨(w=2∧([2,3,3,1]:List Int).getD w.toNat 0=3)∨(w=3∧([2,3,3,1]:List Int).getD w.toNat 0=1)∨w<0∨3<w:=by
 by_cases h:0≤w∧w≤3
 ·have:w=0∨w=1∨w=2∨w=3:=by omega
  rcases this with rfl|rfl|rfl|rfl<;>decide
 ·omega
noncomputable def C1e:List (FuncId×FnC):=L0
theorem B8S{G:Nat→Option Obj}(hst:D2 Tryz.prog G gl H0 n0):J3 Tryz.prog G gl C1e:=.nil
def B07:List U→Option (Nat×List U)
 | [.int .i64 k,.int .i64 c,.int .i64 m,.int .i64 w,.int .i64 b,.int .i64 r,.int .i64 cl,.str t]=>some (0,[.bool (decide (msP m w b r cl))])
 | _=>none
theorem B9D(k:Int)(c:Int)(m:Int)(w:Int)(b:Int)(r:Int)(cl:Int)(t:(List UInt8)):B07 [.int .i64 k,.int .i64 c,.int .i64 m,.int .i64 w,.int .i64 b,.int .i64 r,.int .i64 cl,.str t]=some (0,[.bool (decide (msP m w b r cl))]):=rfl
def C0H:Tr:=.lt 8 (.bin .geq) [h 3 3,jI 0]<|.br 8 (.lt 8 (.bin .leq) [h 3 3,jI 3]<|.br 9 (.lt 8 (.inb) [h 3 3,jI 4]<|.br 10 (.lt 3 (.sel) [h 3 3,jI 2,jI 3,jI 3,jI 1]<|.lt 8 (.bin .geq) [h 4 3,jI 0]<|.br 12 (.lt 8 (.bin .leq) [h 4 3,h 11 3]<|.br 13 (.lt 8 (.bin .geq) [h 2 3,jI 0]<|.br 14 (.lt 8 (.bin .leq) [h 2 3,jI 7]<|.br 15 (.lt 8 (.bin .geq) [h 5 3,jI 0]<|.br 16 (.lt 8 (.bin .leq) [h 5 3,jI 39]<|.br 17 (.lt 8 (.bin .geq) [h 6 3,jI 0]<|.br 18 (.lt 8 (.bin .leq) [h 6 3,jI 79]<|.ret [h 19 8]) (.ret [.bool false])) (.ret [.bool false])) (.ret [.bool false])) (.ret [.bool false])) (.ret [.bool false])) (.ret [.bool false])) (.ret [.bool false])) (.no)) (.ret [.bool false])) (.ret [.bool false])
theorem C24{G:Nat→Option Obj}(hst:D2 Tryz.prog G gl H0 n0):N0 Tryz.prog G 37 [.a [3,3,3,3,3,3,3,9]] B07 [.s 8]:=by
 refine F4 (C:=cx C1e []) (d:=60) C0H (cxg (B8S hst) .nil) hst ⟨Tryz.f37,_,Tryz.func37,rfl⟩ (by kernel_rfl) (by kernel_rfl) ?_;intro us outs hs;unfold B07 at hs;split at hs
 ·skip;rename_i k c m w b r cl t;cases hs;unfold C0H;refine s0 (.cons 7 _ (.cons 6 _ (.cons 5 _ (.cons 4 _ (.cons 3 _ (.cons 2 _ (.cons 1 _ (.cons 0 _ (.nil))))))))) rfl (by simp[Ev.ok,Ev.len]) ?_;refine s1 (F2 _ _ _) rfl rfl rfl ?_;refine s5 rfl (fun g0=>?_) fun g0=>?_
  ·refine s7 [.bool _] rfl ?_;have z1:=K8 m w b r cl;have z0:=L2 w;refine l1 ?_;first|(refine decide_eq_decide.2 ⟨fun h=>z1.2 ?_,fun h=>?_⟩;omega;(have:=z1.1 h;omega))|(symm;first|exact decide_eq_true (z1.2 (by omega))|exact decide_eq_false (fun h=>by have:=z1.1 h;omega)|(exfalso;omega))
  refine s1 (G0 _ _ _) rfl rfl rfl ?_;refine s5 rfl (fun g1=>?_) fun g1=>?_
  ·refine s7 [.bool _] rfl ?_;have z1:=K8 m w b r cl;have z0:=L2 w;refine l1 ?_;first|(refine decide_eq_decide.2 ⟨fun h=>z1.2 ?_,fun h=>?_⟩;omega;(have:=z1.1 h;omega))|(symm;first|exact decide_eq_true (z1.2 (by omega))|exact decide_eq_false (fun h=>by have:=z1.1 h;omega)|(exfalso;omega))
  refine s1 (A5y _ _ _ _) rfl rfl rfl ?_;refine s5 rfl (fun g2=>?_) fun g2=>?_
  ·refine s8 ?_
   (have z0:=L2 w;omega)
  refine s1 (A2Y [2,3,3,1] (by omega) (by show _<((4:Nat):Int);omega)) rfl rfl rfl ?_;refine s1 (F2 _ _ _) rfl rfl rfl ?_;refine s5 rfl (fun g3=>?_) fun g3=>?_
  ·refine s7 [.bool _] rfl ?_;have z1:=K8 m w b r cl;have z0:=L2 w;refine l1 ?_;first|(refine decide_eq_decide.2 ⟨fun h=>z1.2 ?_,fun h=>?_⟩;omega;(have:=z1.1 h;omega))|(symm;first|exact decide_eq_true (z1.2 (by omega))|exact decide_eq_false (fun h=>by have:=z1.1 h;omega)|(exfalso;omega))
  refine s1 (G0 _ _ _) rfl rfl rfl ?_;refine s5 rfl (fun g4=>?_) fun g4=>?_
  ·refine s7 [.bool _] rfl ?_;have z1:=K8 m w b r cl;have z0:=L2 w;refine l1 ?_;first|(refine decide_eq_decide.2 ⟨fun h=>z1.2 ?_,fun h=>?_⟩;omega;(have:=z1.1 h;omega))|(symm;first|exact decide_eq_true (z1.2 (by omega))|exact decide_eq_false (fun h=>by have:=z1.1 h;omega)|(exfalso;omega))
  refine s1 (F2 _ _ _) rfl rfl rfl ?_;refine s5 rfl (fun g5=>?_) fun g5=>?_
  ·refine s7 [.bool _] rfl ?_;have z1:=K8 m w b r cl;have z0:=L2 w;refine l1 ?_;first|(refine decide_eq_decide.2 ⟨fun h=>z1.2 ?_,fun h=>?_⟩;omega;(have:=z1.1 h;omega))|(symm;first|exact decide_eq_true (z1.2 (by omega))|exact decide_eq_false (fun h=>by have:=z1.1 h;omega)|(exfalso;omega))
  refine s1 (G0 _ _ _) rfl rfl rfl ?_;refine s5 rfl (fun g6=>?_) fun g6=>?_
  ·refine s7 [.bool _] rfl ?_;have z1:=K8 m w b r cl;have z0:=L2 w;refine l1 ?_;first|(refine decide_eq_decide.2 ⟨fun h=>z1.2 ?_,fun h=>?_⟩;omega;(have:=z1.1 h;omega))|(symm;first|exact decide_eq_true (z1.2 (by omega))|exact decide_eq_false (fun h=>by have:=z1.1 h;omega)|(exfalso;omega))
  refine s1 (F2 _ _ _) rfl rfl rfl ?_;refine s5 rfl (fun g7=>?_) fun g7=>?_
  ·refine s7 [.bool _] rfl ?_;have z1:=K8 m w b r cl;have z0:=L2 w;refine l1 ?_;first|(refine decide_eq_decide.2 ⟨fun h=>z1.2 ?_,fun h=>?_⟩;omega;(have:=z1.1 h;omega))|(symm;first|exact decide_eq_true (z1.2 (by omega))|exact decide_eq_false (fun h=>by have:=z1.1 h;omega)|(exfalso;omega))
  refine s1 (G0 _ _ _) rfl rfl rfl ?_;refine s5 rfl (fun g8=>?_) fun g8=>?_
  ·refine s7 [.bool _] rfl ?_;have z1:=K8 m w b r cl;have z0:=L2 w;refine l1 ?_;first|(refine decide_eq_decide.2 ⟨fun h=>z1.2 ?_,fun h=>?_⟩;omega;(have:=z1.1 h;omega))|(symm;first|exact decide_eq_true (z1.2 (by omega))|exact decide_eq_false (fun h=>by have:=z1.1 h;omega)|(exfalso;omega))
  refine s1 (F2 _ _ _) rfl rfl rfl ?_;refine s5 rfl (fun g9=>?_) fun g9=>?_
  ·refine s7 [.bool _] rfl ?_;have z1:=K8 m w b r cl;have z0:=L2 w;refine l1 ?_;first|(refine decide_eq_decide.2 ⟨fun h=>z1.2 ?_,fun h=>?_⟩;omega;(have:=z1.1 h;omega))|(symm;first|exact decide_eq_true (z1.2 (by omega))|exact decide_eq_false (fun h=>by have:=z1.1 h;omega)|(exfalso;omega))
  refine s1 (G0 _ _ _) rfl rfl rfl ?_;refine s7 [.bool _] rfl ?_;have z1:=K8 m w b r cl;have z0:=L2 w;refine l1 ?_;first|(refine decide_eq_decide.2 ⟨fun h=>z1.2 ?_,fun h=>?_⟩;omega;(have:=z1.1 h;omega))|(symm;first|exact decide_eq_true (z1.2 (by omega))|exact decide_eq_false (fun h=>by have:=z1.1 h;omega)|(exfalso;omega))
 ·cases hs
noncomputable def C1m:List (FuncId×FnC):=L0
theorem B8b{G:Nat→Option Obj}(hst:D2 Tryz.prog G gl H0 n0):J3 Tryz.prog G gl C1m:=.nil
def A80:List U→Option (Nat×List U)
 | [.int .i64 k,.int .i64 c,.int .i64 m,.int .i64 w,.int .i64 b,.int .i64 r,.int .i64 cl,.str t]=>some (0,[.bool (decide (msP m w b r cl))])
 | _=>none
theorem B9N(k:Int)(c:Int)(m:Int)(w:Int)(b:Int)(r:Int)(cl:Int)(t:(List UInt8)):A80 [.int .i64 k,.int .i64 c,.int .i64 m,.int .i64 w,.int .i64 b,.int .i64 r,.int .i64 cl,.str t]=some (0,[.bool (decide (msP m w b r cl))]):=rfl
def C0b:Tr:=.lt 8 (.bin .eql) [h 3 3,jI 0]<|.br 8 (.lt 8 (.bin .eql) [h 3 3,jI 3]<|.br 9 (.lt 8 (.bin .geq) [h 3 3,jI 0]<|.br 10 (.lt 8 (.bin .leq) [h 3 3,jI 3]<|.br 11 (.lt 8 (.bin .geq) [h 4 3,jI 0]<|.br 12 (.lt 8 (.bin .leq) [h 4 3,jI 1]<|.br 13 (.lt 8 (.bin .geq) [h 2 3,jI 0]<|.br 14 (.lt 8 (.bin .leq) [h 2 3,jI 7]<|.br 15 (.lt 8 (.bin .geq) [h 5 3,jI 0]<|.br 16 (.lt 8 (.bin .leq) [h 5 3,jI 39]<|.br 17 (.lt 8 (.bin .geq) [h 6 3,jI 0]<|.br 18 (.lt 8 (.bin .leq) [h 6 3,jI 79]<|.ret [h 19 8]) (.ret [.bool false])) (.ret [.bool false])) (.ret [.bool false])) (.ret [.bool false])) (.ret [.bool false])) (.ret [.bool false])) (.ret [.bool false])) (.ret [.bool false])) (.ret [.bool false])) (.lt 8 (.bin .geq) [h 3 3,jI 0]<|.br 10 (.lt 8 (.bin .leq) [h 3 3,jI 3]<|.br 11 (.lt 8 (.bin .geq) [h 4 3,jI 0]<|.br 12 (.lt 8 (.bin .leq) [h 4 3,jI 2]<|.br 13 (.lt 8 (.bin .geq) [h 2 3,jI 0]<|.br 14 (.lt 8 (.bin .leq) [h 2 3,jI 7]<|.br 15 (.lt 8 (.bin .geq) [h 5 3,jI 0]<|.br 16 (.lt 8 (.bin .leq) [h 5 3,jI 39]<|.br 17 (.lt 8 (.bin .geq) [h 6 3,jI 0]<|.br 18 (.lt 8 (.bin .leq) [h 6 3,jI 79]<|.ret [h 19 8]) (.ret [.bool false])) (.ret [.bool false])) (.ret [.bool false])) (.ret [.bool false])) (.ret [.bool false])) (.ret [.bool false])) (.ret [.bool false])) (.ret [.bool false])) (.ret [.bool false]))) (.lt 8 (.bin .eql) [h 3 3,jI 3]<|.br 9 (.lt 8 (.bin .geq) [h 3 3,jI 0]<|.br 10 (.lt 8 (.bin .leq) [h 3 3,jI 3]<|.br 11 (.lt 8 (.bin .geq) [h 4 3,jI 0]<|.br 12 (.lt 8 (.bin .leq) [h 4 3,jI 1]<|.br 13 (.lt 8 (.bin .geq) [h 2 3,jI 0]<|.br 14 (.lt 8 (.bin .leq) [h 2 3,jI 7]<|.br 15 (.lt 8 (.bin .geq) [h 5 3,jI 0]<|.br 16 (.lt 8 (.bin .leq) [h 5 3,jI 39]<|.br 17 (.lt 8 (.bin .geq) [h 6 3,jI 0]<|.br 18 (.lt 8 (.bin .leq) [h 6 3,jI 79]<|.ret [h 19 8]) (.ret [.bool false])) (.ret [.bool false])) (.ret [.bool false])) (.ret [.bool false])) (.ret [.bool false])) (.ret [.bool false])) (.ret [.bool false])) (.ret [.bool false])) (.ret [.bool false])) (.lt 8 (.bin .geq) [h 3 3,jI 0]<|.br 10 (.lt 8 (.bin .leq) [h 3 3,jI 3]<|.br 11 (.lt 8 (.bin .geq) [h 4 3,jI 0]<|.br 12 (.lt 8 (.bin .leq) [h 4 3,jI 3]<|.br 13 (.lt 8 (.bin .geq) [h 2 3,jI 0]<|.br 14 (.lt 8 (.bin .leq) [h 2 3,jI 7]<|.br 15 (.lt 8 (.bin .geq) [h 5 3,jI 0]<|.br 16 (.lt 8 (.bin .leq) [h 5 3,jI 39]<|.br 17 (.lt 8 (.bin .geq) [h 6 3,jI 0]<|.br 18 (.lt 8 (.bin .leq) [h 6 3,jI 79]<|.ret [h 19 8]) (.ret [.bool false])) (.ret [.bool false])) (.ret [.bool false])) (.ret [.bool false])) (.ret [.bool false])) (.ret [.bool false])) (.ret [.bool false])) (.ret [.bool false])) (.ret [.bool false])))
theorem C0c{G:Nat→Option Obj}(hst:D2 Tryz.prog G gl H0 n0):N0 Tryz.prog G 61 [.a [3,3,3,3,3,3,3,9]] A80 [.s 8]:=by
 refine F4 (C:=cx C1m []) (d:=60) C0b (cxg (B8b hst) .nil) hst ⟨Tryz.f61,_,Tryz.func61,rfl⟩ (by kernel_rfl) (by kernel_rfl) ?_;intro us outs hs;unfold A80 at hs;split at hs
 ·skip;rename_i k c m w b r cl t;cases hs;unfold C0b;refine s0 (.cons 7 _ (.cons 6 _ (.cons 5 _ (.cons 4 _ (.cons 3 _ (.cons 2 _ (.cons 1 _ (.cons 0 _ (.nil))))))))) rfl (by simp[Ev.ok,Ev.len]) ?_;refine s1 (A8 _ _ _) rfl rfl rfl ?_;refine s4 rfl (fun g0=>?_) fun g0=>?_
  ·refine s1 (A8 _ _ _) rfl rfl rfl ?_;refine s4 rfl (fun g1=>?_) fun g1=>?_
   ·refine s1 (F2 _ _ _) rfl rfl rfl ?_;refine s5 rfl (fun g2=>?_) fun g2=>?_
    ·refine s7 [.bool _] rfl ?_;have z1:=K8 m w b r cl;have z0:=L2 w;refine l1 ?_;first|(refine decide_eq_decide.2 ⟨fun h=>z1.2 ?_,fun h=>?_⟩;omega;(have:=z1.1 h;omega))|(symm;first|exact decide_eq_true (z1.2 (by omega))|exact decide_eq_false (fun h=>by have:=z1.1 h;omega)|(exfalso;omega))
    refine s1 (G0 _ _ _) rfl rfl rfl ?_;refine s5 rfl (fun g3=>?_) fun g3=>?_
    ·refine s7 [.bool _] rfl ?_;have z1:=K8 m w b r cl;have z0:=L2 w;refine l1 ?_;first|(refine decide_eq_decide.2 ⟨fun h=>z1.2 ?_,fun h=>?_⟩;omega;(have:=z1.1 h;omega))|(symm;first|exact decide_eq_true (z1.2 (by omega))|exact decide_eq_false (fun h=>by have:=z1.1 h;omega)|(exfalso;omega))
    refine s1 (F2 _ _ _) rfl rfl rfl ?_;refine s5 rfl (fun g4=>?_) fun g4=>?_
    ·refine s7 [.bool _] rfl ?_;have z1:=K8 m w b r cl;have z0:=L2 w;refine l1 ?_;first|(refine decide_eq_decide.2 ⟨fun h=>z1.2 ?_,fun h=>?_⟩;omega;(have:=z1.1 h;omega))|(symm;first|exact decide_eq_true (z1.2 (by omega))|exact decide_eq_false (fun h=>by have:=z1.1 h;omega)|(exfalso;omega))
    refine s1 (G0 _ _ _) rfl rfl rfl ?_;refine s5 rfl (fun g5=>?_) fun g5=>?_
    ·refine s7 [.bool _] rfl ?_;have z1:=K8 m w b r cl;have z0:=L2 w;refine l1 ?_;first|(refine decide_eq_decide.2 ⟨fun h=>z1.2 ?_,fun h=>?_⟩;omega;(have:=z1.1 h;omega))|(symm;first|exact decide_eq_true (z1.2 (by omega))|exact decide_eq_false (fun h=>by have:=z1.1 h;omega)|(exfalso;omega))
    refine s1 (F2 _ _ _) rfl rfl rfl ?_;refine s5 rfl (fun g6=>?_) fun g6=>?_
    ·refine s7 [.bool _] rfl ?_;have z1:=K8 m w b r cl;have z0:=L2 w;refine l1 ?_;first|(refine decide_eq_decide.2 ⟨fun h=>z1.2 ?_,fun h=>?_⟩;omega;(have:=z1.1 h;omega))|(symm;first|exact decide_eq_true (z1.2 (by omega))|exact decide_eq_false (fun h=>by have:=z1.1 h;omega)|(exfalso;omega))
    refine s1 (G0 _ _ _) rfl rfl rfl ?_;refine s5 rfl (fun g7=>?_) fun g7=>?_
    ·refine s7 [.bool _] rfl ?_;have z1:=K8 m w b r cl;have z0:=L2 w;refine l1 ?_;first|(refine decide_eq_decide.2 ⟨fun h=>z1.2 ?_,fun h=>?_⟩;omega;(have:=z1.1 h;omega))|(symm;first|exact decide_eq_true (z1.2 (by omega))|exact decide_eq_false (fun h=>by have:=z1.1 h;omega)|(exfalso;omega))
    refine s1 (F2 _ _ _) rfl rfl rfl ?_;refine s5 rfl (fun g8=>?_) fun g8=>?_
    ·refine s7 [.bool _] rfl ?_;have z1:=K8 m w b r cl;have z0:=L2 w;refine l1 ?_;first|(refine decide_eq_decide.2 ⟨fun h=>z1.2 ?_,fun h=>?_⟩;omega;(have:=z1.1 h;omega))|(symm;first|exact decide_eq_true (z1.2 (by omega))|exact decide_eq_false (fun h=>by have:=z1.1 h;omega)|(exfalso;omega))
    refine s1 (G0 _ _ _) rfl rfl rfl ?_;refine s5 rfl (fun g9=>?_) fun g9=>?_
    ·refine s7 [.bool _] rfl ?_;have z1:=K8 m w b r cl;have z0:=L2 w;refine l1 ?_;first|(refine decide_eq_decide.2 ⟨fun h=>z1.2 ?_,fun h=>?_⟩;omega;(have:=z1.1 h;omega))|(symm;first|exact decide_eq_true (z1.2 (by omega))|exact decide_eq_false (fun h=>by have:=z1.1 h;omega)|(exfalso;omega))
    refine s1 (F2 _ _ _) rfl rfl rfl ?_;refine s5 rfl (fun g10=>?_) fun g10=>?_
    ·refine s7 [.bool _] rfl ?_;have z1:=K8 m w b r cl;have z0:=L2 w;refine l1 ?_;first|(refine decide_eq_decide.2 ⟨fun h=>z1.2 ?_,fun h=>?_⟩;omega;(have:=z1.1 h;omega))|(symm;first|exact decide_eq_true (z1.2 (by omega))|exact decide_eq_false (fun h=>by have:=z1.1 h;omega)|(exfalso;omega))
    refine s1 (G0 _ _ _) rfl rfl rfl ?_;refine s7 [.bool _] rfl ?_;have z1:=K8 m w b r cl;have z0:=L2 w;refine l1 ?_;first|(refine decide_eq_decide.2 ⟨fun h=>z1.2 ?_,fun h=>?_⟩;omega;(have:=z1.1 h;omega))|(symm;first|exact decide_eq_true (z1.2 (by omega))|exact decide_eq_false (fun h=>by have:=z1.1 h;omega)|(exfalso;omega))
   refine s1 (F2 _ _ _) rfl rfl rfl ?_;refine s5 rfl (fun g2=>?_) fun g2=>?_
   ·refine s7 [.bool _] rfl ?_;have z1:=K8 m w b r cl;have z0:=L2 w;refine l1 ?_;first|(refine decide_eq_decide.2 ⟨fun h=>z1.2 ?_,fun h=>?_⟩;omega;(have:=z1.1 h;omega))|(symm;first|exact decide_eq_true (z1.2 (by omega))|exact decide_eq_false (fun h=>by have:=z1.1 h;omega)|(exfalso;omega))
   refine s1 (G0 _ _ _) rfl rfl rfl ?_;refine s5 rfl (fun g3=>?_) fun g3=>?_
   ·refine s7 [.bool _] rfl ?_;have z1:=K8 m w b r cl;have z0:=L2 w;refine l1 ?_;first|(refine decide_eq_decide.2 ⟨fun h=>z1.2 ?_,fun h=>?_⟩;omega;(have:=z1.1 h;omega))|(symm;first|exact decide_eq_true (z1.2 (by omega))|exact decide_eq_false (fun h=>by have:=z1.1 h;omega)|(exfalso;omega))
   refine s1 (F2 _ _ _) rfl rfl rfl ?_;refine s5 rfl (fun g4=>?_) fun g4=>?_
   ·refine s7 [.bool _] rfl ?_;have z1:=K8 m w b r cl;have z0:=L2 w;refine l1 ?_;first|(refine decide_eq_decide.2 ⟨fun h=>z1.2 ?_,fun h=>?_⟩;omega;(have:=z1.1 h;omega))|(symm;first|exact decide_eq_true (z1.2 (by omega))|exact decide_eq_false (fun h=>by have:=z1.1 h;omega)|(exfalso;omega))
   refine s1 (G0 _ _ _) rfl rfl rfl ?_;refine s5 rfl (fun g5=>?_) fun g5=>?_
   ·refine s7 [.bool _] rfl ?_;have z1:=K8 m w b r cl;have z0:=L2 w;refine l1 ?_;first|(refine decide_eq_decide.2 ⟨fun h=>z1.2 ?_,fun h=>?_⟩;omega;(have:=z1.1 h;omega))|(symm;first|exact decide_eq_true (z1.2 (by omega))|exact decide_eq_false (fun h=>by have:=z1.1 h;omega)|(exfalso;omega))
   refine s1 (F2 _ _ _) rfl rfl rfl ?_;refine s5 rfl (fun g6=>?_) fun g6=>?_
   ·refine s7 [.bool _] rfl ?_;have z1:=K8 m w b r cl;have z0:=L2 w;refine l1 ?_;first|(refine decide_eq_decide.2 ⟨fun h=>z1.2 ?_,fun h=>?_⟩;omega;(have:=z1.1 h;omega))|(symm;first|exact decide_eq_true (z1.2 (by omega))|exact decide_eq_false (fun h=>by have:=z1.1 h;omega)|(exfalso;omega))
   refine s1 (G0 _ _ _) rfl rfl rfl ?_;refine s5 rfl (fun g7=>?_) fun g7=>?_
   ·refine s7 [.bool _] rfl ?_;have z1:=K8 m w b r cl;have z0:=L2 w;refine l1 ?_;first|(refine decide_eq_decide.2 ⟨fun h=>z1.2 ?_,fun h=>?_⟩;omega;(have:=z1.1 h;omega))|(symm;first|exact decide_eq_true (z1.2 (by omega))|exact decide_eq_false (fun h=>by have:=z1.1 h;omega)|(exfalso;omega))
   refine s1 (F2 _ _ _) rfl rfl rfl ?_;refine s5 rfl (fun g8=>?_) fun g8=>?_
   ·refine s7 [.bool _] rfl ?_;have z1:=K8 m w b r cl;have z0:=L2 w;refine l1 ?_;first|(refine decide_eq_decide.2 ⟨fun h=>z1.2 ?_,fun h=>?_⟩;omega;(have:=z1.1 h;omega))|(symm;first|exact decide_eq_true (z1.2 (by omega))|exact decide_eq_false (fun h=>by have:=z1.1 h;omega)|(exfalso;omega))
   refine s1 (G0 _ _ _) rfl rfl rfl ?_;refine s5 rfl (fun g9=>?_) fun g9=>?_
   ·refine s7 [.bool _] rfl ?_;have z1:=K8 m w b r cl;have z0:=L2 w;refine l1 ?_;first|(refine decide_eq_decide.2 ⟨fun h=>z1.2 ?_,fun h=>?_⟩;omega;(have:=z1.1 h;omega))|(symm;first|exact decide_eq_true (z1.2 (by omega))|exact decide_eq_false (fun h=>by have:=z1.1 h;omega)|(exfalso;omega))
   refine s1 (F2 _ _ _) rfl rfl rfl ?_;refine s5 rfl (fun g10=>?_) fun g10=>?_
   ·refine s7 [.bool _] rfl ?_;have z1:=K8 m w b r cl;have z0:=L2 w;refine l1 ?_;first|(refine decide_eq_decide.2 ⟨fun h=>z1.2 ?_,fun h=>?_⟩;omega;(have:=z1.1 h;omega))|(symm;first|exact decide_eq_true (z1.2 (by omega))|exact decide_eq_false (fun h=>by have:=z1.1 h;omega)|(exfalso;omega))
   refine s1 (G0 _ _ _) rfl rfl rfl ?_;refine s7 [.bool _] rfl ?_;have z1:=K8 m w b r cl;have z0:=L2 w;refine l1 ?_;first|(refine decide_eq_decide.2 ⟨fun h=>z1.2 ?_,fun h=>?_⟩;omega;(have:=z1.1 h;omega))|(symm;first|exact decide_eq_true (z1.2 (by omega))|exact decide_eq_false (fun h=>by have:=z1.1 h;omega)|(exfalso;omega))
  refine s1 (A8 _ _ _) rfl rfl rfl ?_;refine s4 rfl (fun g1=>?_) fun g1=>?_
  ·refine s1 (F2 _ _ _) rfl rfl rfl ?_;refine s5 rfl (fun g2=>?_) fun g2=>?_
   ·refine s7 [.bool _] rfl ?_;have z1:=K8 m w b r cl;have z0:=L2 w;refine l1 ?_;first|(refine decide_eq_decide.2 ⟨fun h=>z1.2 ?_,fun h=>?_⟩;omega;(have:=z1.1 h;omega))|(symm;first|exact decide_eq_true (z1.2 (by omega))|exact decide_eq_false (fun h=>by have:=z1.1 h;omega)|(exfalso;omega))
   refine s1 (G0 _ _ _) rfl rfl rfl ?_;refine s5 rfl (fun g3=>?_) fun g3=>?_
   ·refine s7 [.bool _] rfl ?_;have z1:=K8 m w b r cl;have z0:=L2 w;refine l1 ?_;first|(refine decide_eq_decide.2 ⟨fun h=>z1.2 ?_,fun h=>?_⟩;omega;(have:=z1.1 h;omega))|(symm;first|exact decide_eq_true (z1.2 (by omega))|exact decide_eq_false (fun h=>by have:=z1.1 h;omega)|(exfalso;omega))
   refine s1 (F2 _ _ _) rfl rfl rfl ?_;refine s5 rfl (fun g4=>?_) fun g4=>?_
   ·refine s7 [.bool _] rfl ?_;have z1:=K8 m w b r cl;have z0:=L2 w;refine l1 ?_;first|(refine decide_eq_decide.2 ⟨fun h=>z1.2 ?_,fun h=>?_⟩;omega;(have:=z1.1 h;omega))|(symm;first|exact decide_eq_true (z1.2 (by omega))|exact decide_eq_false (fun h=>by have:=z1.1 h;omega)|(exfalso;omega))
   refine s1 (G0 _ _ _) rfl rfl rfl ?_;refine s5 rfl (fun g5=>?_) fun g5=>?_
   ·refine s7 [.bool _] rfl ?_;have z1:=K8 m w b r cl;have z0:=L2 w;refine l1 ?_;first|(refine decide_eq_decide.2 ⟨fun h=>z1.2 ?_,fun h=>?_⟩;omega;(have:=z1.1 h;omega))|(symm;first|exact decide_eq_true (z1.2 (by omega))|exact decide_eq_false (fun h=>by have:=z1.1 h;omega)|(exfalso;omega))
   refine s1 (F2 _ _ _) rfl rfl rfl ?_;refine s5 rfl (fun g6=>?_) fun g6=>?_
   ·refine s7 [.bool _] rfl ?_;have z1:=K8 m w b r cl;have z0:=L2 w;refine l1 ?_;first|(refine decide_eq_decide.2 ⟨fun h=>z1.2 ?_,fun h=>?_⟩;omega;(have:=z1.1 h;omega))|(symm;first|exact decide_eq_true (z1.2 (by omega))|exact decide_eq_false (fun h=>by have:=z1.1 h;omega)|(exfalso;omega))
   refine s1 (G0 _ _ _) rfl rfl rfl ?_;refine s5 rfl (fun g7=>?_) fun g7=>?_
   ·refine s7 [.bool _] rfl ?_;have z1:=K8 m w b r cl;have z0:=L2 w;refine l1 ?_;first|(refine decide_eq_decide.2 ⟨fun h=>z1.2 ?_,fun h=>?_⟩;omega;(have:=z1.1 h;omega))|(symm;first|exact decide_eq_true (z1.2 (by omega))|exact decide_eq_false (fun h=>by have:=z1.1 h;omega)|(exfalso;omega))
   refine s1 (F2 _ _ _) rfl rfl rfl ?_;refine s5 rfl (fun g8=>?_) fun g8=>?_
   ·refine s7 [.bool _] rfl ?_;have z1:=K8 m w b r cl;have z0:=L2 w;refine l1 ?_;first|(refine decide_eq_decide.2 ⟨fun h=>z1.2 ?_,fun h=>?_⟩;omega;(have:=z1.1 h;omega))|(symm;first|exact decide_eq_true (z1.2 (by omega))|exact decide_eq_false (fun h=>by have:=z1.1 h;omega)|(exfalso;omega))
   refine s1 (G0 _ _ _) rfl rfl rfl ?_;refine s5 rfl (fun g9=>?_) fun g9=>?_
   ·refine s7 [.bool _] rfl ?_;have z1:=K8 m w b r cl;have z0:=L2 w;refine l1 ?_;first|(refine decide_eq_decide.2 ⟨fun h=>z1.2 ?_,fun h=>?_⟩;omega;(have:=z1.1 h;omega))|(symm;first|exact decide_eq_true (z1.2 (by omega))|exact decide_eq_false (fun h=>by have:=z1.1 h;omega)|(exfalso;omega))
   refine s1 (F2 _ _ _) rfl rfl rfl ?_;refine s5 rfl (fun g10=>?_) fun g10=>?_
   ·refine s7 [.bool _] rfl ?_;have z1:=K8 m w b r cl;have z0:=L2 w;refine l1 ?_;first|(refine decide_eq_decide.2 ⟨fun h=>z1.2 ?_,fun h=>?_⟩;omega;(have:=z1.1 h;omega))|(symm;first|exact decide_eq_true (z1.2 (by omega))|exact decide_eq_false (fun h=>by have:=z1.1 h;omega)|(exfalso;omega))
   refine s1 (G0 _ _ _) rfl rfl rfl ?_;refine s7 [.bool _] rfl ?_;have z1:=K8 m w b r cl;have z0:=L2 w;refine l1 ?_;first|(refine decide_eq_decide.2 ⟨fun h=>z1.2 ?_,fun h=>?_⟩;omega;(have:=z1.1 h;omega))|(symm;first|exact decide_eq_true (z1.2 (by omega))|exact decide_eq_false (fun h=>by have:=z1.1 h;omega)|(exfalso;omega))
  refine s1 (F2 _ _ _) rfl rfl rfl ?_;refine s5 rfl (fun g2=>?_) fun g2=>?_
  ·refine s7 [.bool _] rfl ?_;have z1:=K8 m w b r cl;have z0:=L2 w;refine l1 ?_;first|(refine decide_eq_decide.2 ⟨fun h=>z1.2 ?_,fun h=>?_⟩;omega;(have:=z1.1 h;omega))|(symm;first|exact decide_eq_true (z1.2 (by omega))|exact decide_eq_false (fun h=>by have:=z1.1 h;omega)|(exfalso;omega))
  refine s1 (G0 _ _ _) rfl rfl rfl ?_;refine s5 rfl (fun g3=>?_) fun g3=>?_
  ·refine s7 [.bool _] rfl ?_;have z1:=K8 m w b r cl;have z0:=L2 w;refine l1 ?_;first|(refine decide_eq_decide.2 ⟨fun h=>z1.2 ?_,fun h=>?_⟩;omega;(have:=z1.1 h;omega))|(symm;first|exact decide_eq_true (z1.2 (by omega))|exact decide_eq_false (fun h=>by have:=z1.1 h;omega)|(exfalso;omega))
  refine s1 (F2 _ _ _) rfl rfl rfl ?_;refine s5 rfl (fun g4=>?_) fun g4=>?_
  ·refine s7 [.bool _] rfl ?_;have z1:=K8 m w b r cl;have z0:=L2 w;refine l1 ?_;first|(refine decide_eq_decide.2 ⟨fun h=>z1.2 ?_,fun h=>?_⟩;omega;(have:=z1.1 h;omega))|(symm;first|exact decide_eq_true (z1.2 (by omega))|exact decide_eq_false (fun h=>by have:=z1.1 h;omega)|(exfalso;omega))
  refine s1 (G0 _ _ _) rfl rfl rfl ?_;refine s5 rfl (fun g5=>?_) fun g5=>?_
  ·refine s7 [.bool _] rfl ?_;have z1:=K8 m w b r cl;have z0:=L2 w;refine l1 ?_;first|(refine decide_eq_decide.2 ⟨fun h=>z1.2 ?_,fun h=>?_⟩;omega;(have:=z1.1 h;omega))|(symm;first|exact decide_eq_true (z1.2 (by omega))|exact decide_eq_false (fun h=>by have:=z1.1 h;omega)|(exfalso;omega))
  refine s1 (F2 _ _ _) rfl rfl rfl ?_;refine s5 rfl (fun g6=>?_) fun g6=>?_
  ·refine s7 [.bool _] rfl ?_;have z1:=K8 m w b r cl;have z0:=L2 w;refine l1 ?_;first|(refine decide_eq_decide.2 ⟨fun h=>z1.2 ?_,fun h=>?_⟩;omega;(have:=z1.1 h;omega))|(symm;first|exact decide_eq_true (z1.2 (by omega))|exact decide_eq_false (fun h=>by have:=z1.1 h;omega)|(exfalso;omega))
  refine s1 (G0 _ _ _) rfl rfl rfl ?_;refine s5 rfl (fun g7=>?_) fun g7=>?_
  ·refine s7 [.bool _] rfl ?_;have z1:=K8 m w b r cl;have z0:=L2 w;refine l1 ?_;first|(refine decide_eq_decide.2 ⟨fun h=>z1.2 ?_,fun h=>?_⟩;omega;(have:=z1.1 h;omega))|(symm;first|exact decide_eq_true (z1.2 (by omega))|exact decide_eq_false (fun h=>by have:=z1.1 h;omega)|(exfalso;omega))
  refine s1 (F2 _ _ _) rfl rfl rfl ?_;refine s5 rfl (fun g8=>?_) fun g8=>?_
  ·refine s7 [.bool _] rfl ?_;have z1:=K8 m w b r cl;have z0:=L2 w;refine l1 ?_;first|(refine decide_eq_decide.2 ⟨fun h=>z1.2 ?_,fun h=>?_⟩;omega;(have:=z1.1 h;omega))|(symm;first|exact decide_eq_true (z1.2 (by omega))|exact decide_eq_false (fun h=>by have:=z1.1 h;omega)|(exfalso;omega))
  refine s1 (G0 _ _ _) rfl rfl rfl ?_;refine s5 rfl (fun g9=>?_) fun g9=>?_
  ·refine s7 [.bool _] rfl ?_;have z1:=K8 m w b r cl;have z0:=L2 w;refine l1 ?_;first|(refine decide_eq_decide.2 ⟨fun h=>z1.2 ?_,fun h=>?_⟩;omega;(have:=z1.1 h;omega))|(symm;first|exact decide_eq_true (z1.2 (by omega))|exact decide_eq_false (fun h=>by have:=z1.1 h;omega)|(exfalso;omega))
  refine s1 (F2 _ _ _) rfl rfl rfl ?_;refine s5 rfl (fun g10=>?_) fun g10=>?_
  ·refine s7 [.bool _] rfl ?_;have z1:=K8 m w b r cl;have z0:=L2 w;refine l1 ?_;first|(refine decide_eq_decide.2 ⟨fun h=>z1.2 ?_,fun h=>?_⟩;omega;(have:=z1.1 h;omega))|(symm;first|exact decide_eq_true (z1.2 (by omega))|exact decide_eq_false (fun h=>by have:=z1.1 h;omega)|(exfalso;omega))
  refine s1 (G0 _ _ _) rfl rfl rfl ?_;refine s7 [.bool _] rfl ?_;have z1:=K8 m w b r cl;have z0:=L2 w;refine l1 ?_;first|(refine decide_eq_decide.2 ⟨fun h=>z1.2 ?_,fun h=>?_⟩;omega;(have:=z1.1 h;omega))|(symm;first|exact decide_eq_true (z1.2 (by omega))|exact decide_eq_false (fun h=>by have:=z1.1 h;omega)|(exfalso;omega))
 ·cases hs
def B2c:List U→Option (Nat×List U)
 | [.str s,.str u]=>if u=[27]then some (0,[.bool (decide (0≤Lib.indexByte s 27))])else none
 | _=>none
theorem B97(s:(List UInt8))(u:(List UInt8))(hc:u=[27]):B2c [.str s,.str u]=some (0,[.bool (decide (0≤Lib.indexByte s 27))]):=if_pos hc
theorem C32{G:Nat→Option Obj}(hst:D2 Tryz.prog G gl H0 n0):N0 Tryz.prog G 28 [.s 9,.s 9] B2c [.s 8]:=by
 intro us outs w vs R hsh hs hG hR;unfold B2c at hs;split at hs
 ·skip;rename_i s u;split at hs
  ·rename_i hc;cases hs;have hv:=A0z (vs2:=[.string ⟨⟨s⟩⟩,.string ⟨⟨u⟩⟩]) hsh rfl;subst hv;refine B42 (vr:=[.bool (decide (0≤Lib.indexByte s 27))]) Tryz.func28 rfl (by kernel_rfl) rfl ?_;subst hc;exact(Tryz.strings_Contains_one ⟨⟨s⟩⟩ 27 w).mono fun e w' ⟨h1,h2⟩=>⟨h1,by subst h2;exact RowKit.Below.refl _ _⟩
  ·cases hs
 ·cases hs
def bU(b:Bool):Option Unit:=if b then some ()else none
theorem u5{b:Bool}{u:Unit}(h:bU b=some u):b=true:=by cases b<;>first|rfl|cases h
theorem u6{b:Bool}(h:bU b=none):b=false:=by cases b<;>first|rfl|cases h
def isE(x:UInt8):Bool:=decide (x=27)
theorem B9y{l:List UInt8}{i:Int}(h:(l.length:Int)≤i):(l.drop i.toNat).any isE=false:=by rw[A72 l h];rfl
theorem C1G{x:UInt8}(h:((x.toNat:Nat):Int)=27):x=27:=by
 apply UInt8.toNat_inj.1;show x.toNat=27;omega
theorem B0X(l:List UInt8)(n:Nat):l.getD n default=l.getD n 0:=rfl
theorem C3o{l:List UInt8}{i:Int}(h0:0≤i)(h1:i<(l.length:Int))(h2:(((l.getD i.toNat 0).toNat:Nat):Int)=27):(l.drop i.toNat).any isE=true:=by
 rw[A0v l h0 h1,d9,B0X,C1G h2];rfl
theorem C3p{l:List UInt8}{i:Int}(h0:0≤i)(h1:i<(l.length:Int))(h2:¬(((l.getD i.toNat 0).toNat:Nat):Int)=27):(l.drop i.toNat).any isE=(l.drop (i+1).toNat).any isE:=by
 rw[A0v l h0 h1,d9,B0X];have:isE (l.getD i.toNat 0)=false:=decide_eq_false fun h=>h2 (by rw[h];rfl)
 rw[this,Q5]
noncomputable def C1r:List (FuncId×FnC):=(34,N3 Tryz.prog [.s 3,.s 3] R6 [.s 8])::(61,N3 Tryz.prog [.a [3,3,3,3,3,3,3,9]] A80 [.s 8])::L0
theorem B8g{G:Nat→Option Obj}(hst:D2 Tryz.prog G gl H0 n0):J3 Tryz.prog G gl C1r:=(.cons (B3_ hst) (.cons (C0c hst) .nil))
def A82:List U→Option (Nat×List U)
 | [.int .i64 i,.int .i64 k,.int .i64 c,.int .i64 m,.int .i64 w,.int .i64 b,.int .i64 r,.int .i64 cl,.str t]=>if 0≤i∧i≤(t.length:Int)∧(t.length:Int)≤140737488351232 then A8m (bU ((t.drop i.toNat).any isE)) [.int .i64 k,.int .i64 c,.int .i64 m,.int .i64 w,.int .i64 b,.int .i64 r,.int .i64 cl,.str t] (fun _=>[])else none
 | _=>none
theorem A46(i:Int)(k:Int)(c:Int)(m:Int)(w:Int)(b:Int)(r:Int)(cl:Int)(t:(List UInt8))(hc:0≤i∧i≤(t.length:Int)∧(t.length:Int)≤140737488351232):A82 [.int .i64 i,.int .i64 k,.int .i64 c,.int .i64 m,.int .i64 w,.int .i64 b,.int .i64 r,.int .i64 cl,.str t]=A8m (bU ((t.drop i.toNat).any isE)) [.int .i64 k,.int .i64 c,.int .i64 m,.int .i64 w,.int .i64 b,.int .i64 r,.int .i64 cl,.str t] (fun _=>[]):=if_pos hc
def C0n:n8:=⟨[(1,.pointer (some ⟨6,0,none⟩)),(3,h 0 3)],[(6,.cells 23 [h 1 3,h 2 3,h 3 3,h 4 3,h 5 3,h 6 3,h 7 3,h 8 9])],9,[⟨.exit 1,[(1,.pointer (some ⟨6,0,none⟩))],[(6,.cells 23 [h 0 3,h 1 3,h 2 3,h 3 3,h 4 3,h 5 3,h 6 3,h 7 9])],8⟩,⟨.ret,[(2,.bool false)],[],0⟩]⟩
noncomputable def B61:Code:=(Tryz.f32.body).getD .skip
noncomputable def C0i:Code:=match K4 [true,false,true,false,true,true,true,true,true,false,false,true,false] B61 with|some (.loop x)=>x|_=>.skip
theorem C0m:Tryz.f32.body=some B61:=rfl
theorem C0k:K4 [true,false,true,false,true,true,true,true,true,false,false,true,false] B61=some (.loop C0i):=by kernel_rfl
def C0j:Tr:=.lt 3 (.len) [h 8 9]<|.lt 8 (.bin .lss) [h 0 3,h 9 3]<|.br 10 (.lt 4 (.idx) [h 8 9,h 0 3]<|.lt 8 (.bin .eql) [h 11 4,.int .u8 (27)]<|.br 12 (.ret [jI 1]) (.lt 3 (.bin .add) [h 0 3,jI 1]<|.ret [jI (-1),h 13 3,h 1 3,h 2 3,h 3 3,h 4 3,h 5 3,h 6 3,h 7 3,h 8 9])) (.ret [jI 0,h 1 3,h 2 3,h 3 3,h 4 3,h 5 3,h 6 3,h 7 3,h 8 9])
def C0l:List U→Nat
 | [.int .i64 i,.int .i64 k,.int .i64 c,.int .i64 m,.int .i64 w,.int .i64 b,.int .i64 r,.int .i64 cl,.str t]=>((t.length:Int)-i).toNat
 | _=>0
theorem B60(i:Int)(k:Int)(c:Int)(m:Int)(w:Int)(b:Int)(r:Int)(cl:Int)(t:(List UInt8)):C0l [.int .i64 i,.int .i64 k,.int .i64 c,.int .i64 m,.int .i64 w,.int .i64 b,.int .i64 r,.int .i64 cl,.str t]=((t.length:Int)-i).toNat:=rfl
theorem C3E{G:Nat→Option Obj}(hst:D2 Tryz.prog G gl H0 n0):∀ (E:Nat→U) (base:Nat),@y5 ⟨E,G⟩ Tryz.prog base gl Tryz.f32.ntmps C0i (A1b Tryz.prog gl n0 7 C0n A82):=by
 refine A5D (C:=cx C1r []) (dep:=60) (f:=32) (n0:=n0) (nB:=7) (H0:=H0) C0l C0j (cxg (B8g hst) .nil) hst Tryz.func32 C0m C0k (by kernel_rfl) (by kernel_rfl) (by kernel_rfl) ?_;intro us d outs hs;have hs0:=hs;unfold A82 at hs;split at hs
 ·skip;rename_i i k c m w b r cl t;split at hs
  ·rename_i hc;clear hs hs0;refine⟨rfl,?_⟩;unfold C0j;refine s0 (.cons 8 _ (.cons 7 _ (.cons 6 _ (.cons 5 _ (.cons 4 _ (.cons 3 _ (.cons 2 _ (.cons 1 _ (.cons 0 _ (.nil)))))))))) rfl (by simp[Ev.ok,Ev.len]) ?_;refine s1 (A7q _) rfl rfl rfl ?_;refine s1 (L3 _ _ _) rfl rfl rfl ?_;refine s5 rfl (fun g0=>?_) fun g0=>?_
   ·refine s7 [.int .i64 _,.int .i64 _,.int .i64 _,.int .i64 _,.int .i64 _,.int .i64 _,.int .i64 _,.int .i64 _,.str _] rfl ?_;refine m7 (d:=0) ?_;rw[A46 i k c m w b r cl t hc,B9y (by omega)];rfl
   refine s1 (B3f _ _ _ (by omega) (by simp[*]<;>omega)) rfl rfl rfl ?_;refine s1 (A8 _ _ _) rfl rfl rfl ?_;refine s4 rfl (fun g1=>?_) fun g1=>?_
   ·refine s7 [.int .i64 _] rfl ?_;refine m7 (d:=1) ?_;rw[A46 i k c m w b r cl t hc,C3o (i:=i) (by omega) (by omega) ‹_›];rfl
   first|refine s1 (D8 (C7 (by omega) (by omega))) rfl rfl rfl ?_|refine s1 (E8 _ _ _) rfl rfl rfl ?_
   refine s7 [.int .i64 _,.int .i64 _,.int .i64 _,.int .i64 _,.int .i64 _,.int .i64 _,.int .i64 _,.int .i64 _,.int .i64 _,.str _] rfl ?_;refine A0r ?_ ?_
   ·rw[A46 i k c m w b r cl t hc,C3p (i:=i) (by omega) (by omega) ‹_›];exact A46 (i+1) k c m w b r cl t ⟨by omega,by omega,hc.2.2⟩
   ·rw[B60,B60];omega
  ·cases hs
 ·cases hs
noncomputable def B89:List LpE:=(32,([true,false,true,false,true,true,true,true,true,false,false,true,false],A1b Tryz.prog gl n0 7 C0n A82))::[]
theorem B2t{G:Nat→Option Obj}(hst:D2 Tryz.prog G gl H0 n0):A2t Tryz.prog G gl B89:=.cons Tryz.func32 C0m C0k (C3E hst) .nil
theorem C0D(t:List UInt8):(0≤Lib.indexByte t 27)↔t.any isE=true:=by
 induction t with
 | nil=>simp[Lib.indexByte]
 | cons b l ih =>
   have h:=Lib.indexByte_ge l 27;rw[Lib.indexByte,d9];by_cases e:b=27
   ·subst e;simp[isE]
   ·have e1:(b == 27)=false:=by simp[e]
    have e2:isE b=false:=decide_eq_false e;rw[e1,e2,Q5,← ih];by_cases e3:Lib.indexByte l 27 = -1
    ·simp[e3]
    ·simp[e3];omega
def M8(k c m w b r cl:Int)(t:List UInt8):Prop :=
 (k=1∧w=0∧b=0∧r=0∧cl=0∧t=[]∧A7 c m)∨(k=2∧c=0∧t=[]∧msP m w b r cl)∨(k=3∧c=0∧m=0∧w=0∧b=0∧r=0∧cl=0∧t.length≤1000∧t.any isE=false)∨(k=4∧c=0∧m=0∧b=0∧r=0∧cl=0∧t=[]∧0≤w∧w≤1)
instance(k c m w b r cl:Int)(t:List UInt8):Decidable (M8 k c m w b r cl t):=by unfold M8;infer_instance
noncomputable def C1q:List (FuncId×FnC):=(34,N3 Tryz.prog [.s 3,.s 3] R6 [.s 8])::(61,N3 Tryz.prog [.a [3,3,3,3,3,3,3,9]] A80 [.s 8])::L0
theorem B8f{G:Nat→Option Obj}(hst:D2 Tryz.prog G gl H0 n0):J3 Tryz.prog G gl C1q:=(.cons (B3_ hst) (.cons (C0c hst) .nil))
def A6G:List U→Option (Nat×List U)
 | [.int .i64 k,.int .i64 c,.int .i64 m,.int .i64 w,.int .i64 b,.int .i64 r,.int .i64 cl,.str t]=>if -9223372036854775808≤m∧m≤9223372036854775807∧(t.length:Int)≤140737488351232 then some (0,[.bool (decide (M8 k c m w b r cl t))])else none
 | _=>none
theorem B4B(k:Int)(c:Int)(m:Int)(w:Int)(b:Int)(r:Int)(cl:Int)(t:(List UInt8))(hc : -9223372036854775808≤m∧m≤9223372036854775807∧(t.length:Int)≤140737488351232):A6G [.int .i64 k,.int .i64 c,.int .i64 m,.int .i64 w,.int .i64 b,.int .i64 r,.int .i64 cl,.str t]=some (0,[.bool (decide (M8 k c m w b r cl t))]):=if_pos hc
def C0h:Tr:=.lt 8 (.bin .eql) [h 0 3,jI 1]<|.br 8 (.lt 8 (.eqs) [h 0 3,h 0 3,h 1 3,h 1 3,h 2 3,h 2 3,h 3 3,jI 0,h 4 3,jI 0,h 5 3,jI 0,h 6 3,jI 0,h 7 9,.string ⟨⟨[]⟩⟩]<|.br 9 (.fn R6 [h 1 3,h 2 3] 1<|.ret [h 10 8]) (.ret [.bool false])) (.lt 8 (.bin .eql) [h 0 3,jI 2]<|.br 9 (.lt 8 (.eqs) [h 0 3,h 0 3,h 1 3,jI 0,h 2 3,h 2 3,h 3 3,h 3 3,h 4 3,h 4 3,h 5 3,h 5 3,h 6 3,h 6 3,h 7 9,.string ⟨⟨[]⟩⟩]<|.br 10 (.fn A80 [h 0 3,h 1 3,h 2 3,h 3 3,h 4 3,h 5 3,h 6 3,h 7 9] 1<|.ret [h 11 8]) (.ret [.bool false])) (.lt 8 (.bin .eql) [h 0 3,jI 3]<|.br 10 (.lp A82 [jI 0,h 0 3,h 1 3,h 2 3,h 3 3,h 4 3,h 5 3,h 6 3,h 7 9] 0 8 (.lt 8 (.eqs) [h 11 3,h 11 3,h 12 3,jI 0,h 13 3,jI 0,h 14 3,jI 0,h 15 3,jI 0,h 16 3,jI 0,h 17 3,jI 0,h 18 9,h 18 9]<|.br 19 (.lt 3 (.len) [h 18 9]<|.lt 8 (.bin .leq) [h 20 3,jI 1000]<|.ret [h 21 8]) (.ret [.bool false])) (.lp A82 [jI 0,h 0 3,h 1 3,h 2 3,h 3 3,h 4 3,h 5 3,h 6 3,h 7 9] 1 0 (.ret [.bool false]) (.no))) (.lt 8 (.bin .eql) [h 0 3,jI 4]<|.br 11 (.lt 8 (.eqs) [h 0 3,h 0 3,h 1 3,jI 0,h 2 3,jI 0,h 3 3,h 3 3,h 4 3,jI 0,h 5 3,jI 0,h 6 3,jI 0,h 7 9,.string ⟨⟨[]⟩⟩]<|.br 12 (.lt 8 (.bin .geq) [h 3 3,jI 0]<|.br 13 (.lt 8 (.bin .leq) [h 3 3,jI 1]<|.ret [h 14 8]) (.ret [.bool false])) (.ret [.bool false])) (.ret [.bool false]))))
theorem B6z{G:Nat→Option Obj}(hst:D2 Tryz.prog G gl H0 n0):N0 Tryz.prog G 32 [.a [3,3,3,3,3,3,3,9]] A6G [.s 8]:=by
 refine F4 (C:=cx C1q B89) (d:=60) C0h (cxg (B8f hst) (B2t hst)) hst ⟨Tryz.f32,_,Tryz.func32,rfl⟩ (by kernel_rfl) (by kernel_rfl) ?_;intro us outs hs;unfold A6G at hs;split at hs
 ·skip;rename_i k c m w b r cl t;split at hs
  ·rename_i hc;cases hs;unfold C0h;refine s0 (.cons 7 _ (.cons 6 _ (.cons 5 _ (.cons 4 _ (.cons 3 _ (.cons 2 _ (.cons 1 _ (.cons 0 _ (.nil))))))))) rfl (by simp[Ev.ok,Ev.len]) ?_;refine s1 (A8 _ _ _) rfl rfl rfl ?_;refine s4 rfl (fun g0=>?_) fun g0=>?_
   ·refine s1 rfl rfl rfl rfl ?_;first|refine s5 rfl (fun g1=>?_) (fun g1=>?_)|refine s5B rfl (fun g1=>?_) (fun g1=>?_)
    ·refine s7 [.bool _] rfl ?_;refine l1 ?_;unfold M8
     (try replace g3:=u5 g3)
     (try replace g3:=u6 g3)
     first|(simp_all;done)|(simp_all;omega)
    refine s31 (N1 _ _ (by omega)) rfl ?_;refine s7 [.bool _] rfl ?_;refine l1 ?_;unfold M8
    (try replace g3:=u5 g3)
    (try replace g3:=u6 g3)
    first|(simp_all;done)|(simp_all;omega)
   refine s1 (A8 _ _ _) rfl rfl rfl ?_;refine s4 rfl (fun g1=>?_) fun g1=>?_
   ·refine s1 rfl rfl rfl rfl ?_;first|refine s5 rfl (fun g2=>?_) (fun g2=>?_)|refine s5B rfl (fun g2=>?_) (fun g2=>?_)
    ·refine s7 [.bool _] rfl ?_;refine l1 ?_;unfold M8
     (try replace g3:=u5 g3)
     (try replace g3:=u6 g3)
     first|(simp_all;done)|(simp_all;omega)
    refine s31 (B9N _ _ _ _ _ _ _ _) rfl ?_;refine s7 [.bool _] rfl ?_;refine l1 ?_;unfold M8
    (try replace g3:=u5 g3)
    (try replace g3:=u6 g3)
    first|(simp_all;done)|(simp_all;omega)
   refine s1 (A8 _ _ _) rfl rfl rfl ?_;refine s4 rfl (fun g2=>?_) fun g2=>?_
   ·refine s6 (A46 _ _ _ _ _ _ _ _ _ (by omega)) rfl (fun _=>rfl) (fun g3=>?_) (fun v3 g3=>?_)
    ·show Tr.sav _ _ (.cons 18 _ (.cons 17 _ (.cons 16 _ (.cons 15 _ (.cons 14 _ (.cons 13 _ (.cons 12 _ (.cons 11 _ _))))))));refine s1 rfl rfl rfl rfl ?_;first|refine s5 rfl (fun g4=>?_) (fun g4=>?_)|refine s5B rfl (fun g4=>?_) (fun g4=>?_)
     ·refine s7 [.bool _] rfl ?_;refine l1 ?_;unfold M8
      (try replace g3:=u5 g3)
      (try replace g3:=u6 g3)
      first|(simp_all;done)|(simp_all;omega)
     refine s1 (A7q _) rfl rfl rfl ?_;refine s1 (G0 _ _ _) rfl rfl rfl ?_;refine s7 [.bool _] rfl ?_;refine l1 ?_;unfold M8
     (try replace g3:=u5 g3)
     (try replace g3:=u6 g3)
     first|(simp_all;done)|(simp_all;omega)
    show Tr.sav _ _ _;refine s7 [.bool _] rfl ?_;refine l1 ?_;unfold M8
    (try replace g3:=u5 g3)
    (try replace g3:=u6 g3)
    first|(simp_all;done)|(simp_all;omega)
   refine s1 (A8 _ _ _) rfl rfl rfl ?_;refine s5 rfl (fun g3=>?_) fun g3=>?_
   ·refine s7 [.bool _] rfl ?_;refine l1 ?_;unfold M8
    (try replace g3:=u5 g3)
    (try replace g3:=u6 g3)
    first|(simp_all;done)|(simp_all;omega)
   refine s1 rfl rfl rfl rfl ?_;first|refine s5 rfl (fun g4=>?_) (fun g4=>?_)|refine s5B rfl (fun g4=>?_) (fun g4=>?_)
   ·refine s7 [.bool _] rfl ?_;refine l1 ?_;unfold M8
    (try replace g3:=u5 g3)
    (try replace g3:=u6 g3)
    first|(simp_all;done)|(simp_all;omega)
   refine s1 (F2 _ _ _) rfl rfl rfl ?_;refine s5 rfl (fun g5=>?_) fun g5=>?_
   ·refine s7 [.bool _] rfl ?_;refine l1 ?_;unfold M8
    (try replace g3:=u5 g3)
    (try replace g3:=u6 g3)
    first|(simp_all;done)|(simp_all;omega)
   refine s1 (G0 _ _ _) rfl rfl rfl ?_;refine s7 [.bool _] rfl ?_;refine l1 ?_;unfold M8
   (try replace g3:=u5 g3)
   (try replace g3:=u6 g3)
   first|(simp_all;done)|(simp_all;omega)
  ·cases hs
 ·cases hs
noncomputable def C1u:List (FuncId×FnC):=(32,N3 Tryz.prog [.a [3,3,3,3,3,3,3,9]] A6G [.s 8])::L0
theorem B8j{G:Nat→Option Obj}(hst:D2 Tryz.prog G gl H0 n0):J3 Tryz.prog G gl C1u:=(.cons (B6z hst) .nil)
def B1c:List U→Option (Nat×List U)
 | [.int .i64 k,.int .i64 c,.int .i64 m,.int .i64 w,.int .i64 b,.int .i64 r,.int .i64 cl,.str t]=>if -9223372036854775808≤m∧m≤9223372036854775807∧(t.length:Int)≤140737488351232 then some (0,[.int .i64 (if M8 k c m w b r cl t then 0 else 430)])else none
 | _=>none
theorem B9T(k:Int)(c:Int)(m:Int)(w:Int)(b:Int)(r:Int)(cl:Int)(t:(List UInt8))(hc : -9223372036854775808≤m∧m≤9223372036854775807∧(t.length:Int)≤140737488351232):B1c [.int .i64 k,.int .i64 c,.int .i64 m,.int .i64 w,.int .i64 b,.int .i64 r,.int .i64 cl,.str t]=some (0,[.int .i64 (if M8 k c m w b r cl t then 0 else 430)]):=if_pos hc
def C0s:Tr:=.fn A6G [h 0 3,h 1 3,h 2 3,h 3 3,h 4 3,h 5 3,h 6 3,h 7 9] 1<|.lt 8 (.un .not) [h 8 8]<|.br 9 (.ret [jI 430]) (.ret [jI 0])
theorem C3J{G:Nat→Option Obj}(hst:D2 Tryz.prog G gl H0 n0):N0 Tryz.prog G 14 [.a [3,3,3,3,3,3,3,9]] B1c [.s 3]:=by
 refine F4 (C:=cx C1u B89) (d:=60) C0s (cxg (B8j hst) (B2t hst)) hst ⟨Tryz.f14,_,Tryz.func14,rfl⟩ (by kernel_rfl) (by kernel_rfl) ?_;intro us outs hs;unfold B1c at hs;split at hs
 ·skip;rename_i k c m w b r cl t;split at hs
  ·rename_i hc;cases hs;unfold C0s;refine s0 (.cons 7 _ (.cons 6 _ (.cons 5 _ (.cons 4 _ (.cons 3 _ (.cons 2 _ (.cons 1 _ (.cons 0 _ (.nil))))))))) rfl (by simp[Ev.ok,Ev.len]) ?_;refine s31 (B4B _ _ _ _ _ _ _ _ hc) rfl ?_;first|refine s1 (D4 _) rfl rfl rfl ?_|refine s1 (I4 _) rfl rfl rfl ?_
   first|refine s4 rfl (fun g0=>?_) (fun g0=>?_)|refine s4B rfl (fun g0=>?_) (fun g0=>?_)
   ·refine s7 [.int .i64 _] rfl ?_;refine l0 ?_;first|(rw[if_pos (of_decide_eq_true ‹_›)];done)|(rw[if_neg (of_decide_eq_false ‹_›)];done)|(simp_all;done)
   refine s7 [.int .i64 _] rfl ?_;refine l0 ?_;first|(rw[if_pos (of_decide_eq_true ‹_›)];done)|(rw[if_neg (of_decide_eq_false ‹_›)];done)|(simp_all;done)
  ·cases hs
 ·cases hs
theorem A2Z{a b c:Int}(h0:0≤b)(h1:b<c)(h2:(a=128∧c=64)∨(a=192∧c=32)∨(a=224∧c=16)∨(a=240∧c=8)):evU (.bin .or) [.int .u8 a,.int .u8 b]=.int .u8 (a+b):=by
 rw[A6Q];have k1:∀ n:Nat,n<64→IntKind.u8.wrap (BitVec.ofInt IntKind.u8.bits 128 ||| BitVec.ofInt IntKind.u8.bits (n:Int)).toNat=128+(n:Int):=by decide
 have k2:∀ n:Nat,n<32→IntKind.u8.wrap (BitVec.ofInt IntKind.u8.bits 192 ||| BitVec.ofInt IntKind.u8.bits (n:Int)).toNat=192+(n:Int):=by decide
 have k3:∀ n:Nat,n<16→IntKind.u8.wrap (BitVec.ofInt IntKind.u8.bits 224 ||| BitVec.ofInt IntKind.u8.bits (n:Int)).toNat=224+(n:Int):=by decide
 have k4:∀ n:Nat,n<8→IntKind.u8.wrap (BitVec.ofInt IntKind.u8.bits 240 ||| BitVec.ofInt IntKind.u8.bits (n:Int)).toNat=240+(n:Int):=by decide
 obtain⟨n,rfl⟩:∃ n:Nat,b=n:=⟨b.toNat,by omega⟩;congr 1
 rcases h2 with⟨rfl,rfl⟩|⟨rfl,rfl⟩|⟨rfl,rfl⟩|⟨rfl,rfl⟩
 ·exact k1 n (by omega)
 ·exact k2 n (by omega)
 ·exact k3 n (by omega)
 ·exact k4 n (by omega)
theorem J8{j:IntKind}(a:Int):evU (.conv .u8) [.int j a]=.int .u8 (a%256):=by
 rw[G7];congr 1
def C2X(c:Int):Int:=if okU c then c else 65533
def B0C(c:Int):List Int:=if c<128 then[c]else if c<2048 then[192+c / 64,128+c%64]else if c<65536 then[224+c / 4096,128+c / 64%64,128+c%64]else[240+c / 262144,128+c / 4096%64,128+c / 64%64,128+c%64]
def A0V(c:Int):List UInt8:=iB (B0C (C2X c))
theorem E1{c:Int}(h:okU c):C2X c=c:=if_pos h
theorem P9{c:Int}(h:¬okU c):C2X c=65533:=if_neg h
theorem Q3{c:Int}(h:c<128):B0C c=[c]:=if_pos h
theorem Q2{c:Int}(h:¬c<128)(h2:c<2048):B0C c=[192+c / 64,128+c%64]:=by unfold B0C;rw[if_neg h,if_pos h2]
theorem Q1{c:Int}(h:¬c<128)(h2:¬c<2048)(h3:c<65536):B0C c=[224+c / 4096,128+c / 64%64,128+c%64]:=by unfold B0C;rw[if_neg h,if_neg h2,if_pos h3]
theorem Q0{c:Int}(h:¬c<128)(h2:¬c<2048)(h3:¬c<65536):B0C c=[240+c / 262144,128+c / 4096%64,128+c / 64%64,128+c%64]:=by unfold B0C;rw[if_neg h,if_neg h2,if_neg h3]
noncomputable def C1x:List (FuncId×FnC):=L0
theorem B8m{G:Nat→Option Obj}(hst:D2 Tryz.prog G gl H0 n0):J3 Tryz.prog G gl C1x:=.nil
def A2l:List U→Option (Nat×List U)
 | [.int .i64 c]=>some (0,[.str (A0V c)])
 | _=>none
theorem A1a(c:Int):A2l [.int .i64 c]=some (0,[.str (A0V c)]):=rfl
def C0x:Tr:=.lt 8 (.bin .geq) [h 0 3,jI 0]<|.br 1 (.lt 8 (.bin .leq) [h 0 3,jI 1114111]<|.br 2 (.lt 3 (.bin .shr) [h 0 3,.int .u64 (11)]<|.lt 8 (.bin .neq) [h 3 3,jI 27]<|.lt 8 (.un .not) [h 4 8]<|.br 5 (.ret [.string ⟨⟨[239,191,189]⟩⟩]) (.lt 8 (.bin .lss) [h 0 3,jI 128]<|.br 6 (.lt 4 (.conv .u8) [h 0 3]<|.lt 9 (.mks) [h 7 4]<|.ret [h 8 9]) (.lt 8 (.bin .lss) [h 0 3,jI 2048]<|.br 7 (.lt 3 (.bin .shr) [h 0 3,.int .u64 (6)]<|.lt 4 (.conv .u8) [h 8 3]<|.lt 4 (.bin .or) [.int .u8 (192),h 9 4]<|.lt 3 (.bin .shr) [h 0 3,jI 0]<|.lt 4 (.conv .u8) [h 11 3]<|.lt 4 (.bin .and) [h 12 4,.int .u8 (63)]<|.lt 4 (.bin .or) [.int .u8 (128),h 13 4]<|.lt 9 (.mks) [h 10 4,h 14 4]<|.ret [h 15 9]) (.lt 8 (.bin .lss) [h 0 3,jI 65536]<|.br 8 (.lt 3 (.bin .shr) [h 0 3,.int .u64 (12)]<|.lt 4 (.conv .u8) [h 9 3]<|.lt 4 (.bin .or) [.int .u8 (224),h 10 4]<|.lt 3 (.bin .shr) [h 0 3,jI 6]<|.lt 4 (.conv .u8) [h 12 3]<|.lt 4 (.bin .and) [h 13 4,.int .u8 (63)]<|.lt 4 (.bin .or) [.int .u8 (128),h 14 4]<|.lt 3 (.bin .shr) [h 0 3,jI 0]<|.lt 4 (.conv .u8) [h 16 3]<|.lt 4 (.bin .and) [h 17 4,.int .u8 (63)]<|.lt 4 (.bin .or) [.int .u8 (128),h 18 4]<|.lt 9 (.mks) [h 11 4,h 15 4,h 19 4]<|.ret [h 20 9]) (.lt 3 (.bin .shr) [h 0 3,.int .u64 (18)]<|.lt 4 (.conv .u8) [h 9 3]<|.lt 4 (.bin .or) [.int .u8 (240),h 10 4]<|.lt 3 (.bin .shr) [h 0 3,jI 12]<|.lt 4 (.conv .u8) [h 12 3]<|.lt 4 (.bin .and) [h 13 4,.int .u8 (63)]<|.lt 4 (.bin .or) [.int .u8 (128),h 14 4]<|.lt 3 (.bin .shr) [h 0 3,jI 6]<|.lt 4 (.conv .u8) [h 16 3]<|.lt 4 (.bin .and) [h 17 4,.int .u8 (63)]<|.lt 4 (.bin .or) [.int .u8 (128),h 18 4]<|.lt 3 (.bin .shr) [h 0 3,jI 0]<|.lt 4 (.conv .u8) [h 20 3]<|.lt 4 (.bin .and) [h 21 4,.int .u8 (63)]<|.lt 4 (.bin .or) [.int .u8 (128),h 22 4]<|.lt 9 (.mks) [h 11 4,h 15 4,h 19 4,h 23 4]<|.ret [h 24 9]))))) (.ret [.string ⟨⟨[239,191,189]⟩⟩])) (.ret [.string ⟨⟨[239,191,189]⟩⟩])
theorem C3K{G:Nat→Option Obj}(hst:D2 Tryz.prog G gl H0 n0):N0 Tryz.prog G 77 [.s 3] A2l [.s 9]:=by
 refine F4 (C:=cx C1x []) (d:=60) C0x (cxg (B8m hst) .nil) hst ⟨Tryz.f77,_,Tryz.func77,rfl⟩ (by kernel_rfl) (by kernel_rfl) ?_;intro us outs hs;unfold A2l at hs;split at hs
 ·skip;rename_i c;cases hs;unfold C0x;refine s0 (.cons 0 _ (.nil)) rfl (by simp[Ev.ok,Ev.len]) ?_;refine s1 (F2 _ _ _) rfl rfl rfl ?_;refine s5 rfl (fun g0=>?_) fun g0=>?_
  ·refine s7 [.str _] rfl ?_;refine congrArg (fun z=>[U.str z]) ?_;symm;unfold A0V;first|(rw[E1 (by unfold okU;omega),Q3 (by omega)];done)|(rw[E1 (by unfold okU;omega),Q3 (by omega)];refine congrArg iB ?_;simp only[B1,and_true,true_and];omega)|(rw[E1 (by unfold okU;omega),Q2 (by omega) (by omega)];done)|(rw[E1 (by unfold okU;omega),Q2 (by omega) (by omega)];refine congrArg iB ?_;simp only[B1,and_true,true_and];omega)|(rw[E1 (by unfold okU;omega),Q1 (by omega) (by omega) (by omega)];done)|(rw[E1 (by unfold okU;omega),Q1 (by omega) (by omega) (by omega)];refine congrArg iB ?_;simp only[B1,and_true,true_and];omega)|(rw[E1 (by unfold okU;omega),Q0 (by omega) (by omega) (by omega)];done)|(rw[E1 (by unfold okU;omega),Q0 (by omega) (by omega) (by omega)];refine congrArg iB ?_;simp only[B1,and_true,true_and];omega)|(rw[P9 (by unfold okU;omega)];rfl)|(rw[P9 (by unfold okU;omega)];decide)
  refine s1 (G0 _ _ _) rfl rfl rfl ?_;refine s5 rfl (fun g1=>?_) fun g1=>?_
  ·refine s7 [.str _] rfl ?_;refine congrArg (fun z=>[U.str z]) ?_;symm;unfold A0V;first|(rw[E1 (by unfold okU;omega),Q3 (by omega)];done)|(rw[E1 (by unfold okU;omega),Q3 (by omega)];refine congrArg iB ?_;simp only[B1,and_true,true_and];omega)|(rw[E1 (by unfold okU;omega),Q2 (by omega) (by omega)];done)|(rw[E1 (by unfold okU;omega),Q2 (by omega) (by omega)];refine congrArg iB ?_;simp only[B1,and_true,true_and];omega)|(rw[E1 (by unfold okU;omega),Q1 (by omega) (by omega) (by omega)];done)|(rw[E1 (by unfold okU;omega),Q1 (by omega) (by omega) (by omega)];refine congrArg iB ?_;simp only[B1,and_true,true_and];omega)|(rw[E1 (by unfold okU;omega),Q0 (by omega) (by omega) (by omega)];done)|(rw[E1 (by unfold okU;omega),Q0 (by omega) (by omega) (by omega)];refine congrArg iB ?_;simp only[B1,and_true,true_and];omega)|(rw[P9 (by unfold okU;omega)];rfl)|(rw[P9 (by unfold okU;omega)];decide)
  refine s1 (N7 2048 (by decide) (by decide)) rfl rfl rfl ?_;refine s1 (H3 _ _ _) rfl rfl rfl ?_;refine s1 (D4 _) rfl rfl rfl ?_;refine s4 rfl (fun g2=>?_) fun g2=>?_
  ·refine s7 [.str _] rfl ?_;refine congrArg (fun z=>[U.str z]) ?_;symm;unfold A0V;first|(rw[E1 (by unfold okU;omega),Q3 (by omega)];done)|(rw[E1 (by unfold okU;omega),Q3 (by omega)];refine congrArg iB ?_;simp only[B1,and_true,true_and];omega)|(rw[E1 (by unfold okU;omega),Q2 (by omega) (by omega)];done)|(rw[E1 (by unfold okU;omega),Q2 (by omega) (by omega)];refine congrArg iB ?_;simp only[B1,and_true,true_and];omega)|(rw[E1 (by unfold okU;omega),Q1 (by omega) (by omega) (by omega)];done)|(rw[E1 (by unfold okU;omega),Q1 (by omega) (by omega) (by omega)];refine congrArg iB ?_;simp only[B1,and_true,true_and];omega)|(rw[E1 (by unfold okU;omega),Q0 (by omega) (by omega) (by omega)];done)|(rw[E1 (by unfold okU;omega),Q0 (by omega) (by omega) (by omega)];refine congrArg iB ?_;simp only[B1,and_true,true_and];omega)|(rw[P9 (by unfold okU;omega)];rfl)|(rw[P9 (by unfold okU;omega)];decide)
  refine s1 (L3 _ _ _) rfl rfl rfl ?_;refine s4 rfl (fun g3=>?_) fun g3=>?_
  ·first|refine s1 (D5 (K7 (by omega) (by omega))) rfl rfl rfl ?_|refine s1 (J8 _) rfl rfl rfl ?_
   refine s1 (P7 [_] (by simp only[B5,E5,or_false,forall_eq_or_imp,forall_eq];omega)) rfl rfl rfl ?_;refine s7 [.str _] rfl ?_;refine congrArg (fun z=>[U.str z]) ?_;symm;unfold A0V;first|(rw[E1 (by unfold okU;omega),Q3 (by omega)];done)|(rw[E1 (by unfold okU;omega),Q3 (by omega)];refine congrArg iB ?_;simp only[B1,and_true,true_and];omega)|(rw[E1 (by unfold okU;omega),Q2 (by omega) (by omega)];done)|(rw[E1 (by unfold okU;omega),Q2 (by omega) (by omega)];refine congrArg iB ?_;simp only[B1,and_true,true_and];omega)|(rw[E1 (by unfold okU;omega),Q1 (by omega) (by omega) (by omega)];done)|(rw[E1 (by unfold okU;omega),Q1 (by omega) (by omega) (by omega)];refine congrArg iB ?_;simp only[B1,and_true,true_and];omega)|(rw[E1 (by unfold okU;omega),Q0 (by omega) (by omega) (by omega)];done)|(rw[E1 (by unfold okU;omega),Q0 (by omega) (by omega) (by omega)];refine congrArg iB ?_;simp only[B1,and_true,true_and];omega)|(rw[P9 (by unfold okU;omega)];rfl)|(rw[P9 (by unfold okU;omega)];decide)
  refine s1 (L3 _ _ _) rfl rfl rfl ?_;refine s4 rfl (fun g4=>?_) fun g4=>?_
  ·refine s1 (N7 64 (by decide) (by decide)) rfl rfl rfl ?_;first|refine s1 (D5 (K7 (by omega) (by omega))) rfl rfl rfl ?_|refine s1 (J8 _) rfl rfl rfl ?_
   refine s1 (A2Z (c:=32) (by omega) (by omega) (by decide)) rfl rfl rfl ?_;refine s1 (N7 1 (by decide) (by decide)) rfl rfl rfl ?_;first|refine s1 (D5 (K7 (by omega) (by omega))) rfl rfl rfl ?_|refine s1 (J8 _) rfl rfl rfl ?_
   refine s1 (i7 6 64 (by decide) (by decide) (by decide)) rfl rfl rfl ?_;refine s1 (A2Z (c:=64) (by omega) (by omega) (by decide)) rfl rfl rfl ?_;refine s1 (P7 [_,_] (by simp only[B5,E5,or_false,forall_eq_or_imp,forall_eq];omega)) rfl rfl rfl ?_;refine s7 [.str _] rfl ?_;refine congrArg (fun z=>[U.str z]) ?_;symm;unfold A0V;first|(rw[E1 (by unfold okU;omega),Q3 (by omega)];done)|(rw[E1 (by unfold okU;omega),Q3 (by omega)];refine congrArg iB ?_;simp only[B1,and_true,true_and];omega)|(rw[E1 (by unfold okU;omega),Q2 (by omega) (by omega)];done)|(rw[E1 (by unfold okU;omega),Q2 (by omega) (by omega)];refine congrArg iB ?_;simp only[B1,and_true,true_and];omega)|(rw[E1 (by unfold okU;omega),Q1 (by omega) (by omega) (by omega)];done)|(rw[E1 (by unfold okU;omega),Q1 (by omega) (by omega) (by omega)];refine congrArg iB ?_;simp only[B1,and_true,true_and];omega)|(rw[E1 (by unfold okU;omega),Q0 (by omega) (by omega) (by omega)];done)|(rw[E1 (by unfold okU;omega),Q0 (by omega) (by omega) (by omega)];refine congrArg iB ?_;simp only[B1,and_true,true_and];omega)|(rw[P9 (by unfold okU;omega)];rfl)|(rw[P9 (by unfold okU;omega)];decide)
  refine s1 (L3 _ _ _) rfl rfl rfl ?_;refine s4 rfl (fun g5=>?_) fun g5=>?_
  ·refine s1 (N7 4096 (by decide) (by decide)) rfl rfl rfl ?_;first|refine s1 (D5 (K7 (by omega) (by omega))) rfl rfl rfl ?_|refine s1 (J8 _) rfl rfl rfl ?_
   refine s1 (A2Z (c:=16) (by omega) (by omega) (by decide)) rfl rfl rfl ?_;refine s1 (N7 64 (by decide) (by decide)) rfl rfl rfl ?_;first|refine s1 (D5 (K7 (by omega) (by omega))) rfl rfl rfl ?_|refine s1 (J8 _) rfl rfl rfl ?_
   refine s1 (i7 6 64 (by decide) (by decide) (by decide)) rfl rfl rfl ?_;refine s1 (A2Z (c:=64) (by omega) (by omega) (by decide)) rfl rfl rfl ?_;refine s1 (N7 1 (by decide) (by decide)) rfl rfl rfl ?_;first|refine s1 (D5 (K7 (by omega) (by omega))) rfl rfl rfl ?_|refine s1 (J8 _) rfl rfl rfl ?_
   refine s1 (i7 6 64 (by decide) (by decide) (by decide)) rfl rfl rfl ?_;refine s1 (A2Z (c:=64) (by omega) (by omega) (by decide)) rfl rfl rfl ?_;refine s1 (P7 [_,_,_] (by simp only[B5,E5,or_false,forall_eq_or_imp,forall_eq];omega)) rfl rfl rfl ?_;refine s7 [.str _] rfl ?_;refine congrArg (fun z=>[U.str z]) ?_;symm;unfold A0V;first|(rw[E1 (by unfold okU;omega),Q3 (by omega)];done)|(rw[E1 (by unfold okU;omega),Q3 (by omega)];refine congrArg iB ?_;simp only[B1,and_true,true_and];omega)|(rw[E1 (by unfold okU;omega),Q2 (by omega) (by omega)];done)|(rw[E1 (by unfold okU;omega),Q2 (by omega) (by omega)];refine congrArg iB ?_;simp only[B1,and_true,true_and];omega)|(rw[E1 (by unfold okU;omega),Q1 (by omega) (by omega) (by omega)];done)|(rw[E1 (by unfold okU;omega),Q1 (by omega) (by omega) (by omega)];refine congrArg iB ?_;simp only[B1,and_true,true_and];omega)|(rw[E1 (by unfold okU;omega),Q0 (by omega) (by omega) (by omega)];done)|(rw[E1 (by unfold okU;omega),Q0 (by omega) (by omega) (by omega)];refine congrArg iB ?_;simp only[B1,and_true,true_and];omega)|(rw[P9 (by unfold okU;omega)];rfl)|(rw[P9 (by unfold okU;omega)];decide)
  refine s1 (N7 262144 (by decide) (by decide)) rfl rfl rfl ?_;first|refine s1 (D5 (K7 (by omega) (by omega))) rfl rfl rfl ?_|refine s1 (J8 _) rfl rfl rfl ?_
  refine s1 (A2Z (c:=8) (by omega) (by omega) (by decide)) rfl rfl rfl ?_;refine s1 (N7 4096 (by decide) (by decide)) rfl rfl rfl ?_;first|refine s1 (D5 (K7 (by omega) (by omega))) rfl rfl rfl ?_|refine s1 (J8 _) rfl rfl rfl ?_
  refine s1 (i7 6 64 (by decide) (by decide) (by decide)) rfl rfl rfl ?_;refine s1 (A2Z (c:=64) (by omega) (by omega) (by decide)) rfl rfl rfl ?_;refine s1 (N7 64 (by decide) (by decide)) rfl rfl rfl ?_;first|refine s1 (D5 (K7 (by omega) (by omega))) rfl rfl rfl ?_|refine s1 (J8 _) rfl rfl rfl ?_
  refine s1 (i7 6 64 (by decide) (by decide) (by decide)) rfl rfl rfl ?_;refine s1 (A2Z (c:=64) (by omega) (by omega) (by decide)) rfl rfl rfl ?_;refine s1 (N7 1 (by decide) (by decide)) rfl rfl rfl ?_;first|refine s1 (D5 (K7 (by omega) (by omega))) rfl rfl rfl ?_|refine s1 (J8 _) rfl rfl rfl ?_
  refine s1 (i7 6 64 (by decide) (by decide) (by decide)) rfl rfl rfl ?_;refine s1 (A2Z (c:=64) (by omega) (by omega) (by decide)) rfl rfl rfl ?_;refine s1 (P7 [_,_,_,_] (by simp only[B5,E5,or_false,forall_eq_or_imp,forall_eq];omega)) rfl rfl rfl ?_;refine s7 [.str _] rfl ?_;refine congrArg (fun z=>[U.str z]) ?_;symm;unfold A0V;first|(rw[E1 (by unfold okU;omega),Q3 (by omega)];done)|(rw[E1 (by unfold okU;omega),Q3 (by omega)];refine congrArg iB ?_;simp only[B1,and_true,true_and];omega)|(rw[E1 (by unfold okU;omega),Q2 (by omega) (by omega)];done)|(rw[E1 (by unfold okU;omega),Q2 (by omega) (by omega)];refine congrArg iB ?_;simp only[B1,and_true,true_and];omega)|(rw[E1 (by unfold okU;omega),Q1 (by omega) (by omega) (by omega)];done)|(rw[E1 (by unfold okU;omega),Q1 (by omega) (by omega) (by omega)];refine congrArg iB ?_;simp only[B1,and_true,true_and];omega)|(rw[E1 (by unfold okU;omega),Q0 (by omega) (by omega) (by omega)];done)|(rw[E1 (by unfold okU;omega),Q0 (by omega) (by omega) (by omega)];refine congrArg iB ?_;simp only[B1,and_true,true_and];omega)|(rw[P9 (by unfold okU;omega)];rfl)|(rw[P9 (by unfold okU;omega)];decide)
 ·cases hs
noncomputable def B8Y:List (FuncId×FnC):=L0
theorem B5_{G:Nat→Option Obj}(hst:D2 Tryz.prog G gl H0 n0):J3 Tryz.prog G gl B8Y:=.nil
def A7J:List U→Option (Nat×List U)
 | [.int .i64 c]=>some (0,[.str (A0V c)])
 | _=>none
theorem B6x(c:Int):A7J [.int .i64 c]=some (0,[.str (A0V c)]):=rfl
def B6w:Tr:=.lt 8 (.bin .geq) [h 0 3,jI 0]<|.br 1 (.lt 8 (.bin .leq) [h 0 3,jI 1114111]<|.br 2 (.lt 8 (.bin .lss) [h 0 3,jI 55296]<|.br 3 (.lt 8 (.bin .lss) [h 0 3,jI 128]<|.br 4 (.lt 4 (.conv .u8) [h 0 3]<|.lt 9 (.mks) [h 5 4]<|.ret [h 6 9]) (.lt 8 (.bin .lss) [h 0 3,jI 2048]<|.br 5 (.lt 3 (.bin .rem) [h 0 3,jI 64]<|.lt 3 (.bin .add) [jI 128,h 6 3]<|.lt 4 (.conv .u8) [h 7 3]<|.lt 3 (.bin .quo) [h 0 3,jI 64]<|.lt 3 (.bin .add) [jI 192,h 9 3]<|.lt 4 (.conv .u8) [h 10 3]<|.lt 9 (.mks) [h 11 4,h 8 4]<|.ret [h 12 9]) (.lt 8 (.bin .lss) [h 0 3,jI 65536]<|.br 6 (.lt 3 (.bin .rem) [h 0 3,jI 64]<|.lt 3 (.bin .add) [jI 128,h 7 3]<|.lt 4 (.conv .u8) [h 8 3]<|.lt 3 (.bin .quo) [h 0 3,jI 64]<|.lt 3 (.bin .rem) [h 10 3,jI 64]<|.lt 3 (.bin .add) [jI 128,h 11 3]<|.lt 4 (.conv .u8) [h 12 3]<|.lt 3 (.bin .quo) [h 10 3,jI 64]<|.lt 3 (.bin .add) [jI 224,h 14 3]<|.lt 4 (.conv .u8) [h 15 3]<|.lt 9 (.mks) [h 16 4,h 13 4,h 9 4]<|.ret [h 17 9]) (.lt 3 (.bin .rem) [h 0 3,jI 64]<|.lt 3 (.bin .add) [jI 128,h 7 3]<|.lt 4 (.conv .u8) [h 8 3]<|.lt 3 (.bin .quo) [h 0 3,jI 64]<|.lt 3 (.bin .rem) [h 10 3,jI 64]<|.lt 3 (.bin .add) [jI 128,h 11 3]<|.lt 4 (.conv .u8) [h 12 3]<|.lt 3 (.bin .quo) [h 10 3,jI 64]<|.lt 3 (.bin .rem) [h 14 3,jI 64]<|.lt 3 (.bin .add) [jI 128,h 15 3]<|.lt 4 (.conv .u8) [h 16 3]<|.lt 3 (.bin .quo) [h 14 3,jI 64]<|.lt 3 (.bin .add) [jI 240,h 18 3]<|.lt 4 (.conv .u8) [h 19 3]<|.lt 9 (.mks) [h 20 4,h 17 4,h 13 4,h 9 4]<|.ret [h 21 9])))) (.lt 8 (.bin .gtr) [h 0 3,jI 57343]<|.lt 8 (.un .not) [h 4 8]<|.br 5 (.ret [.string ⟨⟨[239,191,189]⟩⟩]) (.lt 8 (.bin .lss) [h 0 3,jI 128]<|.br 6 (.lt 4 (.conv .u8) [h 0 3]<|.lt 9 (.mks) [h 7 4]<|.ret [h 8 9]) (.lt 8 (.bin .lss) [h 0 3,jI 2048]<|.br 7 (.lt 3 (.bin .rem) [h 0 3,jI 64]<|.lt 3 (.bin .add) [jI 128,h 8 3]<|.lt 4 (.conv .u8) [h 9 3]<|.lt 3 (.bin .quo) [h 0 3,jI 64]<|.lt 3 (.bin .add) [jI 192,h 11 3]<|.lt 4 (.conv .u8) [h 12 3]<|.lt 9 (.mks) [h 13 4,h 10 4]<|.ret [h 14 9]) (.lt 8 (.bin .lss) [h 0 3,jI 65536]<|.br 8 (.lt 3 (.bin .rem) [h 0 3,jI 64]<|.lt 3 (.bin .add) [jI 128,h 9 3]<|.lt 4 (.conv .u8) [h 10 3]<|.lt 3 (.bin .quo) [h 0 3,jI 64]<|.lt 3 (.bin .rem) [h 12 3,jI 64]<|.lt 3 (.bin .add) [jI 128,h 13 3]<|.lt 4 (.conv .u8) [h 14 3]<|.lt 3 (.bin .quo) [h 12 3,jI 64]<|.lt 3 (.bin .add) [jI 224,h 16 3]<|.lt 4 (.conv .u8) [h 17 3]<|.lt 9 (.mks) [h 18 4,h 15 4,h 11 4]<|.ret [h 19 9]) (.lt 3 (.bin .rem) [h 0 3,jI 64]<|.lt 3 (.bin .add) [jI 128,h 9 3]<|.lt 4 (.conv .u8) [h 10 3]<|.lt 3 (.bin .quo) [h 0 3,jI 64]<|.lt 3 (.bin .rem) [h 12 3,jI 64]<|.lt 3 (.bin .add) [jI 128,h 13 3]<|.lt 4 (.conv .u8) [h 14 3]<|.lt 3 (.bin .quo) [h 12 3,jI 64]<|.lt 3 (.bin .rem) [h 16 3,jI 64]<|.lt 3 (.bin .add) [jI 128,h 17 3]<|.lt 4 (.conv .u8) [h 18 3]<|.lt 3 (.bin .quo) [h 16 3,jI 64]<|.lt 3 (.bin .add) [jI 240,h 20 3]<|.lt 4 (.conv .u8) [h 21 3]<|.lt 9 (.mks) [h 22 4,h 19 4,h 15 4,h 11 4]<|.ret [h 23 9])))))) (.ret [.string ⟨⟨[239,191,189]⟩⟩])) (.ret [.string ⟨⟨[239,191,189]⟩⟩])
theorem C2V{G:Nat→Option Obj}(hst:D2 Tryz.prog G gl H0 n0):N0 Tryz.prog G 93 [.s 3] A7J [.s 9]:=by
 refine F4 (C:=cx B8Y []) (d:=60) B6w (cxg (B5_ hst) .nil) hst ⟨Tryz.f93,_,Tryz.func93,rfl⟩ (by kernel_rfl) (by kernel_rfl) ?_;intro us outs hs;unfold A7J at hs;split at hs
 ·skip;rename_i c;cases hs;unfold B6w;refine s0 (.cons 0 _ (.nil)) rfl (by simp[Ev.ok,Ev.len]) ?_;refine s1 (F2 _ _ _) rfl rfl rfl ?_;refine s5 rfl (fun g0=>?_) fun g0=>?_
  ·refine s7 [.str _] rfl ?_;refine congrArg (fun z=>[U.str z]) ?_;symm;unfold A0V;first|(rw[E1 (by unfold okU;omega),Q3 (by omega)];done)|(rw[E1 (by unfold okU;omega),Q3 (by omega)];refine congrArg iB ?_;simp only[B1,and_true,true_and];omega)|(rw[E1 (by unfold okU;omega),Q2 (by omega) (by omega)];done)|(rw[E1 (by unfold okU;omega),Q2 (by omega) (by omega)];refine congrArg iB ?_;simp only[B1,and_true,true_and];omega)|(rw[E1 (by unfold okU;omega),Q1 (by omega) (by omega) (by omega)];done)|(rw[E1 (by unfold okU;omega),Q1 (by omega) (by omega) (by omega)];refine congrArg iB ?_;simp only[B1,and_true,true_and];omega)|(rw[E1 (by unfold okU;omega),Q0 (by omega) (by omega) (by omega)];done)|(rw[E1 (by unfold okU;omega),Q0 (by omega) (by omega) (by omega)];refine congrArg iB ?_;simp only[B1,and_true,true_and];omega)|(rw[P9 (by unfold okU;omega)];rfl)|(rw[P9 (by unfold okU;omega)];decide)
  refine s1 (G0 _ _ _) rfl rfl rfl ?_;refine s5 rfl (fun g1=>?_) fun g1=>?_
  ·refine s7 [.str _] rfl ?_;refine congrArg (fun z=>[U.str z]) ?_;symm;unfold A0V;first|(rw[E1 (by unfold okU;omega),Q3 (by omega)];done)|(rw[E1 (by unfold okU;omega),Q3 (by omega)];refine congrArg iB ?_;simp only[B1,and_true,true_and];omega)|(rw[E1 (by unfold okU;omega),Q2 (by omega) (by omega)];done)|(rw[E1 (by unfold okU;omega),Q2 (by omega) (by omega)];refine congrArg iB ?_;simp only[B1,and_true,true_and];omega)|(rw[E1 (by unfold okU;omega),Q1 (by omega) (by omega) (by omega)];done)|(rw[E1 (by unfold okU;omega),Q1 (by omega) (by omega) (by omega)];refine congrArg iB ?_;simp only[B1,and_true,true_and];omega)|(rw[E1 (by unfold okU;omega),Q0 (by omega) (by omega) (by omega)];done)|(rw[E1 (by unfold okU;omega),Q0 (by omega) (by omega) (by omega)];refine congrArg iB ?_;simp only[B1,and_true,true_and];omega)|(rw[P9 (by unfold okU;omega)];rfl)|(rw[P9 (by unfold okU;omega)];decide)
  refine s1 (L3 _ _ _) rfl rfl rfl ?_;refine s4 rfl (fun g2=>?_) fun g2=>?_
  ·refine s1 (L3 _ _ _) rfl rfl rfl ?_;refine s4 rfl (fun g3=>?_) fun g3=>?_
   ·first|refine s1 (D5 (K7 (by omega) (by omega))) rfl rfl rfl ?_|refine s1 (J8 _) rfl rfl rfl ?_
    refine s1 (P7 [_] (by simp only[B5,E5,or_false,forall_eq_or_imp,forall_eq];omega)) rfl rfl rfl ?_;refine s7 [.str _] rfl ?_;refine congrArg (fun z=>[U.str z]) ?_;symm;unfold A0V;first|(rw[E1 (by unfold okU;omega),Q3 (by omega)];done)|(rw[E1 (by unfold okU;omega),Q3 (by omega)];refine congrArg iB ?_;simp only[B1,and_true,true_and];omega)|(rw[E1 (by unfold okU;omega),Q2 (by omega) (by omega)];done)|(rw[E1 (by unfold okU;omega),Q2 (by omega) (by omega)];refine congrArg iB ?_;simp only[B1,and_true,true_and];omega)|(rw[E1 (by unfold okU;omega),Q1 (by omega) (by omega) (by omega)];done)|(rw[E1 (by unfold okU;omega),Q1 (by omega) (by omega) (by omega)];refine congrArg iB ?_;simp only[B1,and_true,true_and];omega)|(rw[E1 (by unfold okU;omega),Q0 (by omega) (by omega) (by omega)];done)|(rw[E1 (by unfold okU;omega),Q0 (by omega) (by omega) (by omega)];refine congrArg iB ?_;simp only[B1,and_true,true_and];omega)|(rw[P9 (by unfold okU;omega)];rfl)|(rw[P9 (by unfold okU;omega)];decide)
   refine s1 (L3 _ _ _) rfl rfl rfl ?_;refine s4 rfl (fun g4=>?_) fun g4=>?_
   ·first|refine s1 (G6 (by omega) (by omega)) rfl rfl rfl ?_|refine s1 (I3 _ _ _ (by omega)) rfl rfl rfl ?_
    first|refine s1 (D8 (C7 (by omega) (by omega))) rfl rfl rfl ?_|refine s1 (E8 _ _ _) rfl rfl rfl ?_
    first|refine s1 (D5 (K7 (by omega) (by omega))) rfl rfl rfl ?_|refine s1 (J8 _) rfl rfl rfl ?_
    first|refine s1 (R4 (by omega) (by omega) (C7 (by omega) (by omega))) rfl rfl rfl ?_|refine s1 (V4 _ _ _ (by omega)) rfl rfl rfl ?_
    first|refine s1 (D8 (C7 (by omega) (by omega))) rfl rfl rfl ?_|refine s1 (E8 _ _ _) rfl rfl rfl ?_
    first|refine s1 (D5 (K7 (by omega) (by omega))) rfl rfl rfl ?_|refine s1 (J8 _) rfl rfl rfl ?_
    refine s1 (P7 [_,_] (by simp only[B5,E5,or_false,forall_eq_or_imp,forall_eq];omega)) rfl rfl rfl ?_;refine s7 [.str _] rfl ?_;refine congrArg (fun z=>[U.str z]) ?_;symm;unfold A0V;first|(rw[E1 (by unfold okU;omega),Q3 (by omega)];done)|(rw[E1 (by unfold okU;omega),Q3 (by omega)];refine congrArg iB ?_;simp only[B1,and_true,true_and];omega)|(rw[E1 (by unfold okU;omega),Q2 (by omega) (by omega)];done)|(rw[E1 (by unfold okU;omega),Q2 (by omega) (by omega)];refine congrArg iB ?_;simp only[B1,and_true,true_and];omega)|(rw[E1 (by unfold okU;omega),Q1 (by omega) (by omega) (by omega)];done)|(rw[E1 (by unfold okU;omega),Q1 (by omega) (by omega) (by omega)];refine congrArg iB ?_;simp only[B1,and_true,true_and];omega)|(rw[E1 (by unfold okU;omega),Q0 (by omega) (by omega) (by omega)];done)|(rw[E1 (by unfold okU;omega),Q0 (by omega) (by omega) (by omega)];refine congrArg iB ?_;simp only[B1,and_true,true_and];omega)|(rw[P9 (by unfold okU;omega)];rfl)|(rw[P9 (by unfold okU;omega)];decide)
   refine s1 (L3 _ _ _) rfl rfl rfl ?_;refine s4 rfl (fun g5=>?_) fun g5=>?_
   ·first|refine s1 (G6 (by omega) (by omega)) rfl rfl rfl ?_|refine s1 (I3 _ _ _ (by omega)) rfl rfl rfl ?_
    first|refine s1 (D8 (C7 (by omega) (by omega))) rfl rfl rfl ?_|refine s1 (E8 _ _ _) rfl rfl rfl ?_
    first|refine s1 (D5 (K7 (by omega) (by omega))) rfl rfl rfl ?_|refine s1 (J8 _) rfl rfl rfl ?_
    first|refine s1 (R4 (by omega) (by omega) (C7 (by omega) (by omega))) rfl rfl rfl ?_|refine s1 (V4 _ _ _ (by omega)) rfl rfl rfl ?_
    first|refine s1 (G6 (by omega) (by omega)) rfl rfl rfl ?_|refine s1 (I3 _ _ _ (by omega)) rfl rfl rfl ?_
    first|refine s1 (D8 (C7 (by omega) (by omega))) rfl rfl rfl ?_|refine s1 (E8 _ _ _) rfl rfl rfl ?_
    first|refine s1 (D5 (K7 (by omega) (by omega))) rfl rfl rfl ?_|refine s1 (J8 _) rfl rfl rfl ?_
    first|refine s1 (R4 (by omega) (by omega) (C7 (by omega) (by omega))) rfl rfl rfl ?_|refine s1 (V4 _ _ _ (by omega)) rfl rfl rfl ?_
    first|refine s1 (D8 (C7 (by omega) (by omega))) rfl rfl rfl ?_|refine s1 (E8 _ _ _) rfl rfl rfl ?_
    first|refine s1 (D5 (K7 (by omega) (by omega))) rfl rfl rfl ?_|refine s1 (J8 _) rfl rfl rfl ?_
    refine s1 (P7 [_,_,_] (by simp only[B5,E5,or_false,forall_eq_or_imp,forall_eq];omega)) rfl rfl rfl ?_;refine s7 [.str _] rfl ?_;refine congrArg (fun z=>[U.str z]) ?_;symm;unfold A0V;first|(rw[E1 (by unfold okU;omega),Q3 (by omega)];done)|(rw[E1 (by unfold okU;omega),Q3 (by omega)];refine congrArg iB ?_;simp only[B1,and_true,true_and];omega)|(rw[E1 (by unfold okU;omega),Q2 (by omega) (by omega)];done)|(rw[E1 (by unfold okU;omega),Q2 (by omega) (by omega)];refine congrArg iB ?_;simp only[B1,and_true,true_and];omega)|(rw[E1 (by unfold okU;omega),Q1 (by omega) (by omega) (by omega)];done)|(rw[E1 (by unfold okU;omega),Q1 (by omega) (by omega) (by omega)];refine congrArg iB ?_;simp only[B1,and_true,true_and];omega)|(rw[E1 (by unfold okU;omega),Q0 (by omega) (by omega) (by omega)];done)|(rw[E1 (by unfold okU;omega),Q0 (by omega) (by omega) (by omega)];refine congrArg iB ?_;simp only[B1,and_true,true_and];omega)|(rw[P9 (by unfold okU;omega)];rfl)|(rw[P9 (by unfold okU;omega)];decide)
   first|refine s1 (G6 (by omega) (by omega)) rfl rfl rfl ?_|refine s1 (I3 _ _ _ (by omega)) rfl rfl rfl ?_
   first|refine s1 (D8 (C7 (by omega) (by omega))) rfl rfl rfl ?_|refine s1 (E8 _ _ _) rfl rfl rfl ?_
   first|refine s1 (D5 (K7 (by omega) (by omega))) rfl rfl rfl ?_|refine s1 (J8 _) rfl rfl rfl ?_
   first|refine s1 (R4 (by omega) (by omega) (C7 (by omega) (by omega))) rfl rfl rfl ?_|refine s1 (V4 _ _ _ (by omega)) rfl rfl rfl ?_
   first|refine s1 (G6 (by omega) (by omega)) rfl rfl rfl ?_|refine s1 (I3 _ _ _ (by omega)) rfl rfl rfl ?_
   first|refine s1 (D8 (C7 (by omega) (by omega))) rfl rfl rfl ?_|refine s1 (E8 _ _ _) rfl rfl rfl ?_
   first|refine s1 (D5 (K7 (by omega) (by omega))) rfl rfl rfl ?_|refine s1 (J8 _) rfl rfl rfl ?_
   first|refine s1 (R4 (by omega) (by omega) (C7 (by omega) (by omega))) rfl rfl rfl ?_|refine s1 (V4 _ _ _ (by omega)) rfl rfl rfl ?_
   first|refine s1 (G6 (by omega) (by omega)) rfl rfl rfl ?_|refine s1 (I3 _ _ _ (by omega)) rfl rfl rfl ?_
   first|refine s1 (D8 (C7 (by omega) (by omega))) rfl rfl rfl ?_|refine s1 (E8 _ _ _) rfl rfl rfl ?_
   first|refine s1 (D5 (K7 (by omega) (by omega))) rfl rfl rfl ?_|refine s1 (J8 _) rfl rfl rfl ?_
   first|refine s1 (R4 (by omega) (by omega) (C7 (by omega) (by omega))) rfl rfl rfl ?_|refine s1 (V4 _ _ _ (by omega)) rfl rfl rfl ?_
   first|refine s1 (D8 (C7 (by omega) (by omega))) rfl rfl rfl ?_|refine s1 (E8 _ _ _) rfl rfl rfl ?_
   first|refine s1 (D5 (K7 (by omega) (by omega))) rfl rfl rfl ?_|refine s1 (J8 _) rfl rfl rfl ?_
   refine s1 (P7 [_,_,_,_] (by simp only[B5,E5,or_false,forall_eq_or_imp,forall_eq];omega)) rfl rfl rfl ?_;refine s7 [.str _] rfl ?_;refine congrArg (fun z=>[U.str z]) ?_;symm;unfold A0V;first|(rw[E1 (by unfold okU;omega),Q3 (by omega)];done)|(rw[E1 (by unfold okU;omega),Q3 (by omega)];refine congrArg iB ?_;simp only[B1,and_true,true_and];omega)|(rw[E1 (by unfold okU;omega),Q2 (by omega) (by omega)];done)|(rw[E1 (by unfold okU;omega),Q2 (by omega) (by omega)];refine congrArg iB ?_;simp only[B1,and_true,true_and];omega)|(rw[E1 (by unfold okU;omega),Q1 (by omega) (by omega) (by omega)];done)|(rw[E1 (by unfold okU;omega),Q1 (by omega) (by omega) (by omega)];refine congrArg iB ?_;simp only[B1,and_true,true_and];omega)|(rw[E1 (by unfold okU;omega),Q0 (by omega) (by omega) (by omega)];done)|(rw[E1 (by unfold okU;omega),Q0 (by omega) (by omega) (by omega)];refine congrArg iB ?_;simp only[B1,and_true,true_and];omega)|(rw[P9 (by unfold okU;omega)];rfl)|(rw[P9 (by unfold okU;omega)];decide)
  refine s1 (A3X _ _ _) rfl rfl rfl ?_;refine s1 (D4 _) rfl rfl rfl ?_;refine s4 rfl (fun g3=>?_) fun g3=>?_
  ·refine s7 [.str _] rfl ?_;refine congrArg (fun z=>[U.str z]) ?_;symm;unfold A0V;first|(rw[E1 (by unfold okU;omega),Q3 (by omega)];done)|(rw[E1 (by unfold okU;omega),Q3 (by omega)];refine congrArg iB ?_;simp only[B1,and_true,true_and];omega)|(rw[E1 (by unfold okU;omega),Q2 (by omega) (by omega)];done)|(rw[E1 (by unfold okU;omega),Q2 (by omega) (by omega)];refine congrArg iB ?_;simp only[B1,and_true,true_and];omega)|(rw[E1 (by unfold okU;omega),Q1 (by omega) (by omega) (by omega)];done)|(rw[E1 (by unfold okU;omega),Q1 (by omega) (by omega) (by omega)];refine congrArg iB ?_;simp only[B1,and_true,true_and];omega)|(rw[E1 (by unfold okU;omega),Q0 (by omega) (by omega) (by omega)];done)|(rw[E1 (by unfold okU;omega),Q0 (by omega) (by omega) (by omega)];refine congrArg iB ?_;simp only[B1,and_true,true_and];omega)|(rw[P9 (by unfold okU;omega)];rfl)|(rw[P9 (by unfold okU;omega)];decide)
  refine s1 (L3 _ _ _) rfl rfl rfl ?_;refine s4 rfl (fun g4=>?_) fun g4=>?_
  ·first|refine s1 (D5 (K7 (by omega) (by omega))) rfl rfl rfl ?_|refine s1 (J8 _) rfl rfl rfl ?_
   refine s1 (P7 [_] (by simp only[B5,E5,or_false,forall_eq_or_imp,forall_eq];omega)) rfl rfl rfl ?_;refine s7 [.str _] rfl ?_;refine congrArg (fun z=>[U.str z]) ?_;symm;unfold A0V;first|(rw[E1 (by unfold okU;omega),Q3 (by omega)];done)|(rw[E1 (by unfold okU;omega),Q3 (by omega)];refine congrArg iB ?_;simp only[B1,and_true,true_and];omega)|(rw[E1 (by unfold okU;omega),Q2 (by omega) (by omega)];done)|(rw[E1 (by unfold okU;omega),Q2 (by omega) (by omega)];refine congrArg iB ?_;simp only[B1,and_true,true_and];omega)|(rw[E1 (by unfold okU;omega),Q1 (by omega) (by omega) (by omega)];done)|(rw[E1 (by unfold okU;omega),Q1 (by omega) (by omega) (by omega)];refine congrArg iB ?_;simp only[B1,and_true,true_and];omega)|(rw[E1 (by unfold okU;omega),Q0 (by omega) (by omega) (by omega)];done)|(rw[E1 (by unfold okU;omega),Q0 (by omega) (by omega) (by omega)];refine congrArg iB ?_;simp only[B1,and_true,true_and];omega)|(rw[P9 (by unfold okU;omega)];rfl)|(rw[P9 (by unfold okU;omega)];decide)
  refine s1 (L3 _ _ _) rfl rfl rfl ?_;refine s4 rfl (fun g5=>?_) fun g5=>?_
  ·first|refine s1 (G6 (by omega) (by omega)) rfl rfl rfl ?_|refine s1 (I3 _ _ _ (by omega)) rfl rfl rfl ?_
   first|refine s1 (D8 (C7 (by omega) (by omega))) rfl rfl rfl ?_|refine s1 (E8 _ _ _) rfl rfl rfl ?_
   first|refine s1 (D5 (K7 (by omega) (by omega))) rfl rfl rfl ?_|refine s1 (J8 _) rfl rfl rfl ?_
   first|refine s1 (R4 (by omega) (by omega) (C7 (by omega) (by omega))) rfl rfl rfl ?_|refine s1 (V4 _ _ _ (by omega)) rfl rfl rfl ?_
   first|refine s1 (D8 (C7 (by omega) (by omega))) rfl rfl rfl ?_|refine s1 (E8 _ _ _) rfl rfl rfl ?_
   first|refine s1 (D5 (K7 (by omega) (by omega))) rfl rfl rfl ?_|refine s1 (J8 _) rfl rfl rfl ?_
   refine s1 (P7 [_,_] (by simp only[B5,E5,or_false,forall_eq_or_imp,forall_eq];omega)) rfl rfl rfl ?_;refine s7 [.str _] rfl ?_;refine congrArg (fun z=>[U.str z]) ?_;symm;unfold A0V;first|(rw[E1 (by unfold okU;omega),Q3 (by omega)];done)|(rw[E1 (by unfold okU;omega),Q3 (by omega)];refine congrArg iB ?_;simp only[B1,and_true,true_and];omega)|(rw[E1 (by unfold okU;omega),Q2 (by omega) (by omega)];done)|(rw[E1 (by unfold okU;omega),Q2 (by omega) (by omega)];refine congrArg iB ?_;simp only[B1,and_true,true_and];omega)|(rw[E1 (by unfold okU;omega),Q1 (by omega) (by omega) (by omega)];done)|(rw[E1 (by unfold okU;omega),Q1 (by omega) (by omega) (by omega)];refine congrArg iB ?_;simp only[B1,and_true,true_and];omega)|(rw[E1 (by unfold okU;omega),Q0 (by omega) (by omega) (by omega)];done)|(rw[E1 (by unfold okU;omega),Q0 (by omega) (by omega) (by omega)];refine congrArg iB ?_;simp only[B1,and_true,true_and];omega)|(rw[P9 (by unfold okU;omega)];rfl)|(rw[P9 (by unfold okU;omega)];decide)
  refine s1 (L3 _ _ _) rfl rfl rfl ?_;refine s4 rfl (fun g6=>?_) fun g6=>?_
  ·first|refine s1 (G6 (by omega) (by omega)) rfl rfl rfl ?_|refine s1 (I3 _ _ _ (by omega)) rfl rfl rfl ?_
   first|refine s1 (D8 (C7 (by omega) (by omega))) rfl rfl rfl ?_|refine s1 (E8 _ _ _) rfl rfl rfl ?_
   first|refine s1 (D5 (K7 (by omega) (by omega))) rfl rfl rfl ?_|refine s1 (J8 _) rfl rfl rfl ?_
   first|refine s1 (R4 (by omega) (by omega) (C7 (by omega) (by omega))) rfl rfl rfl ?_|refine s1 (V4 _ _ _ (by omega)) rfl rfl rfl ?_
   first|refine s1 (G6 (by omega) (by omega)) rfl rfl rfl ?_|refine s1 (I3 _ _ _ (by omega)) rfl rfl rfl ?_
   first|refine s1 (D8 (C7 (by omega) (by omega))) rfl rfl rfl ?_|refine s1 (E8 _ _ _) rfl rfl rfl ?_
   first|refine s1 (D5 (K7 (by omega) (by omega))) rfl rfl rfl ?_|refine s1 (J8 _) rfl rfl rfl ?_
   first|refine s1 (R4 (by omega) (by omega) (C7 (by omega) (by omega))) rfl rfl rfl ?_|refine s1 (V4 _ _ _ (by omega)) rfl rfl rfl ?_
   first|refine s1 (D8 (C7 (by omega) (by omega))) rfl rfl rfl ?_|refine s1 (E8 _ _ _) rfl rfl rfl ?_
   first|refine s1 (D5 (K7 (by omega) (by omega))) rfl rfl rfl ?_|refine s1 (J8 _) rfl rfl rfl ?_
   refine s1 (P7 [_,_,_] (by simp only[B5,E5,or_false,forall_eq_or_imp,forall_eq];omega)) rfl rfl rfl ?_;refine s7 [.str _] rfl ?_;refine congrArg (fun z=>[U.str z]) ?_;symm;unfold A0V;first|(rw[E1 (by unfold okU;omega),Q3 (by omega)];done)|(rw[E1 (by unfold okU;omega),Q3 (by omega)];refine congrArg iB ?_;simp only[B1,and_true,true_and];omega)|(rw[E1 (by unfold okU;omega),Q2 (by omega) (by omega)];done)|(rw[E1 (by unfold okU;omega),Q2 (by omega) (by omega)];refine congrArg iB ?_;simp only[B1,and_true,true_and];omega)|(rw[E1 (by unfold okU;omega),Q1 (by omega) (by omega) (by omega)];done)|(rw[E1 (by unfold okU;omega),Q1 (by omega) (by omega) (by omega)];refine congrArg iB ?_;simp only[B1,and_true,true_and];omega)|(rw[E1 (by unfold okU;omega),Q0 (by omega) (by omega) (by omega)];done)|(rw[E1 (by unfold okU;omega),Q0 (by omega) (by omega) (by omega)];refine congrArg iB ?_;simp only[B1,and_true,true_and];omega)|(rw[P9 (by unfold okU;omega)];rfl)|(rw[P9 (by unfold okU;omega)];decide)
  first|refine s1 (G6 (by omega) (by omega)) rfl rfl rfl ?_|refine s1 (I3 _ _ _ (by omega)) rfl rfl rfl ?_
  first|refine s1 (D8 (C7 (by omega) (by omega))) rfl rfl rfl ?_|refine s1 (E8 _ _ _) rfl rfl rfl ?_
  first|refine s1 (D5 (K7 (by omega) (by omega))) rfl rfl rfl ?_|refine s1 (J8 _) rfl rfl rfl ?_
  first|refine s1 (R4 (by omega) (by omega) (C7 (by omega) (by omega))) rfl rfl rfl ?_|refine s1 (V4 _ _ _ (by omega)) rfl rfl rfl ?_
  first|refine s1 (G6 (by omega) (by omega)) rfl rfl rfl ?_|refine s1 (I3 _ _ _ (by omega)) rfl rfl rfl ?_
  first|refine s1 (D8 (C7 (by omega) (by omega))) rfl rfl rfl ?_|refine s1 (E8 _ _ _) rfl rfl rfl ?_
  first|refine s1 (D5 (K7 (by omega) (by omega))) rfl rfl rfl ?_|refine s1 (J8 _) rfl rfl rfl ?_
  first|refine s1 (R4 (by omega) (by omega) (C7 (by omega) (by omega))) rfl rfl rfl ?_|refine s1 (V4 _ _ _ (by omega)) rfl rfl rfl ?_
  first|refine s1 (G6 (by omega) (by omega)) rfl rfl rfl ?_|refine s1 (I3 _ _ _ (by omega)) rfl rfl rfl ?_
  first|refine s1 (D8 (C7 (by omega) (by omega))) rfl rfl rfl ?_|refine s1 (E8 _ _ _) rfl rfl rfl ?_
  first|refine s1 (D5 (K7 (by omega) (by omega))) rfl rfl rfl ?_|refine s1 (J8 _) rfl rfl rfl ?_
  first|refine s1 (R4 (by omega) (by omega) (C7 (by omega) (by omega))) rfl rfl rfl ?_|refine s1 (V4 _ _ _ (by omega)) rfl rfl rfl ?_
  first|refine s1 (D8 (C7 (by omega) (by omega))) rfl rfl rfl ?_|refine s1 (E8 _ _ _) rfl rfl rfl ?_
  first|refine s1 (D5 (K7 (by omega) (by omega))) rfl rfl rfl ?_|refine s1 (J8 _) rfl rfl rfl ?_
  refine s1 (P7 [_,_,_,_] (by simp only[B5,E5,or_false,forall_eq_or_imp,forall_eq];omega)) rfl rfl rfl ?_;refine s7 [.str _] rfl ?_;refine congrArg (fun z=>[U.str z]) ?_;symm;unfold A0V;first|(rw[E1 (by unfold okU;omega),Q3 (by omega)];done)|(rw[E1 (by unfold okU;omega),Q3 (by omega)];refine congrArg iB ?_;simp only[B1,and_true,true_and];omega)|(rw[E1 (by unfold okU;omega),Q2 (by omega) (by omega)];done)|(rw[E1 (by unfold okU;omega),Q2 (by omega) (by omega)];refine congrArg iB ?_;simp only[B1,and_true,true_and];omega)|(rw[E1 (by unfold okU;omega),Q1 (by omega) (by omega) (by omega)];done)|(rw[E1 (by unfold okU;omega),Q1 (by omega) (by omega) (by omega)];refine congrArg iB ?_;simp only[B1,and_true,true_and];omega)|(rw[E1 (by unfold okU;omega),Q0 (by omega) (by omega) (by omega)];done)|(rw[E1 (by unfold okU;omega),Q0 (by omega) (by omega) (by omega)];refine congrArg iB ?_;simp only[B1,and_true,true_and];omega)|(rw[P9 (by unfold okU;omega)];rfl)|(rw[P9 (by unfold okU;omega)];decide)
 ·cases hs
theorem B0n{n:Int}(h0:0≤n)(h:n<10):Lib.decDigits n.toNat=[UInt8.ofNat (48+n).toNat]:=by
 rw[Lib.decDigits_one (by omega)];congr 2;omega
theorem A22{n:Int}(h0:0≤n)(h:¬n<10):Lib.decDigits n.toNat=Lib.decDigits (n / 10).toNat++Lib.decDigits (n%10).toNat:=by
 have h1:n.toNat / 10=(n / 10).toNat:=by omega
 have h2:n.toNat%10=(n%10).toNat:=by omega
 conv=>lhs;rw[Lib.decDigits,dif_neg (by omega)]
 rw[h1,h2,Lib.decDigits_one (i:=(n%10).toNat) (by omega)]
theorem Y6{n:Int}(h0:0≤n)(h:n<9999999999):(Lib.decDigits n.toNat).length≤40:=by
 have:=Lib.itoa_length_le n (by omega) (by omega);rw[show n=(n.toNat:Int) by omega,Lib.itoa_nonneg]at this;exact C6 this (by decide)
noncomputable def C2B:List (FuncId×FnC):=L0
theorem B82{G:Nat→Option Obj}(hst:D2 Tryz.prog G gl H0 n0):J3 Tryz.prog G gl C2B:=.nil
def A9Z:List U→Option (Nat×List U)
 | [.int .i64 n]=>if 0≤n∧n<10 then some (0,[.str (Lib.decDigits n.toNat)])else none
 | _=>none
theorem B4z(n:Int)(hc:0≤n∧n<10):A9Z [.int .i64 n]=some (0,[.str (Lib.decDigits n.toNat)]):=if_pos hc
def C1W:Tr:=.lt 8 (.bin .lss) [h 0 3,jI 10]<|.br 1 (.lt 3 (.bin .add) [jI 48,h 0 3]<|.lt 4 (.conv .u8) [h 2 3]<|.lt 9 (.mks) [h 3 4]<|.ret [h 4 9]) (.no)
theorem C31{G:Nat→Option Obj}(hst:D2 Tryz.prog G gl H0 n0):N0 Tryz.prog G 125 [.s 3] A9Z [.s 9]:=by
 refine F4 (C:=cx C2B []) (d:=1) C1W (cxg (B82 hst) .nil) hst ⟨Tryz.f125,_,Tryz.func125,rfl⟩ (by kernel_rfl) (by kernel_rfl) ?_;intro us outs hs;unfold A9Z at hs;split at hs
 ·skip;rename_i n;split at hs
  ·rename_i hc;cases hs;have hq:=Y6 (n:=n / 10) (by omega) (by omega);have hr:=Y6 (n:=n%10) (by omega) (by omega);unfold C1W;refine s0 (.cons 0 _ (.nil)) rfl (by simp[Ev.ok,Ev.len]) ?_;refine s1 (L3 _ _ _) rfl rfl rfl ?_;refine s5 rfl (fun g0=>?_) fun g0=>?_
   ·refine s8 ?_
    (exfalso;omega)
   first|refine s1 (D8 (C7 (by omega) (by omega))) rfl rfl rfl ?_|refine s1 (E8 _ _ _) rfl rfl rfl ?_
   first|refine s1 (D5 (K7 (by omega) (by omega))) rfl rfl rfl ?_|refine s1 (G7 _ _ _) rfl rfl rfl ?_
   refine s1 (P7 [_] (by simp only[B5,E5,or_false,forall_eq_or_imp,forall_eq];omega)) rfl rfl rfl ?_;refine s7 [.str _] rfl ?_;first|(rw[B0n hc.1 g0];rfl)|(rw[A22 hc.1 g0];rfl)|(rw[A22 hc.1 g0])|(exfalso;omega)
  ·cases hs
 ·cases hs
noncomputable def C2A:List (FuncId×FnC):=(125,N3 Tryz.prog [.s 3] A9Z [.s 9])::L0
theorem B81{G:Nat→Option Obj}(hst:D2 Tryz.prog G gl H0 n0):J3 Tryz.prog G gl C2A:=(.cons (C31 hst) .nil)
def A9Y:List U→Option (Nat×List U)
 | [.int .i64 n]=>if 0≤n∧n<100 then some (0,[.str (Lib.decDigits n.toNat)])else none
 | _=>none
theorem B4y(n:Int)(hc:0≤n∧n<100):A9Y [.int .i64 n]=some (0,[.str (Lib.decDigits n.toNat)]):=if_pos hc
def C1V:Tr:=.lt 8 (.bin .lss) [h 0 3,jI 10]<|.br 1 (.lt 3 (.bin .add) [jI 48,h 0 3]<|.lt 4 (.conv .u8) [h 2 3]<|.lt 9 (.mks) [h 3 4]<|.ret [h 4 9]) (.lt 3 (.bin .quo) [h 0 3,jI 10]<|.fn A9Z [h 2 3] 1<|.lt 3 (.bin .rem) [h 0 3,jI 10]<|.fn A9Z [h 4 3] 1<|.lt 9 (.bin .add) [h 3 9,h 5 9]<|.ret [h 6 9])
theorem C30{G:Nat→Option Obj}(hst:D2 Tryz.prog G gl H0 n0):N0 Tryz.prog G 125 [.s 3] A9Y [.s 9]:=by
 refine F4 (C:=cx C2A []) (d:=60) C1V (cxg (B81 hst) .nil) hst ⟨Tryz.f125,_,Tryz.func125,rfl⟩ (by kernel_rfl) (by kernel_rfl) ?_;intro us outs hs;unfold A9Y at hs;split at hs
 ·skip;rename_i n;split at hs
  ·rename_i hc;cases hs;have hq:=Y6 (n:=n / 10) (by omega) (by omega);have hr:=Y6 (n:=n%10) (by omega) (by omega);unfold C1V;refine s0 (.cons 0 _ (.nil)) rfl (by simp[Ev.ok,Ev.len]) ?_;refine s1 (L3 _ _ _) rfl rfl rfl ?_;refine s4 rfl (fun g0=>?_) fun g0=>?_
   ·first|refine s1 (D8 (C7 (by omega) (by omega))) rfl rfl rfl ?_|refine s1 (E8 _ _ _) rfl rfl rfl ?_
    first|refine s1 (D5 (K7 (by omega) (by omega))) rfl rfl rfl ?_|refine s1 (G7 _ _ _) rfl rfl rfl ?_
    refine s1 (P7 [_] (by simp only[B5,E5,or_false,forall_eq_or_imp,forall_eq];omega)) rfl rfl rfl ?_;refine s7 [.str _] rfl ?_;first|(rw[B0n hc.1 g0];rfl)|(rw[A22 hc.1 g0];rfl)|(rw[A22 hc.1 g0])|(exfalso;omega)
   first|refine s1 (R4 (by omega) (by omega) (C7 (by omega) (by omega))) rfl rfl rfl ?_|refine s1 (V4 _ _ _ (by omega)) rfl rfl rfl ?_
   refine s31 (B4z _ (by omega)) rfl ?_;first|refine s1 (G6 (by omega) (by omega)) rfl rfl rfl ?_|refine s1 (I3 _ _ _ (by omega)) rfl rfl rfl ?_
   refine s31 (B4z _ (by omega)) rfl ?_;refine s1 (D0 _ _ (by omega)) rfl rfl rfl ?_;refine s7 [.str _] rfl ?_;first|(rw[B0n hc.1 g0];rfl)|(rw[A22 hc.1 g0];rfl)|(rw[A22 hc.1 g0])|(exfalso;omega)
  ·cases hs
 ·cases hs
noncomputable def C1_:List (FuncId×FnC):=(125,N3 Tryz.prog [.s 3] A9Y [.s 9])::L0
theorem B80{G:Nat→Option Obj}(hst:D2 Tryz.prog G gl H0 n0):J3 Tryz.prog G gl C1_:=(.cons (C30 hst) .nil)
def A9X:List U→Option (Nat×List U)
 | [.int .i64 n]=>if 0≤n∧n<1000 then some (0,[.str (Lib.decDigits n.toNat)])else none
 | _=>none
theorem B4x(n:Int)(hc:0≤n∧n<1000):A9X [.int .i64 n]=some (0,[.str (Lib.decDigits n.toNat)]):=if_pos hc
def C1U:Tr:=.lt 8 (.bin .lss) [h 0 3,jI 10]<|.br 1 (.lt 3 (.bin .add) [jI 48,h 0 3]<|.lt 4 (.conv .u8) [h 2 3]<|.lt 9 (.mks) [h 3 4]<|.ret [h 4 9]) (.lt 3 (.bin .quo) [h 0 3,jI 10]<|.fn A9Y [h 2 3] 1<|.lt 3 (.bin .rem) [h 0 3,jI 10]<|.fn A9Y [h 4 3] 1<|.lt 9 (.bin .add) [h 3 9,h 5 9]<|.ret [h 6 9])
theorem C3z{G:Nat→Option Obj}(hst:D2 Tryz.prog G gl H0 n0):N0 Tryz.prog G 125 [.s 3] A9X [.s 9]:=by
 refine F4 (C:=cx C1_ []) (d:=60) C1U (cxg (B80 hst) .nil) hst ⟨Tryz.f125,_,Tryz.func125,rfl⟩ (by kernel_rfl) (by kernel_rfl) ?_;intro us outs hs;unfold A9X at hs;split at hs
 ·skip;rename_i n;split at hs
  ·rename_i hc;cases hs;have hq:=Y6 (n:=n / 10) (by omega) (by omega);have hr:=Y6 (n:=n%10) (by omega) (by omega);unfold C1U;refine s0 (.cons 0 _ (.nil)) rfl (by simp[Ev.ok,Ev.len]) ?_;refine s1 (L3 _ _ _) rfl rfl rfl ?_;refine s4 rfl (fun g0=>?_) fun g0=>?_
   ·first|refine s1 (D8 (C7 (by omega) (by omega))) rfl rfl rfl ?_|refine s1 (E8 _ _ _) rfl rfl rfl ?_
    first|refine s1 (D5 (K7 (by omega) (by omega))) rfl rfl rfl ?_|refine s1 (G7 _ _ _) rfl rfl rfl ?_
    refine s1 (P7 [_] (by simp only[B5,E5,or_false,forall_eq_or_imp,forall_eq];omega)) rfl rfl rfl ?_;refine s7 [.str _] rfl ?_;first|(rw[B0n hc.1 g0];rfl)|(rw[A22 hc.1 g0];rfl)|(rw[A22 hc.1 g0])|(exfalso;omega)
   first|refine s1 (R4 (by omega) (by omega) (C7 (by omega) (by omega))) rfl rfl rfl ?_|refine s1 (V4 _ _ _ (by omega)) rfl rfl rfl ?_
   refine s31 (B4y _ (by omega)) rfl ?_;first|refine s1 (G6 (by omega) (by omega)) rfl rfl rfl ?_|refine s1 (I3 _ _ _ (by omega)) rfl rfl rfl ?_
   refine s31 (B4y _ (by omega)) rfl ?_;refine s1 (D0 _ _ (by omega)) rfl rfl rfl ?_;refine s7 [.str _] rfl ?_;first|(rw[B0n hc.1 g0];rfl)|(rw[A22 hc.1 g0];rfl)|(rw[A22 hc.1 g0])|(exfalso;omega)
  ·cases hs
 ·cases hs
noncomputable def C19:List (FuncId×FnC):=(125,N3 Tryz.prog [.s 3] A9X [.s 9])::L0
theorem B8z{G:Nat→Option Obj}(hst:D2 Tryz.prog G gl H0 n0):J3 Tryz.prog G gl C19:=(.cons (C3z hst) .nil)
def A9W:List U→Option (Nat×List U)
 | [.int .i64 n]=>if 0≤n∧n<10000 then some (0,[.str (Lib.decDigits n.toNat)])else none
 | _=>none
theorem B4w(n:Int)(hc:0≤n∧n<10000):A9W [.int .i64 n]=some (0,[.str (Lib.decDigits n.toNat)]):=if_pos hc
def C1T:Tr:=.lt 8 (.bin .lss) [h 0 3,jI 10]<|.br 1 (.lt 3 (.bin .add) [jI 48,h 0 3]<|.lt 4 (.conv .u8) [h 2 3]<|.lt 9 (.mks) [h 3 4]<|.ret [h 4 9]) (.lt 3 (.bin .quo) [h 0 3,jI 10]<|.fn A9X [h 2 3] 1<|.lt 3 (.bin .rem) [h 0 3,jI 10]<|.fn A9X [h 4 3] 1<|.lt 9 (.bin .add) [h 3 9,h 5 9]<|.ret [h 6 9])
theorem C3y{G:Nat→Option Obj}(hst:D2 Tryz.prog G gl H0 n0):N0 Tryz.prog G 125 [.s 3] A9W [.s 9]:=by
 refine F4 (C:=cx C19 []) (d:=60) C1T (cxg (B8z hst) .nil) hst ⟨Tryz.f125,_,Tryz.func125,rfl⟩ (by kernel_rfl) (by kernel_rfl) ?_;intro us outs hs;unfold A9W at hs;split at hs
 ·skip;rename_i n;split at hs
  ·rename_i hc;cases hs;have hq:=Y6 (n:=n / 10) (by omega) (by omega);have hr:=Y6 (n:=n%10) (by omega) (by omega);unfold C1T;refine s0 (.cons 0 _ (.nil)) rfl (by simp[Ev.ok,Ev.len]) ?_;refine s1 (L3 _ _ _) rfl rfl rfl ?_;refine s4 rfl (fun g0=>?_) fun g0=>?_
   ·first|refine s1 (D8 (C7 (by omega) (by omega))) rfl rfl rfl ?_|refine s1 (E8 _ _ _) rfl rfl rfl ?_
    first|refine s1 (D5 (K7 (by omega) (by omega))) rfl rfl rfl ?_|refine s1 (G7 _ _ _) rfl rfl rfl ?_
    refine s1 (P7 [_] (by simp only[B5,E5,or_false,forall_eq_or_imp,forall_eq];omega)) rfl rfl rfl ?_;refine s7 [.str _] rfl ?_;first|(rw[B0n hc.1 g0];rfl)|(rw[A22 hc.1 g0];rfl)|(rw[A22 hc.1 g0])|(exfalso;omega)
   first|refine s1 (R4 (by omega) (by omega) (C7 (by omega) (by omega))) rfl rfl rfl ?_|refine s1 (V4 _ _ _ (by omega)) rfl rfl rfl ?_
   refine s31 (B4x _ (by omega)) rfl ?_;first|refine s1 (G6 (by omega) (by omega)) rfl rfl rfl ?_|refine s1 (I3 _ _ _ (by omega)) rfl rfl rfl ?_
   refine s31 (B4x _ (by omega)) rfl ?_;refine s1 (D0 _ _ (by omega)) rfl rfl rfl ?_;refine s7 [.str _] rfl ?_;first|(rw[B0n hc.1 g0];rfl)|(rw[A22 hc.1 g0];rfl)|(rw[A22 hc.1 g0])|(exfalso;omega)
  ·cases hs
 ·cases hs
noncomputable def C18:List (FuncId×FnC):=(125,N3 Tryz.prog [.s 3] A9W [.s 9])::L0
theorem B8y{G:Nat→Option Obj}(hst:D2 Tryz.prog G gl H0 n0):J3 Tryz.prog G gl C18:=(.cons (C3y hst) .nil)
def R7:List U→Option (Nat×List U)
 | [.int .i64 n]=>if 0≤n∧n<100000 then some (0,[.str (Lib.decDigits n.toNat)])else none
 | _=>none
theorem M6(n:Int)(hc:0≤n∧n<100000):R7 [.int .i64 n]=some (0,[.str (Lib.decDigits n.toNat)]):=if_pos hc
def C1R:Tr:=.lt 8 (.bin .lss) [h 0 3,jI 10]<|.br 1 (.lt 3 (.bin .add) [jI 48,h 0 3]<|.lt 4 (.conv .u8) [h 2 3]<|.lt 9 (.mks) [h 3 4]<|.ret [h 4 9]) (.lt 3 (.bin .quo) [h 0 3,jI 10]<|.fn A9W [h 2 3] 1<|.lt 3 (.bin .rem) [h 0 3,jI 10]<|.fn A9W [h 4 3] 1<|.lt 9 (.bin .add) [h 3 9,h 5 9]<|.ret [h 6 9])
theorem C1S{G:Nat→Option Obj}(hst:D2 Tryz.prog G gl H0 n0):N0 Tryz.prog G 125 [.s 3] R7 [.s 9]:=by
 refine F4 (C:=cx C18 []) (d:=60) C1R (cxg (B8y hst) .nil) hst ⟨Tryz.f125,_,Tryz.func125,rfl⟩ (by kernel_rfl) (by kernel_rfl) ?_;intro us outs hs;unfold R7 at hs;split at hs
 ·skip;rename_i n;split at hs
  ·rename_i hc;cases hs;have hq:=Y6 (n:=n / 10) (by omega) (by omega);have hr:=Y6 (n:=n%10) (by omega) (by omega);unfold C1R;refine s0 (.cons 0 _ (.nil)) rfl (by simp[Ev.ok,Ev.len]) ?_;refine s1 (L3 _ _ _) rfl rfl rfl ?_;refine s4 rfl (fun g0=>?_) fun g0=>?_
   ·first|refine s1 (D8 (C7 (by omega) (by omega))) rfl rfl rfl ?_|refine s1 (E8 _ _ _) rfl rfl rfl ?_
    first|refine s1 (D5 (K7 (by omega) (by omega))) rfl rfl rfl ?_|refine s1 (G7 _ _ _) rfl rfl rfl ?_
    refine s1 (P7 [_] (by simp only[B5,E5,or_false,forall_eq_or_imp,forall_eq];omega)) rfl rfl rfl ?_;refine s7 [.str _] rfl ?_;first|(rw[B0n hc.1 g0];rfl)|(rw[A22 hc.1 g0];rfl)|(rw[A22 hc.1 g0])|(exfalso;omega)
   first|refine s1 (R4 (by omega) (by omega) (C7 (by omega) (by omega))) rfl rfl rfl ?_|refine s1 (V4 _ _ _ (by omega)) rfl rfl rfl ?_
   refine s31 (B4w _ (by omega)) rfl ?_;first|refine s1 (G6 (by omega) (by omega)) rfl rfl rfl ?_|refine s1 (I3 _ _ _ (by omega)) rfl rfl rfl ?_
   refine s31 (B4w _ (by omega)) rfl ?_;refine s1 (D0 _ _ (by omega)) rfl rfl rfl ?_;refine s7 [.str _] rfl ?_;first|(rw[B0n hc.1 g0];rfl)|(rw[A22 hc.1 g0];rfl)|(rw[A22 hc.1 g0])|(exfalso;omega)
  ·cases hs
 ·cases hs
def C2w:Nat→Nat→List UInt8
 | 0,_=>[]
 | k+1,n=>if n<10 then[UInt8.ofNat (48+n)]else C2w k (n / 10)++[UInt8.ofNat (48+n%10)]
theorem B4v:∀ (k n:Nat),n<10 ^ (k+1)→C2w (k+1) n=Lib.decDigits n
 | 0,n,h=>by
   have h1:n<10:=by simpa using h
   show(if n<10 then _ else _)=_;rw[if_pos h1,Lib.decDigits_one h1]
 | k+1,n,h=>by
   show(if n<10 then _ else _)=_;by_cases h1:n<10
   ·rw[if_pos h1,Lib.decDigits_one h1]
   ·rw[if_neg h1];have h2:n / 10<10 ^ (k+1):=Nat.div_lt_of_lt_mul (by rw[Y7,← Nat.pow_succ];exact h);rw[B4v k (n / 10) h2];conv=>rhs;rw[Lib.decDigits,dif_neg h1]
def itz(n:Int):List UInt8:=if 0≤n∧n<100000 then C2w 5 n.toNat else Lib.itoa n
theorem B3a(n:Int):itz n=Lib.itoa n:=by
 unfold itz;by_cases h:0≤n∧n<100000
 ·rw[if_pos h,B4v 4 n.toNat (by show n.toNat<100000;omega),← Lib.itoa_nonneg,Z5 h.1]
 ·rw[if_neg h]
def A0c:List U→Option (Nat×List U)
 | [.int .i64 n]=>if -9223372036854775808≤n∧n≤9223372036854775807 then some (0,[.str (itz n)])else none
 | _=>none
theorem A0D(n:Int)(hc : -9223372036854775808≤n∧n≤9223372036854775807):A0c [.int .i64 n]=some (0,[.str (itz n)]):=if_pos hc
theorem B7i{G:Nat→Option Obj}(hst:D2 Tryz.prog G gl H0 n0):N0 Tryz.prog G 79 [.s 3] A0c [.s 9]:=by
 intro us outs w vs R hsh hs hG hR;unfold A0c at hs;split at hs
 ·skip;rename_i n;split at hs
  ·rename_i hc;cases hs;have hv:=A0z (vs2:=[.int .i64 n]) hsh rfl;subst hv;refine B42 (vr:=[.string ⟨⟨itz n⟩⟩]) Tryz.func79 rfl (by kernel_rfl) rfl ?_;rw[B3a];refine(Tryz.strconv_Itoa n (by omega) (by omega) w (A9z (id:=3) hst hG (by decide) (by decide) (by kernel_rfl) (by kernel_rfl) (by kernel_rfl))).mono fun e w' ⟨h1,k,os,h2⟩=>⟨h1,?_⟩
   subst h2;exact Go.Lib.below_grow _ w (B0 _) k os
  ·cases hs
 ·cases hs
def nuL:List Int:=[2,3,5,6,15,17,18,19,20,21,23,24]
def leL:List UInt8:=[65,66,67,68,70,72,80,81,82,83]
def Z2(k:Int):List UInt8:=(leL.drop k.toNat).take ((k+1).toNat-k.toNat)
def spS(ck:Bool)(k m:Int):List UInt8 :=
 if 10≤k then if 0<m then[27,91]++itz (nuL.getD (k-10).toNat 0)++[59]++itz (m+1)++[126]else[27,91]++itz (nuL.getD (k-10).toNat 0)++[126]
 else if 0<m then[27,91,49,59]++itz (m+1)++Z2 k else if 6≤k then[27,79]++Z2 k else if ck=true then[27,79]++Z2 k else[27,91]++Z2 k
theorem C0z(n:Nat):0≤nuL.getD n 0∧nuL.getD n 0≤24:=by
 have h:∀ n:Nat,n<12→0≤nuL.getD n 0∧nuL.getD n 0≤24:=by decide
 rcases F9 n 12 with k|k
 ·exact h n k
 ·have e:nuL.getD n 0=0:=by
   rw[C4,A1V.2 (by exact k)];rfl
  rw[e];decide
theorem B0Q{n:Int}(h : -9223372036854775808≤n)(h2:n≤9223372036854775807):(itz n).length≤21:=by rw[B3a];exact Lib.itoa_length_le n h h2
noncomputable def C13:List (FuncId×FnC):=(79,N3 Tryz.prog [.s 3] A0c [.s 9])::L0
theorem B8t{G:Nat→Option Obj}(hst:D2 Tryz.prog G gl H0 n0):J3 Tryz.prog G gl C13:=(.cons (B7i hst) .nil)
def A2q:List U→Option (Nat×List U)
 | [.bool b0,.bool b1,.bool ck,.bool b3,.bool b4,.bool b5,.bool b6,.bool pa,.bool fo,.bool b9,.bool b10,.int .i64 mo,.bool sg,.int .i64 k,.int .i64 m]=>if 0≤k∧k≤21∧0≤m∧m≤7 then some (0,[.str (spS ck k m)])else none
 | _=>none
theorem A1j(b0:Bool)(b1:Bool)(ck:Bool)(b3:Bool)(b4:Bool)(b5:Bool)(b6:Bool)(pa:Bool)(fo:Bool)(b9:Bool)(b10:Bool)(mo:Int)(sg:Bool)(k:Int)(m:Int)(hc:0≤k∧k≤21∧0≤m∧m≤7):A2q [.bool b0,.bool b1,.bool ck,.bool b3,.bool b4,.bool b5,.bool b6,.bool pa,.bool fo,.bool b9,.bool b10,.int .i64 mo,.bool sg,.int .i64 k,.int .i64 m]=some (0,[.str (spS ck k m)]):=if_pos hc
def C1F:Tr:=.lt 3 (.bin .add) [h 14 3,jI 1]<|.fn A0c [h 15 3] 1<|.lt 8 (.bin .geq) [h 13 3,jI 10]<|.br 17 (.lt 8 (.bin .gtr) [h 14 3,jI 0]<|.br 18 (.lt 3 (.bin .sub) [h 13 3,jI 10]<|.lt 8 (.inb) [h 19 3,jI 12]<|.br 20 (.lt 3 (.sel) [h 19 3,jI 2,jI 3,jI 5,jI 6,jI 15,jI 17,jI 18,jI 19,jI 20,jI 21,jI 23,jI 24]<|.fn A0c [h 21 3] 1<|.lt 9 (.bin .add) [.string ⟨⟨[27,91]⟩⟩,h 22 9]<|.lt 9 (.bin .add) [h 23 9,.string ⟨⟨[59]⟩⟩]<|.lt 9 (.bin .add) [h 24 9,h 16 9]<|.lt 9 (.bin .add) [h 25 9,.string ⟨⟨[126]⟩⟩]<|.ret [h 26 9]) (.no)) (.lt 8 (.bin .geq) [h 13 3,jI 10]<|.br 19 (.lt 3 (.bin .sub) [h 13 3,jI 10]<|.lt 8 (.inb) [h 20 3,jI 12]<|.br 21 (.lt 3 (.sel) [h 20 3,jI 2,jI 3,jI 5,jI 6,jI 15,jI 17,jI 18,jI 19,jI 20,jI 21,jI 23,jI 24]<|.fn A0c [h 22 3] 1<|.lt 9 (.bin .add) [.string ⟨⟨[27,91]⟩⟩,h 23 9]<|.lt 9 (.bin .add) [h 24 9,.string ⟨⟨[126]⟩⟩]<|.ret [h 25 9]) (.no)) (.lt 8 (.bin .gtr) [h 14 3,jI 0]<|.br 20 (.lt 9 (.bin .add) [.string ⟨⟨[27,91,49,59]⟩⟩,h 16 9]<|.lt 3 (.bin .add) [h 13 3,jI 1]<|.lt 9 (.sub) [.string ⟨⟨[65,66,67,68,70,72,80,81,82,83]⟩⟩,h 13 3,h 22 3]<|.lt 9 (.bin .add) [h 21 9,h 23 9]<|.ret [h 24 9]) (.lt 8 (.bin .geq) [h 13 3,jI 6]<|.br 21 (.lt 3 (.bin .add) [h 13 3,jI 1]<|.lt 9 (.sub) [.string ⟨⟨[65,66,67,68,70,72,80,81,82,83]⟩⟩,h 13 3,h 22 3]<|.lt 9 (.bin .add) [.string ⟨⟨[27,79]⟩⟩,h 23 9]<|.ret [h 24 9]) (.br 2 (.lt 3 (.bin .add) [h 13 3,jI 1]<|.lt 9 (.sub) [.string ⟨⟨[65,66,67,68,70,72,80,81,82,83]⟩⟩,h 13 3,h 22 3]<|.lt 9 (.bin .add) [.string ⟨⟨[27,79]⟩⟩,h 23 9]<|.ret [h 24 9]) (.lt 3 (.bin .add) [h 13 3,jI 1]<|.lt 9 (.sub) [.string ⟨⟨[65,66,67,68,70,72,80,81,82,83]⟩⟩,h 13 3,h 22 3]<|.lt 9 (.bin .add) [.string ⟨⟨[27,91]⟩⟩,h 23 9]<|.ret [h 24 9])))))) (.lt 8 (.bin .geq) [h 13 3,jI 10]<|.br 18 (.lt 3 (.bin .sub) [h 13 3,jI 10]<|.lt 8 (.inb) [h 19 3,jI 12]<|.br 20 (.lt 3 (.sel) [h 19 3,jI 2,jI 3,jI 5,jI 6,jI 15,jI 17,jI 18,jI 19,jI 20,jI 21,jI 23,jI 24]<|.fn A0c [h 21 3] 1<|.lt 9 (.bin .add) [.string ⟨⟨[27,91]⟩⟩,h 22 9]<|.lt 9 (.bin .add) [h 23 9,.string ⟨⟨[126]⟩⟩]<|.ret [h 24 9]) (.no)) (.lt 8 (.bin .gtr) [h 14 3,jI 0]<|.br 19 (.lt 9 (.bin .add) [.string ⟨⟨[27,91,49,59]⟩⟩,h 16 9]<|.lt 3 (.bin .add) [h 13 3,jI 1]<|.lt 9 (.sub) [.string ⟨⟨[65,66,67,68,70,72,80,81,82,83]⟩⟩,h 13 3,h 21 3]<|.lt 9 (.bin .add) [h 20 9,h 22 9]<|.ret [h 23 9]) (.lt 8 (.bin .geq) [h 13 3,jI 6]<|.br 20 (.lt 3 (.bin .add) [h 13 3,jI 1]<|.lt 9 (.sub) [.string ⟨⟨[65,66,67,68,70,72,80,81,82,83]⟩⟩,h 13 3,h 21 3]<|.lt 9 (.bin .add) [.string ⟨⟨[27,79]⟩⟩,h 22 9]<|.ret [h 23 9]) (.br 2 (.lt 3 (.bin .add) [h 13 3,jI 1]<|.lt 9 (.sub) [.string ⟨⟨[65,66,67,68,70,72,80,81,82,83]⟩⟩,h 13 3,h 21 3]<|.lt 9 (.bin .add) [.string ⟨⟨[27,79]⟩⟩,h 22 9]<|.ret [h 23 9]) (.lt 3 (.bin .add) [h 13 3,jI 1]<|.lt 9 (.sub) [.string ⟨⟨[65,66,67,68,70,72,80,81,82,83]⟩⟩,h 13 3,h 21 3]<|.lt 9 (.bin .add) [.string ⟨⟨[27,91]⟩⟩,h 22 9]<|.ret [h 23 9])))))
theorem C3n{G:Nat→Option Obj}(hst:D2 Tryz.prog G gl H0 n0):N0 Tryz.prog G 78 [.a [8,8,8,8,8,8,8,8,8,8,8,3,8],.s 3,.s 3] A2q [.s 9]:=by
 refine F4 (C:=cx C13 []) (d:=60) C1F (cxg (B8t hst) .nil) hst ⟨Tryz.f78,_,Tryz.func78,rfl⟩ (by kernel_rfl) (by kernel_rfl) ?_;intro us outs hs;unfold A2q at hs;split at hs
 ·skip;rename_i b0 b1 ck b3 b4 b5 b6 pa fo b9 b10 mo sg k m;split at hs
  ·rename_i hc;cases hs;have l1:=B0Q (n:=m+1) (by omega) (by omega);have q1:0≤([2,3,5,6,15,17,18,19,20,21,23,24]:List Int).getD (k-10).toNat 0∧([2,3,5,6,15,17,18,19,20,21,23,24]:List Int).getD (k-10).toNat 0≤24:=C0z _;have l2:(itz (([2,3,5,6,15,17,18,19,20,21,23,24]:List Int).getD (k-10).toNat 0)).length≤21:=B0Q (by omega) (by omega);unfold C1F;refine s0 (.cons 14 _ (.cons 13 _ (.cons 12 _ (.cons 11 _ (.cons 10 _ (.cons 9 _ (.cons 8 _ (.cons 7 _ (.cons 6 _ (.cons 5 _ (.cons 4 _ (.cons 3 _ (.cons 2 _ (.cons 1 _ (.cons 0 _ (.nil)))))))))))))))) rfl (by simp[Ev.ok,Ev.len]) ?_;first|refine s1 (D8 (C7 (by omega) (by omega))) rfl rfl rfl ?_|refine s1 (E8 _ _ _) rfl rfl rfl ?_
   refine s31 (A0D _ (by omega)) rfl ?_;refine s1 (F2 _ _ _) rfl rfl rfl ?_;refine s4 rfl (fun g0=>?_) fun g0=>?_
   ·refine s1 (A3X _ _ _) rfl rfl rfl ?_;refine s4 rfl (fun g1=>?_) fun g1=>?_
    ·first|refine s1 (S7 (C7 (by omega) (by omega))) rfl rfl rfl ?_|refine s1 (W4 _ _ _) rfl rfl rfl ?_
     refine s1 (A5y _ _ _ _) rfl rfl rfl ?_;refine s5 rfl (fun g2=>?_) fun g2=>?_
     ·refine s8 ?_;first|omega
     refine s1 (A2Y [2,3,5,6,15,17,18,19,20,21,23,24] (by omega) (by show _<((12:Nat):Int);omega)) rfl rfl rfl ?_;refine s31 (A0D _ (by omega)) rfl ?_;refine s1 (D0 _ _ (by simp only[A2,A4,A3,B2];omega)) rfl rfl rfl ?_;refine s1 (D0 _ _ (by simp only[A2,A4,A3,B2];omega)) rfl rfl rfl ?_;refine s1 (D0 _ _ (by simp only[A2,A4,A3,B2];omega)) rfl rfl rfl ?_;refine s1 (D0 _ _ (by simp only[A2,A4,A3,B2];omega)) rfl rfl rfl ?_;refine s7 [.str _] rfl ?_;refine congrArg (fun z=>[U.str z]) ?_;unfold spS Z2
     (repeat' split)<;>first|(exfalso;omega)|rfl|(simp;done)|(simp_all;done)
    refine s1 (F2 _ _ _) rfl rfl rfl ?_;refine s4 rfl (fun g2=>?_) fun g2=>?_
    ·first|refine s1 (S7 (C7 (by omega) (by omega))) rfl rfl rfl ?_|refine s1 (W4 _ _ _) rfl rfl rfl ?_
     refine s1 (A5y _ _ _ _) rfl rfl rfl ?_;refine s5 rfl (fun g3=>?_) fun g3=>?_
     ·refine s8 ?_;first|omega
     refine s1 (A2Y [2,3,5,6,15,17,18,19,20,21,23,24] (by omega) (by show _<((12:Nat):Int);omega)) rfl rfl rfl ?_;refine s31 (A0D _ (by omega)) rfl ?_;refine s1 (D0 _ _ (by simp only[A2,A4,A3,B2];omega)) rfl rfl rfl ?_;refine s1 (D0 _ _ (by simp only[A2,A4,A3,B2];omega)) rfl rfl rfl ?_;refine s7 [.str _] rfl ?_;refine congrArg (fun z=>[U.str z]) ?_;unfold spS Z2
     (repeat' split)<;>first|(exfalso;omega)|rfl|(simp;done)|(simp_all;done)
    refine s1 (A3X _ _ _) rfl rfl rfl ?_;refine s4 rfl (fun g3=>?_) fun g3=>?_
    ·refine s1 (D0 _ _ (by simp only[A2,A4,A3,B2];omega)) rfl rfl rfl ?_;first|refine s1 (D8 (C7 (by omega) (by omega))) rfl rfl rfl ?_|refine s1 (E8 _ _ _) rfl rfl rfl ?_
     refine s1 (i6 _ _ _ _ _ (by omega) (by omega) (by simp[*]<;>omega)) rfl rfl rfl ?_;refine s1 (D0 _ _ (by simp only[A2,A4,A3,B2];omega)) rfl rfl rfl ?_;refine s7 [.str _] rfl ?_;refine congrArg (fun z=>[U.str z]) ?_;unfold spS Z2
     (repeat' split)<;>first|(exfalso;omega)|rfl|(simp;done)|(simp_all;done)
    refine s1 (F2 _ _ _) rfl rfl rfl ?_;refine s4 rfl (fun g4=>?_) fun g4=>?_
    ·first|refine s1 (D8 (C7 (by omega) (by omega))) rfl rfl rfl ?_|refine s1 (E8 _ _ _) rfl rfl rfl ?_
     refine s1 (i6 _ _ _ _ _ (by omega) (by omega) (by simp[*]<;>omega)) rfl rfl rfl ?_;refine s1 (D0 _ _ (by simp only[A2,A4,A3,B2];omega)) rfl rfl rfl ?_;refine s7 [.str _] rfl ?_;refine congrArg (fun z=>[U.str z]) ?_;unfold spS Z2
     (repeat' split)<;>first|(exfalso;omega)|rfl|(simp;done)|(simp_all;done)
    first|refine s4 rfl (fun g5=>?_) (fun g5=>?_)|refine s4B rfl (fun g5=>?_) (fun g5=>?_)
    ·first|refine s1 (D8 (C7 (by omega) (by omega))) rfl rfl rfl ?_|refine s1 (E8 _ _ _) rfl rfl rfl ?_
     refine s1 (i6 _ _ _ _ _ (by omega) (by omega) (by simp[*]<;>omega)) rfl rfl rfl ?_;refine s1 (D0 _ _ (by simp only[A2,A4,A3,B2];omega)) rfl rfl rfl ?_;refine s7 [.str _] rfl ?_;refine congrArg (fun z=>[U.str z]) ?_;unfold spS Z2
     (repeat' split)<;>first|(exfalso;omega)|rfl|(simp;done)|(simp_all;done)
    first|refine s1 (D8 (C7 (by omega) (by omega))) rfl rfl rfl ?_|refine s1 (E8 _ _ _) rfl rfl rfl ?_
    refine s1 (i6 _ _ _ _ _ (by omega) (by omega) (by simp[*]<;>omega)) rfl rfl rfl ?_;refine s1 (D0 _ _ (by simp only[A2,A4,A3,B2];omega)) rfl rfl rfl ?_;refine s7 [.str _] rfl ?_;refine congrArg (fun z=>[U.str z]) ?_;unfold spS Z2
    (repeat' split)<;>first|(exfalso;omega)|rfl|(simp;done)|(simp_all;done)
   refine s1 (F2 _ _ _) rfl rfl rfl ?_;refine s4 rfl (fun g1=>?_) fun g1=>?_
   ·first|refine s1 (S7 (C7 (by omega) (by omega))) rfl rfl rfl ?_|refine s1 (W4 _ _ _) rfl rfl rfl ?_
    refine s1 (A5y _ _ _ _) rfl rfl rfl ?_;refine s5 rfl (fun g2=>?_) fun g2=>?_
    ·refine s8 ?_;first|omega
    refine s1 (A2Y [2,3,5,6,15,17,18,19,20,21,23,24] (by omega) (by show _<((12:Nat):Int);omega)) rfl rfl rfl ?_;refine s31 (A0D _ (by omega)) rfl ?_;refine s1 (D0 _ _ (by simp only[A2,A4,A3,B2];omega)) rfl rfl rfl ?_;refine s1 (D0 _ _ (by simp only[A2,A4,A3,B2];omega)) rfl rfl rfl ?_;refine s7 [.str _] rfl ?_;refine congrArg (fun z=>[U.str z]) ?_;unfold spS Z2
    (repeat' split)<;>first|(exfalso;omega)|rfl|(simp;done)|(simp_all;done)
   refine s1 (A3X _ _ _) rfl rfl rfl ?_;refine s4 rfl (fun g2=>?_) fun g2=>?_
   ·refine s1 (D0 _ _ (by simp only[A2,A4,A3,B2];omega)) rfl rfl rfl ?_;first|refine s1 (D8 (C7 (by omega) (by omega))) rfl rfl rfl ?_|refine s1 (E8 _ _ _) rfl rfl rfl ?_
    refine s1 (i6 _ _ _ _ _ (by omega) (by omega) (by simp[*]<;>omega)) rfl rfl rfl ?_;refine s1 (D0 _ _ (by simp only[A2,A4,A3,B2];omega)) rfl rfl rfl ?_;refine s7 [.str _] rfl ?_;refine congrArg (fun z=>[U.str z]) ?_;unfold spS Z2
    (repeat' split)<;>first|(exfalso;omega)|rfl|(simp;done)|(simp_all;done)
   refine s1 (F2 _ _ _) rfl rfl rfl ?_;refine s4 rfl (fun g3=>?_) fun g3=>?_
   ·first|refine s1 (D8 (C7 (by omega) (by omega))) rfl rfl rfl ?_|refine s1 (E8 _ _ _) rfl rfl rfl ?_
    refine s1 (i6 _ _ _ _ _ (by omega) (by omega) (by simp[*]<;>omega)) rfl rfl rfl ?_;refine s1 (D0 _ _ (by simp only[A2,A4,A3,B2];omega)) rfl rfl rfl ?_;refine s7 [.str _] rfl ?_;refine congrArg (fun z=>[U.str z]) ?_;unfold spS Z2
    (repeat' split)<;>first|(exfalso;omega)|rfl|(simp;done)|(simp_all;done)
   first|refine s4 rfl (fun g4=>?_) (fun g4=>?_)|refine s4B rfl (fun g4=>?_) (fun g4=>?_)
   ·first|refine s1 (D8 (C7 (by omega) (by omega))) rfl rfl rfl ?_|refine s1 (E8 _ _ _) rfl rfl rfl ?_
    refine s1 (i6 _ _ _ _ _ (by omega) (by omega) (by simp[*]<;>omega)) rfl rfl rfl ?_;refine s1 (D0 _ _ (by simp only[A2,A4,A3,B2];omega)) rfl rfl rfl ?_;refine s7 [.str _] rfl ?_;refine congrArg (fun z=>[U.str z]) ?_;unfold spS Z2
    (repeat' split)<;>first|(exfalso;omega)|rfl|(simp;done)|(simp_all;done)
   first|refine s1 (D8 (C7 (by omega) (by omega))) rfl rfl rfl ?_|refine s1 (E8 _ _ _) rfl rfl rfl ?_
   refine s1 (i6 _ _ _ _ _ (by omega) (by omega) (by simp[*]<;>omega)) rfl rfl rfl ?_;refine s1 (D0 _ _ (by simp only[A2,A4,A3,B2];omega)) rfl rfl rfl ?_;refine s7 [.str _] rfl ?_;refine congrArg (fun z=>[U.str z]) ?_;unfold spS Z2
   (repeat' split)<;>first|(exfalso;omega)|rfl|(simp;done)|(simp_all;done)
  ·cases hs
 ·cases hs
end Go.Proofs.YtdimocjaepnifaaGreatDoor
