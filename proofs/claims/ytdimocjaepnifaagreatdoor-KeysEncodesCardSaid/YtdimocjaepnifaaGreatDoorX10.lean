/- The law KeysEncodes: for every input the call returns true, and the arguments read behind it as they read before. No condition. -/
import Derived.Test.YtdimocjaepnifaaGreatDoorX9
namespace Go.Proofs.YtdimocjaepnifaaGreatDoor
set_option linter.all false
open Go Go.Sx
set_option maxRecDepth 100000
set_option linter.unusedVariables false
set_option linter.unusedSimpArgs false
def rB:Rw Int:=r1 (R5 .u8)
def okU(c:Int):Prop:=0≤c∧c≤1114111∧¬(55296≤c∧c≤57343)
instance(c:Int):Decidable (okU c):=by unfold okU;infer_instance
def O1(c:Int):Int:=if c=32 then 0 else if c=105∨c=109 then -1 else if 97≤c∧c≤122 then c-96 else if 92≤c∧c≤95 then c-64 else -1
def chP(c:Int):Prop:=okU c∧32≤c∧¬(127≤c∧c≤159)
instance(c:Int):Decidable (chP c):=by unfold chP;infer_instance
def A7(c m:Int):Prop:=(chP c∧(m=0∨(m=2∧c≠91∧c≠79)∨(0≤O1 c∧(m=4∨m=6))))∨(1114113≤c∧c≤1114134∧0≤m∧m≤7)∨((c=1114135∨c=1114137)∧(m=0∨m=2))∨(c=1114136∧(m=0∨m=1∨m=2))∨(c=1114138∧m=0)
instance(c m:Int):Decidable (A7 c m):=by unfold A7;infer_instance
theorem l2{a b:Int}{c d:Bool}(h:a=b)(k:c=d):[U.int .u8 a,U.bool c]=[U.int .u8 b,U.bool d]:=by rw[h,k]
theorem l1{c d:Bool}(k:c=d):[U.bool c]=[U.bool d]:=by rw[k]
theorem l0{c d:Int}(k:c=d):[U.int .i64 c]=[U.int .i64 d]:=by rw[k]
def A2s:List U→Option (Nat×List U)
 | [.int .i64 c]=>some (0,[.int .u8 (if 0≤O1 c then O1 c else 0),.bool (decide (0≤O1 c))])
 | _=>none
theorem A38(c:Int):A2s [.int .i64 c]=some (0,[.int .u8 (if 0≤O1 c then O1 c else 0),.bool (decide (0≤O1 c))]):=rfl
def C1X:Tr:=.lt 8 (.bin .eql) [h 0 3,jI 32]<|.br 1 (.ret [.int .u8 (0),.bool true]) (.lt 8 (.bin .eql) [h 0 3,jI 105]<|.br 2 (.ret [.int .u8 (0),.bool false]) (.lt 8 (.bin .eql) [h 0 3,jI 109]<|.br 3 (.ret [.int .u8 (0),.bool false]) (.lt 8 (.bin .geq) [h 0 3,jI 97]<|.br 4 (.lt 8 (.bin .leq) [h 0 3,jI 122]<|.br 5 (.lt 3 (.bin .and) [h 0 3,jI 31]<|.lt 4 (.conv .u8) [h 6 3]<|.ret [h 7 4,.bool true]) (.lt 8 (.bin .geq) [h 0 3,jI 92]<|.br 6 (.lt 8 (.bin .leq) [h 0 3,jI 95]<|.br 7 (.lt 3 (.bin .and) [h 0 3,jI 31]<|.lt 4 (.conv .u8) [h 8 3]<|.ret [h 9 4,.bool true]) (.ret [.int .u8 (0),.bool false])) (.ret [.int .u8 (0),.bool false]))) (.lt 8 (.bin .geq) [h 0 3,jI 92]<|.br 5 (.lt 8 (.bin .leq) [h 0 3,jI 95]<|.br 6 (.lt 3 (.bin .and) [h 0 3,jI 31]<|.lt 4 (.conv .u8) [h 7 3]<|.ret [h 8 4,.bool true]) (.ret [.int .u8 (0),.bool false])) (.ret [.int .u8 (0),.bool false])))))
theorem B77{G:Nat→Option Obj}(hst:D2 Tryz.prog G gl H0 n0):N0 Tryz.prog G 66 [.s 3] A2s [.s 4,.s 8]:=by
 refine F4 (C:=cx L0 []) (d:=60) C1X (cxg (C2H hst) .nil) hst ⟨Tryz.f66,_,Tryz.func66,rfl⟩ (by kernel_rfl) (by kernel_rfl) ?_;intro us outs hs;unfold A2s at hs;split at hs
 ·skip;rename_i c;cases hs;unfold C1X;refine s0 (.cons 0 _ (.nil)) rfl (by simp[Ev.ok,Ev.len]) ?_;refine s1 (A8 _ _ _) rfl rfl rfl ?_;refine s4 rfl (fun g0=>?_) fun g0=>?_
  ·refine s7 [.int .u8 _,.bool _] rfl ?_;refine l2 ?_ ?_
   ·(unfold O1;(repeat' split)<;>omega)
   ·symm;first|exact decide_eq_true (by(unfold O1;(repeat' split)<;>omega))|exact decide_eq_false (by(unfold O1;(repeat' split)<;>omega))
  refine s1 (A8 _ _ _) rfl rfl rfl ?_;refine s4 rfl (fun g1=>?_) fun g1=>?_
  ·refine s7 [.int .u8 _,.bool _] rfl ?_;refine l2 ?_ ?_
   ·(unfold O1;(repeat' split)<;>omega)
   ·symm;first|exact decide_eq_true (by(unfold O1;(repeat' split)<;>omega))|exact decide_eq_false (by(unfold O1;(repeat' split)<;>omega))
  refine s1 (A8 _ _ _) rfl rfl rfl ?_;refine s4 rfl (fun g2=>?_) fun g2=>?_
  ·refine s7 [.int .u8 _,.bool _] rfl ?_;refine l2 ?_ ?_
   ·(unfold O1;(repeat' split)<;>omega)
   ·symm;first|exact decide_eq_true (by(unfold O1;(repeat' split)<;>omega))|exact decide_eq_false (by(unfold O1;(repeat' split)<;>omega))
  refine s1 (F2 _ _ _) rfl rfl rfl ?_;refine s4 rfl (fun g3=>?_) fun g3=>?_
  ·refine s1 (G0 _ _ _) rfl rfl rfl ?_;refine s4 rfl (fun g4=>?_) fun g4=>?_
   ·refine s1 (i7 5 32 (by decide) (by decide) (by decide)) rfl rfl rfl ?_;first|refine s1 (D5 (K7 (by omega) (by omega))) rfl rfl rfl ?_|refine s1 (G7 _ _ _) rfl rfl rfl ?_
    refine s7 [.int .u8 _,.bool _] rfl ?_;refine l2 ?_ ?_
    ·(unfold O1;(repeat' split)<;>omega)
    ·symm;first|exact decide_eq_true (by(unfold O1;(repeat' split)<;>omega))|exact decide_eq_false (by(unfold O1;(repeat' split)<;>omega))
   refine s1 (F2 _ _ _) rfl rfl rfl ?_;refine s5 rfl (fun g5=>?_) fun g5=>?_
   ·refine s7 [.int .u8 _,.bool _] rfl ?_;refine l2 ?_ ?_
    ·(unfold O1;(repeat' split)<;>omega)
    ·symm;first|exact decide_eq_true (by(unfold O1;(repeat' split)<;>omega))|exact decide_eq_false (by(unfold O1;(repeat' split)<;>omega))
   refine s1 (G0 _ _ _) rfl rfl rfl ?_;refine s5 rfl (fun g6=>?_) fun g6=>?_
   ·refine s7 [.int .u8 _,.bool _] rfl ?_;refine l2 ?_ ?_
    ·(unfold O1;(repeat' split)<;>omega)
    ·symm;first|exact decide_eq_true (by(unfold O1;(repeat' split)<;>omega))|exact decide_eq_false (by(unfold O1;(repeat' split)<;>omega))
   refine s1 (i7 5 32 (by decide) (by decide) (by decide)) rfl rfl rfl ?_;first|refine s1 (D5 (K7 (by omega) (by omega))) rfl rfl rfl ?_|refine s1 (G7 _ _ _) rfl rfl rfl ?_
   refine s7 [.int .u8 _,.bool _] rfl ?_;refine l2 ?_ ?_
   ·(unfold O1;(repeat' split)<;>omega)
   ·symm;first|exact decide_eq_true (by(unfold O1;(repeat' split)<;>omega))|exact decide_eq_false (by(unfold O1;(repeat' split)<;>omega))
  refine s1 (F2 _ _ _) rfl rfl rfl ?_;refine s5 rfl (fun g4=>?_) fun g4=>?_
  ·refine s7 [.int .u8 _,.bool _] rfl ?_;refine l2 ?_ ?_
   ·(unfold O1;(repeat' split)<;>omega)
   ·symm;first|exact decide_eq_true (by(unfold O1;(repeat' split)<;>omega))|exact decide_eq_false (by(unfold O1;(repeat' split)<;>omega))
  refine s1 (G0 _ _ _) rfl rfl rfl ?_;refine s5 rfl (fun g5=>?_) fun g5=>?_
  ·refine s7 [.int .u8 _,.bool _] rfl ?_;refine l2 ?_ ?_
   ·(unfold O1;(repeat' split)<;>omega)
   ·symm;first|exact decide_eq_true (by(unfold O1;(repeat' split)<;>omega))|exact decide_eq_false (by(unfold O1;(repeat' split)<;>omega))
  refine s1 (i7 5 32 (by decide) (by decide) (by decide)) rfl rfl rfl ?_;first|refine s1 (D5 (K7 (by omega) (by omega))) rfl rfl rfl ?_|refine s1 (G7 _ _ _) rfl rfl rfl ?_
  refine s7 [.int .u8 _,.bool _] rfl ?_;refine l2 ?_ ?_
  ·(unfold O1;(repeat' split)<;>omega)
  ·symm;first|exact decide_eq_true (by(unfold O1;(repeat' split)<;>omega))|exact decide_eq_false (by(unfold O1;(repeat' split)<;>omega))
 ·cases hs
noncomputable def C2F:List (FuncId×FnC):=(66,N3 Tryz.prog [.s 3] A2s [.s 4,.s 8])::L0
theorem B8_{G:Nat→Option Obj}(hst:D2 Tryz.prog G gl H0 n0):J3 Tryz.prog G gl C2F:=.cons (B77 hst) (C2H hst)
def A4K:List U→Option (Nat×List U)
 | [.int .i64 c]=>some (0,[.int .i64 (O1 c)])
 | _=>none
theorem A49(c:Int):A4K [.int .i64 c]=some (0,[.int .i64 (O1 c)]):=rfl
def C0p:Tr:=.lt 8 (.bin .eql) [h 0 3,jI 32]<|.br 1 (.ret [jI 0]) (.lt 8 (.bin .geq) [h 0 3,jI 97]<|.br 2 (.lt 8 (.bin .leq) [h 0 3,jI 122]<|.br 3 (.lt 8 (.bin .neq) [h 0 3,jI 105]<|.br 4 (.lt 8 (.bin .neq) [h 0 3,jI 109]<|.br 5 (.lt 3 (.bin .sub) [h 0 3,jI 97]<|.lt 3 (.bin .add) [h 6 3,jI 1]<|.ret [h 7 3]) (.lt 8 (.bin .geq) [h 0 3,jI 92]<|.br 6 (.lt 8 (.bin .leq) [h 0 3,jI 95]<|.br 7 (.lt 3 (.bin .sub) [h 0 3,jI 92]<|.lt 3 (.bin .add) [h 8 3,jI 28]<|.ret [h 9 3]) (.ret [jI (-1)])) (.ret [jI (-1)]))) (.lt 8 (.bin .geq) [h 0 3,jI 92]<|.br 5 (.lt 8 (.bin .leq) [h 0 3,jI 95]<|.br 6 (.lt 3 (.bin .sub) [h 0 3,jI 92]<|.lt 3 (.bin .add) [h 7 3,jI 28]<|.ret [h 8 3]) (.ret [jI (-1)])) (.ret [jI (-1)]))) (.lt 8 (.bin .geq) [h 0 3,jI 92]<|.br 4 (.lt 8 (.bin .leq) [h 0 3,jI 95]<|.br 5 (.lt 3 (.bin .sub) [h 0 3,jI 92]<|.lt 3 (.bin .add) [h 6 3,jI 28]<|.ret [h 7 3]) (.ret [jI (-1)])) (.ret [jI (-1)]))) (.lt 8 (.bin .geq) [h 0 3,jI 92]<|.br 3 (.lt 8 (.bin .leq) [h 0 3,jI 95]<|.br 4 (.lt 3 (.bin .sub) [h 0 3,jI 92]<|.lt 3 (.bin .add) [h 5 3,jI 28]<|.ret [h 6 3]) (.ret [jI (-1)])) (.ret [jI (-1)])))
theorem C0q{G:Nat→Option Obj}(hst:D2 Tryz.prog G gl H0 n0):N0 Tryz.prog G 64 [.s 3] A4K [.s 3]:=by
 refine F4 (C:=cx C2F []) (d:=60) C0p (cxg (B8_ hst) .nil) hst ⟨Tryz.f64,_,Tryz.func64,rfl⟩ (by kernel_rfl) (by kernel_rfl) ?_;intro us outs hs;unfold A4K at hs;split at hs
 ·skip;rename_i c;cases hs;unfold C0p;refine s0 (.cons 0 _ (.nil)) rfl (by simp[Ev.ok,Ev.len]) ?_;refine s1 (A8 _ _ _) rfl rfl rfl ?_;refine s4 rfl (fun g0=>?_) fun g0=>?_
  ·refine s7 [.int .i64 _] rfl ?_;refine l0 ?_
   (unfold O1;(repeat' split)<;>omega)
  refine s1 (F2 _ _ _) rfl rfl rfl ?_;refine s4 rfl (fun g1=>?_) fun g1=>?_
  ·refine s1 (G0 _ _ _) rfl rfl rfl ?_;refine s4 rfl (fun g2=>?_) fun g2=>?_
   ·refine s1 (H3 _ _ _) rfl rfl rfl ?_;refine s4 rfl (fun g3=>?_) fun g3=>?_
    ·refine s1 (H3 _ _ _) rfl rfl rfl ?_;refine s4 rfl (fun g4=>?_) fun g4=>?_
     ·first|refine s1 (S7 (C7 (by omega) (by omega))) rfl rfl rfl ?_|refine s1 (W4 _ _ _) rfl rfl rfl ?_
      first|refine s1 (D8 (C7 (by omega) (by omega))) rfl rfl rfl ?_|refine s1 (E8 _ _ _) rfl rfl rfl ?_
      refine s7 [.int .i64 _] rfl ?_;refine l0 ?_
      (unfold O1;(repeat' split)<;>omega)
     refine s1 (F2 _ _ _) rfl rfl rfl ?_;refine s5 rfl (fun g5=>?_) fun g5=>?_
     ·refine s7 [.int .i64 _] rfl ?_;refine l0 ?_
      (unfold O1;(repeat' split)<;>omega)
     refine s1 (G0 _ _ _) rfl rfl rfl ?_;refine s5 rfl (fun g6=>?_) fun g6=>?_
     ·refine s7 [.int .i64 _] rfl ?_;refine l0 ?_
      (unfold O1;(repeat' split)<;>omega)
     first|refine s1 (S7 (C7 (by omega) (by omega))) rfl rfl rfl ?_|refine s1 (W4 _ _ _) rfl rfl rfl ?_
     first|refine s1 (D8 (C7 (by omega) (by omega))) rfl rfl rfl ?_|refine s1 (E8 _ _ _) rfl rfl rfl ?_
     refine s7 [.int .i64 _] rfl ?_;refine l0 ?_
     (unfold O1;(repeat' split)<;>omega)
    refine s1 (F2 _ _ _) rfl rfl rfl ?_;refine s5 rfl (fun g4=>?_) fun g4=>?_
    ·refine s7 [.int .i64 _] rfl ?_;refine l0 ?_
     (unfold O1;(repeat' split)<;>omega)
    refine s1 (G0 _ _ _) rfl rfl rfl ?_;refine s5 rfl (fun g5=>?_) fun g5=>?_
    ·refine s7 [.int .i64 _] rfl ?_;refine l0 ?_
     (unfold O1;(repeat' split)<;>omega)
    first|refine s1 (S7 (C7 (by omega) (by omega))) rfl rfl rfl ?_|refine s1 (W4 _ _ _) rfl rfl rfl ?_
    first|refine s1 (D8 (C7 (by omega) (by omega))) rfl rfl rfl ?_|refine s1 (E8 _ _ _) rfl rfl rfl ?_
    refine s7 [.int .i64 _] rfl ?_;refine l0 ?_
    (unfold O1;(repeat' split)<;>omega)
   refine s1 (F2 _ _ _) rfl rfl rfl ?_;refine s5 rfl (fun g3=>?_) fun g3=>?_
   ·refine s7 [.int .i64 _] rfl ?_;refine l0 ?_
    (unfold O1;(repeat' split)<;>omega)
   refine s1 (G0 _ _ _) rfl rfl rfl ?_;refine s5 rfl (fun g4=>?_) fun g4=>?_
   ·refine s7 [.int .i64 _] rfl ?_;refine l0 ?_
    (unfold O1;(repeat' split)<;>omega)
   first|refine s1 (S7 (C7 (by omega) (by omega))) rfl rfl rfl ?_|refine s1 (W4 _ _ _) rfl rfl rfl ?_
   first|refine s1 (D8 (C7 (by omega) (by omega))) rfl rfl rfl ?_|refine s1 (E8 _ _ _) rfl rfl rfl ?_
   refine s7 [.int .i64 _] rfl ?_;refine l0 ?_
   (unfold O1;(repeat' split)<;>omega)
  refine s1 (F2 _ _ _) rfl rfl rfl ?_;refine s5 rfl (fun g2=>?_) fun g2=>?_
  ·refine s7 [.int .i64 _] rfl ?_;refine l0 ?_
   (unfold O1;(repeat' split)<;>omega)
  refine s1 (G0 _ _ _) rfl rfl rfl ?_;refine s5 rfl (fun g3=>?_) fun g3=>?_
  ·refine s7 [.int .i64 _] rfl ?_;refine l0 ?_
   (unfold O1;(repeat' split)<;>omega)
  first|refine s1 (S7 (C7 (by omega) (by omega))) rfl rfl rfl ?_|refine s1 (W4 _ _ _) rfl rfl rfl ?_
  first|refine s1 (D8 (C7 (by omega) (by omega))) rfl rfl rfl ?_|refine s1 (E8 _ _ _) rfl rfl rfl ?_
  refine s7 [.int .i64 _] rfl ?_;refine l0 ?_
  (unfold O1;(repeat' split)<;>omega)
 ·cases hs
theorem B8(c:Int):(c=32∧O1 c=0)∨((c=105∨c=109)∧O1 c = -1)∨(97≤c∧c≤122∧c≠105∧c≠109∧O1 c=c-96)∨(92≤c∧c≤95∧O1 c=c-64)∨(c≠32∧¬(97≤c∧c≤122)∧¬(92≤c∧c≤95)∧O1 c = -1):=by
 unfold O1
 (repeat' split)<;>omega
noncomputable def C1f:List (FuncId×FnC):=(66,N3 Tryz.prog [.s 3] A2s [.s 4,.s 8])::L0
theorem B8T{G:Nat→Option Obj}(hst:D2 Tryz.prog G gl H0 n0):J3 Tryz.prog G gl C1f:=(.cons (B77 hst) .nil)
def B08:List U→Option (Nat×List U)
 | [.int .i64 c,.int .i64 m]=>if -9223372036854775808≤m∧m≤9223372036854775807 then some (0,[.bool (decide (A7 c m))])else none
 | _=>none
theorem B9E(c:Int)(m:Int)(hc : -9223372036854775808≤m∧m≤9223372036854775807):B08 [.int .i64 c,.int .i64 m]=some (0,[.bool (decide (A7 c m))]):=if_pos hc
def C0I:Tr:=.lt 8 (.bin .geq) [h 0 3,jI 0]<|.br 2 (.lt 8 (.bin .leq) [h 0 3,jI 1114111]<|.br 3 (.lt 3 (.bin .shr) [h 0 3,.int .u64 (11)]<|.lt 8 (.bin .neq) [h 4 3,jI 27]<|.br 5 (.lt 8 (.bin .geq) [h 0 3,jI 32]<|.br 6 (.lt 8 (.bin .geq) [h 0 3,jI 127]<|.br 7 (.lt 8 (.bin .leq) [h 0 3,jI 159]<|.lt 8 (.un .not) [h 8 8]<|.br 9 (.lt 3 (.bin .and) [h 1 3,jI 4]<|.lt 8 (.bin .neq) [h 10 3,jI 0]<|.br 11 (.fn A2s [h 0 3] 2<|.br 13 (.lt 3 (.bin .andNot) [h 1 3,jI 6]<|.lt 8 (.bin .eql) [h 14 3,jI 0]<|.ret [h 15 8]) (.ret [.bool false])) (.lt 8 (.bin .eql) [h 1 3,jI 0]<|.br 12 (.ret [.bool true]) (.lt 8 (.bin .eql) [h 1 3,jI 2]<|.br 13 (.lt 8 (.bin .neq) [h 0 3,jI 91]<|.br 14 (.lt 8 (.bin .neq) [h 0 3,jI 79]<|.ret [h 15 8]) (.ret [.bool false])) (.ret [.bool false])))) (.lt 8 (.bin .eql) [h 0 3,jI 1114136]<|.br 10 (.lt 8 (.bin .eql) [h 1 3,jI 1]<|.br 11 (.ret [.bool true]) (.lt 8 (.bin .eql) [h 1 3,jI 2]<|.br 12 (.ret [.bool true]) (.lt 8 (.bin .eql) [h 1 3,jI 0]<|.ret [h 13 8]))) (.lt 8 (.bin .eql) [h 0 3,jI 1114135]<|.br 11 (.lt 8 (.bin .eql) [h 1 3,jI 2]<|.br 12 (.ret [.bool true]) (.lt 8 (.bin .eql) [h 1 3,jI 0]<|.ret [h 13 8])) (.lt 8 (.bin .eql) [h 0 3,jI 1114137]<|.br 12 (.lt 8 (.bin .eql) [h 1 3,jI 2]<|.br 13 (.ret [.bool true]) (.lt 8 (.bin .eql) [h 1 3,jI 0]<|.ret [h 14 8])) (.lt 8 (.bin .eql) [h 0 3,jI 1114138]<|.br 13 (.lt 8 (.bin .eql) [h 1 3,jI 0]<|.ret [h 14 8]) (.lt 8 (.bin .geq) [h 0 3,jI 1114113]<|.br 14 (.lt 8 (.bin .leq) [h 0 3,jI 1114134]<|.br 15 (.lt 8 (.bin .geq) [h 1 3,jI 0]<|.br 16 (.lt 8 (.bin .leq) [h 1 3,jI 7]<|.ret [h 17 8]) (.ret [.bool false])) (.ret [.bool false])) (.ret [.bool false]))))))) (.lt 3 (.bin .and) [h 1 3,jI 4]<|.lt 8 (.bin .neq) [h 8 3,jI 0]<|.br 9 (.fn A2s [h 0 3] 2<|.br 11 (.lt 3 (.bin .andNot) [h 1 3,jI 6]<|.lt 8 (.bin .eql) [h 12 3,jI 0]<|.ret [h 13 8]) (.ret [.bool false])) (.lt 8 (.bin .eql) [h 1 3,jI 0]<|.br 10 (.ret [.bool true]) (.lt 8 (.bin .eql) [h 1 3,jI 2]<|.br 11 (.lt 8 (.bin .neq) [h 0 3,jI 91]<|.br 12 (.lt 8 (.bin .neq) [h 0 3,jI 79]<|.ret [h 13 8]) (.ret [.bool false])) (.ret [.bool false]))))) (.lt 8 (.bin .eql) [h 0 3,jI 1114136]<|.br 7 (.lt 8 (.bin .eql) [h 1 3,jI 1]<|.br 8 (.ret [.bool true]) (.lt 8 (.bin .eql) [h 1 3,jI 2]<|.br 9 (.ret [.bool true]) (.lt 8 (.bin .eql) [h 1 3,jI 0]<|.ret [h 10 8]))) (.lt 8 (.bin .eql) [h 0 3,jI 1114135]<|.br 8 (.lt 8 (.bin .eql) [h 1 3,jI 2]<|.br 9 (.ret [.bool true]) (.lt 8 (.bin .eql) [h 1 3,jI 0]<|.ret [h 10 8])) (.lt 8 (.bin .eql) [h 0 3,jI 1114137]<|.br 9 (.lt 8 (.bin .eql) [h 1 3,jI 2]<|.br 10 (.ret [.bool true]) (.lt 8 (.bin .eql) [h 1 3,jI 0]<|.ret [h 11 8])) (.lt 8 (.bin .eql) [h 0 3,jI 1114138]<|.br 10 (.lt 8 (.bin .eql) [h 1 3,jI 0]<|.ret [h 11 8]) (.lt 8 (.bin .geq) [h 0 3,jI 1114113]<|.br 11 (.lt 8 (.bin .leq) [h 0 3,jI 1114134]<|.br 12 (.lt 8 (.bin .geq) [h 1 3,jI 0]<|.br 13 (.lt 8 (.bin .leq) [h 1 3,jI 7]<|.ret [h 14 8]) (.ret [.bool false])) (.ret [.bool false])) (.ret [.bool false]))))))) (.lt 8 (.bin .eql) [h 0 3,jI 1114136]<|.br 6 (.lt 8 (.bin .eql) [h 1 3,jI 1]<|.br 7 (.ret [.bool true]) (.lt 8 (.bin .eql) [h 1 3,jI 2]<|.br 8 (.ret [.bool true]) (.lt 8 (.bin .eql) [h 1 3,jI 0]<|.ret [h 9 8]))) (.lt 8 (.bin .eql) [h 0 3,jI 1114135]<|.br 7 (.lt 8 (.bin .eql) [h 1 3,jI 2]<|.br 8 (.ret [.bool true]) (.lt 8 (.bin .eql) [h 1 3,jI 0]<|.ret [h 9 8])) (.lt 8 (.bin .eql) [h 0 3,jI 1114137]<|.br 8 (.lt 8 (.bin .eql) [h 1 3,jI 2]<|.br 9 (.ret [.bool true]) (.lt 8 (.bin .eql) [h 1 3,jI 0]<|.ret [h 10 8])) (.lt 8 (.bin .eql) [h 0 3,jI 1114138]<|.br 9 (.lt 8 (.bin .eql) [h 1 3,jI 0]<|.ret [h 10 8]) (.lt 8 (.bin .geq) [h 0 3,jI 1114113]<|.br 10 (.lt 8 (.bin .leq) [h 0 3,jI 1114134]<|.br 11 (.lt 8 (.bin .geq) [h 1 3,jI 0]<|.br 12 (.lt 8 (.bin .leq) [h 1 3,jI 7]<|.ret [h 13 8]) (.ret [.bool false])) (.ret [.bool false])) (.ret [.bool false]))))))) (.lt 8 (.bin .eql) [h 0 3,jI 1114136]<|.br 4 (.lt 8 (.bin .eql) [h 1 3,jI 1]<|.br 5 (.ret [.bool true]) (.lt 8 (.bin .eql) [h 1 3,jI 2]<|.br 6 (.ret [.bool true]) (.lt 8 (.bin .eql) [h 1 3,jI 0]<|.ret [h 7 8]))) (.lt 8 (.bin .eql) [h 0 3,jI 1114135]<|.br 5 (.lt 8 (.bin .eql) [h 1 3,jI 2]<|.br 6 (.ret [.bool true]) (.lt 8 (.bin .eql) [h 1 3,jI 0]<|.ret [h 7 8])) (.lt 8 (.bin .eql) [h 0 3,jI 1114137]<|.br 6 (.lt 8 (.bin .eql) [h 1 3,jI 2]<|.br 7 (.ret [.bool true]) (.lt 8 (.bin .eql) [h 1 3,jI 0]<|.ret [h 8 8])) (.lt 8 (.bin .eql) [h 0 3,jI 1114138]<|.br 7 (.lt 8 (.bin .eql) [h 1 3,jI 0]<|.ret [h 8 8]) (.lt 8 (.bin .geq) [h 0 3,jI 1114113]<|.br 8 (.lt 8 (.bin .leq) [h 0 3,jI 1114134]<|.br 9 (.lt 8 (.bin .geq) [h 1 3,jI 0]<|.br 10 (.lt 8 (.bin .leq) [h 1 3,jI 7]<|.ret [h 11 8]) (.ret [.bool false])) (.ret [.bool false])) (.ret [.bool false]))))))) (.lt 8 (.bin .eql) [h 0 3,jI 1114136]<|.br 3 (.lt 8 (.bin .eql) [h 1 3,jI 1]<|.br 4 (.ret [.bool true]) (.lt 8 (.bin .eql) [h 1 3,jI 2]<|.br 5 (.ret [.bool true]) (.lt 8 (.bin .eql) [h 1 3,jI 0]<|.ret [h 6 8]))) (.lt 8 (.bin .eql) [h 0 3,jI 1114135]<|.br 4 (.lt 8 (.bin .eql) [h 1 3,jI 2]<|.br 5 (.ret [.bool true]) (.lt 8 (.bin .eql) [h 1 3,jI 0]<|.ret [h 6 8])) (.lt 8 (.bin .eql) [h 0 3,jI 1114137]<|.br 5 (.lt 8 (.bin .eql) [h 1 3,jI 2]<|.br 6 (.ret [.bool true]) (.lt 8 (.bin .eql) [h 1 3,jI 0]<|.ret [h 7 8])) (.lt 8 (.bin .eql) [h 0 3,jI 1114138]<|.br 6 (.lt 8 (.bin .eql) [h 1 3,jI 0]<|.ret [h 7 8]) (.lt 8 (.bin .geq) [h 0 3,jI 1114113]<|.br 7 (.lt 8 (.bin .leq) [h 0 3,jI 1114134]<|.br 8 (.lt 8 (.bin .geq) [h 1 3,jI 0]<|.br 9 (.lt 8 (.bin .leq) [h 1 3,jI 7]<|.ret [h 10 8]) (.ret [.bool false])) (.ret [.bool false])) (.ret [.bool false]))))))
theorem C25{G:Nat→Option Obj}(hst:D2 Tryz.prog G gl H0 n0):N0 Tryz.prog G 36 [.s 3,.s 3] B08 [.s 8]:=by
 refine F4 (C:=cx C1f []) (d:=60) C0I (cxg (B8T hst) .nil) hst ⟨Tryz.f36,_,Tryz.func36,rfl⟩ (by kernel_rfl) (by kernel_rfl) ?_;intro us outs hs;unfold B08 at hs;split at hs
 ·skip;rename_i c m;split at hs
  ·rename_i hc;cases hs;unfold C0I;refine s0 (.cons 1 _ (.cons 0 _ (.nil))) rfl (by simp[Ev.ok,Ev.len]) ?_;refine s1 (F2 _ _ _) rfl rfl rfl ?_;refine s4 rfl (fun g0=>?_) fun g0=>?_
   ·refine s1 (G0 _ _ _) rfl rfl rfl ?_;refine s4 rfl (fun g1=>?_) fun g1=>?_
    ·refine s1 (N7 2048 (by decide) (by decide)) rfl rfl rfl ?_;refine s1 (H3 _ _ _) rfl rfl rfl ?_;refine s4 rfl (fun g2=>?_) fun g2=>?_
     ·refine s1 (F2 _ _ _) rfl rfl rfl ?_;refine s4 rfl (fun g3=>?_) fun g3=>?_
      ·refine s1 (F2 _ _ _) rfl rfl rfl ?_;refine s4 rfl (fun g4=>?_) fun g4=>?_
       ·refine s1 (G0 _ _ _) rfl rfl rfl ?_;refine s1 (D4 _) rfl rfl rfl ?_;refine s4 rfl (fun g5=>?_) fun g5=>?_
        ·refine s1 (A1i _) rfl rfl rfl ?_;refine s1 (H3 _ _ _) rfl rfl rfl ?_;refine s4 rfl (fun g6=>?_) fun g6=>?_
         ·refine s32 (A38 _) rfl rfl ?_;first|refine s5 rfl (fun g7=>?_) (fun g7=>?_)|refine s5B rfl (fun g7=>?_) (fun g7=>?_)
          ·refine s7 [.bool _] rfl ?_;have z0:=B4 m hc.1 hc.2;have z1:=B8 c;refine l1 ?_;first|(refine decide_eq_decide.2 ?_;unfold A7 chP okU;omega)|(symm;first|exact decide_eq_true (by unfold A7 chP okU at *;omega)|exact decide_eq_false (by unfold A7 chP okU at *;omega))
          refine s1 (B7w _) rfl rfl rfl ?_;refine s1 (A8 _ _ _) rfl rfl rfl ?_;refine s7 [.bool _] rfl ?_;have z0:=B4 m hc.1 hc.2;have z1:=B8 c;refine l1 ?_;first|(refine decide_eq_decide.2 ?_;unfold A7 chP okU;omega)|(symm;first|exact decide_eq_true (by unfold A7 chP okU at *;omega)|exact decide_eq_false (by unfold A7 chP okU at *;omega))
         refine s1 (A8 _ _ _) rfl rfl rfl ?_;refine s4 rfl (fun g7=>?_) fun g7=>?_
         ·refine s7 [.bool _] rfl ?_;have z0:=B4 m hc.1 hc.2;have z1:=B8 c;refine l1 ?_;first|(refine decide_eq_decide.2 ?_;unfold A7 chP okU;omega)|(symm;first|exact decide_eq_true (by unfold A7 chP okU at *;omega)|exact decide_eq_false (by unfold A7 chP okU at *;omega))
         refine s1 (A8 _ _ _) rfl rfl rfl ?_;refine s5 rfl (fun g8=>?_) fun g8=>?_
         ·refine s7 [.bool _] rfl ?_;have z0:=B4 m hc.1 hc.2;have z1:=B8 c;refine l1 ?_;first|(refine decide_eq_decide.2 ?_;unfold A7 chP okU;omega)|(symm;first|exact decide_eq_true (by unfold A7 chP okU at *;omega)|exact decide_eq_false (by unfold A7 chP okU at *;omega))
         refine s1 (H3 _ _ _) rfl rfl rfl ?_;refine s5 rfl (fun g9=>?_) fun g9=>?_
         ·refine s7 [.bool _] rfl ?_;have z0:=B4 m hc.1 hc.2;have z1:=B8 c;refine l1 ?_;first|(refine decide_eq_decide.2 ?_;unfold A7 chP okU;omega)|(symm;first|exact decide_eq_true (by unfold A7 chP okU at *;omega)|exact decide_eq_false (by unfold A7 chP okU at *;omega))
         refine s1 (H3 _ _ _) rfl rfl rfl ?_;refine s7 [.bool _] rfl ?_;have z0:=B4 m hc.1 hc.2;have z1:=B8 c;refine l1 ?_;first|(refine decide_eq_decide.2 ?_;unfold A7 chP okU;omega)|(symm;first|exact decide_eq_true (by unfold A7 chP okU at *;omega)|exact decide_eq_false (by unfold A7 chP okU at *;omega))
        refine s1 (A8 _ _ _) rfl rfl rfl ?_;refine s4 rfl (fun g6=>?_) fun g6=>?_
        ·refine s1 (A8 _ _ _) rfl rfl rfl ?_;refine s4 rfl (fun g7=>?_) fun g7=>?_
         ·refine s7 [.bool _] rfl ?_;have z0:=B4 m hc.1 hc.2;have z1:=B8 c;refine l1 ?_;first|(refine decide_eq_decide.2 ?_;unfold A7 chP okU;omega)|(symm;first|exact decide_eq_true (by unfold A7 chP okU at *;omega)|exact decide_eq_false (by unfold A7 chP okU at *;omega))
         refine s1 (A8 _ _ _) rfl rfl rfl ?_;refine s4 rfl (fun g8=>?_) fun g8=>?_
         ·refine s7 [.bool _] rfl ?_;have z0:=B4 m hc.1 hc.2;have z1:=B8 c;refine l1 ?_;first|(refine decide_eq_decide.2 ?_;unfold A7 chP okU;omega)|(symm;first|exact decide_eq_true (by unfold A7 chP okU at *;omega)|exact decide_eq_false (by unfold A7 chP okU at *;omega))
         refine s1 (A8 _ _ _) rfl rfl rfl ?_;refine s7 [.bool _] rfl ?_;have z0:=B4 m hc.1 hc.2;have z1:=B8 c;refine l1 ?_;first|(refine decide_eq_decide.2 ?_;unfold A7 chP okU;omega)|(symm;first|exact decide_eq_true (by unfold A7 chP okU at *;omega)|exact decide_eq_false (by unfold A7 chP okU at *;omega))
        refine s1 (A8 _ _ _) rfl rfl rfl ?_;refine s4 rfl (fun g7=>?_) fun g7=>?_
        ·refine s1 (A8 _ _ _) rfl rfl rfl ?_;refine s4 rfl (fun g8=>?_) fun g8=>?_
         ·refine s7 [.bool _] rfl ?_;have z0:=B4 m hc.1 hc.2;have z1:=B8 c;refine l1 ?_;first|(refine decide_eq_decide.2 ?_;unfold A7 chP okU;omega)|(symm;first|exact decide_eq_true (by unfold A7 chP okU at *;omega)|exact decide_eq_false (by unfold A7 chP okU at *;omega))
         refine s1 (A8 _ _ _) rfl rfl rfl ?_;refine s7 [.bool _] rfl ?_;have z0:=B4 m hc.1 hc.2;have z1:=B8 c;refine l1 ?_;first|(refine decide_eq_decide.2 ?_;unfold A7 chP okU;omega)|(symm;first|exact decide_eq_true (by unfold A7 chP okU at *;omega)|exact decide_eq_false (by unfold A7 chP okU at *;omega))
        refine s1 (A8 _ _ _) rfl rfl rfl ?_;refine s4 rfl (fun g8=>?_) fun g8=>?_
        ·refine s1 (A8 _ _ _) rfl rfl rfl ?_;refine s4 rfl (fun g9=>?_) fun g9=>?_
         ·refine s7 [.bool _] rfl ?_;have z0:=B4 m hc.1 hc.2;have z1:=B8 c;refine l1 ?_;first|(refine decide_eq_decide.2 ?_;unfold A7 chP okU;omega)|(symm;first|exact decide_eq_true (by unfold A7 chP okU at *;omega)|exact decide_eq_false (by unfold A7 chP okU at *;omega))
         refine s1 (A8 _ _ _) rfl rfl rfl ?_;refine s7 [.bool _] rfl ?_;have z0:=B4 m hc.1 hc.2;have z1:=B8 c;refine l1 ?_;first|(refine decide_eq_decide.2 ?_;unfold A7 chP okU;omega)|(symm;first|exact decide_eq_true (by unfold A7 chP okU at *;omega)|exact decide_eq_false (by unfold A7 chP okU at *;omega))
        refine s1 (A8 _ _ _) rfl rfl rfl ?_;refine s4 rfl (fun g9=>?_) fun g9=>?_
        ·refine s1 (A8 _ _ _) rfl rfl rfl ?_;refine s7 [.bool _] rfl ?_;have z0:=B4 m hc.1 hc.2;have z1:=B8 c;refine l1 ?_;first|(refine decide_eq_decide.2 ?_;unfold A7 chP okU;omega)|(symm;first|exact decide_eq_true (by unfold A7 chP okU at *;omega)|exact decide_eq_false (by unfold A7 chP okU at *;omega))
        refine s1 (F2 _ _ _) rfl rfl rfl ?_;refine s5 rfl (fun g10=>?_) fun g10=>?_
        ·refine s7 [.bool _] rfl ?_;have z0:=B4 m hc.1 hc.2;have z1:=B8 c;refine l1 ?_;first|(refine decide_eq_decide.2 ?_;unfold A7 chP okU;omega)|(symm;first|exact decide_eq_true (by unfold A7 chP okU at *;omega)|exact decide_eq_false (by unfold A7 chP okU at *;omega))
        refine s1 (G0 _ _ _) rfl rfl rfl ?_;refine s5 rfl (fun g11=>?_) fun g11=>?_
        ·refine s7 [.bool _] rfl ?_;have z0:=B4 m hc.1 hc.2;have z1:=B8 c;refine l1 ?_;first|(refine decide_eq_decide.2 ?_;unfold A7 chP okU;omega)|(symm;first|exact decide_eq_true (by unfold A7 chP okU at *;omega)|exact decide_eq_false (by unfold A7 chP okU at *;omega))
        refine s1 (F2 _ _ _) rfl rfl rfl ?_;refine s5 rfl (fun g12=>?_) fun g12=>?_
        ·refine s7 [.bool _] rfl ?_;have z0:=B4 m hc.1 hc.2;have z1:=B8 c;refine l1 ?_;first|(refine decide_eq_decide.2 ?_;unfold A7 chP okU;omega)|(symm;first|exact decide_eq_true (by unfold A7 chP okU at *;omega)|exact decide_eq_false (by unfold A7 chP okU at *;omega))
        refine s1 (G0 _ _ _) rfl rfl rfl ?_;refine s7 [.bool _] rfl ?_;have z0:=B4 m hc.1 hc.2;have z1:=B8 c;refine l1 ?_;first|(refine decide_eq_decide.2 ?_;unfold A7 chP okU;omega)|(symm;first|exact decide_eq_true (by unfold A7 chP okU at *;omega)|exact decide_eq_false (by unfold A7 chP okU at *;omega))
       refine s1 (A1i _) rfl rfl rfl ?_;refine s1 (H3 _ _ _) rfl rfl rfl ?_;refine s4 rfl (fun g5=>?_) fun g5=>?_
       ·refine s32 (A38 _) rfl rfl ?_;first|refine s5 rfl (fun g6=>?_) (fun g6=>?_)|refine s5B rfl (fun g6=>?_) (fun g6=>?_)
        ·refine s7 [.bool _] rfl ?_;have z0:=B4 m hc.1 hc.2;have z1:=B8 c;refine l1 ?_;first|(refine decide_eq_decide.2 ?_;unfold A7 chP okU;omega)|(symm;first|exact decide_eq_true (by unfold A7 chP okU at *;omega)|exact decide_eq_false (by unfold A7 chP okU at *;omega))
        refine s1 (B7w _) rfl rfl rfl ?_;refine s1 (A8 _ _ _) rfl rfl rfl ?_;refine s7 [.bool _] rfl ?_;have z0:=B4 m hc.1 hc.2;have z1:=B8 c;refine l1 ?_;first|(refine decide_eq_decide.2 ?_;unfold A7 chP okU;omega)|(symm;first|exact decide_eq_true (by unfold A7 chP okU at *;omega)|exact decide_eq_false (by unfold A7 chP okU at *;omega))
       refine s1 (A8 _ _ _) rfl rfl rfl ?_;refine s4 rfl (fun g6=>?_) fun g6=>?_
       ·refine s7 [.bool _] rfl ?_;have z0:=B4 m hc.1 hc.2;have z1:=B8 c;refine l1 ?_;first|(refine decide_eq_decide.2 ?_;unfold A7 chP okU;omega)|(symm;first|exact decide_eq_true (by unfold A7 chP okU at *;omega)|exact decide_eq_false (by unfold A7 chP okU at *;omega))
       refine s1 (A8 _ _ _) rfl rfl rfl ?_;refine s5 rfl (fun g7=>?_) fun g7=>?_
       ·refine s7 [.bool _] rfl ?_;have z0:=B4 m hc.1 hc.2;have z1:=B8 c;refine l1 ?_;first|(refine decide_eq_decide.2 ?_;unfold A7 chP okU;omega)|(symm;first|exact decide_eq_true (by unfold A7 chP okU at *;omega)|exact decide_eq_false (by unfold A7 chP okU at *;omega))
       refine s1 (H3 _ _ _) rfl rfl rfl ?_;refine s5 rfl (fun g8=>?_) fun g8=>?_
       ·refine s7 [.bool _] rfl ?_;have z0:=B4 m hc.1 hc.2;have z1:=B8 c;refine l1 ?_;first|(refine decide_eq_decide.2 ?_;unfold A7 chP okU;omega)|(symm;first|exact decide_eq_true (by unfold A7 chP okU at *;omega)|exact decide_eq_false (by unfold A7 chP okU at *;omega))
       refine s1 (H3 _ _ _) rfl rfl rfl ?_;refine s7 [.bool _] rfl ?_;have z0:=B4 m hc.1 hc.2;have z1:=B8 c;refine l1 ?_;first|(refine decide_eq_decide.2 ?_;unfold A7 chP okU;omega)|(symm;first|exact decide_eq_true (by unfold A7 chP okU at *;omega)|exact decide_eq_false (by unfold A7 chP okU at *;omega))
      refine s1 (A8 _ _ _) rfl rfl rfl ?_;refine s4 rfl (fun g4=>?_) fun g4=>?_
      ·refine s1 (A8 _ _ _) rfl rfl rfl ?_;refine s4 rfl (fun g5=>?_) fun g5=>?_
       ·refine s7 [.bool _] rfl ?_;have z0:=B4 m hc.1 hc.2;have z1:=B8 c;refine l1 ?_;first|(refine decide_eq_decide.2 ?_;unfold A7 chP okU;omega)|(symm;first|exact decide_eq_true (by unfold A7 chP okU at *;omega)|exact decide_eq_false (by unfold A7 chP okU at *;omega))
       refine s1 (A8 _ _ _) rfl rfl rfl ?_;refine s4 rfl (fun g6=>?_) fun g6=>?_
       ·refine s7 [.bool _] rfl ?_;have z0:=B4 m hc.1 hc.2;have z1:=B8 c;refine l1 ?_;first|(refine decide_eq_decide.2 ?_;unfold A7 chP okU;omega)|(symm;first|exact decide_eq_true (by unfold A7 chP okU at *;omega)|exact decide_eq_false (by unfold A7 chP okU at *;omega))
       refine s1 (A8 _ _ _) rfl rfl rfl ?_;refine s7 [.bool _] rfl ?_;have z0:=B4 m hc.1 hc.2;have z1:=B8 c;refine l1 ?_;first|(refine decide_eq_decide.2 ?_;unfold A7 chP okU;omega)|(symm;first|exact decide_eq_true (by unfold A7 chP okU at *;omega)|exact decide_eq_false (by unfold A7 chP okU at *;omega))
      refine s1 (A8 _ _ _) rfl rfl rfl ?_;refine s4 rfl (fun g5=>?_) fun g5=>?_
      ·refine s1 (A8 _ _ _) rfl rfl rfl ?_;refine s4 rfl (fun g6=>?_) fun g6=>?_
       ·refine s7 [.bool _] rfl ?_;have z0:=B4 m hc.1 hc.2;have z1:=B8 c;refine l1 ?_;first|(refine decide_eq_decide.2 ?_;unfold A7 chP okU;omega)|(symm;first|exact decide_eq_true (by unfold A7 chP okU at *;omega)|exact decide_eq_false (by unfold A7 chP okU at *;omega))
       refine s1 (A8 _ _ _) rfl rfl rfl ?_;refine s7 [.bool _] rfl ?_;have z0:=B4 m hc.1 hc.2;have z1:=B8 c;refine l1 ?_;first|(refine decide_eq_decide.2 ?_;unfold A7 chP okU;omega)|(symm;first|exact decide_eq_true (by unfold A7 chP okU at *;omega)|exact decide_eq_false (by unfold A7 chP okU at *;omega))
      refine s1 (A8 _ _ _) rfl rfl rfl ?_;refine s4 rfl (fun g6=>?_) fun g6=>?_
      ·refine s1 (A8 _ _ _) rfl rfl rfl ?_;refine s4 rfl (fun g7=>?_) fun g7=>?_
       ·refine s7 [.bool _] rfl ?_;have z0:=B4 m hc.1 hc.2;have z1:=B8 c;refine l1 ?_;first|(refine decide_eq_decide.2 ?_;unfold A7 chP okU;omega)|(symm;first|exact decide_eq_true (by unfold A7 chP okU at *;omega)|exact decide_eq_false (by unfold A7 chP okU at *;omega))
       refine s1 (A8 _ _ _) rfl rfl rfl ?_;refine s7 [.bool _] rfl ?_;have z0:=B4 m hc.1 hc.2;have z1:=B8 c;refine l1 ?_;first|(refine decide_eq_decide.2 ?_;unfold A7 chP okU;omega)|(symm;first|exact decide_eq_true (by unfold A7 chP okU at *;omega)|exact decide_eq_false (by unfold A7 chP okU at *;omega))
      refine s1 (A8 _ _ _) rfl rfl rfl ?_;refine s4 rfl (fun g7=>?_) fun g7=>?_
      ·refine s1 (A8 _ _ _) rfl rfl rfl ?_;refine s7 [.bool _] rfl ?_;have z0:=B4 m hc.1 hc.2;have z1:=B8 c;refine l1 ?_;first|(refine decide_eq_decide.2 ?_;unfold A7 chP okU;omega)|(symm;first|exact decide_eq_true (by unfold A7 chP okU at *;omega)|exact decide_eq_false (by unfold A7 chP okU at *;omega))
      refine s1 (F2 _ _ _) rfl rfl rfl ?_;refine s5 rfl (fun g8=>?_) fun g8=>?_
      ·refine s7 [.bool _] rfl ?_;have z0:=B4 m hc.1 hc.2;have z1:=B8 c;refine l1 ?_;first|(refine decide_eq_decide.2 ?_;unfold A7 chP okU;omega)|(symm;first|exact decide_eq_true (by unfold A7 chP okU at *;omega)|exact decide_eq_false (by unfold A7 chP okU at *;omega))
      refine s1 (G0 _ _ _) rfl rfl rfl ?_;refine s5 rfl (fun g9=>?_) fun g9=>?_
      ·refine s7 [.bool _] rfl ?_;have z0:=B4 m hc.1 hc.2;have z1:=B8 c;refine l1 ?_;first|(refine decide_eq_decide.2 ?_;unfold A7 chP okU;omega)|(symm;first|exact decide_eq_true (by unfold A7 chP okU at *;omega)|exact decide_eq_false (by unfold A7 chP okU at *;omega))
      refine s1 (F2 _ _ _) rfl rfl rfl ?_;refine s5 rfl (fun g10=>?_) fun g10=>?_
      ·refine s7 [.bool _] rfl ?_;have z0:=B4 m hc.1 hc.2;have z1:=B8 c;refine l1 ?_;first|(refine decide_eq_decide.2 ?_;unfold A7 chP okU;omega)|(symm;first|exact decide_eq_true (by unfold A7 chP okU at *;omega)|exact decide_eq_false (by unfold A7 chP okU at *;omega))
      refine s1 (G0 _ _ _) rfl rfl rfl ?_;refine s7 [.bool _] rfl ?_;have z0:=B4 m hc.1 hc.2;have z1:=B8 c;refine l1 ?_;first|(refine decide_eq_decide.2 ?_;unfold A7 chP okU;omega)|(symm;first|exact decide_eq_true (by unfold A7 chP okU at *;omega)|exact decide_eq_false (by unfold A7 chP okU at *;omega))
     refine s1 (A8 _ _ _) rfl rfl rfl ?_;refine s4 rfl (fun g3=>?_) fun g3=>?_
     ·refine s1 (A8 _ _ _) rfl rfl rfl ?_;refine s4 rfl (fun g4=>?_) fun g4=>?_
      ·refine s7 [.bool _] rfl ?_;have z0:=B4 m hc.1 hc.2;have z1:=B8 c;refine l1 ?_;first|(refine decide_eq_decide.2 ?_;unfold A7 chP okU;omega)|(symm;first|exact decide_eq_true (by unfold A7 chP okU at *;omega)|exact decide_eq_false (by unfold A7 chP okU at *;omega))
      refine s1 (A8 _ _ _) rfl rfl rfl ?_;refine s4 rfl (fun g5=>?_) fun g5=>?_
      ·refine s7 [.bool _] rfl ?_;have z0:=B4 m hc.1 hc.2;have z1:=B8 c;refine l1 ?_;first|(refine decide_eq_decide.2 ?_;unfold A7 chP okU;omega)|(symm;first|exact decide_eq_true (by unfold A7 chP okU at *;omega)|exact decide_eq_false (by unfold A7 chP okU at *;omega))
      refine s1 (A8 _ _ _) rfl rfl rfl ?_;refine s7 [.bool _] rfl ?_;have z0:=B4 m hc.1 hc.2;have z1:=B8 c;refine l1 ?_;first|(refine decide_eq_decide.2 ?_;unfold A7 chP okU;omega)|(symm;first|exact decide_eq_true (by unfold A7 chP okU at *;omega)|exact decide_eq_false (by unfold A7 chP okU at *;omega))
     refine s1 (A8 _ _ _) rfl rfl rfl ?_;refine s4 rfl (fun g4=>?_) fun g4=>?_
     ·refine s1 (A8 _ _ _) rfl rfl rfl ?_;refine s4 rfl (fun g5=>?_) fun g5=>?_
      ·refine s7 [.bool _] rfl ?_;have z0:=B4 m hc.1 hc.2;have z1:=B8 c;refine l1 ?_;first|(refine decide_eq_decide.2 ?_;unfold A7 chP okU;omega)|(symm;first|exact decide_eq_true (by unfold A7 chP okU at *;omega)|exact decide_eq_false (by unfold A7 chP okU at *;omega))
      refine s1 (A8 _ _ _) rfl rfl rfl ?_;refine s7 [.bool _] rfl ?_;have z0:=B4 m hc.1 hc.2;have z1:=B8 c;refine l1 ?_;first|(refine decide_eq_decide.2 ?_;unfold A7 chP okU;omega)|(symm;first|exact decide_eq_true (by unfold A7 chP okU at *;omega)|exact decide_eq_false (by unfold A7 chP okU at *;omega))
     refine s1 (A8 _ _ _) rfl rfl rfl ?_;refine s4 rfl (fun g5=>?_) fun g5=>?_
     ·refine s1 (A8 _ _ _) rfl rfl rfl ?_;refine s4 rfl (fun g6=>?_) fun g6=>?_
      ·refine s7 [.bool _] rfl ?_;have z0:=B4 m hc.1 hc.2;have z1:=B8 c;refine l1 ?_;first|(refine decide_eq_decide.2 ?_;unfold A7 chP okU;omega)|(symm;first|exact decide_eq_true (by unfold A7 chP okU at *;omega)|exact decide_eq_false (by unfold A7 chP okU at *;omega))
      refine s1 (A8 _ _ _) rfl rfl rfl ?_;refine s7 [.bool _] rfl ?_;have z0:=B4 m hc.1 hc.2;have z1:=B8 c;refine l1 ?_;first|(refine decide_eq_decide.2 ?_;unfold A7 chP okU;omega)|(symm;first|exact decide_eq_true (by unfold A7 chP okU at *;omega)|exact decide_eq_false (by unfold A7 chP okU at *;omega))
     refine s1 (A8 _ _ _) rfl rfl rfl ?_;refine s4 rfl (fun g6=>?_) fun g6=>?_
     ·refine s1 (A8 _ _ _) rfl rfl rfl ?_;refine s7 [.bool _] rfl ?_;have z0:=B4 m hc.1 hc.2;have z1:=B8 c;refine l1 ?_;first|(refine decide_eq_decide.2 ?_;unfold A7 chP okU;omega)|(symm;first|exact decide_eq_true (by unfold A7 chP okU at *;omega)|exact decide_eq_false (by unfold A7 chP okU at *;omega))
     refine s1 (F2 _ _ _) rfl rfl rfl ?_;refine s5 rfl (fun g7=>?_) fun g7=>?_
     ·refine s7 [.bool _] rfl ?_;have z0:=B4 m hc.1 hc.2;have z1:=B8 c;refine l1 ?_;first|(refine decide_eq_decide.2 ?_;unfold A7 chP okU;omega)|(symm;first|exact decide_eq_true (by unfold A7 chP okU at *;omega)|exact decide_eq_false (by unfold A7 chP okU at *;omega))
     refine s1 (G0 _ _ _) rfl rfl rfl ?_;refine s5 rfl (fun g8=>?_) fun g8=>?_
     ·refine s7 [.bool _] rfl ?_;have z0:=B4 m hc.1 hc.2;have z1:=B8 c;refine l1 ?_;first|(refine decide_eq_decide.2 ?_;unfold A7 chP okU;omega)|(symm;first|exact decide_eq_true (by unfold A7 chP okU at *;omega)|exact decide_eq_false (by unfold A7 chP okU at *;omega))
     refine s1 (F2 _ _ _) rfl rfl rfl ?_;refine s5 rfl (fun g9=>?_) fun g9=>?_
     ·refine s7 [.bool _] rfl ?_;have z0:=B4 m hc.1 hc.2;have z1:=B8 c;refine l1 ?_;first|(refine decide_eq_decide.2 ?_;unfold A7 chP okU;omega)|(symm;first|exact decide_eq_true (by unfold A7 chP okU at *;omega)|exact decide_eq_false (by unfold A7 chP okU at *;omega))
     refine s1 (G0 _ _ _) rfl rfl rfl ?_;refine s7 [.bool _] rfl ?_;have z0:=B4 m hc.1 hc.2;have z1:=B8 c;refine l1 ?_;first|(refine decide_eq_decide.2 ?_;unfold A7 chP okU;omega)|(symm;first|exact decide_eq_true (by unfold A7 chP okU at *;omega)|exact decide_eq_false (by unfold A7 chP okU at *;omega))
    refine s1 (A8 _ _ _) rfl rfl rfl ?_;refine s4 rfl (fun g2=>?_) fun g2=>?_
    ·refine s1 (A8 _ _ _) rfl rfl rfl ?_;refine s4 rfl (fun g3=>?_) fun g3=>?_
     ·refine s7 [.bool _] rfl ?_;have z0:=B4 m hc.1 hc.2;have z1:=B8 c;refine l1 ?_;first|(refine decide_eq_decide.2 ?_;unfold A7 chP okU;omega)|(symm;first|exact decide_eq_true (by unfold A7 chP okU at *;omega)|exact decide_eq_false (by unfold A7 chP okU at *;omega))
     refine s1 (A8 _ _ _) rfl rfl rfl ?_;refine s4 rfl (fun g4=>?_) fun g4=>?_
     ·refine s7 [.bool _] rfl ?_;have z0:=B4 m hc.1 hc.2;have z1:=B8 c;refine l1 ?_;first|(refine decide_eq_decide.2 ?_;unfold A7 chP okU;omega)|(symm;first|exact decide_eq_true (by unfold A7 chP okU at *;omega)|exact decide_eq_false (by unfold A7 chP okU at *;omega))
     refine s1 (A8 _ _ _) rfl rfl rfl ?_;refine s7 [.bool _] rfl ?_;have z0:=B4 m hc.1 hc.2;have z1:=B8 c;refine l1 ?_;first|(refine decide_eq_decide.2 ?_;unfold A7 chP okU;omega)|(symm;first|exact decide_eq_true (by unfold A7 chP okU at *;omega)|exact decide_eq_false (by unfold A7 chP okU at *;omega))
    refine s1 (A8 _ _ _) rfl rfl rfl ?_;refine s4 rfl (fun g3=>?_) fun g3=>?_
    ·refine s1 (A8 _ _ _) rfl rfl rfl ?_;refine s4 rfl (fun g4=>?_) fun g4=>?_
     ·refine s7 [.bool _] rfl ?_;have z0:=B4 m hc.1 hc.2;have z1:=B8 c;refine l1 ?_;first|(refine decide_eq_decide.2 ?_;unfold A7 chP okU;omega)|(symm;first|exact decide_eq_true (by unfold A7 chP okU at *;omega)|exact decide_eq_false (by unfold A7 chP okU at *;omega))
     refine s1 (A8 _ _ _) rfl rfl rfl ?_;refine s7 [.bool _] rfl ?_;have z0:=B4 m hc.1 hc.2;have z1:=B8 c;refine l1 ?_;first|(refine decide_eq_decide.2 ?_;unfold A7 chP okU;omega)|(symm;first|exact decide_eq_true (by unfold A7 chP okU at *;omega)|exact decide_eq_false (by unfold A7 chP okU at *;omega))
    refine s1 (A8 _ _ _) rfl rfl rfl ?_;refine s4 rfl (fun g4=>?_) fun g4=>?_
    ·refine s1 (A8 _ _ _) rfl rfl rfl ?_;refine s4 rfl (fun g5=>?_) fun g5=>?_
     ·refine s7 [.bool _] rfl ?_;have z0:=B4 m hc.1 hc.2;have z1:=B8 c;refine l1 ?_;first|(refine decide_eq_decide.2 ?_;unfold A7 chP okU;omega)|(symm;first|exact decide_eq_true (by unfold A7 chP okU at *;omega)|exact decide_eq_false (by unfold A7 chP okU at *;omega))
     refine s1 (A8 _ _ _) rfl rfl rfl ?_;refine s7 [.bool _] rfl ?_;have z0:=B4 m hc.1 hc.2;have z1:=B8 c;refine l1 ?_;first|(refine decide_eq_decide.2 ?_;unfold A7 chP okU;omega)|(symm;first|exact decide_eq_true (by unfold A7 chP okU at *;omega)|exact decide_eq_false (by unfold A7 chP okU at *;omega))
    refine s1 (A8 _ _ _) rfl rfl rfl ?_;refine s4 rfl (fun g5=>?_) fun g5=>?_
    ·refine s1 (A8 _ _ _) rfl rfl rfl ?_;refine s7 [.bool _] rfl ?_;have z0:=B4 m hc.1 hc.2;have z1:=B8 c;refine l1 ?_;first|(refine decide_eq_decide.2 ?_;unfold A7 chP okU;omega)|(symm;first|exact decide_eq_true (by unfold A7 chP okU at *;omega)|exact decide_eq_false (by unfold A7 chP okU at *;omega))
    refine s1 (F2 _ _ _) rfl rfl rfl ?_;refine s5 rfl (fun g6=>?_) fun g6=>?_
    ·refine s7 [.bool _] rfl ?_;have z0:=B4 m hc.1 hc.2;have z1:=B8 c;refine l1 ?_;first|(refine decide_eq_decide.2 ?_;unfold A7 chP okU;omega)|(symm;first|exact decide_eq_true (by unfold A7 chP okU at *;omega)|exact decide_eq_false (by unfold A7 chP okU at *;omega))
    refine s1 (G0 _ _ _) rfl rfl rfl ?_;refine s5 rfl (fun g7=>?_) fun g7=>?_
    ·refine s7 [.bool _] rfl ?_;have z0:=B4 m hc.1 hc.2;have z1:=B8 c;refine l1 ?_;first|(refine decide_eq_decide.2 ?_;unfold A7 chP okU;omega)|(symm;first|exact decide_eq_true (by unfold A7 chP okU at *;omega)|exact decide_eq_false (by unfold A7 chP okU at *;omega))
    refine s1 (F2 _ _ _) rfl rfl rfl ?_;refine s5 rfl (fun g8=>?_) fun g8=>?_
    ·refine s7 [.bool _] rfl ?_;have z0:=B4 m hc.1 hc.2;have z1:=B8 c;refine l1 ?_;first|(refine decide_eq_decide.2 ?_;unfold A7 chP okU;omega)|(symm;first|exact decide_eq_true (by unfold A7 chP okU at *;omega)|exact decide_eq_false (by unfold A7 chP okU at *;omega))
    refine s1 (G0 _ _ _) rfl rfl rfl ?_;refine s7 [.bool _] rfl ?_;have z0:=B4 m hc.1 hc.2;have z1:=B8 c;refine l1 ?_;first|(refine decide_eq_decide.2 ?_;unfold A7 chP okU;omega)|(symm;first|exact decide_eq_true (by unfold A7 chP okU at *;omega)|exact decide_eq_false (by unfold A7 chP okU at *;omega))
   refine s1 (A8 _ _ _) rfl rfl rfl ?_;refine s4 rfl (fun g1=>?_) fun g1=>?_
   ·refine s1 (A8 _ _ _) rfl rfl rfl ?_;refine s4 rfl (fun g2=>?_) fun g2=>?_
    ·refine s7 [.bool _] rfl ?_;have z0:=B4 m hc.1 hc.2;have z1:=B8 c;refine l1 ?_;first|(refine decide_eq_decide.2 ?_;unfold A7 chP okU;omega)|(symm;first|exact decide_eq_true (by unfold A7 chP okU at *;omega)|exact decide_eq_false (by unfold A7 chP okU at *;omega))
    refine s1 (A8 _ _ _) rfl rfl rfl ?_;refine s4 rfl (fun g3=>?_) fun g3=>?_
    ·refine s7 [.bool _] rfl ?_;have z0:=B4 m hc.1 hc.2;have z1:=B8 c;refine l1 ?_;first|(refine decide_eq_decide.2 ?_;unfold A7 chP okU;omega)|(symm;first|exact decide_eq_true (by unfold A7 chP okU at *;omega)|exact decide_eq_false (by unfold A7 chP okU at *;omega))
    refine s1 (A8 _ _ _) rfl rfl rfl ?_;refine s7 [.bool _] rfl ?_;have z0:=B4 m hc.1 hc.2;have z1:=B8 c;refine l1 ?_;first|(refine decide_eq_decide.2 ?_;unfold A7 chP okU;omega)|(symm;first|exact decide_eq_true (by unfold A7 chP okU at *;omega)|exact decide_eq_false (by unfold A7 chP okU at *;omega))
   refine s1 (A8 _ _ _) rfl rfl rfl ?_;refine s4 rfl (fun g2=>?_) fun g2=>?_
   ·refine s1 (A8 _ _ _) rfl rfl rfl ?_;refine s4 rfl (fun g3=>?_) fun g3=>?_
    ·refine s7 [.bool _] rfl ?_;have z0:=B4 m hc.1 hc.2;have z1:=B8 c;refine l1 ?_;first|(refine decide_eq_decide.2 ?_;unfold A7 chP okU;omega)|(symm;first|exact decide_eq_true (by unfold A7 chP okU at *;omega)|exact decide_eq_false (by unfold A7 chP okU at *;omega))
    refine s1 (A8 _ _ _) rfl rfl rfl ?_;refine s7 [.bool _] rfl ?_;have z0:=B4 m hc.1 hc.2;have z1:=B8 c;refine l1 ?_;first|(refine decide_eq_decide.2 ?_;unfold A7 chP okU;omega)|(symm;first|exact decide_eq_true (by unfold A7 chP okU at *;omega)|exact decide_eq_false (by unfold A7 chP okU at *;omega))
   refine s1 (A8 _ _ _) rfl rfl rfl ?_;refine s4 rfl (fun g3=>?_) fun g3=>?_
   ·refine s1 (A8 _ _ _) rfl rfl rfl ?_;refine s4 rfl (fun g4=>?_) fun g4=>?_
    ·refine s7 [.bool _] rfl ?_;have z0:=B4 m hc.1 hc.2;have z1:=B8 c;refine l1 ?_;first|(refine decide_eq_decide.2 ?_;unfold A7 chP okU;omega)|(symm;first|exact decide_eq_true (by unfold A7 chP okU at *;omega)|exact decide_eq_false (by unfold A7 chP okU at *;omega))
    refine s1 (A8 _ _ _) rfl rfl rfl ?_;refine s7 [.bool _] rfl ?_;have z0:=B4 m hc.1 hc.2;have z1:=B8 c;refine l1 ?_;first|(refine decide_eq_decide.2 ?_;unfold A7 chP okU;omega)|(symm;first|exact decide_eq_true (by unfold A7 chP okU at *;omega)|exact decide_eq_false (by unfold A7 chP okU at *;omega))
   refine s1 (A8 _ _ _) rfl rfl rfl ?_;refine s4 rfl (fun g4=>?_) fun g4=>?_
   ·refine s1 (A8 _ _ _) rfl rfl rfl ?_;refine s7 [.bool _] rfl ?_;have z0:=B4 m hc.1 hc.2;have z1:=B8 c;refine l1 ?_;first|(refine decide_eq_decide.2 ?_;unfold A7 chP okU;omega)|(symm;first|exact decide_eq_true (by unfold A7 chP okU at *;omega)|exact decide_eq_false (by unfold A7 chP okU at *;omega))
   refine s1 (F2 _ _ _) rfl rfl rfl ?_;refine s5 rfl (fun g5=>?_) fun g5=>?_
   ·refine s7 [.bool _] rfl ?_;have z0:=B4 m hc.1 hc.2;have z1:=B8 c;refine l1 ?_;first|(refine decide_eq_decide.2 ?_;unfold A7 chP okU;omega)|(symm;first|exact decide_eq_true (by unfold A7 chP okU at *;omega)|exact decide_eq_false (by unfold A7 chP okU at *;omega))
   refine s1 (G0 _ _ _) rfl rfl rfl ?_;refine s5 rfl (fun g6=>?_) fun g6=>?_
   ·refine s7 [.bool _] rfl ?_;have z0:=B4 m hc.1 hc.2;have z1:=B8 c;refine l1 ?_;first|(refine decide_eq_decide.2 ?_;unfold A7 chP okU;omega)|(symm;first|exact decide_eq_true (by unfold A7 chP okU at *;omega)|exact decide_eq_false (by unfold A7 chP okU at *;omega))
   refine s1 (F2 _ _ _) rfl rfl rfl ?_;refine s5 rfl (fun g7=>?_) fun g7=>?_
   ·refine s7 [.bool _] rfl ?_;have z0:=B4 m hc.1 hc.2;have z1:=B8 c;refine l1 ?_;first|(refine decide_eq_decide.2 ?_;unfold A7 chP okU;omega)|(symm;first|exact decide_eq_true (by unfold A7 chP okU at *;omega)|exact decide_eq_false (by unfold A7 chP okU at *;omega))
   refine s1 (G0 _ _ _) rfl rfl rfl ?_;refine s7 [.bool _] rfl ?_;have z0:=B4 m hc.1 hc.2;have z1:=B8 c;refine l1 ?_;first|(refine decide_eq_decide.2 ?_;unfold A7 chP okU;omega)|(symm;first|exact decide_eq_true (by unfold A7 chP okU at *;omega)|exact decide_eq_false (by unfold A7 chP okU at *;omega))
  ·cases hs
 ·cases hs
noncomputable def C1o:List (FuncId×FnC):=(64,N3 Tryz.prog [.s 3] A4K [.s 3])::L0
theorem B8d{G:Nat→Option Obj}(hst:D2 Tryz.prog G gl H0 n0):J3 Tryz.prog G gl C1o:=(.cons (C0q hst) .nil)
def R6:List U→Option (Nat×List U)
 | [.int .i64 c,.int .i64 m]=>if -9223372036854775808≤m∧m≤9223372036854775807 then some (0,[.bool (decide (A7 c m))])else none
 | _=>none
theorem N1(c:Int)(m:Int)(hc : -9223372036854775808≤m∧m≤9223372036854775807):R6 [.int .i64 c,.int .i64 m]=some (0,[.bool (decide (A7 c m))]):=if_pos hc
def C0f:Tr:=.lt 8 (.bin .geq) [h 0 3,jI 0]<|.br 2 (.lt 8 (.bin .leq) [h 0 3,jI 1114111]<|.br 3 (.lt 8 (.bin .lss) [h 0 3,jI 55296]<|.br 4 (.lt 8 (.bin .geq) [h 0 3,jI 32]<|.br 5 (.lt 8 (.bin .geq) [h 0 3,jI 127]<|.br 6 (.lt 8 (.bin .leq) [h 0 3,jI 159]<|.lt 8 (.un .not) [h 7 8]<|.br 8 (.lt 8 (.bin .eql) [h 1 3,jI 0]<|.br 9 (.ret [.bool true]) (.lt 8 (.bin .eql) [h 1 3,jI 2]<|.br 10 (.lt 8 (.bin .neq) [h 0 3,jI 91]<|.br 11 (.lt 8 (.bin .neq) [h 0 3,jI 79]<|.ret [h 12 8]) (.ret [.bool false])) (.fn A4K [h 0 3] 1<|.lt 8 (.bin .geq) [h 11 3,jI 0]<|.br 12 (.lt 8 (.bin .eql) [h 1 3,jI 4]<|.br 13 (.ret [.bool true]) (.lt 8 (.bin .eql) [h 1 3,jI 6]<|.ret [h 14 8])) (.ret [.bool false])))) (.lt 8 (.bin .geq) [h 0 3,jI 1114113]<|.br 9 (.lt 8 (.bin .leq) [h 0 3,jI 1114134]<|.br 10 (.lt 8 (.bin .geq) [h 1 3,jI 0]<|.br 11 (.lt 8 (.bin .leq) [h 1 3,jI 7]<|.ret [h 12 8]) (.ret [.bool false])) (.lt 8 (.bin .eql) [h 0 3,jI 1114135]<|.br 11 (.lt 8 (.bin .eql) [h 1 3,jI 0]<|.br 12 (.ret [.bool true]) (.lt 8 (.bin .eql) [h 1 3,jI 2]<|.ret [h 13 8])) (.lt 8 (.bin .eql) [h 0 3,jI 1114137]<|.br 12 (.lt 8 (.bin .eql) [h 1 3,jI 0]<|.br 13 (.ret [.bool true]) (.lt 8 (.bin .eql) [h 1 3,jI 2]<|.ret [h 14 8])) (.lt 8 (.bin .eql) [h 0 3,jI 1114136]<|.br 13 (.lt 8 (.bin .eql) [h 1 3,jI 0]<|.br 14 (.ret [.bool true]) (.lt 8 (.bin .eql) [h 1 3,jI 1]<|.br 15 (.ret [.bool true]) (.lt 8 (.bin .eql) [h 1 3,jI 2]<|.ret [h 16 8]))) (.lt 8 (.bin .eql) [h 0 3,jI 1114138]<|.br 14 (.lt 8 (.bin .eql) [h 1 3,jI 0]<|.ret [h 15 8]) (.ret [.bool false])))))) (.lt 8 (.bin .eql) [h 0 3,jI 1114135]<|.br 10 (.lt 8 (.bin .eql) [h 1 3,jI 0]<|.br 11 (.ret [.bool true]) (.lt 8 (.bin .eql) [h 1 3,jI 2]<|.ret [h 12 8])) (.lt 8 (.bin .eql) [h 0 3,jI 1114137]<|.br 11 (.lt 8 (.bin .eql) [h 1 3,jI 0]<|.br 12 (.ret [.bool true]) (.lt 8 (.bin .eql) [h 1 3,jI 2]<|.ret [h 13 8])) (.lt 8 (.bin .eql) [h 0 3,jI 1114136]<|.br 12 (.lt 8 (.bin .eql) [h 1 3,jI 0]<|.br 13 (.ret [.bool true]) (.lt 8 (.bin .eql) [h 1 3,jI 1]<|.br 14 (.ret [.bool true]) (.lt 8 (.bin .eql) [h 1 3,jI 2]<|.ret [h 15 8]))) (.lt 8 (.bin .eql) [h 0 3,jI 1114138]<|.br 13 (.lt 8 (.bin .eql) [h 1 3,jI 0]<|.ret [h 14 8]) (.ret [.bool false]))))))) (.lt 8 (.bin .eql) [h 1 3,jI 0]<|.br 7 (.ret [.bool true]) (.lt 8 (.bin .eql) [h 1 3,jI 2]<|.br 8 (.lt 8 (.bin .neq) [h 0 3,jI 91]<|.br 9 (.lt 8 (.bin .neq) [h 0 3,jI 79]<|.ret [h 10 8]) (.ret [.bool false])) (.fn A4K [h 0 3] 1<|.lt 8 (.bin .geq) [h 9 3,jI 0]<|.br 10 (.lt 8 (.bin .eql) [h 1 3,jI 4]<|.br 11 (.ret [.bool true]) (.lt 8 (.bin .eql) [h 1 3,jI 6]<|.ret [h 12 8])) (.ret [.bool false]))))) (.lt 8 (.bin .geq) [h 0 3,jI 1114113]<|.br 6 (.lt 8 (.bin .leq) [h 0 3,jI 1114134]<|.br 7 (.lt 8 (.bin .geq) [h 1 3,jI 0]<|.br 8 (.lt 8 (.bin .leq) [h 1 3,jI 7]<|.ret [h 9 8]) (.ret [.bool false])) (.lt 8 (.bin .eql) [h 0 3,jI 1114135]<|.br 8 (.lt 8 (.bin .eql) [h 1 3,jI 0]<|.br 9 (.ret [.bool true]) (.lt 8 (.bin .eql) [h 1 3,jI 2]<|.ret [h 10 8])) (.lt 8 (.bin .eql) [h 0 3,jI 1114137]<|.br 9 (.lt 8 (.bin .eql) [h 1 3,jI 0]<|.br 10 (.ret [.bool true]) (.lt 8 (.bin .eql) [h 1 3,jI 2]<|.ret [h 11 8])) (.lt 8 (.bin .eql) [h 0 3,jI 1114136]<|.br 10 (.lt 8 (.bin .eql) [h 1 3,jI 0]<|.br 11 (.ret [.bool true]) (.lt 8 (.bin .eql) [h 1 3,jI 1]<|.br 12 (.ret [.bool true]) (.lt 8 (.bin .eql) [h 1 3,jI 2]<|.ret [h 13 8]))) (.lt 8 (.bin .eql) [h 0 3,jI 1114138]<|.br 11 (.lt 8 (.bin .eql) [h 1 3,jI 0]<|.ret [h 12 8]) (.ret [.bool false])))))) (.lt 8 (.bin .eql) [h 0 3,jI 1114135]<|.br 7 (.lt 8 (.bin .eql) [h 1 3,jI 0]<|.br 8 (.ret [.bool true]) (.lt 8 (.bin .eql) [h 1 3,jI 2]<|.ret [h 9 8])) (.lt 8 (.bin .eql) [h 0 3,jI 1114137]<|.br 8 (.lt 8 (.bin .eql) [h 1 3,jI 0]<|.br 9 (.ret [.bool true]) (.lt 8 (.bin .eql) [h 1 3,jI 2]<|.ret [h 10 8])) (.lt 8 (.bin .eql) [h 0 3,jI 1114136]<|.br 9 (.lt 8 (.bin .eql) [h 1 3,jI 0]<|.br 10 (.ret [.bool true]) (.lt 8 (.bin .eql) [h 1 3,jI 1]<|.br 11 (.ret [.bool true]) (.lt 8 (.bin .eql) [h 1 3,jI 2]<|.ret [h 12 8]))) (.lt 8 (.bin .eql) [h 0 3,jI 1114138]<|.br 10 (.lt 8 (.bin .eql) [h 1 3,jI 0]<|.ret [h 11 8]) (.ret [.bool false]))))))) (.lt 8 (.bin .gtr) [h 0 3,jI 57343]<|.br 5 (.lt 8 (.bin .geq) [h 0 3,jI 32]<|.br 6 (.lt 8 (.bin .geq) [h 0 3,jI 127]<|.br 7 (.lt 8 (.bin .leq) [h 0 3,jI 159]<|.lt 8 (.un .not) [h 8 8]<|.br 9 (.lt 8 (.bin .eql) [h 1 3,jI 0]<|.br 10 (.ret [.bool true]) (.lt 8 (.bin .eql) [h 1 3,jI 2]<|.br 11 (.lt 8 (.bin .neq) [h 0 3,jI 91]<|.br 12 (.lt 8 (.bin .neq) [h 0 3,jI 79]<|.ret [h 13 8]) (.ret [.bool false])) (.fn A4K [h 0 3] 1<|.lt 8 (.bin .geq) [h 12 3,jI 0]<|.br 13 (.lt 8 (.bin .eql) [h 1 3,jI 4]<|.br 14 (.ret [.bool true]) (.lt 8 (.bin .eql) [h 1 3,jI 6]<|.ret [h 15 8])) (.ret [.bool false])))) (.lt 8 (.bin .geq) [h 0 3,jI 1114113]<|.br 10 (.lt 8 (.bin .leq) [h 0 3,jI 1114134]<|.br 11 (.lt 8 (.bin .geq) [h 1 3,jI 0]<|.br 12 (.lt 8 (.bin .leq) [h 1 3,jI 7]<|.ret [h 13 8]) (.ret [.bool false])) (.lt 8 (.bin .eql) [h 0 3,jI 1114135]<|.br 12 (.lt 8 (.bin .eql) [h 1 3,jI 0]<|.br 13 (.ret [.bool true]) (.lt 8 (.bin .eql) [h 1 3,jI 2]<|.ret [h 14 8])) (.lt 8 (.bin .eql) [h 0 3,jI 1114137]<|.br 13 (.lt 8 (.bin .eql) [h 1 3,jI 0]<|.br 14 (.ret [.bool true]) (.lt 8 (.bin .eql) [h 1 3,jI 2]<|.ret [h 15 8])) (.lt 8 (.bin .eql) [h 0 3,jI 1114136]<|.br 14 (.lt 8 (.bin .eql) [h 1 3,jI 0]<|.br 15 (.ret [.bool true]) (.lt 8 (.bin .eql) [h 1 3,jI 1]<|.br 16 (.ret [.bool true]) (.lt 8 (.bin .eql) [h 1 3,jI 2]<|.ret [h 17 8]))) (.lt 8 (.bin .eql) [h 0 3,jI 1114138]<|.br 15 (.lt 8 (.bin .eql) [h 1 3,jI 0]<|.ret [h 16 8]) (.ret [.bool false])))))) (.lt 8 (.bin .eql) [h 0 3,jI 1114135]<|.br 11 (.lt 8 (.bin .eql) [h 1 3,jI 0]<|.br 12 (.ret [.bool true]) (.lt 8 (.bin .eql) [h 1 3,jI 2]<|.ret [h 13 8])) (.lt 8 (.bin .eql) [h 0 3,jI 1114137]<|.br 12 (.lt 8 (.bin .eql) [h 1 3,jI 0]<|.br 13 (.ret [.bool true]) (.lt 8 (.bin .eql) [h 1 3,jI 2]<|.ret [h 14 8])) (.lt 8 (.bin .eql) [h 0 3,jI 1114136]<|.br 13 (.lt 8 (.bin .eql) [h 1 3,jI 0]<|.br 14 (.ret [.bool true]) (.lt 8 (.bin .eql) [h 1 3,jI 1]<|.br 15 (.ret [.bool true]) (.lt 8 (.bin .eql) [h 1 3,jI 2]<|.ret [h 16 8]))) (.lt 8 (.bin .eql) [h 0 3,jI 1114138]<|.br 14 (.lt 8 (.bin .eql) [h 1 3,jI 0]<|.ret [h 15 8]) (.ret [.bool false]))))))) (.lt 8 (.bin .eql) [h 1 3,jI 0]<|.br 8 (.ret [.bool true]) (.lt 8 (.bin .eql) [h 1 3,jI 2]<|.br 9 (.lt 8 (.bin .neq) [h 0 3,jI 91]<|.br 10 (.lt 8 (.bin .neq) [h 0 3,jI 79]<|.ret [h 11 8]) (.ret [.bool false])) (.fn A4K [h 0 3] 1<|.lt 8 (.bin .geq) [h 10 3,jI 0]<|.br 11 (.lt 8 (.bin .eql) [h 1 3,jI 4]<|.br 12 (.ret [.bool true]) (.lt 8 (.bin .eql) [h 1 3,jI 6]<|.ret [h 13 8])) (.ret [.bool false]))))) (.lt 8 (.bin .geq) [h 0 3,jI 1114113]<|.br 7 (.lt 8 (.bin .leq) [h 0 3,jI 1114134]<|.br 8 (.lt 8 (.bin .geq) [h 1 3,jI 0]<|.br 9 (.lt 8 (.bin .leq) [h 1 3,jI 7]<|.ret [h 10 8]) (.ret [.bool false])) (.lt 8 (.bin .eql) [h 0 3,jI 1114135]<|.br 9 (.lt 8 (.bin .eql) [h 1 3,jI 0]<|.br 10 (.ret [.bool true]) (.lt 8 (.bin .eql) [h 1 3,jI 2]<|.ret [h 11 8])) (.lt 8 (.bin .eql) [h 0 3,jI 1114137]<|.br 10 (.lt 8 (.bin .eql) [h 1 3,jI 0]<|.br 11 (.ret [.bool true]) (.lt 8 (.bin .eql) [h 1 3,jI 2]<|.ret [h 12 8])) (.lt 8 (.bin .eql) [h 0 3,jI 1114136]<|.br 11 (.lt 8 (.bin .eql) [h 1 3,jI 0]<|.br 12 (.ret [.bool true]) (.lt 8 (.bin .eql) [h 1 3,jI 1]<|.br 13 (.ret [.bool true]) (.lt 8 (.bin .eql) [h 1 3,jI 2]<|.ret [h 14 8]))) (.lt 8 (.bin .eql) [h 0 3,jI 1114138]<|.br 12 (.lt 8 (.bin .eql) [h 1 3,jI 0]<|.ret [h 13 8]) (.ret [.bool false])))))) (.lt 8 (.bin .eql) [h 0 3,jI 1114135]<|.br 8 (.lt 8 (.bin .eql) [h 1 3,jI 0]<|.br 9 (.ret [.bool true]) (.lt 8 (.bin .eql) [h 1 3,jI 2]<|.ret [h 10 8])) (.lt 8 (.bin .eql) [h 0 3,jI 1114137]<|.br 9 (.lt 8 (.bin .eql) [h 1 3,jI 0]<|.br 10 (.ret [.bool true]) (.lt 8 (.bin .eql) [h 1 3,jI 2]<|.ret [h 11 8])) (.lt 8 (.bin .eql) [h 0 3,jI 1114136]<|.br 10 (.lt 8 (.bin .eql) [h 1 3,jI 0]<|.br 11 (.ret [.bool true]) (.lt 8 (.bin .eql) [h 1 3,jI 1]<|.br 12 (.ret [.bool true]) (.lt 8 (.bin .eql) [h 1 3,jI 2]<|.ret [h 13 8]))) (.lt 8 (.bin .eql) [h 0 3,jI 1114138]<|.br 11 (.lt 8 (.bin .eql) [h 1 3,jI 0]<|.ret [h 12 8]) (.ret [.bool false]))))))) (.lt 8 (.bin .geq) [h 0 3,jI 1114113]<|.br 6 (.lt 8 (.bin .leq) [h 0 3,jI 1114134]<|.br 7 (.lt 8 (.bin .geq) [h 1 3,jI 0]<|.br 8 (.lt 8 (.bin .leq) [h 1 3,jI 7]<|.ret [h 9 8]) (.ret [.bool false])) (.lt 8 (.bin .eql) [h 0 3,jI 1114135]<|.br 8 (.lt 8 (.bin .eql) [h 1 3,jI 0]<|.br 9 (.ret [.bool true]) (.lt 8 (.bin .eql) [h 1 3,jI 2]<|.ret [h 10 8])) (.lt 8 (.bin .eql) [h 0 3,jI 1114137]<|.br 9 (.lt 8 (.bin .eql) [h 1 3,jI 0]<|.br 10 (.ret [.bool true]) (.lt 8 (.bin .eql) [h 1 3,jI 2]<|.ret [h 11 8])) (.lt 8 (.bin .eql) [h 0 3,jI 1114136]<|.br 10 (.lt 8 (.bin .eql) [h 1 3,jI 0]<|.br 11 (.ret [.bool true]) (.lt 8 (.bin .eql) [h 1 3,jI 1]<|.br 12 (.ret [.bool true]) (.lt 8 (.bin .eql) [h 1 3,jI 2]<|.ret [h 13 8]))) (.lt 8 (.bin .eql) [h 0 3,jI 1114138]<|.br 11 (.lt 8 (.bin .eql) [h 1 3,jI 0]<|.ret [h 12 8]) (.ret [.bool false])))))) (.lt 8 (.bin .eql) [h 0 3,jI 1114135]<|.br 7 (.lt 8 (.bin .eql) [h 1 3,jI 0]<|.br 8 (.ret [.bool true]) (.lt 8 (.bin .eql) [h 1 3,jI 2]<|.ret [h 9 8])) (.lt 8 (.bin .eql) [h 0 3,jI 1114137]<|.br 8 (.lt 8 (.bin .eql) [h 1 3,jI 0]<|.br 9 (.ret [.bool true]) (.lt 8 (.bin .eql) [h 1 3,jI 2]<|.ret [h 10 8])) (.lt 8 (.bin .eql) [h 0 3,jI 1114136]<|.br 9 (.lt 8 (.bin .eql) [h 1 3,jI 0]<|.br 10 (.ret [.bool true]) (.lt 8 (.bin .eql) [h 1 3,jI 1]<|.br 11 (.ret [.bool true]) (.lt 8 (.bin .eql) [h 1 3,jI 2]<|.ret [h 12 8]))) (.lt 8 (.bin .eql) [h 0 3,jI 1114138]<|.br 10 (.lt 8 (.bin .eql) [h 1 3,jI 0]<|.ret [h 11 8]) (.ret [.bool false])))))))) (.lt 8 (.bin .geq) [h 0 3,jI 1114113]<|.br 4 (.lt 8 (.bin .leq) [h 0 3,jI 1114134]<|.br 5 (.lt 8 (.bin .geq) [h 1 3,jI 0]<|.br 6 (.lt 8 (.bin .leq) [h 1 3,jI 7]<|.ret [h 7 8]) (.ret [.bool false])) (.lt 8 (.bin .eql) [h 0 3,jI 1114135]<|.br 6 (.lt 8 (.bin .eql) [h 1 3,jI 0]<|.br 7 (.ret [.bool true]) (.lt 8 (.bin .eql) [h 1 3,jI 2]<|.ret [h 8 8])) (.lt 8 (.bin .eql) [h 0 3,jI 1114137]<|.br 7 (.lt 8 (.bin .eql) [h 1 3,jI 0]<|.br 8 (.ret [.bool true]) (.lt 8 (.bin .eql) [h 1 3,jI 2]<|.ret [h 9 8])) (.lt 8 (.bin .eql) [h 0 3,jI 1114136]<|.br 8 (.lt 8 (.bin .eql) [h 1 3,jI 0]<|.br 9 (.ret [.bool true]) (.lt 8 (.bin .eql) [h 1 3,jI 1]<|.br 10 (.ret [.bool true]) (.lt 8 (.bin .eql) [h 1 3,jI 2]<|.ret [h 11 8]))) (.lt 8 (.bin .eql) [h 0 3,jI 1114138]<|.br 9 (.lt 8 (.bin .eql) [h 1 3,jI 0]<|.ret [h 10 8]) (.ret [.bool false])))))) (.lt 8 (.bin .eql) [h 0 3,jI 1114135]<|.br 5 (.lt 8 (.bin .eql) [h 1 3,jI 0]<|.br 6 (.ret [.bool true]) (.lt 8 (.bin .eql) [h 1 3,jI 2]<|.ret [h 7 8])) (.lt 8 (.bin .eql) [h 0 3,jI 1114137]<|.br 6 (.lt 8 (.bin .eql) [h 1 3,jI 0]<|.br 7 (.ret [.bool true]) (.lt 8 (.bin .eql) [h 1 3,jI 2]<|.ret [h 8 8])) (.lt 8 (.bin .eql) [h 0 3,jI 1114136]<|.br 7 (.lt 8 (.bin .eql) [h 1 3,jI 0]<|.br 8 (.ret [.bool true]) (.lt 8 (.bin .eql) [h 1 3,jI 1]<|.br 9 (.ret [.bool true]) (.lt 8 (.bin .eql) [h 1 3,jI 2]<|.ret [h 10 8]))) (.lt 8 (.bin .eql) [h 0 3,jI 1114138]<|.br 8 (.lt 8 (.bin .eql) [h 1 3,jI 0]<|.ret [h 9 8]) (.ret [.bool false]))))))) (.lt 8 (.bin .geq) [h 0 3,jI 1114113]<|.br 3 (.lt 8 (.bin .leq) [h 0 3,jI 1114134]<|.br 4 (.lt 8 (.bin .geq) [h 1 3,jI 0]<|.br 5 (.lt 8 (.bin .leq) [h 1 3,jI 7]<|.ret [h 6 8]) (.ret [.bool false])) (.lt 8 (.bin .eql) [h 0 3,jI 1114135]<|.br 5 (.lt 8 (.bin .eql) [h 1 3,jI 0]<|.br 6 (.ret [.bool true]) (.lt 8 (.bin .eql) [h 1 3,jI 2]<|.ret [h 7 8])) (.lt 8 (.bin .eql) [h 0 3,jI 1114137]<|.br 6 (.lt 8 (.bin .eql) [h 1 3,jI 0]<|.br 7 (.ret [.bool true]) (.lt 8 (.bin .eql) [h 1 3,jI 2]<|.ret [h 8 8])) (.lt 8 (.bin .eql) [h 0 3,jI 1114136]<|.br 7 (.lt 8 (.bin .eql) [h 1 3,jI 0]<|.br 8 (.ret [.bool true]) (.lt 8 (.bin .eql) [h 1 3,jI 1]<|.br 9 (.ret [.bool true]) (.lt 8 (.bin .eql) [h 1 3,jI 2]<|.ret [h 10 8]))) (.lt 8 (.bin .eql) [h 0 3,jI 1114138]<|.br 8 (.lt 8 (.bin .eql) [h 1 3,jI 0]<|.ret [h 9 8]) (.ret [.bool false])))))) (.lt 8 (.bin .eql) [h 0 3,jI 1114135]<|.br 4 (.lt 8 (.bin .eql) [h 1 3,jI 0]<|.br 5 (.ret [.bool true]) (.lt 8 (.bin .eql) [h 1 3,jI 2]<|.ret [h 6 8])) (.lt 8 (.bin .eql) [h 0 3,jI 1114137]<|.br 5 (.lt 8 (.bin .eql) [h 1 3,jI 0]<|.br 6 (.ret [.bool true]) (.lt 8 (.bin .eql) [h 1 3,jI 2]<|.ret [h 7 8])) (.lt 8 (.bin .eql) [h 0 3,jI 1114136]<|.br 6 (.lt 8 (.bin .eql) [h 1 3,jI 0]<|.br 7 (.ret [.bool true]) (.lt 8 (.bin .eql) [h 1 3,jI 1]<|.br 8 (.ret [.bool true]) (.lt 8 (.bin .eql) [h 1 3,jI 2]<|.ret [h 9 8]))) (.lt 8 (.bin .eql) [h 0 3,jI 1114138]<|.br 7 (.lt 8 (.bin .eql) [h 1 3,jI 0]<|.ret [h 8 8]) (.ret [.bool false]))))))
theorem B3_{G:Nat→Option Obj}(hst:D2 Tryz.prog G gl H0 n0):N0 Tryz.prog G 34 [.s 3,.s 3] R6 [.s 8]:=by
 refine F4 (C:=cx C1o []) (d:=60) C0f (cxg (B8d hst) .nil) hst ⟨Tryz.f34,_,Tryz.func34,rfl⟩ (by kernel_rfl) (by kernel_rfl) ?_;intro us outs hs;unfold R6 at hs;split at hs
 ·skip;rename_i c m;split at hs
  ·rename_i hc;cases hs;unfold C0f;refine s0 (.cons 1 _ (.cons 0 _ (.nil))) rfl (by simp[Ev.ok,Ev.len]) ?_;refine s1 (F2 _ _ _) rfl rfl rfl ?_;refine s4 rfl (fun g0=>?_) fun g0=>?_
   ·refine s1 (G0 _ _ _) rfl rfl rfl ?_;refine s4 rfl (fun g1=>?_) fun g1=>?_
    ·refine s1 (L3 _ _ _) rfl rfl rfl ?_;refine s4 rfl (fun g2=>?_) fun g2=>?_
     ·refine s1 (F2 _ _ _) rfl rfl rfl ?_;refine s4 rfl (fun g3=>?_) fun g3=>?_
      ·refine s1 (F2 _ _ _) rfl rfl rfl ?_;refine s4 rfl (fun g4=>?_) fun g4=>?_
       ·refine s1 (G0 _ _ _) rfl rfl rfl ?_;refine s1 (D4 _) rfl rfl rfl ?_;refine s4 rfl (fun g5=>?_) fun g5=>?_
        ·refine s1 (A8 _ _ _) rfl rfl rfl ?_;refine s4 rfl (fun g6=>?_) fun g6=>?_
         ·refine s7 [.bool _] rfl ?_;have z0:=B4 m hc.1 hc.2;have z1:=B8 c;refine l1 ?_;first|(refine decide_eq_decide.2 ?_;unfold A7 chP okU;omega)|(symm;first|exact decide_eq_true (by unfold A7 chP okU at *;omega)|exact decide_eq_false (by unfold A7 chP okU at *;omega))
         refine s1 (A8 _ _ _) rfl rfl rfl ?_;refine s4 rfl (fun g7=>?_) fun g7=>?_
         ·refine s1 (H3 _ _ _) rfl rfl rfl ?_;refine s5 rfl (fun g8=>?_) fun g8=>?_
          ·refine s7 [.bool _] rfl ?_;have z0:=B4 m hc.1 hc.2;have z1:=B8 c;refine l1 ?_;first|(refine decide_eq_decide.2 ?_;unfold A7 chP okU;omega)|(symm;first|exact decide_eq_true (by unfold A7 chP okU at *;omega)|exact decide_eq_false (by unfold A7 chP okU at *;omega))
          refine s1 (H3 _ _ _) rfl rfl rfl ?_;refine s7 [.bool _] rfl ?_;have z0:=B4 m hc.1 hc.2;have z1:=B8 c;refine l1 ?_;first|(refine decide_eq_decide.2 ?_;unfold A7 chP okU;omega)|(symm;first|exact decide_eq_true (by unfold A7 chP okU at *;omega)|exact decide_eq_false (by unfold A7 chP okU at *;omega))
         refine s31 (A49 _) rfl ?_;refine s1 (F2 _ _ _) rfl rfl rfl ?_;refine s5 rfl (fun g8=>?_) fun g8=>?_
         ·refine s7 [.bool _] rfl ?_;have z0:=B4 m hc.1 hc.2;have z1:=B8 c;refine l1 ?_;first|(refine decide_eq_decide.2 ?_;unfold A7 chP okU;omega)|(symm;first|exact decide_eq_true (by unfold A7 chP okU at *;omega)|exact decide_eq_false (by unfold A7 chP okU at *;omega))
         refine s1 (A8 _ _ _) rfl rfl rfl ?_;refine s4 rfl (fun g9=>?_) fun g9=>?_
         ·refine s7 [.bool _] rfl ?_;have z0:=B4 m hc.1 hc.2;have z1:=B8 c;refine l1 ?_;first|(refine decide_eq_decide.2 ?_;unfold A7 chP okU;omega)|(symm;first|exact decide_eq_true (by unfold A7 chP okU at *;omega)|exact decide_eq_false (by unfold A7 chP okU at *;omega))
         refine s1 (A8 _ _ _) rfl rfl rfl ?_;refine s7 [.bool _] rfl ?_;have z0:=B4 m hc.1 hc.2;have z1:=B8 c;refine l1 ?_;first|(refine decide_eq_decide.2 ?_;unfold A7 chP okU;omega)|(symm;first|exact decide_eq_true (by unfold A7 chP okU at *;omega)|exact decide_eq_false (by unfold A7 chP okU at *;omega))
        refine s1 (F2 _ _ _) rfl rfl rfl ?_;refine s4 rfl (fun g6=>?_) fun g6=>?_
        ·refine s1 (G0 _ _ _) rfl rfl rfl ?_;refine s4 rfl (fun g7=>?_) fun g7=>?_
         ·refine s1 (F2 _ _ _) rfl rfl rfl ?_;refine s5 rfl (fun g8=>?_) fun g8=>?_
          ·refine s7 [.bool _] rfl ?_;have z0:=B4 m hc.1 hc.2;have z1:=B8 c;refine l1 ?_;first|(refine decide_eq_decide.2 ?_;unfold A7 chP okU;omega)|(symm;first|exact decide_eq_true (by unfold A7 chP okU at *;omega)|exact decide_eq_false (by unfold A7 chP okU at *;omega))
          refine s1 (G0 _ _ _) rfl rfl rfl ?_;refine s7 [.bool _] rfl ?_;have z0:=B4 m hc.1 hc.2;have z1:=B8 c;refine l1 ?_;first|(refine decide_eq_decide.2 ?_;unfold A7 chP okU;omega)|(symm;first|exact decide_eq_true (by unfold A7 chP okU at *;omega)|exact decide_eq_false (by unfold A7 chP okU at *;omega))
         refine s1 (A8 _ _ _) rfl rfl rfl ?_;refine s4 rfl (fun g8=>?_) fun g8=>?_
         ·refine s1 (A8 _ _ _) rfl rfl rfl ?_;refine s4 rfl (fun g9=>?_) fun g9=>?_
          ·refine s7 [.bool _] rfl ?_;have z0:=B4 m hc.1 hc.2;have z1:=B8 c;refine l1 ?_;first|(refine decide_eq_decide.2 ?_;unfold A7 chP okU;omega)|(symm;first|exact decide_eq_true (by unfold A7 chP okU at *;omega)|exact decide_eq_false (by unfold A7 chP okU at *;omega))
          refine s1 (A8 _ _ _) rfl rfl rfl ?_;refine s7 [.bool _] rfl ?_;have z0:=B4 m hc.1 hc.2;have z1:=B8 c;refine l1 ?_;first|(refine decide_eq_decide.2 ?_;unfold A7 chP okU;omega)|(symm;first|exact decide_eq_true (by unfold A7 chP okU at *;omega)|exact decide_eq_false (by unfold A7 chP okU at *;omega))
         refine s1 (A8 _ _ _) rfl rfl rfl ?_;refine s4 rfl (fun g9=>?_) fun g9=>?_
         ·refine s1 (A8 _ _ _) rfl rfl rfl ?_;refine s4 rfl (fun g10=>?_) fun g10=>?_
          ·refine s7 [.bool _] rfl ?_;have z0:=B4 m hc.1 hc.2;have z1:=B8 c;refine l1 ?_;first|(refine decide_eq_decide.2 ?_;unfold A7 chP okU;omega)|(symm;first|exact decide_eq_true (by unfold A7 chP okU at *;omega)|exact decide_eq_false (by unfold A7 chP okU at *;omega))
          refine s1 (A8 _ _ _) rfl rfl rfl ?_;refine s7 [.bool _] rfl ?_;have z0:=B4 m hc.1 hc.2;have z1:=B8 c;refine l1 ?_;first|(refine decide_eq_decide.2 ?_;unfold A7 chP okU;omega)|(symm;first|exact decide_eq_true (by unfold A7 chP okU at *;omega)|exact decide_eq_false (by unfold A7 chP okU at *;omega))
         refine s1 (A8 _ _ _) rfl rfl rfl ?_;refine s4 rfl (fun g10=>?_) fun g10=>?_
         ·refine s1 (A8 _ _ _) rfl rfl rfl ?_;refine s4 rfl (fun g11=>?_) fun g11=>?_
          ·refine s7 [.bool _] rfl ?_;have z0:=B4 m hc.1 hc.2;have z1:=B8 c;refine l1 ?_;first|(refine decide_eq_decide.2 ?_;unfold A7 chP okU;omega)|(symm;first|exact decide_eq_true (by unfold A7 chP okU at *;omega)|exact decide_eq_false (by unfold A7 chP okU at *;omega))
          refine s1 (A8 _ _ _) rfl rfl rfl ?_;refine s4 rfl (fun g12=>?_) fun g12=>?_
          ·refine s7 [.bool _] rfl ?_;have z0:=B4 m hc.1 hc.2;have z1:=B8 c;refine l1 ?_;first|(refine decide_eq_decide.2 ?_;unfold A7 chP okU;omega)|(symm;first|exact decide_eq_true (by unfold A7 chP okU at *;omega)|exact decide_eq_false (by unfold A7 chP okU at *;omega))
          refine s1 (A8 _ _ _) rfl rfl rfl ?_;refine s7 [.bool _] rfl ?_;have z0:=B4 m hc.1 hc.2;have z1:=B8 c;refine l1 ?_;first|(refine decide_eq_decide.2 ?_;unfold A7 chP okU;omega)|(symm;first|exact decide_eq_true (by unfold A7 chP okU at *;omega)|exact decide_eq_false (by unfold A7 chP okU at *;omega))
         refine s1 (A8 _ _ _) rfl rfl rfl ?_;refine s5 rfl (fun g11=>?_) fun g11=>?_
         ·refine s7 [.bool _] rfl ?_;have z0:=B4 m hc.1 hc.2;have z1:=B8 c;refine l1 ?_;first|(refine decide_eq_decide.2 ?_;unfold A7 chP okU;omega)|(symm;first|exact decide_eq_true (by unfold A7 chP okU at *;omega)|exact decide_eq_false (by unfold A7 chP okU at *;omega))
         refine s1 (A8 _ _ _) rfl rfl rfl ?_;refine s7 [.bool _] rfl ?_;have z0:=B4 m hc.1 hc.2;have z1:=B8 c;refine l1 ?_;first|(refine decide_eq_decide.2 ?_;unfold A7 chP okU;omega)|(symm;first|exact decide_eq_true (by unfold A7 chP okU at *;omega)|exact decide_eq_false (by unfold A7 chP okU at *;omega))
        refine s1 (A8 _ _ _) rfl rfl rfl ?_;refine s4 rfl (fun g7=>?_) fun g7=>?_
        ·refine s1 (A8 _ _ _) rfl rfl rfl ?_;refine s4 rfl (fun g8=>?_) fun g8=>?_
         ·refine s7 [.bool _] rfl ?_;have z0:=B4 m hc.1 hc.2;have z1:=B8 c;refine l1 ?_;first|(refine decide_eq_decide.2 ?_;unfold A7 chP okU;omega)|(symm;first|exact decide_eq_true (by unfold A7 chP okU at *;omega)|exact decide_eq_false (by unfold A7 chP okU at *;omega))
         refine s1 (A8 _ _ _) rfl rfl rfl ?_;refine s7 [.bool _] rfl ?_;have z0:=B4 m hc.1 hc.2;have z1:=B8 c;refine l1 ?_;first|(refine decide_eq_decide.2 ?_;unfold A7 chP okU;omega)|(symm;first|exact decide_eq_true (by unfold A7 chP okU at *;omega)|exact decide_eq_false (by unfold A7 chP okU at *;omega))
        refine s1 (A8 _ _ _) rfl rfl rfl ?_;refine s4 rfl (fun g8=>?_) fun g8=>?_
        ·refine s1 (A8 _ _ _) rfl rfl rfl ?_;refine s4 rfl (fun g9=>?_) fun g9=>?_
         ·refine s7 [.bool _] rfl ?_;have z0:=B4 m hc.1 hc.2;have z1:=B8 c;refine l1 ?_;first|(refine decide_eq_decide.2 ?_;unfold A7 chP okU;omega)|(symm;first|exact decide_eq_true (by unfold A7 chP okU at *;omega)|exact decide_eq_false (by unfold A7 chP okU at *;omega))
         refine s1 (A8 _ _ _) rfl rfl rfl ?_;refine s7 [.bool _] rfl ?_;have z0:=B4 m hc.1 hc.2;have z1:=B8 c;refine l1 ?_;first|(refine decide_eq_decide.2 ?_;unfold A7 chP okU;omega)|(symm;first|exact decide_eq_true (by unfold A7 chP okU at *;omega)|exact decide_eq_false (by unfold A7 chP okU at *;omega))
        refine s1 (A8 _ _ _) rfl rfl rfl ?_;refine s4 rfl (fun g9=>?_) fun g9=>?_
        ·refine s1 (A8 _ _ _) rfl rfl rfl ?_;refine s4 rfl (fun g10=>?_) fun g10=>?_
         ·refine s7 [.bool _] rfl ?_;have z0:=B4 m hc.1 hc.2;have z1:=B8 c;refine l1 ?_;first|(refine decide_eq_decide.2 ?_;unfold A7 chP okU;omega)|(symm;first|exact decide_eq_true (by unfold A7 chP okU at *;omega)|exact decide_eq_false (by unfold A7 chP okU at *;omega))
         refine s1 (A8 _ _ _) rfl rfl rfl ?_;refine s4 rfl (fun g11=>?_) fun g11=>?_
         ·refine s7 [.bool _] rfl ?_;have z0:=B4 m hc.1 hc.2;have z1:=B8 c;refine l1 ?_;first|(refine decide_eq_decide.2 ?_;unfold A7 chP okU;omega)|(symm;first|exact decide_eq_true (by unfold A7 chP okU at *;omega)|exact decide_eq_false (by unfold A7 chP okU at *;omega))
         refine s1 (A8 _ _ _) rfl rfl rfl ?_;refine s7 [.bool _] rfl ?_;have z0:=B4 m hc.1 hc.2;have z1:=B8 c;refine l1 ?_;first|(refine decide_eq_decide.2 ?_;unfold A7 chP okU;omega)|(symm;first|exact decide_eq_true (by unfold A7 chP okU at *;omega)|exact decide_eq_false (by unfold A7 chP okU at *;omega))
        refine s1 (A8 _ _ _) rfl rfl rfl ?_;refine s5 rfl (fun g10=>?_) fun g10=>?_
        ·refine s7 [.bool _] rfl ?_;have z0:=B4 m hc.1 hc.2;have z1:=B8 c;refine l1 ?_;first|(refine decide_eq_decide.2 ?_;unfold A7 chP okU;omega)|(symm;first|exact decide_eq_true (by unfold A7 chP okU at *;omega)|exact decide_eq_false (by unfold A7 chP okU at *;omega))
        refine s1 (A8 _ _ _) rfl rfl rfl ?_;refine s7 [.bool _] rfl ?_;have z0:=B4 m hc.1 hc.2;have z1:=B8 c;refine l1 ?_;first|(refine decide_eq_decide.2 ?_;unfold A7 chP okU;omega)|(symm;first|exact decide_eq_true (by unfold A7 chP okU at *;omega)|exact decide_eq_false (by unfold A7 chP okU at *;omega))
       refine s1 (A8 _ _ _) rfl rfl rfl ?_;refine s4 rfl (fun g5=>?_) fun g5=>?_
       ·refine s7 [.bool _] rfl ?_;have z0:=B4 m hc.1 hc.2;have z1:=B8 c;refine l1 ?_;first|(refine decide_eq_decide.2 ?_;unfold A7 chP okU;omega)|(symm;first|exact decide_eq_true (by unfold A7 chP okU at *;omega)|exact decide_eq_false (by unfold A7 chP okU at *;omega))
       refine s1 (A8 _ _ _) rfl rfl rfl ?_;refine s4 rfl (fun g6=>?_) fun g6=>?_
       ·refine s1 (H3 _ _ _) rfl rfl rfl ?_;refine s5 rfl (fun g7=>?_) fun g7=>?_
        ·refine s7 [.bool _] rfl ?_;have z0:=B4 m hc.1 hc.2;have z1:=B8 c;refine l1 ?_;first|(refine decide_eq_decide.2 ?_;unfold A7 chP okU;omega)|(symm;first|exact decide_eq_true (by unfold A7 chP okU at *;omega)|exact decide_eq_false (by unfold A7 chP okU at *;omega))
        refine s1 (H3 _ _ _) rfl rfl rfl ?_;refine s7 [.bool _] rfl ?_;have z0:=B4 m hc.1 hc.2;have z1:=B8 c;refine l1 ?_;first|(refine decide_eq_decide.2 ?_;unfold A7 chP okU;omega)|(symm;first|exact decide_eq_true (by unfold A7 chP okU at *;omega)|exact decide_eq_false (by unfold A7 chP okU at *;omega))
       refine s31 (A49 _) rfl ?_;refine s1 (F2 _ _ _) rfl rfl rfl ?_;refine s5 rfl (fun g7=>?_) fun g7=>?_
       ·refine s7 [.bool _] rfl ?_;have z0:=B4 m hc.1 hc.2;have z1:=B8 c;refine l1 ?_;first|(refine decide_eq_decide.2 ?_;unfold A7 chP okU;omega)|(symm;first|exact decide_eq_true (by unfold A7 chP okU at *;omega)|exact decide_eq_false (by unfold A7 chP okU at *;omega))
       refine s1 (A8 _ _ _) rfl rfl rfl ?_;refine s4 rfl (fun g8=>?_) fun g8=>?_
       ·refine s7 [.bool _] rfl ?_;have z0:=B4 m hc.1 hc.2;have z1:=B8 c;refine l1 ?_;first|(refine decide_eq_decide.2 ?_;unfold A7 chP okU;omega)|(symm;first|exact decide_eq_true (by unfold A7 chP okU at *;omega)|exact decide_eq_false (by unfold A7 chP okU at *;omega))
       refine s1 (A8 _ _ _) rfl rfl rfl ?_;refine s7 [.bool _] rfl ?_;have z0:=B4 m hc.1 hc.2;have z1:=B8 c;refine l1 ?_;first|(refine decide_eq_decide.2 ?_;unfold A7 chP okU;omega)|(symm;first|exact decide_eq_true (by unfold A7 chP okU at *;omega)|exact decide_eq_false (by unfold A7 chP okU at *;omega))
      refine s1 (F2 _ _ _) rfl rfl rfl ?_;refine s4 rfl (fun g4=>?_) fun g4=>?_
      ·refine s1 (G0 _ _ _) rfl rfl rfl ?_;refine s4 rfl (fun g5=>?_) fun g5=>?_
       ·refine s1 (F2 _ _ _) rfl rfl rfl ?_;refine s5 rfl (fun g6=>?_) fun g6=>?_
        ·refine s7 [.bool _] rfl ?_;have z0:=B4 m hc.1 hc.2;have z1:=B8 c;refine l1 ?_;first|(refine decide_eq_decide.2 ?_;unfold A7 chP okU;omega)|(symm;first|exact decide_eq_true (by unfold A7 chP okU at *;omega)|exact decide_eq_false (by unfold A7 chP okU at *;omega))
        refine s1 (G0 _ _ _) rfl rfl rfl ?_;refine s7 [.bool _] rfl ?_;have z0:=B4 m hc.1 hc.2;have z1:=B8 c;refine l1 ?_;first|(refine decide_eq_decide.2 ?_;unfold A7 chP okU;omega)|(symm;first|exact decide_eq_true (by unfold A7 chP okU at *;omega)|exact decide_eq_false (by unfold A7 chP okU at *;omega))
       refine s1 (A8 _ _ _) rfl rfl rfl ?_;refine s4 rfl (fun g6=>?_) fun g6=>?_
       ·refine s1 (A8 _ _ _) rfl rfl rfl ?_;refine s4 rfl (fun g7=>?_) fun g7=>?_
        ·refine s7 [.bool _] rfl ?_;have z0:=B4 m hc.1 hc.2;have z1:=B8 c;refine l1 ?_;first|(refine decide_eq_decide.2 ?_;unfold A7 chP okU;omega)|(symm;first|exact decide_eq_true (by unfold A7 chP okU at *;omega)|exact decide_eq_false (by unfold A7 chP okU at *;omega))
        refine s1 (A8 _ _ _) rfl rfl rfl ?_;refine s7 [.bool _] rfl ?_;have z0:=B4 m hc.1 hc.2;have z1:=B8 c;refine l1 ?_;first|(refine decide_eq_decide.2 ?_;unfold A7 chP okU;omega)|(symm;first|exact decide_eq_true (by unfold A7 chP okU at *;omega)|exact decide_eq_false (by unfold A7 chP okU at *;omega))
       refine s1 (A8 _ _ _) rfl rfl rfl ?_;refine s4 rfl (fun g7=>?_) fun g7=>?_
       ·refine s1 (A8 _ _ _) rfl rfl rfl ?_;refine s4 rfl (fun g8=>?_) fun g8=>?_
        ·refine s7 [.bool _] rfl ?_;have z0:=B4 m hc.1 hc.2;have z1:=B8 c;refine l1 ?_;first|(refine decide_eq_decide.2 ?_;unfold A7 chP okU;omega)|(symm;first|exact decide_eq_true (by unfold A7 chP okU at *;omega)|exact decide_eq_false (by unfold A7 chP okU at *;omega))
        refine s1 (A8 _ _ _) rfl rfl rfl ?_;refine s7 [.bool _] rfl ?_;have z0:=B4 m hc.1 hc.2;have z1:=B8 c;refine l1 ?_;first|(refine decide_eq_decide.2 ?_;unfold A7 chP okU;omega)|(symm;first|exact decide_eq_true (by unfold A7 chP okU at *;omega)|exact decide_eq_false (by unfold A7 chP okU at *;omega))
       refine s1 (A8 _ _ _) rfl rfl rfl ?_;refine s4 rfl (fun g8=>?_) fun g8=>?_
       ·refine s1 (A8 _ _ _) rfl rfl rfl ?_;refine s4 rfl (fun g9=>?_) fun g9=>?_
        ·refine s7 [.bool _] rfl ?_;have z0:=B4 m hc.1 hc.2;have z1:=B8 c;refine l1 ?_;first|(refine decide_eq_decide.2 ?_;unfold A7 chP okU;omega)|(symm;first|exact decide_eq_true (by unfold A7 chP okU at *;omega)|exact decide_eq_false (by unfold A7 chP okU at *;omega))
        refine s1 (A8 _ _ _) rfl rfl rfl ?_;refine s4 rfl (fun g10=>?_) fun g10=>?_
        ·refine s7 [.bool _] rfl ?_;have z0:=B4 m hc.1 hc.2;have z1:=B8 c;refine l1 ?_;first|(refine decide_eq_decide.2 ?_;unfold A7 chP okU;omega)|(symm;first|exact decide_eq_true (by unfold A7 chP okU at *;omega)|exact decide_eq_false (by unfold A7 chP okU at *;omega))
        refine s1 (A8 _ _ _) rfl rfl rfl ?_;refine s7 [.bool _] rfl ?_;have z0:=B4 m hc.1 hc.2;have z1:=B8 c;refine l1 ?_;first|(refine decide_eq_decide.2 ?_;unfold A7 chP okU;omega)|(symm;first|exact decide_eq_true (by unfold A7 chP okU at *;omega)|exact decide_eq_false (by unfold A7 chP okU at *;omega))
       refine s1 (A8 _ _ _) rfl rfl rfl ?_;refine s5 rfl (fun g9=>?_) fun g9=>?_
       ·refine s7 [.bool _] rfl ?_;have z0:=B4 m hc.1 hc.2;have z1:=B8 c;refine l1 ?_;first|(refine decide_eq_decide.2 ?_;unfold A7 chP okU;omega)|(symm;first|exact decide_eq_true (by unfold A7 chP okU at *;omega)|exact decide_eq_false (by unfold A7 chP okU at *;omega))
       refine s1 (A8 _ _ _) rfl rfl rfl ?_;refine s7 [.bool _] rfl ?_;have z0:=B4 m hc.1 hc.2;have z1:=B8 c;refine l1 ?_;first|(refine decide_eq_decide.2 ?_;unfold A7 chP okU;omega)|(symm;first|exact decide_eq_true (by unfold A7 chP okU at *;omega)|exact decide_eq_false (by unfold A7 chP okU at *;omega))
      refine s1 (A8 _ _ _) rfl rfl rfl ?_;refine s4 rfl (fun g5=>?_) fun g5=>?_
      ·refine s1 (A8 _ _ _) rfl rfl rfl ?_;refine s4 rfl (fun g6=>?_) fun g6=>?_
       ·refine s7 [.bool _] rfl ?_;have z0:=B4 m hc.1 hc.2;have z1:=B8 c;refine l1 ?_;first|(refine decide_eq_decide.2 ?_;unfold A7 chP okU;omega)|(symm;first|exact decide_eq_true (by unfold A7 chP okU at *;omega)|exact decide_eq_false (by unfold A7 chP okU at *;omega))
       refine s1 (A8 _ _ _) rfl rfl rfl ?_;refine s7 [.bool _] rfl ?_;have z0:=B4 m hc.1 hc.2;have z1:=B8 c;refine l1 ?_;first|(refine decide_eq_decide.2 ?_;unfold A7 chP okU;omega)|(symm;first|exact decide_eq_true (by unfold A7 chP okU at *;omega)|exact decide_eq_false (by unfold A7 chP okU at *;omega))
      refine s1 (A8 _ _ _) rfl rfl rfl ?_;refine s4 rfl (fun g6=>?_) fun g6=>?_
      ·refine s1 (A8 _ _ _) rfl rfl rfl ?_;refine s4 rfl (fun g7=>?_) fun g7=>?_
       ·refine s7 [.bool _] rfl ?_;have z0:=B4 m hc.1 hc.2;have z1:=B8 c;refine l1 ?_;first|(refine decide_eq_decide.2 ?_;unfold A7 chP okU;omega)|(symm;first|exact decide_eq_true (by unfold A7 chP okU at *;omega)|exact decide_eq_false (by unfold A7 chP okU at *;omega))
       refine s1 (A8 _ _ _) rfl rfl rfl ?_;refine s7 [.bool _] rfl ?_;have z0:=B4 m hc.1 hc.2;have z1:=B8 c;refine l1 ?_;first|(refine decide_eq_decide.2 ?_;unfold A7 chP okU;omega)|(symm;first|exact decide_eq_true (by unfold A7 chP okU at *;omega)|exact decide_eq_false (by unfold A7 chP okU at *;omega))
      refine s1 (A8 _ _ _) rfl rfl rfl ?_;refine s4 rfl (fun g7=>?_) fun g7=>?_
      ·refine s1 (A8 _ _ _) rfl rfl rfl ?_;refine s4 rfl (fun g8=>?_) fun g8=>?_
       ·refine s7 [.bool _] rfl ?_;have z0:=B4 m hc.1 hc.2;have z1:=B8 c;refine l1 ?_;first|(refine decide_eq_decide.2 ?_;unfold A7 chP okU;omega)|(symm;first|exact decide_eq_true (by unfold A7 chP okU at *;omega)|exact decide_eq_false (by unfold A7 chP okU at *;omega))
       refine s1 (A8 _ _ _) rfl rfl rfl ?_;refine s4 rfl (fun g9=>?_) fun g9=>?_
       ·refine s7 [.bool _] rfl ?_;have z0:=B4 m hc.1 hc.2;have z1:=B8 c;refine l1 ?_;first|(refine decide_eq_decide.2 ?_;unfold A7 chP okU;omega)|(symm;first|exact decide_eq_true (by unfold A7 chP okU at *;omega)|exact decide_eq_false (by unfold A7 chP okU at *;omega))
       refine s1 (A8 _ _ _) rfl rfl rfl ?_;refine s7 [.bool _] rfl ?_;have z0:=B4 m hc.1 hc.2;have z1:=B8 c;refine l1 ?_;first|(refine decide_eq_decide.2 ?_;unfold A7 chP okU;omega)|(symm;first|exact decide_eq_true (by unfold A7 chP okU at *;omega)|exact decide_eq_false (by unfold A7 chP okU at *;omega))
      refine s1 (A8 _ _ _) rfl rfl rfl ?_;refine s5 rfl (fun g8=>?_) fun g8=>?_
      ·refine s7 [.bool _] rfl ?_;have z0:=B4 m hc.1 hc.2;have z1:=B8 c;refine l1 ?_;first|(refine decide_eq_decide.2 ?_;unfold A7 chP okU;omega)|(symm;first|exact decide_eq_true (by unfold A7 chP okU at *;omega)|exact decide_eq_false (by unfold A7 chP okU at *;omega))
      refine s1 (A8 _ _ _) rfl rfl rfl ?_;refine s7 [.bool _] rfl ?_;have z0:=B4 m hc.1 hc.2;have z1:=B8 c;refine l1 ?_;first|(refine decide_eq_decide.2 ?_;unfold A7 chP okU;omega)|(symm;first|exact decide_eq_true (by unfold A7 chP okU at *;omega)|exact decide_eq_false (by unfold A7 chP okU at *;omega))
     refine s1 (A3X _ _ _) rfl rfl rfl ?_;refine s4 rfl (fun g3=>?_) fun g3=>?_
     ·refine s1 (F2 _ _ _) rfl rfl rfl ?_;refine s4 rfl (fun g4=>?_) fun g4=>?_
      ·refine s1 (F2 _ _ _) rfl rfl rfl ?_;refine s4 rfl (fun g5=>?_) fun g5=>?_
       ·refine s1 (G0 _ _ _) rfl rfl rfl ?_;refine s1 (D4 _) rfl rfl rfl ?_;refine s4 rfl (fun g6=>?_) fun g6=>?_
        ·refine s1 (A8 _ _ _) rfl rfl rfl ?_;refine s4 rfl (fun g7=>?_) fun g7=>?_
         ·refine s7 [.bool _] rfl ?_;have z0:=B4 m hc.1 hc.2;have z1:=B8 c;refine l1 ?_;first|(refine decide_eq_decide.2 ?_;unfold A7 chP okU;omega)|(symm;first|exact decide_eq_true (by unfold A7 chP okU at *;omega)|exact decide_eq_false (by unfold A7 chP okU at *;omega))
         refine s1 (A8 _ _ _) rfl rfl rfl ?_;refine s4 rfl (fun g8=>?_) fun g8=>?_
         ·refine s1 (H3 _ _ _) rfl rfl rfl ?_;refine s5 rfl (fun g9=>?_) fun g9=>?_
          ·refine s7 [.bool _] rfl ?_;have z0:=B4 m hc.1 hc.2;have z1:=B8 c;refine l1 ?_;first|(refine decide_eq_decide.2 ?_;unfold A7 chP okU;omega)|(symm;first|exact decide_eq_true (by unfold A7 chP okU at *;omega)|exact decide_eq_false (by unfold A7 chP okU at *;omega))
          refine s1 (H3 _ _ _) rfl rfl rfl ?_;refine s7 [.bool _] rfl ?_;have z0:=B4 m hc.1 hc.2;have z1:=B8 c;refine l1 ?_;first|(refine decide_eq_decide.2 ?_;unfold A7 chP okU;omega)|(symm;first|exact decide_eq_true (by unfold A7 chP okU at *;omega)|exact decide_eq_false (by unfold A7 chP okU at *;omega))
         refine s31 (A49 _) rfl ?_;refine s1 (F2 _ _ _) rfl rfl rfl ?_;refine s5 rfl (fun g9=>?_) fun g9=>?_
         ·refine s7 [.bool _] rfl ?_;have z0:=B4 m hc.1 hc.2;have z1:=B8 c;refine l1 ?_;first|(refine decide_eq_decide.2 ?_;unfold A7 chP okU;omega)|(symm;first|exact decide_eq_true (by unfold A7 chP okU at *;omega)|exact decide_eq_false (by unfold A7 chP okU at *;omega))
         refine s1 (A8 _ _ _) rfl rfl rfl ?_;refine s4 rfl (fun g10=>?_) fun g10=>?_
         ·refine s7 [.bool _] rfl ?_;have z0:=B4 m hc.1 hc.2;have z1:=B8 c;refine l1 ?_;first|(refine decide_eq_decide.2 ?_;unfold A7 chP okU;omega)|(symm;first|exact decide_eq_true (by unfold A7 chP okU at *;omega)|exact decide_eq_false (by unfold A7 chP okU at *;omega))
         refine s1 (A8 _ _ _) rfl rfl rfl ?_;refine s7 [.bool _] rfl ?_;have z0:=B4 m hc.1 hc.2;have z1:=B8 c;refine l1 ?_;first|(refine decide_eq_decide.2 ?_;unfold A7 chP okU;omega)|(symm;first|exact decide_eq_true (by unfold A7 chP okU at *;omega)|exact decide_eq_false (by unfold A7 chP okU at *;omega))
        refine s1 (F2 _ _ _) rfl rfl rfl ?_;refine s4 rfl (fun g7=>?_) fun g7=>?_
        ·refine s1 (G0 _ _ _) rfl rfl rfl ?_;refine s4 rfl (fun g8=>?_) fun g8=>?_
         ·refine s1 (F2 _ _ _) rfl rfl rfl ?_;refine s5 rfl (fun g9=>?_) fun g9=>?_
          ·refine s7 [.bool _] rfl ?_;have z0:=B4 m hc.1 hc.2;have z1:=B8 c;refine l1 ?_;first|(refine decide_eq_decide.2 ?_;unfold A7 chP okU;omega)|(symm;first|exact decide_eq_true (by unfold A7 chP okU at *;omega)|exact decide_eq_false (by unfold A7 chP okU at *;omega))
          refine s1 (G0 _ _ _) rfl rfl rfl ?_;refine s7 [.bool _] rfl ?_;have z0:=B4 m hc.1 hc.2;have z1:=B8 c;refine l1 ?_;first|(refine decide_eq_decide.2 ?_;unfold A7 chP okU;omega)|(symm;first|exact decide_eq_true (by unfold A7 chP okU at *;omega)|exact decide_eq_false (by unfold A7 chP okU at *;omega))
         refine s1 (A8 _ _ _) rfl rfl rfl ?_;refine s4 rfl (fun g9=>?_) fun g9=>?_
         ·refine s1 (A8 _ _ _) rfl rfl rfl ?_;refine s4 rfl (fun g10=>?_) fun g10=>?_
          ·refine s7 [.bool _] rfl ?_;have z0:=B4 m hc.1 hc.2;have z1:=B8 c;refine l1 ?_;first|(refine decide_eq_decide.2 ?_;unfold A7 chP okU;omega)|(symm;first|exact decide_eq_true (by unfold A7 chP okU at *;omega)|exact decide_eq_false (by unfold A7 chP okU at *;omega))
          refine s1 (A8 _ _ _) rfl rfl rfl ?_;refine s7 [.bool _] rfl ?_;have z0:=B4 m hc.1 hc.2;have z1:=B8 c;refine l1 ?_;first|(refine decide_eq_decide.2 ?_;unfold A7 chP okU;omega)|(symm;first|exact decide_eq_true (by unfold A7 chP okU at *;omega)|exact decide_eq_false (by unfold A7 chP okU at *;omega))
         refine s1 (A8 _ _ _) rfl rfl rfl ?_;refine s4 rfl (fun g10=>?_) fun g10=>?_
         ·refine s1 (A8 _ _ _) rfl rfl rfl ?_;refine s4 rfl (fun g11=>?_) fun g11=>?_
          ·refine s7 [.bool _] rfl ?_;have z0:=B4 m hc.1 hc.2;have z1:=B8 c;refine l1 ?_;first|(refine decide_eq_decide.2 ?_;unfold A7 chP okU;omega)|(symm;first|exact decide_eq_true (by unfold A7 chP okU at *;omega)|exact decide_eq_false (by unfold A7 chP okU at *;omega))
          refine s1 (A8 _ _ _) rfl rfl rfl ?_;refine s7 [.bool _] rfl ?_;have z0:=B4 m hc.1 hc.2;have z1:=B8 c;refine l1 ?_;first|(refine decide_eq_decide.2 ?_;unfold A7 chP okU;omega)|(symm;first|exact decide_eq_true (by unfold A7 chP okU at *;omega)|exact decide_eq_false (by unfold A7 chP okU at *;omega))
         refine s1 (A8 _ _ _) rfl rfl rfl ?_;refine s4 rfl (fun g11=>?_) fun g11=>?_
         ·refine s1 (A8 _ _ _) rfl rfl rfl ?_;refine s4 rfl (fun g12=>?_) fun g12=>?_
          ·refine s7 [.bool _] rfl ?_;have z0:=B4 m hc.1 hc.2;have z1:=B8 c;refine l1 ?_;first|(refine decide_eq_decide.2 ?_;unfold A7 chP okU;omega)|(symm;first|exact decide_eq_true (by unfold A7 chP okU at *;omega)|exact decide_eq_false (by unfold A7 chP okU at *;omega))
          refine s1 (A8 _ _ _) rfl rfl rfl ?_;refine s4 rfl (fun g13=>?_) fun g13=>?_
          ·refine s7 [.bool _] rfl ?_;have z0:=B4 m hc.1 hc.2;have z1:=B8 c;refine l1 ?_;first|(refine decide_eq_decide.2 ?_;unfold A7 chP okU;omega)|(symm;first|exact decide_eq_true (by unfold A7 chP okU at *;omega)|exact decide_eq_false (by unfold A7 chP okU at *;omega))
          refine s1 (A8 _ _ _) rfl rfl rfl ?_;refine s7 [.bool _] rfl ?_;have z0:=B4 m hc.1 hc.2;have z1:=B8 c;refine l1 ?_;first|(refine decide_eq_decide.2 ?_;unfold A7 chP okU;omega)|(symm;first|exact decide_eq_true (by unfold A7 chP okU at *;omega)|exact decide_eq_false (by unfold A7 chP okU at *;omega))
         refine s1 (A8 _ _ _) rfl rfl rfl ?_;refine s5 rfl (fun g12=>?_) fun g12=>?_
         ·refine s7 [.bool _] rfl ?_;have z0:=B4 m hc.1 hc.2;have z1:=B8 c;refine l1 ?_;first|(refine decide_eq_decide.2 ?_;unfold A7 chP okU;omega)|(symm;first|exact decide_eq_true (by unfold A7 chP okU at *;omega)|exact decide_eq_false (by unfold A7 chP okU at *;omega))
         refine s1 (A8 _ _ _) rfl rfl rfl ?_;refine s7 [.bool _] rfl ?_;have z0:=B4 m hc.1 hc.2;have z1:=B8 c;refine l1 ?_;first|(refine decide_eq_decide.2 ?_;unfold A7 chP okU;omega)|(symm;first|exact decide_eq_true (by unfold A7 chP okU at *;omega)|exact decide_eq_false (by unfold A7 chP okU at *;omega))
        refine s1 (A8 _ _ _) rfl rfl rfl ?_;refine s4 rfl (fun g8=>?_) fun g8=>?_
        ·refine s1 (A8 _ _ _) rfl rfl rfl ?_;refine s4 rfl (fun g9=>?_) fun g9=>?_
         ·refine s7 [.bool _] rfl ?_;have z0:=B4 m hc.1 hc.2;have z1:=B8 c;refine l1 ?_;first|(refine decide_eq_decide.2 ?_;unfold A7 chP okU;omega)|(symm;first|exact decide_eq_true (by unfold A7 chP okU at *;omega)|exact decide_eq_false (by unfold A7 chP okU at *;omega))
         refine s1 (A8 _ _ _) rfl rfl rfl ?_;refine s7 [.bool _] rfl ?_;have z0:=B4 m hc.1 hc.2;have z1:=B8 c;refine l1 ?_;first|(refine decide_eq_decide.2 ?_;unfold A7 chP okU;omega)|(symm;first|exact decide_eq_true (by unfold A7 chP okU at *;omega)|exact decide_eq_false (by unfold A7 chP okU at *;omega))
        refine s1 (A8 _ _ _) rfl rfl rfl ?_;refine s4 rfl (fun g9=>?_) fun g9=>?_
        ·refine s1 (A8 _ _ _) rfl rfl rfl ?_;refine s4 rfl (fun g10=>?_) fun g10=>?_
         ·refine s7 [.bool _] rfl ?_;have z0:=B4 m hc.1 hc.2;have z1:=B8 c;refine l1 ?_;first|(refine decide_eq_decide.2 ?_;unfold A7 chP okU;omega)|(symm;first|exact decide_eq_true (by unfold A7 chP okU at *;omega)|exact decide_eq_false (by unfold A7 chP okU at *;omega))
         refine s1 (A8 _ _ _) rfl rfl rfl ?_;refine s7 [.bool _] rfl ?_;have z0:=B4 m hc.1 hc.2;have z1:=B8 c;refine l1 ?_;first|(refine decide_eq_decide.2 ?_;unfold A7 chP okU;omega)|(symm;first|exact decide_eq_true (by unfold A7 chP okU at *;omega)|exact decide_eq_false (by unfold A7 chP okU at *;omega))
        refine s1 (A8 _ _ _) rfl rfl rfl ?_;refine s4 rfl (fun g10=>?_) fun g10=>?_
        ·refine s1 (A8 _ _ _) rfl rfl rfl ?_;refine s4 rfl (fun g11=>?_) fun g11=>?_
         ·refine s7 [.bool _] rfl ?_;have z0:=B4 m hc.1 hc.2;have z1:=B8 c;refine l1 ?_;first|(refine decide_eq_decide.2 ?_;unfold A7 chP okU;omega)|(symm;first|exact decide_eq_true (by unfold A7 chP okU at *;omega)|exact decide_eq_false (by unfold A7 chP okU at *;omega))
         refine s1 (A8 _ _ _) rfl rfl rfl ?_;refine s4 rfl (fun g12=>?_) fun g12=>?_
         ·refine s7 [.bool _] rfl ?_;have z0:=B4 m hc.1 hc.2;have z1:=B8 c;refine l1 ?_;first|(refine decide_eq_decide.2 ?_;unfold A7 chP okU;omega)|(symm;first|exact decide_eq_true (by unfold A7 chP okU at *;omega)|exact decide_eq_false (by unfold A7 chP okU at *;omega))
         refine s1 (A8 _ _ _) rfl rfl rfl ?_;refine s7 [.bool _] rfl ?_;have z0:=B4 m hc.1 hc.2;have z1:=B8 c;refine l1 ?_;first|(refine decide_eq_decide.2 ?_;unfold A7 chP okU;omega)|(symm;first|exact decide_eq_true (by unfold A7 chP okU at *;omega)|exact decide_eq_false (by unfold A7 chP okU at *;omega))
        refine s1 (A8 _ _ _) rfl rfl rfl ?_;refine s5 rfl (fun g11=>?_) fun g11=>?_
        ·refine s7 [.bool _] rfl ?_;have z0:=B4 m hc.1 hc.2;have z1:=B8 c;refine l1 ?_;first|(refine decide_eq_decide.2 ?_;unfold A7 chP okU;omega)|(symm;first|exact decide_eq_true (by unfold A7 chP okU at *;omega)|exact decide_eq_false (by unfold A7 chP okU at *;omega))
        refine s1 (A8 _ _ _) rfl rfl rfl ?_;refine s7 [.bool _] rfl ?_;have z0:=B4 m hc.1 hc.2;have z1:=B8 c;refine l1 ?_;first|(refine decide_eq_decide.2 ?_;unfold A7 chP okU;omega)|(symm;first|exact decide_eq_true (by unfold A7 chP okU at *;omega)|exact decide_eq_false (by unfold A7 chP okU at *;omega))
       refine s1 (A8 _ _ _) rfl rfl rfl ?_;refine s4 rfl (fun g6=>?_) fun g6=>?_
       ·refine s7 [.bool _] rfl ?_;have z0:=B4 m hc.1 hc.2;have z1:=B8 c;refine l1 ?_;first|(refine decide_eq_decide.2 ?_;unfold A7 chP okU;omega)|(symm;first|exact decide_eq_true (by unfold A7 chP okU at *;omega)|exact decide_eq_false (by unfold A7 chP okU at *;omega))
       refine s1 (A8 _ _ _) rfl rfl rfl ?_;refine s4 rfl (fun g7=>?_) fun g7=>?_
       ·refine s1 (H3 _ _ _) rfl rfl rfl ?_;refine s5 rfl (fun g8=>?_) fun g8=>?_
        ·refine s7 [.bool _] rfl ?_;have z0:=B4 m hc.1 hc.2;have z1:=B8 c;refine l1 ?_;first|(refine decide_eq_decide.2 ?_;unfold A7 chP okU;omega)|(symm;first|exact decide_eq_true (by unfold A7 chP okU at *;omega)|exact decide_eq_false (by unfold A7 chP okU at *;omega))
        refine s1 (H3 _ _ _) rfl rfl rfl ?_;refine s7 [.bool _] rfl ?_;have z0:=B4 m hc.1 hc.2;have z1:=B8 c;refine l1 ?_;first|(refine decide_eq_decide.2 ?_;unfold A7 chP okU;omega)|(symm;first|exact decide_eq_true (by unfold A7 chP okU at *;omega)|exact decide_eq_false (by unfold A7 chP okU at *;omega))
       refine s31 (A49 _) rfl ?_;refine s1 (F2 _ _ _) rfl rfl rfl ?_;refine s5 rfl (fun g8=>?_) fun g8=>?_
       ·refine s7 [.bool _] rfl ?_;have z0:=B4 m hc.1 hc.2;have z1:=B8 c;refine l1 ?_;first|(refine decide_eq_decide.2 ?_;unfold A7 chP okU;omega)|(symm;first|exact decide_eq_true (by unfold A7 chP okU at *;omega)|exact decide_eq_false (by unfold A7 chP okU at *;omega))
       refine s1 (A8 _ _ _) rfl rfl rfl ?_;refine s4 rfl (fun g9=>?_) fun g9=>?_
       ·refine s7 [.bool _] rfl ?_;have z0:=B4 m hc.1 hc.2;have z1:=B8 c;refine l1 ?_;first|(refine decide_eq_decide.2 ?_;unfold A7 chP okU;omega)|(symm;first|exact decide_eq_true (by unfold A7 chP okU at *;omega)|exact decide_eq_false (by unfold A7 chP okU at *;omega))
       refine s1 (A8 _ _ _) rfl rfl rfl ?_;refine s7 [.bool _] rfl ?_;have z0:=B4 m hc.1 hc.2;have z1:=B8 c;refine l1 ?_;first|(refine decide_eq_decide.2 ?_;unfold A7 chP okU;omega)|(symm;first|exact decide_eq_true (by unfold A7 chP okU at *;omega)|exact decide_eq_false (by unfold A7 chP okU at *;omega))
      refine s1 (F2 _ _ _) rfl rfl rfl ?_;refine s4 rfl (fun g5=>?_) fun g5=>?_
      ·refine s1 (G0 _ _ _) rfl rfl rfl ?_;refine s4 rfl (fun g6=>?_) fun g6=>?_
       ·refine s1 (F2 _ _ _) rfl rfl rfl ?_;refine s5 rfl (fun g7=>?_) fun g7=>?_
        ·refine s7 [.bool _] rfl ?_;have z0:=B4 m hc.1 hc.2;have z1:=B8 c;refine l1 ?_;first|(refine decide_eq_decide.2 ?_;unfold A7 chP okU;omega)|(symm;first|exact decide_eq_true (by unfold A7 chP okU at *;omega)|exact decide_eq_false (by unfold A7 chP okU at *;omega))
        refine s1 (G0 _ _ _) rfl rfl rfl ?_;refine s7 [.bool _] rfl ?_;have z0:=B4 m hc.1 hc.2;have z1:=B8 c;refine l1 ?_;first|(refine decide_eq_decide.2 ?_;unfold A7 chP okU;omega)|(symm;first|exact decide_eq_true (by unfold A7 chP okU at *;omega)|exact decide_eq_false (by unfold A7 chP okU at *;omega))
       refine s1 (A8 _ _ _) rfl rfl rfl ?_;refine s4 rfl (fun g7=>?_) fun g7=>?_
       ·refine s1 (A8 _ _ _) rfl rfl rfl ?_;refine s4 rfl (fun g8=>?_) fun g8=>?_
        ·refine s7 [.bool _] rfl ?_;have z0:=B4 m hc.1 hc.2;have z1:=B8 c;refine l1 ?_;first|(refine decide_eq_decide.2 ?_;unfold A7 chP okU;omega)|(symm;first|exact decide_eq_true (by unfold A7 chP okU at *;omega)|exact decide_eq_false (by unfold A7 chP okU at *;omega))
        refine s1 (A8 _ _ _) rfl rfl rfl ?_;refine s7 [.bool _] rfl ?_;have z0:=B4 m hc.1 hc.2;have z1:=B8 c;refine l1 ?_;first|(refine decide_eq_decide.2 ?_;unfold A7 chP okU;omega)|(symm;first|exact decide_eq_true (by unfold A7 chP okU at *;omega)|exact decide_eq_false (by unfold A7 chP okU at *;omega))
       refine s1 (A8 _ _ _) rfl rfl rfl ?_;refine s4 rfl (fun g8=>?_) fun g8=>?_
       ·refine s1 (A8 _ _ _) rfl rfl rfl ?_;refine s4 rfl (fun g9=>?_) fun g9=>?_
        ·refine s7 [.bool _] rfl ?_;have z0:=B4 m hc.1 hc.2;have z1:=B8 c;refine l1 ?_;first|(refine decide_eq_decide.2 ?_;unfold A7 chP okU;omega)|(symm;first|exact decide_eq_true (by unfold A7 chP okU at *;omega)|exact decide_eq_false (by unfold A7 chP okU at *;omega))
        refine s1 (A8 _ _ _) rfl rfl rfl ?_;refine s7 [.bool _] rfl ?_;have z0:=B4 m hc.1 hc.2;have z1:=B8 c;refine l1 ?_;first|(refine decide_eq_decide.2 ?_;unfold A7 chP okU;omega)|(symm;first|exact decide_eq_true (by unfold A7 chP okU at *;omega)|exact decide_eq_false (by unfold A7 chP okU at *;omega))
       refine s1 (A8 _ _ _) rfl rfl rfl ?_;refine s4 rfl (fun g9=>?_) fun g9=>?_
       ·refine s1 (A8 _ _ _) rfl rfl rfl ?_;refine s4 rfl (fun g10=>?_) fun g10=>?_
        ·refine s7 [.bool _] rfl ?_;have z0:=B4 m hc.1 hc.2;have z1:=B8 c;refine l1 ?_;first|(refine decide_eq_decide.2 ?_;unfold A7 chP okU;omega)|(symm;first|exact decide_eq_true (by unfold A7 chP okU at *;omega)|exact decide_eq_false (by unfold A7 chP okU at *;omega))
        refine s1 (A8 _ _ _) rfl rfl rfl ?_;refine s4 rfl (fun g11=>?_) fun g11=>?_
        ·refine s7 [.bool _] rfl ?_;have z0:=B4 m hc.1 hc.2;have z1:=B8 c;refine l1 ?_;first|(refine decide_eq_decide.2 ?_;unfold A7 chP okU;omega)|(symm;first|exact decide_eq_true (by unfold A7 chP okU at *;omega)|exact decide_eq_false (by unfold A7 chP okU at *;omega))
        refine s1 (A8 _ _ _) rfl rfl rfl ?_;refine s7 [.bool _] rfl ?_;have z0:=B4 m hc.1 hc.2;have z1:=B8 c;refine l1 ?_;first|(refine decide_eq_decide.2 ?_;unfold A7 chP okU;omega)|(symm;first|exact decide_eq_true (by unfold A7 chP okU at *;omega)|exact decide_eq_false (by unfold A7 chP okU at *;omega))
       refine s1 (A8 _ _ _) rfl rfl rfl ?_;refine s5 rfl (fun g10=>?_) fun g10=>?_
       ·refine s7 [.bool _] rfl ?_;have z0:=B4 m hc.1 hc.2;have z1:=B8 c;refine l1 ?_;first|(refine decide_eq_decide.2 ?_;unfold A7 chP okU;omega)|(symm;first|exact decide_eq_true (by unfold A7 chP okU at *;omega)|exact decide_eq_false (by unfold A7 chP okU at *;omega))
       refine s1 (A8 _ _ _) rfl rfl rfl ?_;refine s7 [.bool _] rfl ?_;have z0:=B4 m hc.1 hc.2;have z1:=B8 c;refine l1 ?_;first|(refine decide_eq_decide.2 ?_;unfold A7 chP okU;omega)|(symm;first|exact decide_eq_true (by unfold A7 chP okU at *;omega)|exact decide_eq_false (by unfold A7 chP okU at *;omega))
      refine s1 (A8 _ _ _) rfl rfl rfl ?_;refine s4 rfl (fun g6=>?_) fun g6=>?_
      ·refine s1 (A8 _ _ _) rfl rfl rfl ?_;refine s4 rfl (fun g7=>?_) fun g7=>?_
       ·refine s7 [.bool _] rfl ?_;have z0:=B4 m hc.1 hc.2;have z1:=B8 c;refine l1 ?_;first|(refine decide_eq_decide.2 ?_;unfold A7 chP okU;omega)|(symm;first|exact decide_eq_true (by unfold A7 chP okU at *;omega)|exact decide_eq_false (by unfold A7 chP okU at *;omega))
       refine s1 (A8 _ _ _) rfl rfl rfl ?_;refine s7 [.bool _] rfl ?_;have z0:=B4 m hc.1 hc.2;have z1:=B8 c;refine l1 ?_;first|(refine decide_eq_decide.2 ?_;unfold A7 chP okU;omega)|(symm;first|exact decide_eq_true (by unfold A7 chP okU at *;omega)|exact decide_eq_false (by unfold A7 chP okU at *;omega))
      refine s1 (A8 _ _ _) rfl rfl rfl ?_;refine s4 rfl (fun g7=>?_) fun g7=>?_
      ·refine s1 (A8 _ _ _) rfl rfl rfl ?_;refine s4 rfl (fun g8=>?_) fun g8=>?_
       ·refine s7 [.bool _] rfl ?_;have z0:=B4 m hc.1 hc.2;have z1:=B8 c;refine l1 ?_;first|(refine decide_eq_decide.2 ?_;unfold A7 chP okU;omega)|(symm;first|exact decide_eq_true (by unfold A7 chP okU at *;omega)|exact decide_eq_false (by unfold A7 chP okU at *;omega))
       refine s1 (A8 _ _ _) rfl rfl rfl ?_;refine s7 [.bool _] rfl ?_;have z0:=B4 m hc.1 hc.2;have z1:=B8 c;refine l1 ?_;first|(refine decide_eq_decide.2 ?_;unfold A7 chP okU;omega)|(symm;first|exact decide_eq_true (by unfold A7 chP okU at *;omega)|exact decide_eq_false (by unfold A7 chP okU at *;omega))
      refine s1 (A8 _ _ _) rfl rfl rfl ?_;refine s4 rfl (fun g8=>?_) fun g8=>?_
      ·refine s1 (A8 _ _ _) rfl rfl rfl ?_;refine s4 rfl (fun g9=>?_) fun g9=>?_
       ·refine s7 [.bool _] rfl ?_;have z0:=B4 m hc.1 hc.2;have z1:=B8 c;refine l1 ?_;first|(refine decide_eq_decide.2 ?_;unfold A7 chP okU;omega)|(symm;first|exact decide_eq_true (by unfold A7 chP okU at *;omega)|exact decide_eq_false (by unfold A7 chP okU at *;omega))
       refine s1 (A8 _ _ _) rfl rfl rfl ?_;refine s4 rfl (fun g10=>?_) fun g10=>?_
       ·refine s7 [.bool _] rfl ?_;have z0:=B4 m hc.1 hc.2;have z1:=B8 c;refine l1 ?_;first|(refine decide_eq_decide.2 ?_;unfold A7 chP okU;omega)|(symm;first|exact decide_eq_true (by unfold A7 chP okU at *;omega)|exact decide_eq_false (by unfold A7 chP okU at *;omega))
       refine s1 (A8 _ _ _) rfl rfl rfl ?_;refine s7 [.bool _] rfl ?_;have z0:=B4 m hc.1 hc.2;have z1:=B8 c;refine l1 ?_;first|(refine decide_eq_decide.2 ?_;unfold A7 chP okU;omega)|(symm;first|exact decide_eq_true (by unfold A7 chP okU at *;omega)|exact decide_eq_false (by unfold A7 chP okU at *;omega))
      refine s1 (A8 _ _ _) rfl rfl rfl ?_;refine s5 rfl (fun g9=>?_) fun g9=>?_
      ·refine s7 [.bool _] rfl ?_;have z0:=B4 m hc.1 hc.2;have z1:=B8 c;refine l1 ?_;first|(refine decide_eq_decide.2 ?_;unfold A7 chP okU;omega)|(symm;first|exact decide_eq_true (by unfold A7 chP okU at *;omega)|exact decide_eq_false (by unfold A7 chP okU at *;omega))
      refine s1 (A8 _ _ _) rfl rfl rfl ?_;refine s7 [.bool _] rfl ?_;have z0:=B4 m hc.1 hc.2;have z1:=B8 c;refine l1 ?_;first|(refine decide_eq_decide.2 ?_;unfold A7 chP okU;omega)|(symm;first|exact decide_eq_true (by unfold A7 chP okU at *;omega)|exact decide_eq_false (by unfold A7 chP okU at *;omega))
     refine s1 (F2 _ _ _) rfl rfl rfl ?_;refine s4 rfl (fun g4=>?_) fun g4=>?_
     ·refine s1 (G0 _ _ _) rfl rfl rfl ?_;refine s4 rfl (fun g5=>?_) fun g5=>?_
      ·refine s1 (F2 _ _ _) rfl rfl rfl ?_;refine s5 rfl (fun g6=>?_) fun g6=>?_
       ·refine s7 [.bool _] rfl ?_;have z0:=B4 m hc.1 hc.2;have z1:=B8 c;refine l1 ?_;first|(refine decide_eq_decide.2 ?_;unfold A7 chP okU;omega)|(symm;first|exact decide_eq_true (by unfold A7 chP okU at *;omega)|exact decide_eq_false (by unfold A7 chP okU at *;omega))
       refine s1 (G0 _ _ _) rfl rfl rfl ?_;refine s7 [.bool _] rfl ?_;have z0:=B4 m hc.1 hc.2;have z1:=B8 c;refine l1 ?_;first|(refine decide_eq_decide.2 ?_;unfold A7 chP okU;omega)|(symm;first|exact decide_eq_true (by unfold A7 chP okU at *;omega)|exact decide_eq_false (by unfold A7 chP okU at *;omega))
      refine s1 (A8 _ _ _) rfl rfl rfl ?_;refine s4 rfl (fun g6=>?_) fun g6=>?_
      ·refine s1 (A8 _ _ _) rfl rfl rfl ?_;refine s4 rfl (fun g7=>?_) fun g7=>?_
       ·refine s7 [.bool _] rfl ?_;have z0:=B4 m hc.1 hc.2;have z1:=B8 c;refine l1 ?_;first|(refine decide_eq_decide.2 ?_;unfold A7 chP okU;omega)|(symm;first|exact decide_eq_true (by unfold A7 chP okU at *;omega)|exact decide_eq_false (by unfold A7 chP okU at *;omega))
       refine s1 (A8 _ _ _) rfl rfl rfl ?_;refine s7 [.bool _] rfl ?_;have z0:=B4 m hc.1 hc.2;have z1:=B8 c;refine l1 ?_;first|(refine decide_eq_decide.2 ?_;unfold A7 chP okU;omega)|(symm;first|exact decide_eq_true (by unfold A7 chP okU at *;omega)|exact decide_eq_false (by unfold A7 chP okU at *;omega))
      refine s1 (A8 _ _ _) rfl rfl rfl ?_;refine s4 rfl (fun g7=>?_) fun g7=>?_
      ·refine s1 (A8 _ _ _) rfl rfl rfl ?_;refine s4 rfl (fun g8=>?_) fun g8=>?_
       ·refine s7 [.bool _] rfl ?_;have z0:=B4 m hc.1 hc.2;have z1:=B8 c;refine l1 ?_;first|(refine decide_eq_decide.2 ?_;unfold A7 chP okU;omega)|(symm;first|exact decide_eq_true (by unfold A7 chP okU at *;omega)|exact decide_eq_false (by unfold A7 chP okU at *;omega))
       refine s1 (A8 _ _ _) rfl rfl rfl ?_;refine s7 [.bool _] rfl ?_;have z0:=B4 m hc.1 hc.2;have z1:=B8 c;refine l1 ?_;first|(refine decide_eq_decide.2 ?_;unfold A7 chP okU;omega)|(symm;first|exact decide_eq_true (by unfold A7 chP okU at *;omega)|exact decide_eq_false (by unfold A7 chP okU at *;omega))
      refine s1 (A8 _ _ _) rfl rfl rfl ?_;refine s4 rfl (fun g8=>?_) fun g8=>?_
      ·refine s1 (A8 _ _ _) rfl rfl rfl ?_;refine s4 rfl (fun g9=>?_) fun g9=>?_
       ·refine s7 [.bool _] rfl ?_;have z0:=B4 m hc.1 hc.2;have z1:=B8 c;refine l1 ?_;first|(refine decide_eq_decide.2 ?_;unfold A7 chP okU;omega)|(symm;first|exact decide_eq_true (by unfold A7 chP okU at *;omega)|exact decide_eq_false (by unfold A7 chP okU at *;omega))
       refine s1 (A8 _ _ _) rfl rfl rfl ?_;refine s4 rfl (fun g10=>?_) fun g10=>?_
       ·refine s7 [.bool _] rfl ?_;have z0:=B4 m hc.1 hc.2;have z1:=B8 c;refine l1 ?_;first|(refine decide_eq_decide.2 ?_;unfold A7 chP okU;omega)|(symm;first|exact decide_eq_true (by unfold A7 chP okU at *;omega)|exact decide_eq_false (by unfold A7 chP okU at *;omega))
       refine s1 (A8 _ _ _) rfl rfl rfl ?_;refine s7 [.bool _] rfl ?_;have z0:=B4 m hc.1 hc.2;have z1:=B8 c;refine l1 ?_;first|(refine decide_eq_decide.2 ?_;unfold A7 chP okU;omega)|(symm;first|exact decide_eq_true (by unfold A7 chP okU at *;omega)|exact decide_eq_false (by unfold A7 chP okU at *;omega))
      refine s1 (A8 _ _ _) rfl rfl rfl ?_;refine s5 rfl (fun g9=>?_) fun g9=>?_
      ·refine s7 [.bool _] rfl ?_;have z0:=B4 m hc.1 hc.2;have z1:=B8 c;refine l1 ?_;first|(refine decide_eq_decide.2 ?_;unfold A7 chP okU;omega)|(symm;first|exact decide_eq_true (by unfold A7 chP okU at *;omega)|exact decide_eq_false (by unfold A7 chP okU at *;omega))
      refine s1 (A8 _ _ _) rfl rfl rfl ?_;refine s7 [.bool _] rfl ?_;have z0:=B4 m hc.1 hc.2;have z1:=B8 c;refine l1 ?_;first|(refine decide_eq_decide.2 ?_;unfold A7 chP okU;omega)|(symm;first|exact decide_eq_true (by unfold A7 chP okU at *;omega)|exact decide_eq_false (by unfold A7 chP okU at *;omega))
     refine s1 (A8 _ _ _) rfl rfl rfl ?_;refine s4 rfl (fun g5=>?_) fun g5=>?_
     ·refine s1 (A8 _ _ _) rfl rfl rfl ?_;refine s4 rfl (fun g6=>?_) fun g6=>?_
      ·refine s7 [.bool _] rfl ?_;have z0:=B4 m hc.1 hc.2;have z1:=B8 c;refine l1 ?_;first|(refine decide_eq_decide.2 ?_;unfold A7 chP okU;omega)|(symm;first|exact decide_eq_true (by unfold A7 chP okU at *;omega)|exact decide_eq_false (by unfold A7 chP okU at *;omega))
      refine s1 (A8 _ _ _) rfl rfl rfl ?_;refine s7 [.bool _] rfl ?_;have z0:=B4 m hc.1 hc.2;have z1:=B8 c;refine l1 ?_;first|(refine decide_eq_decide.2 ?_;unfold A7 chP okU;omega)|(symm;first|exact decide_eq_true (by unfold A7 chP okU at *;omega)|exact decide_eq_false (by unfold A7 chP okU at *;omega))
     refine s1 (A8 _ _ _) rfl rfl rfl ?_;refine s4 rfl (fun g6=>?_) fun g6=>?_
     ·refine s1 (A8 _ _ _) rfl rfl rfl ?_;refine s4 rfl (fun g7=>?_) fun g7=>?_
      ·refine s7 [.bool _] rfl ?_;have z0:=B4 m hc.1 hc.2;have z1:=B8 c;refine l1 ?_;first|(refine decide_eq_decide.2 ?_;unfold A7 chP okU;omega)|(symm;first|exact decide_eq_true (by unfold A7 chP okU at *;omega)|exact decide_eq_false (by unfold A7 chP okU at *;omega))
      refine s1 (A8 _ _ _) rfl rfl rfl ?_;refine s7 [.bool _] rfl ?_;have z0:=B4 m hc.1 hc.2;have z1:=B8 c;refine l1 ?_;first|(refine decide_eq_decide.2 ?_;unfold A7 chP okU;omega)|(symm;first|exact decide_eq_true (by unfold A7 chP okU at *;omega)|exact decide_eq_false (by unfold A7 chP okU at *;omega))
     refine s1 (A8 _ _ _) rfl rfl rfl ?_;refine s4 rfl (fun g7=>?_) fun g7=>?_
     ·refine s1 (A8 _ _ _) rfl rfl rfl ?_;refine s4 rfl (fun g8=>?_) fun g8=>?_
      ·refine s7 [.bool _] rfl ?_;have z0:=B4 m hc.1 hc.2;have z1:=B8 c;refine l1 ?_;first|(refine decide_eq_decide.2 ?_;unfold A7 chP okU;omega)|(symm;first|exact decide_eq_true (by unfold A7 chP okU at *;omega)|exact decide_eq_false (by unfold A7 chP okU at *;omega))
      refine s1 (A8 _ _ _) rfl rfl rfl ?_;refine s4 rfl (fun g9=>?_) fun g9=>?_
      ·refine s7 [.bool _] rfl ?_;have z0:=B4 m hc.1 hc.2;have z1:=B8 c;refine l1 ?_;first|(refine decide_eq_decide.2 ?_;unfold A7 chP okU;omega)|(symm;first|exact decide_eq_true (by unfold A7 chP okU at *;omega)|exact decide_eq_false (by unfold A7 chP okU at *;omega))
      refine s1 (A8 _ _ _) rfl rfl rfl ?_;refine s7 [.bool _] rfl ?_;have z0:=B4 m hc.1 hc.2;have z1:=B8 c;refine l1 ?_;first|(refine decide_eq_decide.2 ?_;unfold A7 chP okU;omega)|(symm;first|exact decide_eq_true (by unfold A7 chP okU at *;omega)|exact decide_eq_false (by unfold A7 chP okU at *;omega))
     refine s1 (A8 _ _ _) rfl rfl rfl ?_;refine s5 rfl (fun g8=>?_) fun g8=>?_
     ·refine s7 [.bool _] rfl ?_;have z0:=B4 m hc.1 hc.2;have z1:=B8 c;refine l1 ?_;first|(refine decide_eq_decide.2 ?_;unfold A7 chP okU;omega)|(symm;first|exact decide_eq_true (by unfold A7 chP okU at *;omega)|exact decide_eq_false (by unfold A7 chP okU at *;omega))
     refine s1 (A8 _ _ _) rfl rfl rfl ?_;refine s7 [.bool _] rfl ?_;have z0:=B4 m hc.1 hc.2;have z1:=B8 c;refine l1 ?_;first|(refine decide_eq_decide.2 ?_;unfold A7 chP okU;omega)|(symm;first|exact decide_eq_true (by unfold A7 chP okU at *;omega)|exact decide_eq_false (by unfold A7 chP okU at *;omega))
    refine s1 (F2 _ _ _) rfl rfl rfl ?_;refine s4 rfl (fun g2=>?_) fun g2=>?_
    ·refine s1 (G0 _ _ _) rfl rfl rfl ?_;refine s4 rfl (fun g3=>?_) fun g3=>?_
     ·refine s1 (F2 _ _ _) rfl rfl rfl ?_;refine s5 rfl (fun g4=>?_) fun g4=>?_
      ·refine s7 [.bool _] rfl ?_;have z0:=B4 m hc.1 hc.2;have z1:=B8 c;refine l1 ?_;first|(refine decide_eq_decide.2 ?_;unfold A7 chP okU;omega)|(symm;first|exact decide_eq_true (by unfold A7 chP okU at *;omega)|exact decide_eq_false (by unfold A7 chP okU at *;omega))
      refine s1 (G0 _ _ _) rfl rfl rfl ?_;refine s7 [.bool _] rfl ?_;have z0:=B4 m hc.1 hc.2;have z1:=B8 c;refine l1 ?_;first|(refine decide_eq_decide.2 ?_;unfold A7 chP okU;omega)|(symm;first|exact decide_eq_true (by unfold A7 chP okU at *;omega)|exact decide_eq_false (by unfold A7 chP okU at *;omega))
     refine s1 (A8 _ _ _) rfl rfl rfl ?_;refine s4 rfl (fun g4=>?_) fun g4=>?_
     ·refine s1 (A8 _ _ _) rfl rfl rfl ?_;refine s4 rfl (fun g5=>?_) fun g5=>?_
      ·refine s7 [.bool _] rfl ?_;have z0:=B4 m hc.1 hc.2;have z1:=B8 c;refine l1 ?_;first|(refine decide_eq_decide.2 ?_;unfold A7 chP okU;omega)|(symm;first|exact decide_eq_true (by unfold A7 chP okU at *;omega)|exact decide_eq_false (by unfold A7 chP okU at *;omega))
      refine s1 (A8 _ _ _) rfl rfl rfl ?_;refine s7 [.bool _] rfl ?_;have z0:=B4 m hc.1 hc.2;have z1:=B8 c;refine l1 ?_;first|(refine decide_eq_decide.2 ?_;unfold A7 chP okU;omega)|(symm;first|exact decide_eq_true (by unfold A7 chP okU at *;omega)|exact decide_eq_false (by unfold A7 chP okU at *;omega))
     refine s1 (A8 _ _ _) rfl rfl rfl ?_;refine s4 rfl (fun g5=>?_) fun g5=>?_
     ·refine s1 (A8 _ _ _) rfl rfl rfl ?_;refine s4 rfl (fun g6=>?_) fun g6=>?_
      ·refine s7 [.bool _] rfl ?_;have z0:=B4 m hc.1 hc.2;have z1:=B8 c;refine l1 ?_;first|(refine decide_eq_decide.2 ?_;unfold A7 chP okU;omega)|(symm;first|exact decide_eq_true (by unfold A7 chP okU at *;omega)|exact decide_eq_false (by unfold A7 chP okU at *;omega))
      refine s1 (A8 _ _ _) rfl rfl rfl ?_;refine s7 [.bool _] rfl ?_;have z0:=B4 m hc.1 hc.2;have z1:=B8 c;refine l1 ?_;first|(refine decide_eq_decide.2 ?_;unfold A7 chP okU;omega)|(symm;first|exact decide_eq_true (by unfold A7 chP okU at *;omega)|exact decide_eq_false (by unfold A7 chP okU at *;omega))
     refine s1 (A8 _ _ _) rfl rfl rfl ?_;refine s4 rfl (fun g6=>?_) fun g6=>?_
     ·refine s1 (A8 _ _ _) rfl rfl rfl ?_;refine s4 rfl (fun g7=>?_) fun g7=>?_
      ·refine s7 [.bool _] rfl ?_;have z0:=B4 m hc.1 hc.2;have z1:=B8 c;refine l1 ?_;first|(refine decide_eq_decide.2 ?_;unfold A7 chP okU;omega)|(symm;first|exact decide_eq_true (by unfold A7 chP okU at *;omega)|exact decide_eq_false (by unfold A7 chP okU at *;omega))
      refine s1 (A8 _ _ _) rfl rfl rfl ?_;refine s4 rfl (fun g8=>?_) fun g8=>?_
      ·refine s7 [.bool _] rfl ?_;have z0:=B4 m hc.1 hc.2;have z1:=B8 c;refine l1 ?_;first|(refine decide_eq_decide.2 ?_;unfold A7 chP okU;omega)|(symm;first|exact decide_eq_true (by unfold A7 chP okU at *;omega)|exact decide_eq_false (by unfold A7 chP okU at *;omega))
      refine s1 (A8 _ _ _) rfl rfl rfl ?_;refine s7 [.bool _] rfl ?_;have z0:=B4 m hc.1 hc.2;have z1:=B8 c;refine l1 ?_;first|(refine decide_eq_decide.2 ?_;unfold A7 chP okU;omega)|(symm;first|exact decide_eq_true (by unfold A7 chP okU at *;omega)|exact decide_eq_false (by unfold A7 chP okU at *;omega))
     refine s1 (A8 _ _ _) rfl rfl rfl ?_;refine s5 rfl (fun g7=>?_) fun g7=>?_
     ·refine s7 [.bool _] rfl ?_;have z0:=B4 m hc.1 hc.2;have z1:=B8 c;refine l1 ?_;first|(refine decide_eq_decide.2 ?_;unfold A7 chP okU;omega)|(symm;first|exact decide_eq_true (by unfold A7 chP okU at *;omega)|exact decide_eq_false (by unfold A7 chP okU at *;omega))
     refine s1 (A8 _ _ _) rfl rfl rfl ?_;refine s7 [.bool _] rfl ?_;have z0:=B4 m hc.1 hc.2;have z1:=B8 c;refine l1 ?_;first|(refine decide_eq_decide.2 ?_;unfold A7 chP okU;omega)|(symm;first|exact decide_eq_true (by unfold A7 chP okU at *;omega)|exact decide_eq_false (by unfold A7 chP okU at *;omega))
    refine s1 (A8 _ _ _) rfl rfl rfl ?_;refine s4 rfl (fun g3=>?_) fun g3=>?_
    ·refine s1 (A8 _ _ _) rfl rfl rfl ?_;refine s4 rfl (fun g4=>?_) fun g4=>?_
     ·refine s7 [.bool _] rfl ?_;have z0:=B4 m hc.1 hc.2;have z1:=B8 c;refine l1 ?_;first|(refine decide_eq_decide.2 ?_;unfold A7 chP okU;omega)|(symm;first|exact decide_eq_true (by unfold A7 chP okU at *;omega)|exact decide_eq_false (by unfold A7 chP okU at *;omega))
     refine s1 (A8 _ _ _) rfl rfl rfl ?_;refine s7 [.bool _] rfl ?_;have z0:=B4 m hc.1 hc.2;have z1:=B8 c;refine l1 ?_;first|(refine decide_eq_decide.2 ?_;unfold A7 chP okU;omega)|(symm;first|exact decide_eq_true (by unfold A7 chP okU at *;omega)|exact decide_eq_false (by unfold A7 chP okU at *;omega))
    refine s1 (A8 _ _ _) rfl rfl rfl ?_;refine s4 rfl (fun g4=>?_) fun g4=>?_
    ·refine s1 (A8 _ _ _) rfl rfl rfl ?_;refine s4 rfl (fun g5=>?_) fun g5=>?_
     ·refine s7 [.bool _] rfl ?_;have z0:=B4 m hc.1 hc.2;have z1:=B8 c;refine l1 ?_;first|(refine decide_eq_decide.2 ?_;unfold A7 chP okU;omega)|(symm;first|exact decide_eq_true (by unfold A7 chP okU at *;omega)|exact decide_eq_false (by unfold A7 chP okU at *;omega))
     refine s1 (A8 _ _ _) rfl rfl rfl ?_;refine s7 [.bool _] rfl ?_;have z0:=B4 m hc.1 hc.2;have z1:=B8 c;refine l1 ?_;first|(refine decide_eq_decide.2 ?_;unfold A7 chP okU;omega)|(symm;first|exact decide_eq_true (by unfold A7 chP okU at *;omega)|exact decide_eq_false (by unfold A7 chP okU at *;omega))
    refine s1 (A8 _ _ _) rfl rfl rfl ?_;refine s4 rfl (fun g5=>?_) fun g5=>?_
    ·refine s1 (A8 _ _ _) rfl rfl rfl ?_;refine s4 rfl (fun g6=>?_) fun g6=>?_
     ·refine s7 [.bool _] rfl ?_;have z0:=B4 m hc.1 hc.2;have z1:=B8 c;refine l1 ?_;first|(refine decide_eq_decide.2 ?_;unfold A7 chP okU;omega)|(symm;first|exact decide_eq_true (by unfold A7 chP okU at *;omega)|exact decide_eq_false (by unfold A7 chP okU at *;omega))
     refine s1 (A8 _ _ _) rfl rfl rfl ?_;refine s4 rfl (fun g7=>?_) fun g7=>?_
     ·refine s7 [.bool _] rfl ?_;have z0:=B4 m hc.1 hc.2;have z1:=B8 c;refine l1 ?_;first|(refine decide_eq_decide.2 ?_;unfold A7 chP okU;omega)|(symm;first|exact decide_eq_true (by unfold A7 chP okU at *;omega)|exact decide_eq_false (by unfold A7 chP okU at *;omega))
     refine s1 (A8 _ _ _) rfl rfl rfl ?_;refine s7 [.bool _] rfl ?_;have z0:=B4 m hc.1 hc.2;have z1:=B8 c;refine l1 ?_;first|(refine decide_eq_decide.2 ?_;unfold A7 chP okU;omega)|(symm;first|exact decide_eq_true (by unfold A7 chP okU at *;omega)|exact decide_eq_false (by unfold A7 chP okU at *;omega))
    refine s1 (A8 _ _ _) rfl rfl rfl ?_;refine s5 rfl (fun g6=>?_) fun g6=>?_
    ·refine s7 [.bool _] rfl ?_;have z0:=B4 m hc.1 hc.2;have z1:=B8 c;refine l1 ?_;first|(refine decide_eq_decide.2 ?_;unfold A7 chP okU;omega)|(symm;first|exact decide_eq_true (by unfold A7 chP okU at *;omega)|exact decide_eq_false (by unfold A7 chP okU at *;omega))
    refine s1 (A8 _ _ _) rfl rfl rfl ?_;refine s7 [.bool _] rfl ?_;have z0:=B4 m hc.1 hc.2;have z1:=B8 c;refine l1 ?_;first|(refine decide_eq_decide.2 ?_;unfold A7 chP okU;omega)|(symm;first|exact decide_eq_true (by unfold A7 chP okU at *;omega)|exact decide_eq_false (by unfold A7 chP okU at *;omega))
   refine s1 (F2 _ _ _) rfl rfl rfl ?_;refine s4 rfl (fun g1=>?_) fun g1=>?_
   ·refine s1 (G0 _ _ _) rfl rfl rfl ?_;refine s4 rfl (fun g2=>?_) fun g2=>?_
    ·refine s1 (F2 _ _ _) rfl rfl rfl ?_;refine s5 rfl (fun g3=>?_) fun g3=>?_
     ·refine s7 [.bool _] rfl ?_;have z0:=B4 m hc.1 hc.2;have z1:=B8 c;refine l1 ?_;first|(refine decide_eq_decide.2 ?_;unfold A7 chP okU;omega)|(symm;first|exact decide_eq_true (by unfold A7 chP okU at *;omega)|exact decide_eq_false (by unfold A7 chP okU at *;omega))
     refine s1 (G0 _ _ _) rfl rfl rfl ?_;refine s7 [.bool _] rfl ?_;have z0:=B4 m hc.1 hc.2;have z1:=B8 c;refine l1 ?_;first|(refine decide_eq_decide.2 ?_;unfold A7 chP okU;omega)|(symm;first|exact decide_eq_true (by unfold A7 chP okU at *;omega)|exact decide_eq_false (by unfold A7 chP okU at *;omega))
    refine s1 (A8 _ _ _) rfl rfl rfl ?_;refine s4 rfl (fun g3=>?_) fun g3=>?_
    ·refine s1 (A8 _ _ _) rfl rfl rfl ?_;refine s4 rfl (fun g4=>?_) fun g4=>?_
     ·refine s7 [.bool _] rfl ?_;have z0:=B4 m hc.1 hc.2;have z1:=B8 c;refine l1 ?_;first|(refine decide_eq_decide.2 ?_;unfold A7 chP okU;omega)|(symm;first|exact decide_eq_true (by unfold A7 chP okU at *;omega)|exact decide_eq_false (by unfold A7 chP okU at *;omega))
     refine s1 (A8 _ _ _) rfl rfl rfl ?_;refine s7 [.bool _] rfl ?_;have z0:=B4 m hc.1 hc.2;have z1:=B8 c;refine l1 ?_;first|(refine decide_eq_decide.2 ?_;unfold A7 chP okU;omega)|(symm;first|exact decide_eq_true (by unfold A7 chP okU at *;omega)|exact decide_eq_false (by unfold A7 chP okU at *;omega))
    refine s1 (A8 _ _ _) rfl rfl rfl ?_;refine s4 rfl (fun g4=>?_) fun g4=>?_
    ·refine s1 (A8 _ _ _) rfl rfl rfl ?_;refine s4 rfl (fun g5=>?_) fun g5=>?_
     ·refine s7 [.bool _] rfl ?_;have z0:=B4 m hc.1 hc.2;have z1:=B8 c;refine l1 ?_;first|(refine decide_eq_decide.2 ?_;unfold A7 chP okU;omega)|(symm;first|exact decide_eq_true (by unfold A7 chP okU at *;omega)|exact decide_eq_false (by unfold A7 chP okU at *;omega))
     refine s1 (A8 _ _ _) rfl rfl rfl ?_;refine s7 [.bool _] rfl ?_;have z0:=B4 m hc.1 hc.2;have z1:=B8 c;refine l1 ?_;first|(refine decide_eq_decide.2 ?_;unfold A7 chP okU;omega)|(symm;first|exact decide_eq_true (by unfold A7 chP okU at *;omega)|exact decide_eq_false (by unfold A7 chP okU at *;omega))
    refine s1 (A8 _ _ _) rfl rfl rfl ?_;refine s4 rfl (fun g5=>?_) fun g5=>?_
    ·refine s1 (A8 _ _ _) rfl rfl rfl ?_;refine s4 rfl (fun g6=>?_) fun g6=>?_
     ·refine s7 [.bool _] rfl ?_;have z0:=B4 m hc.1 hc.2;have z1:=B8 c;refine l1 ?_;first|(refine decide_eq_decide.2 ?_;unfold A7 chP okU;omega)|(symm;first|exact decide_eq_true (by unfold A7 chP okU at *;omega)|exact decide_eq_false (by unfold A7 chP okU at *;omega))
     refine s1 (A8 _ _ _) rfl rfl rfl ?_;refine s4 rfl (fun g7=>?_) fun g7=>?_
     ·refine s7 [.bool _] rfl ?_;have z0:=B4 m hc.1 hc.2;have z1:=B8 c;refine l1 ?_;first|(refine decide_eq_decide.2 ?_;unfold A7 chP okU;omega)|(symm;first|exact decide_eq_true (by unfold A7 chP okU at *;omega)|exact decide_eq_false (by unfold A7 chP okU at *;omega))
     refine s1 (A8 _ _ _) rfl rfl rfl ?_;refine s7 [.bool _] rfl ?_;have z0:=B4 m hc.1 hc.2;have z1:=B8 c;refine l1 ?_;first|(refine decide_eq_decide.2 ?_;unfold A7 chP okU;omega)|(symm;first|exact decide_eq_true (by unfold A7 chP okU at *;omega)|exact decide_eq_false (by unfold A7 chP okU at *;omega))
    refine s1 (A8 _ _ _) rfl rfl rfl ?_;refine s5 rfl (fun g6=>?_) fun g6=>?_
    ·refine s7 [.bool _] rfl ?_;have z0:=B4 m hc.1 hc.2;have z1:=B8 c;refine l1 ?_;first|(refine decide_eq_decide.2 ?_;unfold A7 chP okU;omega)|(symm;first|exact decide_eq_true (by unfold A7 chP okU at *;omega)|exact decide_eq_false (by unfold A7 chP okU at *;omega))
    refine s1 (A8 _ _ _) rfl rfl rfl ?_;refine s7 [.bool _] rfl ?_;have z0:=B4 m hc.1 hc.2;have z1:=B8 c;refine l1 ?_;first|(refine decide_eq_decide.2 ?_;unfold A7 chP okU;omega)|(symm;first|exact decide_eq_true (by unfold A7 chP okU at *;omega)|exact decide_eq_false (by unfold A7 chP okU at *;omega))
   refine s1 (A8 _ _ _) rfl rfl rfl ?_;refine s4 rfl (fun g2=>?_) fun g2=>?_
   ·refine s1 (A8 _ _ _) rfl rfl rfl ?_;refine s4 rfl (fun g3=>?_) fun g3=>?_
    ·refine s7 [.bool _] rfl ?_;have z0:=B4 m hc.1 hc.2;have z1:=B8 c;refine l1 ?_;first|(refine decide_eq_decide.2 ?_;unfold A7 chP okU;omega)|(symm;first|exact decide_eq_true (by unfold A7 chP okU at *;omega)|exact decide_eq_false (by unfold A7 chP okU at *;omega))
    refine s1 (A8 _ _ _) rfl rfl rfl ?_;refine s7 [.bool _] rfl ?_;have z0:=B4 m hc.1 hc.2;have z1:=B8 c;refine l1 ?_;first|(refine decide_eq_decide.2 ?_;unfold A7 chP okU;omega)|(symm;first|exact decide_eq_true (by unfold A7 chP okU at *;omega)|exact decide_eq_false (by unfold A7 chP okU at *;omega))
   refine s1 (A8 _ _ _) rfl rfl rfl ?_;refine s4 rfl (fun g3=>?_) fun g3=>?_
   ·refine s1 (A8 _ _ _) rfl rfl rfl ?_;refine s4 rfl (fun g4=>?_) fun g4=>?_
    ·refine s7 [.bool _] rfl ?_;have z0:=B4 m hc.1 hc.2;have z1:=B8 c;refine l1 ?_;first|(refine decide_eq_decide.2 ?_;unfold A7 chP okU;omega)|(symm;first|exact decide_eq_true (by unfold A7 chP okU at *;omega)|exact decide_eq_false (by unfold A7 chP okU at *;omega))
    refine s1 (A8 _ _ _) rfl rfl rfl ?_;refine s7 [.bool _] rfl ?_;have z0:=B4 m hc.1 hc.2;have z1:=B8 c;refine l1 ?_;first|(refine decide_eq_decide.2 ?_;unfold A7 chP okU;omega)|(symm;first|exact decide_eq_true (by unfold A7 chP okU at *;omega)|exact decide_eq_false (by unfold A7 chP okU at *;omega))
   refine s1 (A8 _ _ _) rfl rfl rfl ?_;refine s4 rfl (fun g4=>?_) fun g4=>?_
   ·refine s1 (A8 _ _ _) rfl rfl rfl ?_;refine s4 rfl (fun g5=>?_) fun g5=>?_
    ·refine s7 [.bool _] rfl ?_;have z0:=B4 m hc.1 hc.2;have z1:=B8 c;refine l1 ?_;first|(refine decide_eq_decide.2 ?_;unfold A7 chP okU;omega)|(symm;first|exact decide_eq_true (by unfold A7 chP okU at *;omega)|exact decide_eq_false (by unfold A7 chP okU at *;omega))
    refine s1 (A8 _ _ _) rfl rfl rfl ?_;refine s4 rfl (fun g6=>?_) fun g6=>?_
    ·refine s7 [.bool _] rfl ?_;have z0:=B4 m hc.1 hc.2;have z1:=B8 c;refine l1 ?_;first|(refine decide_eq_decide.2 ?_;unfold A7 chP okU;omega)|(symm;first|exact decide_eq_true (by unfold A7 chP okU at *;omega)|exact decide_eq_false (by unfold A7 chP okU at *;omega))
    refine s1 (A8 _ _ _) rfl rfl rfl ?_;refine s7 [.bool _] rfl ?_;have z0:=B4 m hc.1 hc.2;have z1:=B8 c;refine l1 ?_;first|(refine decide_eq_decide.2 ?_;unfold A7 chP okU;omega)|(symm;first|exact decide_eq_true (by unfold A7 chP okU at *;omega)|exact decide_eq_false (by unfold A7 chP okU at *;omega))
   refine s1 (A8 _ _ _) rfl rfl rfl ?_;refine s5 rfl (fun g5=>?_) fun g5=>?_
   ·refine s7 [.bool _] rfl ?_;have z0:=B4 m hc.1 hc.2;have z1:=B8 c;refine l1 ?_;first|(refine decide_eq_decide.2 ?_;unfold A7 chP okU;omega)|(symm;first|exact decide_eq_true (by unfold A7 chP okU at *;omega)|exact decide_eq_false (by unfold A7 chP okU at *;omega))
   refine s1 (A8 _ _ _) rfl rfl rfl ?_;refine s7 [.bool _] rfl ?_;have z0:=B4 m hc.1 hc.2;have z1:=B8 c;refine l1 ?_;first|(refine decide_eq_decide.2 ?_;unfold A7 chP okU;omega)|(symm;first|exact decide_eq_true (by unfold A7 chP okU at *;omega)|exact decide_eq_false (by unfold A7 chP okU at *;omega))
  ·cases hs
 ·cases hs
end Go.Proofs.YtdimocjaepnifaaGreatDoor
