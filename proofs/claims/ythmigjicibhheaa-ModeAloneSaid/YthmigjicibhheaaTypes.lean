/- Closed facts of the types and functions of this program, each reckoned by the kernel. -/
import Derived.Test.YthmigjicibhheaaProg
import Derived.Test.YthmigjicibhheaaEng
import Derived.Test.YthmigjicibhheaaSpec
namespace Go.Proofs.Ythmigjicibhheaa
open Go Go.RowKit Go.Eng
set_option maxRecDepth 100000
set_option linter.unusedVariables false
set_option linter.unusedSimpArgs false
theorem ag3 : ∀ w, (isAgg 3).run Try.prog w = .ok false w := fun w => by kernel_rfl
theorem inf3 : ∃ inf, Try.prog.info? 3 = some inf ∧ inf.bytes = 8 := info_of (by kernel_rfl)
theorem sz3 : ∀ w, (sizeOf 3).run Try.prog w = .ok 1 w := fun w => by kernel_rfl
theorem zv3 : ∀ w, (zeroValue 3).run Try.prog w = .ok (.int .i64 0) w := fun w => by kernel_rfl
theorem ag4 : ∀ w, (isAgg 4).run Try.prog w = .ok false w := fun w => by kernel_rfl
theorem sz4 : ∀ w, (sizeOf 4).run Try.prog w = .ok 1 w := fun w => by kernel_rfl
theorem ag9 : ∀ w, (isAgg 9).run Try.prog w = .ok false w := fun w => by kernel_rfl
theorem ag23 : ∀ w, (isAgg 23).run Try.prog w = .ok true w := fun w => by kernel_rfl
theorem gq23 : Try.prog.eqGuardType Try.prog.depth 23 = false := by kernel_rfl
theorem sd23 : Try.prog.stoodInHeld 23 = false := by kernel_rfl
theorem sz23 : ∀ w, (sizeOf 23).run Try.prog w = .ok 13 w := fun w => by kernel_rfl
theorem zv23 : ∀ w, (zeroValue 23).run Try.prog w = .ok (.agg (List.toArray [.bool false, .bool false, .bool false, .bool false, .bool false, .bool false, .bool false, .bool false, .bool false, .bool false, .bool false, .int .i64 0, .bool false])) w := fun w => by kernel_rfl
theorem ag51 : ∀ w, (isAgg 51).run Try.prog w = .ok true w := fun w => by kernel_rfl
theorem gq51 : Try.prog.eqGuardType Try.prog.depth 51 = false := by kernel_rfl
theorem sd51 : Try.prog.stoodInHeld 51 = false := by kernel_rfl
theorem sz51 : ∀ w, (sizeOf 51).run Try.prog w = .ok 2 w := fun w => by kernel_rfl
theorem ag53 : ∀ w, (isAgg 53).run Try.prog w = .ok true w := fun w => by kernel_rfl
theorem gq53 : Try.prog.eqGuardType Try.prog.depth 53 = false := by kernel_rfl
theorem sd53 : Try.prog.stoodInHeld 53 = false := by kernel_rfl
theorem inf53 : ∃ inf, Try.prog.info? 53 = some inf ∧ inf.bytes = 56 := info_of (by kernel_rfl)
theorem sz53 : ∀ w, (sizeOf 53).run Try.prog w = .ok 6 w := fun w => by kernel_rfl
theorem zv53 : ∀ w, (zeroValue 53).run Try.prog w = .ok (.agg (List.toArray [.int .i64 0, .int .i64 0, .int .i64 0, .int .i64 0, .int .i64 0, .string ByteArray.empty])) w := fun w => by kernel_rfl
theorem ag64 : ∀ w, (isAgg 64).run Try.prog w = .ok false w := fun w => by kernel_rfl
theorem sz64 : ∀ w, (sizeOf 64).run Try.prog w = .ok 1 w := fun w => by kernel_rfl
theorem zv64 : ∀ w, (zeroValue 64).run Try.prog w = .ok (.nilFunc) w := fun w => by kernel_rfl
theorem gq69 : Try.prog.eqGuardType Try.prog.depth 69 = false := by kernel_rfl
theorem sd69 : Try.prog.stoodInHeld 69 = false := by kernel_rfl
theorem ag77 : ∀ w, (isAgg 77).run Try.prog w = .ok true w := fun w => by kernel_rfl
theorem sz77 : ∀ w, (sizeOf 77).run Try.prog w = .ok 3 w := fun w => by kernel_rfl
theorem zv77 : ∀ w, (zeroValue 77).run Try.prog w = .ok (.agg (List.toArray [.bool false, .int .i64 0, .nilFunc])) w := fun w => by kernel_rfl
theorem co9 : CallOk Try.prog 9 := callOk_of Try.func9 (by kernel_rfl) rfl
theorem co10 : CallOk Try.prog 10 := callOk_of Try.func10 (by kernel_rfl) rfl
theorem co11 : CallOk Try.prog 11 := callOk_of Try.func11 (by kernel_rfl) rfl
theorem co12 : CallOk Try.prog 12 := callOk_of Try.func12 (by kernel_rfl) rfl
theorem co13 : CallOk Try.prog 13 := callOk_of Try.func13 (by kernel_rfl) rfl
theorem co14 : CallOk Try.prog 14 := callOk_of Try.func14 (by kernel_rfl) rfl
theorem co15 : CallOk Try.prog 15 := callOk_of Try.func15 (by kernel_rfl) rfl
theorem co16 : CallOk Try.prog 16 := callOk_of Try.func16 (by kernel_rfl) rfl
theorem co17 : CallOk Try.prog 17 := callOk_of Try.func17 (by kernel_rfl) rfl
theorem co18 : CallOk Try.prog 18 := callOk_of Try.func18 (by kernel_rfl) rfl
theorem co19 : CallOk Try.prog 19 := callOk_of Try.func19 (by kernel_rfl) rfl
theorem co20 : CallOk Try.prog 20 := callOk_of Try.func20 (by kernel_rfl) rfl
theorem co21 : CallOk Try.prog 21 := callOk_of Try.func21 (by kernel_rfl) rfl
theorem co22 : CallOk Try.prog 22 := callOk_of Try.func22 (by kernel_rfl) rfl
theorem co23 : CallOk Try.prog 23 := callOk_of Try.func23 (by kernel_rfl) rfl
theorem co24 : CallOk Try.prog 24 := callOk_of Try.func24 (by kernel_rfl) rfl
theorem co25 : CallOk Try.prog 25 := callOk_of Try.func25 (by kernel_rfl) rfl
theorem co26 : CallOk Try.prog 26 := callOk_of Try.func26 (by kernel_rfl) rfl
theorem co27 : CallOk Try.prog 27 := callOk_of Try.func27 (by kernel_rfl) rfl
theorem co28 : CallOk Try.prog 28 := callOk_of Try.func28 (by kernel_rfl) rfl
theorem co29 : CallOk Try.prog 29 := callOk_of Try.func29 (by kernel_rfl) rfl
theorem co30 : CallOk Try.prog 30 := callOk_of Try.func30 (by kernel_rfl) rfl
theorem co31 : CallOk Try.prog 31 := callOk_of Try.func31 (by kernel_rfl) rfl
theorem co32 : CallOk Try.prog 32 := callOk_of Try.func32 (by kernel_rfl) rfl
theorem co33 : CallOk Try.prog 33 := callOk_of Try.func33 (by kernel_rfl) rfl
theorem co34 : CallOk Try.prog 34 := callOk_of Try.func34 (by kernel_rfl) rfl
theorem co35 : CallOk Try.prog 35 := callOk_of Try.func35 (by kernel_rfl) rfl
theorem co36 : CallOk Try.prog 36 := callOk_of Try.func36 (by kernel_rfl) rfl
theorem co37 : CallOk Try.prog 37 := callOk_of Try.func37 (by kernel_rfl) rfl
theorem co38 : CallOk Try.prog 38 := callOk_of Try.func38 (by kernel_rfl) rfl
theorem co39 : CallOk Try.prog 39 := callOk_of Try.func39 (by kernel_rfl) rfl
theorem co40 : CallOk Try.prog 40 := callOk_of Try.func40 (by kernel_rfl) rfl
theorem co41 : CallOk Try.prog 41 := callOk_of Try.func41 (by kernel_rfl) rfl
theorem co42 : CallOk Try.prog 42 := callOk_of Try.func42 (by kernel_rfl) rfl
theorem co43 : CallOk Try.prog 43 := callOk_of Try.func43 (by kernel_rfl) rfl
theorem co44 : CallOk Try.prog 44 := callOk_of Try.func44 (by kernel_rfl) rfl
theorem co45 : CallOk Try.prog 45 := callOk_of Try.func45 (by kernel_rfl) rfl
def encAc (x : Ac) : List Value := [.int .i64 x.kind, .int .i64 x.n, .int .i64 x.m, .int .i64 x.col.k, .int .i64 x.col.n, .string x.text]

def CoEq (a b : Co) : Bool := (decide (a.k = b.k)) && ((decide (a.n = b.n)) && (true))

def AcEq (a b : Ac) : Bool := (decide (a.kind = b.kind)) && ((decide (a.n = b.n)) && ((decide (a.m = b.m)) && ((CoEq a.col b.col) && ((a.text.data.toList == b.text.data.toList) && (true)))))

def sameS : List Ac → List Ac → Bool
  | [], [] => true
  | x :: r, y :: s => AcEq x y && sameS r s
  | _, _ => false
theorem dropA (s : List Ac) (k : Nat) (h : k < s.length) : s.drop k = s.getD k Ac.zero :: s.drop (k + 1) := by
  rw [List.drop_eq_getElem_cons h]; simp [List.getD_eq_getElem?_getD, h]
theorem same_step (a b : List Ac) (k : Nat) (h : k < a.length) (h2 : k < b.length) : sameS (a.drop k) (b.drop k) = (AcEq (a.getD k Ac.zero) (b.getD k Ac.zero) && sameS (a.drop (k + 1)) (b.drop (k + 1))) := by
  rw [dropA a k h, dropA b k h2]; rfl
theorem same_end (a b : List Ac) (k : Nat) (h : a.length ≤ k) (h2 : b.length ≤ k) : sameS (a.drop k) (b.drop k) = true := by
  rw [List.drop_eq_nil_of_le h, List.drop_eq_nil_of_le h2]; rfl
theorem same_len : ∀ (a b : List Ac), a.length ≠ b.length → sameS a b = false
  | [], [], h => by simp at h
  | [], _ :: _, _ => rfl
  | _ :: _, [], _ => rfl
  | x :: r, y :: s, h => by simp [sameS, same_len r s (by simpa using h)]
def modeEs : List MapEntry := [MapEntry.mk (.agg (List.toArray [.bool false, .int .i64 4])) (.func (.func 35) #[] #[]) 0, MapEntry.mk (.agg (List.toArray [.bool false, .int .i64 20])) (.func (.func 36) #[] #[]) 1, MapEntry.mk (.agg (List.toArray [.bool true, .int .i64 1])) (.func (.func 37) #[] #[]) 2, MapEntry.mk (.agg (List.toArray [.bool true, .int .i64 5])) (.func (.func 38) #[] #[]) 3, MapEntry.mk (.agg (List.toArray [.bool true, .int .i64 6])) (.func (.func 39) #[] #[]) 4, MapEntry.mk (.agg (List.toArray [.bool true, .int .i64 7])) (.func (.func 40) #[] #[]) 5, MapEntry.mk (.agg (List.toArray [.bool true, .int .i64 25])) (.func (.func 41) #[] #[]) 6, MapEntry.mk (.agg (List.toArray [.bool true, .int .i64 1004])) (.func (.func 42) #[] #[]) 7, MapEntry.mk (.agg (List.toArray [.bool true, .int .i64 1006])) (.func (.func 43) #[] #[]) 8, MapEntry.mk (.agg (List.toArray [.bool true, .int .i64 2004])) (.func (.func 44) #[] #[]) 9, MapEntry.mk (.agg (List.toArray [.bool true, .int .i64 2026])) (.func (.func 45) #[] #[]) 10]
def KnownC (dec : Bool) (n : Int) : Prop := True
theorem mode_cases (dec : Bool) (n : Int) : (dec = false ∧ n = 4) ∨ (dec = false ∧ n = 20) ∨ (dec = true ∧ n = 1) ∨ (dec = true ∧ n = 5) ∨ (dec = true ∧ n = 6) ∨ (dec = true ∧ n = 7) ∨ (dec = true ∧ n = 25) ∨ (dec = true ∧ n = 1004) ∨ (dec = true ∧ n = 1006) ∨ (dec = true ∧ n = 2004) ∨ (dec = true ∧ n = 2026) ∨ (dec = false ∧ n ≠ 4 ∧ n ≠ 20) ∨ (dec = true ∧ n ≠ 1 ∧ n ≠ 5 ∧ n ≠ 6 ∧ n ≠ 7 ∧ n ≠ 25 ∧ n ≠ 1004 ∧ n ≠ 1006 ∧ n ≠ 2004 ∧ n ≠ 2026) := by
  cases dec <;> simp <;> omega
theorem key_ne (dec : Bool) (n : Int) (d : Bool) (k : Int) (v : Value) (i : Nat) (h : ((dec == d) && ((decide (n = k)) && true)) = false) : Eqs Try.prog 10000 69 (.agg (List.toArray [.bool dec, .int .i64 n])) (MapEntry.mk (.agg (List.toArray [.bool d, .int .i64 k])) v i).key false := by
  have := Eqs.mono (m := 10000) (Eqs.struct (n := 1) (b := ((dec == d) && ((decide (n = k)) && true))) (xs := [.bool dec, .int .i64 n]) (ys := [.bool d, .int .i64 k]) Try.underlying69 sd69 (EqF.cons rfl ag4 rfl rfl (Eqs.mono (Eqs.bool Try.underlying4) (by decide)) (EqF.cons rfl ag3 rfl rfl (Eqs.mono (Eqs.int Try.underlying3) (by decide)) EqF.nil))) (by decide)
  rw [h] at this
  exact this
theorem find0 (n : Int) (h : n ≠ 4 ∧ n ≠ 20) (w : World) : (Instr.findKey 69 (.agg (List.toArray [.bool false, .int .i64 n])) modeEs).run Try.prog w = .ok none w := by
  refine run_findKey_struct Try.underlying69 (run_findAsking_none fun e he => ?_)
  simp only [modeEs, List.mem_cons, List.not_mem_nil, or_false] at he
  rcases he with rfl | rfl | rfl | rfl | rfl | rfl | rfl | rfl | rfl | rfl | rfl <;> exact key_ne _ _ _ _ _ _ (by simp [h])
theorem find1 (n : Int) (h : n ≠ 1 ∧ n ≠ 5 ∧ n ≠ 6 ∧ n ≠ 7 ∧ n ≠ 25 ∧ n ≠ 1004 ∧ n ≠ 1006 ∧ n ≠ 2004 ∧ n ≠ 2026) (w : World) : (Instr.findKey 69 (.agg (List.toArray [.bool true, .int .i64 n])) modeEs).run Try.prog w = .ok none w := by
  refine run_findKey_struct Try.underlying69 (run_findAsking_none fun e he => ?_)
  simp only [modeEs, List.mem_cons, List.not_mem_nil, or_false] at he
  rcases he with rfl | rfl | rfl | rfl | rfl | rfl | rfl | rfl | rfl | rfl | rfl <;> exact key_ne _ _ _ _ _ _ (by simp [h])

end Go.Proofs.Ythmigjicibhheaa
