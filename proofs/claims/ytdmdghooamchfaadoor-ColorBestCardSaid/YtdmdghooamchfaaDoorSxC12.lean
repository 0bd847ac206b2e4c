/- What functions of the program come to: contracts, each by the tree of its ways. -/
import Derived.Test.YtdmdghooamchfaaDoorSxC11
namespace Go.Proofs.YtdmdghooamchfaaDoor
set_option linter.all false
open Go Go.Sx
set_option maxRecDepth 100000
set_option linter.unusedVariables false
set_option linter.unusedSimpArgs false

def rnear0_s : List U → Option (Nat × List U)
  | [.int .i64 rgb, .int .i64 best, .int .i64 n] => if (1 ≤ n ∧ n ≤ 256) ∧ (0 ≤ rgb ∧ rgb ≤ 16777215) ∧ (0 ≤ best ∧ best ≤ 255) then some (0, [.int .i64 (nearGo rgb (256 - n).toNat n best (distS rgb (atS best)))]) else none
  | _ => none
theorem rnear0_s_e (rgb : Int) (best : Int) (n : Int) (hc : (1 ≤ n ∧ n ≤ 256) ∧ (0 ≤ rgb ∧ rgb ≤ 16777215) ∧ (0 ≤ best ∧ best ≤ 255)) : rnear0_s [.int .i64 rgb, .int .i64 best, .int .i64 n] = some (0, [.int .i64 (nearGo rgb (256 - n).toNat n best (distS rgb (atS best)))]) := if_pos hc
def rnear0_D : LoopD := ⟨[(0, h 0 3), (4, h 1 3), (5, h 2 3)], [], 3, [⟨.exit 0, [(4, h 0 3)], [], 1⟩]⟩
noncomputable def rnear0_B : Code := (Tryd.f19.body).getD .skip
noncomputable def rnear0_x : Code := match codeAt [true, true, true, false, true, false] rnear0_B with | some (.loop x) => x | _ => .skip
theorem rnear0_b : Tryd.f19.body = some rnear0_B := rfl
theorem rnear0_p : codeAt [true, true, true, false, true, false] rnear0_B = some (.loop rnear0_x) := by kernel_rfl
def rnear0_t : Tr := .lt 8 (.bin .lss) [h 2 3, .int .i64 (256)] <| .br 3 (.fn rindex_s [h 2 3] 1 <| .fn rfar_s [h 4 3, h 0 3] 1 <| .fn rindex_s [h 1 3] 1 <| .fn rfar_s [h 6 3, h 0 3] 1 <| .lt 8 (.bin .lss) [h 5 3, h 7 3] <| .br 8 (.lt 3 (.bin .add) [h 2 3, .int .i64 (1)] <| .ret [.int .i64 (-1), h 0 3, h 2 3, h 9 3]) (.lt 3 (.bin .add) [h 2 3, .int .i64 (1)] <| .ret [.int .i64 (-1), h 0 3, h 1 3, h 9 3])) (.ret [.int .i64 (0), h 1 3])
def rnear0_m : List U → Nat
  | [.int .i64 rgb, .int .i64 best, .int .i64 n] => (256 - n).toNat
  | _ => 0
theorem rnear0_c {G : Nat → Option Obj} (hst : StartOk Tryd.prog G gl H0 n0) : ∀ (E : Nat → U) (base : Nat), @CodeOk ⟨E, G⟩ Tryd.prog base gl Tryd.f19.ntmps (.loop rnear0_x) (loopF rnear0_D rnear0_s) := by
  refine loop_ok (C := cx L_rfar P_near0) (dep := 60) (f := 19) (n0 := n0) (nB := 9) (H0 := H0) rnear0_m rnear0_t (cxg (L_rfar_ok hst) (P_near0_ok hst)) hst Tryd.func19 rnear0_b rnear0_p (by kernel_rfl) (by kernel_rfl) (by kernel_rfl) ?_
  intro us d outs hs
  have hs0 := hs
  unfold rnear0_s at hs
  split at hs
  · rename_i rgb best n
    split at hs
    · rename_i hc
      clear hs hs0
      have q1 := dist_bd rgb (atS n)
      have q2 := dist_bd rgb (atS best)
      have q3 := @at_bd n
      have q4 := at_bd (n := best) (by omega)
      refine ⟨rfl, ?_⟩
      unfold rnear0_t
      refine sat_lt [_, _, _, _] (ev_lss _ _ _) ⟨by decide, rfl⟩ rfl ?_
      first | refine sat_br rfl (fun g0 => ?_) (fun g0 => ?_) | refine sat_brB rfl (fun g0 => ?_) (fun g0 => ?_)
      · skip
        refine sat_fn [_, _, _, _, _] (rindex_s_e _ (by omega)) rfl rfl ?_
        refine sat_fn [_, _, _, _, _, _] (rfar_s_e _ _ ⟨by omega, by omega⟩) rfl rfl ?_
        refine sat_fn [_, _, _, _, _, _, _] (rindex_s_e _ (by omega)) rfl rfl ?_
        refine sat_fn [_, _, _, _, _, _, _, _] (rfar_s_e _ _ ⟨by omega, by omega⟩) rfl rfl ?_
        refine sat_lt [_, _, _, _, _, _, _, _, _] (ev_lss _ _ _) ⟨by decide, rfl⟩ rfl ?_
        first | refine sat_br rfl (fun g1 => ?_) (fun g1 => ?_) | refine sat_brB rfl (fun g1 => ?_) (fun g1 => ?_)
        · skip
          first | refine sat_lt [_, _, _, _, _, _, _, _, _, _] (ev_addW (wrap64 (by omega) (by omega))) ⟨by decide, rfl⟩ rfl ?_ | refine sat_lt [_, _, _, _, _, _, _, _, _, _] (ev_add _ _ _) ⟨by decide, rfl⟩ rfl ?_
          refine sat_ret [.int .i64 _, .int .i64 _, .int .i64 _, .int .i64 _] rfl ?_
          refine leaf_back ?_ ?_
          · refine (rnear0_s_e _ _ _ (by omega)).trans (Eq.trans ?_ (rnear0_s_e _ _ _ (by omega)).symm)
            first | exact congrArg (fun z => some (0, [U.int .i64 z])) (nearGo_hit (by omega) (by assumption)).symm | exact congrArg (fun z => some (0, [U.int .i64 z])) (nearGo_miss (by omega) (by assumption)).symm
          · show (256 - (n + 1)).toNat < (256 - n).toNat
            omega
        · skip
          first | refine sat_lt [_, _, _, _, _, _, _, _, _, _] (ev_addW (wrap64 (by omega) (by omega))) ⟨by decide, rfl⟩ rfl ?_ | refine sat_lt [_, _, _, _, _, _, _, _, _, _] (ev_add _ _ _) ⟨by decide, rfl⟩ rfl ?_
          refine sat_ret [.int .i64 _, .int .i64 _, .int .i64 _, .int .i64 _] rfl ?_
          refine leaf_back ?_ ?_
          · refine (rnear0_s_e _ _ _ (by omega)).trans (Eq.trans ?_ (rnear0_s_e _ _ _ (by omega)).symm)
            first | exact congrArg (fun z => some (0, [U.int .i64 z])) (nearGo_hit (by omega) (by assumption)).symm | exact congrArg (fun z => some (0, [U.int .i64 z])) (nearGo_miss (by omega) (by assumption)).symm
          · show (256 - (n + 1)).toNat < (256 - n).toNat
            omega
      · skip
        refine sat_ret [.int .i64 _, .int .i64 _] rfl ?_
        refine leaf_exit (d := 0) ?_
        refine (rnear0_s_e _ _ _ (by omega)).trans ?_
        rw [show (256 - n).toNat = 0 by omega]; rfl
    · cases hs
  · cases hs
def P_rnear0 : List LpE := (19, ([true, true, true, false, true, false], loopF rnear0_D rnear0_s)) :: P_near0
theorem P_rnear0_ok {G : Nat → Option Obj} (hst : StartOk Tryd.prog G gl H0 n0) : LpsOk Tryd.prog G gl P_rnear0 := .cons Tryd.func19 rnear0_b rnear0_p (rnear0_c hst) (P_near0_ok hst)


def rnearest_s : List U → Option (Nat × List U)
  | [.int .i64 rgb] => some (0, [.int .i64 (if rgb < 0 ∨ 16777215 < rgb then 0 else nearS rgb), .int .i64 (if rgb < 0 ∨ 16777215 < rgb then 2 else 0)])
  | _ => none
theorem rnearest_s_e (rgb : Int) : rnearest_s [.int .i64 rgb] = some (0, [.int .i64 (if rgb < 0 ∨ 16777215 < rgb then 0 else nearS rgb), .int .i64 (if rgb < 0 ∨ 16777215 < rgb then 2 else 0)]) := rfl
def rnearest_t : Tr := .lt 8 (.bin .lss) [h 0 3, .int .i64 (0)] <| .br 1 (.ret [.int .i64 (0), .int .i64 (2)]) (.lt 8 (.bin .gtr) [h 0 3, .int .i64 (16777215)] <| .br 2 (.ret [.int .i64 (0), .int .i64 (2)]) (.fn rnear0_s [h 0 3, .int .i64 (0), .int .i64 (1)] 1 <| .ret [h 3 3, .int .i64 (0)]))
theorem rnearest_c {G : Nat → Option Obj} (hst : StartOk Tryd.prog G gl H0 n0) : ConOk Tryd.prog G 19 [.s 3] rnearest_s [.s 3, .s 3] := by
  refine con_of_tree (C := cx L_rfar P_rnear0) (d := 60) rnearest_t (cxg (L_rfar_ok hst) (P_rnear0_ok hst)) hst ⟨Tryd.f19, _, Tryd.func19, rfl⟩ (by kernel_rfl) (by kernel_rfl) ?_
  intro us outs hs
  unfold rnearest_s at hs
  split at hs
  · rename_i rgb
    cases hs
    unfold rnearest_t
    refine sat_lt [_, _] (ev_lss _ _ _) ⟨by decide, rfl⟩ rfl ?_
    first | refine sat_br rfl (fun g0 => ?_) (fun g0 => ?_) | refine sat_brB rfl (fun g0 => ?_) (fun g0 => ?_)
    · skip
      refine sat_ret [.int .i64 _, .int .i64 _] rfl ?_
      first | (simp only [nearS]; rw [if_pos (by omega), if_pos (by omega)]; done) | (rw [if_neg (by omega), if_neg (by omega)]; rfl)
    · skip
      refine sat_lt [_, _, _] (ev_gtr _ _ _) ⟨by decide, rfl⟩ rfl ?_
      first | refine sat_br rfl (fun g1 => ?_) (fun g1 => ?_) | refine sat_brB rfl (fun g1 => ?_) (fun g1 => ?_)
      · skip
        refine sat_ret [.int .i64 _, .int .i64 _] rfl ?_
        first | (simp only [nearS]; rw [if_pos (by omega), if_pos (by omega)]; done) | (rw [if_neg (by omega), if_neg (by omega)]; rfl)
      · skip
        refine sat_fn [_, _, _, _] (rnear0_s_e _ _ _ (by omega)) rfl rfl ?_
        refine sat_ret [.int .i64 _, .int .i64 _] rfl ?_
        first | (simp only [nearS]; rw [if_pos (by omega), if_pos (by omega)]; done) | (rw [if_neg (by omega), if_neg (by omega)]; rfl)
  · cases hs
def L_rnearest : List (FuncId × FnC) := (19, conF [.s 3] rnearest_s [.s 3, .s 3]) :: L_rfar
theorem L_rnearest_ok {G : Nat → Option Obj} (hst : StartOk Tryd.prog G gl H0 n0) : ConsOk Tryd.prog G gl L_rnearest := .cons (rnearest_c hst) (L_rfar_ok hst)
end Go.Proofs.YtdmdghooamchfaaDoor
