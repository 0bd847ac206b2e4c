/- What functions of the program come to: contracts, each by the tree of its ways. -/
import Derived.Test.YtdmdghooamchfaaDoorSxC13
namespace Go.Proofs.YtdmdghooamchfaaDoor
set_option linter.all false
open Go Go.Sx
set_option maxRecDepth 100000
set_option linter.unusedVariables false
set_option linter.unusedSimpArgs false

def best0_s : List U → Option (Nat × List U)
  | [.int .u8 i, .int .i64 x, .int .i64 k, .int .i64 best, .int .i64 j] => if (0 ≤ j ∧ j ≤ 256) ∧ (0 ≤ x ∧ x ≤ 16777215) ∧ k = nearS x ∧ best = atS k then some (0, [.int .u8 i]) else none
  | _ => none
theorem best0_s_e (i : Int) (x : Int) (k : Int) (best : Int) (j : Int) (hc : (0 ≤ j ∧ j ≤ 256) ∧ (0 ≤ x ∧ x ≤ 16777215) ∧ k = nearS x ∧ best = atS k) : best0_s [.int .u8 i, .int .i64 x, .int .i64 k, .int .i64 best, .int .i64 j] = some (0, [.int .u8 i]) := if_pos hc
def best0_D : LoopD := ⟨[(1, h 0 4), (5, h 1 3), (6, h 2 3), (8, h 3 3), (10, h 4 3)], [], 5, [⟨.exit 0, [(1, h 0 4)], [], 1⟩]⟩
noncomputable def best0_B : Code := (Tryd.f6.body).getD .skip
noncomputable def best0_x : Code := match codeAt [true, true, true, true, true, true, true, false, true, false] best0_B with | some (.loop x) => x | _ => .skip
theorem best0_b : Tryd.f6.body = some best0_B := rfl
theorem best0_p : codeAt [true, true, true, true, true, true, true, false, true, false] best0_B = some (.loop best0_x) := by kernel_rfl
def best0_t : Tr := .lt 8 (.bin .lss) [h 4 3, .int .i64 (256)] <| .br 5 (.fn rgb_s [.int .i64 (1), h 4 3] 2 <| .lt 8 (.un .not) [h 7 8] <| .br 8 (.no) (.fn far_s [h 6 3, h 1 3] 1 <| .fn far_s [h 3 3, h 1 3] 1 <| .lt 8 (.bin .lss) [h 9 3, h 10 3] <| .br 11 (.no) (.lt 8 (.bin .lss) [h 4 3, h 2 3] <| .br 12 (.fn far_s [h 6 3, h 1 3] 1 <| .fn far_s [h 3 3, h 1 3] 1 <| .lt 8 (.bin .eql) [h 13 3, h 14 3] <| .br 15 (.no) (.lt 3 (.bin .add) [h 4 3, .int .i64 (1)] <| .ret [.int .i64 (-1), h 0 4, h 1 3, h 2 3, h 3 3, h 16 3])) (.lt 3 (.bin .add) [h 4 3, .int .i64 (1)] <| .ret [.int .i64 (-1), h 0 4, h 1 3, h 2 3, h 3 3, h 13 3])))) (.ret [.int .i64 (0), h 0 4])
def best0_m : List U → Nat
  | [.int .u8 i, .int .i64 x, .int .i64 k, .int .i64 best, .int .i64 j] => (256 - j).toNat
  | _ => 0
theorem best0_c {G : Nat → Option Obj} (hst : StartOk Tryd.prog G gl H0 n0) : ∀ (E : Nat → U) (base : Nat), @CodeOk ⟨E, G⟩ Tryd.prog base gl Tryd.f6.ntmps (.loop best0_x) (loopF best0_D best0_s) := by
  refine loop_ok (C := cx L_nears P_rnear0) (dep := 60) (f := 6) (n0 := n0) (nB := 9) (H0 := H0) best0_m best0_t (cxg (L_nears_ok hst) (P_rnear0_ok hst)) hst Tryd.func6 best0_b best0_p (by kernel_rfl) (by kernel_rfl) (by kernel_rfl) ?_
  intro us d outs hs
  have hs0 := hs
  unfold best0_s at hs
  split at hs
  · rename_i i x k best j
    split at hs
    · rename_i hc
      clear hs hs0
      have q0 := at_bd (n := k) (by have := (nearS_best x).1; have := (nearS_best x).2.1; omega)
      have q1 := dist_bd x (atS k)
      have q2 := dist_bd x (atS j)
      have q3 := @at_bd j
      have q5 := (nearS_best x).1
      have q6 := (nearS_best x).2.1
      have q4 : j < 256 → distS x (atS k) ≤ distS x (atS j) ∧ (j < k → distS x (atS k) < distS x (atS j)) := fun hj => by
        have := (nearS_best x).2.2 j (by omega) hj
        rw [← hc.2.2.1] at this; exact this
      refine ⟨rfl, ?_⟩
      unfold best0_t
      refine sat_lt [_, _, _, _, _, _] (ev_lss _ _ _) ⟨by decide, rfl⟩ rfl ?_
      first | refine sat_br rfl (fun g0 => ?_) (fun g0 => ?_) | refine sat_brB rfl (fun g0 => ?_) (fun g0 => ?_)
      · skip
        refine sat_fn [_, _, _, _, _, _, _, _] (rgb_k (by omega)) rfl rfl ?_
        first | refine sat_lt [_, _, _, _, _, _, _, _, _] (ev_notD _) ⟨by decide, rfl⟩ rfl ?_ | refine sat_lt [_, _, _, _, _, _, _, _, _] (ev_not _) ⟨by decide, rfl⟩ rfl ?_
        first | refine sat_br rfl (fun g1 => ?_) (fun g1 => ?_) | refine sat_brB rfl (fun g1 => ?_) (fun g1 => ?_)
        · skip
          first | omega | (exfalso; first | (cases g0; done) | (cases g1; done) | (simp_all; done) | (simp_all; omega) | (trace_state; done))
        · skip
          refine sat_fn [_, _, _, _, _, _, _, _, _, _] (far_s_e _ _ ⟨by omega, by omega⟩) rfl rfl ?_
          refine sat_fn [_, _, _, _, _, _, _, _, _, _, _] (far_s_e _ _ ⟨by omega, by omega⟩) rfl rfl ?_
          refine sat_lt [_, _, _, _, _, _, _, _, _, _, _, _] (ev_lss _ _ _) ⟨by decide, rfl⟩ rfl ?_
          first | refine sat_br rfl (fun g2 => ?_) (fun g2 => ?_) | refine sat_brB rfl (fun g2 => ?_) (fun g2 => ?_)
          · skip
            first | omega | (exfalso; first | (cases g0; done) | (cases g1; done) | (simp_all; done) | (simp_all; omega) | (trace_state; done))
          · skip
            refine sat_lt [_, _, _, _, _, _, _, _, _, _, _, _, _] (ev_lss _ _ _) ⟨by decide, rfl⟩ rfl ?_
            first | refine sat_br rfl (fun g3 => ?_) (fun g3 => ?_) | refine sat_brB rfl (fun g3 => ?_) (fun g3 => ?_)
            · skip
              refine sat_fn [_, _, _, _, _, _, _, _, _, _, _, _, _, _] (far_s_e _ _ ⟨by omega, by omega⟩) rfl rfl ?_
              refine sat_fn [_, _, _, _, _, _, _, _, _, _, _, _, _, _, _] (far_s_e _ _ ⟨by omega, by omega⟩) rfl rfl ?_
              refine sat_lt [_, _, _, _, _, _, _, _, _, _, _, _, _, _, _, _] (ev_eql _ _ _) ⟨by decide, rfl⟩ rfl ?_
              first | refine sat_br rfl (fun g4 => ?_) (fun g4 => ?_) | refine sat_brB rfl (fun g4 => ?_) (fun g4 => ?_)
              · skip
                first | omega | (exfalso; first | (cases g0; done) | (cases g1; done) | (simp_all; done) | (simp_all; omega) | (trace_state; done))
              · skip
                first | refine sat_lt [_, _, _, _, _, _, _, _, _, _, _, _, _, _, _, _, _] (ev_addW (wrap64 (by omega) (by omega))) ⟨by decide, rfl⟩ rfl ?_ | refine sat_lt [_, _, _, _, _, _, _, _, _, _, _, _, _, _, _, _, _] (ev_add _ _ _) ⟨by decide, rfl⟩ rfl ?_
                refine sat_ret [.int .i64 _, .int .u8 _, .int .i64 _, .int .i64 _, .int .i64 _, .int .i64 _] rfl ?_
                refine leaf_back ?_ ?_
                · exact (best0_s_e _ _ _ _ _ (by omega)).trans (best0_s_e _ _ _ _ _ (by omega)).symm
                · show (256 - (j + 1)).toNat < (256 - j).toNat
                  omega
            · skip
              first | refine sat_lt [_, _, _, _, _, _, _, _, _, _, _, _, _, _] (ev_addW (wrap64 (by omega) (by omega))) ⟨by decide, rfl⟩ rfl ?_ | refine sat_lt [_, _, _, _, _, _, _, _, _, _, _, _, _, _] (ev_add _ _ _) ⟨by decide, rfl⟩ rfl ?_
              refine sat_ret [.int .i64 _, .int .u8 _, .int .i64 _, .int .i64 _, .int .i64 _, .int .i64 _] rfl ?_
              refine leaf_back ?_ ?_
              · exact (best0_s_e _ _ _ _ _ (by omega)).trans (best0_s_e _ _ _ _ _ (by omega)).symm
              · show (256 - (j + 1)).toNat < (256 - j).toNat
                omega
      · skip
        refine sat_ret [.int .i64 _, .int .u8 _] rfl ?_
        refine leaf_exit (d := 0) ?_
        exact best0_s_e _ _ _ _ _ (by omega)
    · cases hs
  · cases hs
def P_best0 : List LpE := (6, ([true, true, true, true, true, true, true, false, true, false], loopF best0_D best0_s)) :: P_rnear0
theorem P_best0_ok {G : Nat → Option Obj} (hst : StartOk Tryd.prog G gl H0 n0) : LpsOk Tryd.prog G gl P_best0 := .cons Tryd.func6 best0_b best0_p (best0_c hst) (P_rnear0_ok hst)
end Go.Proofs.YtdmdghooamchfaaDoor
