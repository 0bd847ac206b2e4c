/- What functions of the program come to: contracts, each by the tree of its ways. -/
import Derived.Test.YtdmdghooamchfaaDoorSxC2
namespace Go.Proofs.YtdmdghooamchfaaDoor
set_option linter.all false
open Go Go.Sx
set_option maxRecDepth 100000
set_option linter.unusedVariables false
set_option linter.unusedSimpArgs false
theorem lev_sel {j : Int} (h : 0 ≤ j ∧ j ≤ 5) : [0, 95, 135, 175, 215, 255].getD j.toNat 0 = lev j := by
  obtain rfl | rfl | rfl | rfl | rfl | rfl : j = 0 ∨ j = 1 ∨ j = 2 ∨ j = 3 ∨ j = 4 ∨ j = 5 := by omega
  all_goals rfl
theorem sel_bd {j : Int} (h : 0 ≤ j ∧ j ≤ 5) : 0 ≤ [0, 95, 135, 175, 215, 255].getD j.toNat (0 : Int) ∧ [0, 95, 135, 175, 215, 255].getD j.toNat (0 : Int) ≤ 255 := by
  rw [lev_sel h]; exact lev_bd h


def rindex_s : List U → Option (Nat × List U)
  | [.int .i64 n] => if 0 ≤ n ∧ n ≤ 255 then some (0, [.int .i64 (atS n)]) else none
  | _ => none
theorem rindex_s_e (n : Int) (hc : 0 ≤ n ∧ n ≤ 255) : rindex_s [.int .i64 n] = some (0, [.int .i64 (atS n)]) := if_pos hc
def rindex_t : Tr := .lt 8 (.bin .lss) [h 0 3, .int .i64 (16)] <| .br 1 (.lt 8 (.inb) [h 0 3, .int .i64 (16)] <| .br 2 (.lt 3 (.sel) [h 0 3, .int .i64 (0), .int .i64 (13434880), .int .i64 (52480), .int .i64 (13487360), .int .i64 (238), .int .i64 (13435085), .int .i64 (52685), .int .i64 (15066597), .int .i64 (8355711), .int .i64 (16711680), .int .i64 (65280), .int .i64 (16776960), .int .i64 (6053119), .int .i64 (16711935), .int .i64 (65535), .int .i64 (16777215)] <| .ret [h 3 3]) (.no)) (.lt 8 (.bin .geq) [h 0 3, .int .i64 (232)] <| .br 2 (.lt 3 (.bin .sub) [h 0 3, .int .i64 (232)] <| .lt 3 (.bin .mul) [.int .i64 (10), h 3 3] <| .lt 3 (.bin .add) [.int .i64 (8), h 4 3] <| .lt 3 (.bin .mul) [h 5 3, .int .i64 (65793)] <| .ret [h 6 3]) (.lt 3 (.bin .sub) [h 0 3, .int .i64 (16)] <| .lt 3 (.bin .quo) [h 3 3, .int .i64 (36)] <| .lt 8 (.inb) [h 4 3, .int .i64 (6)] <| .br 5 (.lt 3 (.sel) [h 4 3, .int .i64 (0), .int .i64 (95), .int .i64 (135), .int .i64 (175), .int .i64 (215), .int .i64 (255)] <| .lt 3 (.bin .mul) [h 6 3, .int .i64 (65536)] <| .lt 3 (.bin .quo) [h 3 3, .int .i64 (6)] <| .lt 3 (.bin .rem) [h 8 3, .int .i64 (6)] <| .lt 8 (.inb) [h 9 3, .int .i64 (6)] <| .br 10 (.lt 3 (.sel) [h 9 3, .int .i64 (0), .int .i64 (95), .int .i64 (135), .int .i64 (175), .int .i64 (215), .int .i64 (255)] <| .lt 3 (.bin .mul) [h 11 3, .int .i64 (256)] <| .lt 3 (.bin .add) [h 7 3, h 12 3] <| .lt 3 (.bin .rem) [h 3 3, .int .i64 (6)] <| .lt 8 (.inb) [h 14 3, .int .i64 (6)] <| .br 15 (.lt 3 (.sel) [h 14 3, .int .i64 (0), .int .i64 (95), .int .i64 (135), .int .i64 (175), .int .i64 (215), .int .i64 (255)] <| .lt 3 (.bin .add) [h 13 3, h 16 3] <| .ret [h 17 3]) (.no)) (.no)) (.no)))
theorem rindex_c {G : Nat → Option Obj} (hst : StartOk Tryd.prog G gl H0 n0) : ConOk Tryd.prog G 17 [.s 3] rindex_s [.s 3] := by
  refine con_of_tree (C := cx L_at []) (d := 60) rindex_t (cxg (L_at_ok hst) .nil) hst ⟨Tryd.f17, _, Tryd.func17, rfl⟩ (by kernel_rfl) (by kernel_rfl) ?_
  intro us outs hs
  unfold rindex_s at hs
  split at hs
  · rename_i n
    split at hs
    · rename_i hc
      cases hs
      have e1 : 16 ≤ n → n < 232 → 0 ≤ [0, 95, 135, 175, 215, 255].getD ((n - 16) / 36).toNat (0 : Int) ∧ [0, 95, 135, 175, 215, 255].getD ((n - 16) / 36).toNat (0 : Int) ≤ 255 := fun _ _ => sel_bd (by omega)
      have e2 : 16 ≤ n → n < 232 → 0 ≤ [0, 95, 135, 175, 215, 255].getD ((n - 16) / 6 % 6).toNat (0 : Int) ∧ [0, 95, 135, 175, 215, 255].getD ((n - 16) / 6 % 6).toNat (0 : Int) ≤ 255 := fun _ _ => sel_bd (by omega)
      have e3 : 16 ≤ n → n < 232 → 0 ≤ [0, 95, 135, 175, 215, 255].getD ((n - 16) % 6).toNat (0 : Int) ∧ [0, 95, 135, 175, 215, 255].getD ((n - 16) % 6).toNat (0 : Int) ≤ 255 := fun _ _ => sel_bd (by omega)
      unfold rindex_t
      refine sat_lt [_, _] (ev_lss _ _ _) ⟨by decide, rfl⟩ rfl ?_
      first | refine sat_br rfl (fun g0 => ?_) (fun g0 => ?_) | refine sat_brB rfl (fun g0 => ?_) (fun g0 => ?_)
      · skip
        refine sat_lt [_, _, _] (ev_inb _ _ _ _) ⟨by decide, rfl⟩ rfl ?_
        first | refine sat_br rfl (fun g1 => ?_) (fun g1 => ?_) | refine sat_brB rfl (fun g1 => ?_) (fun g1 => ?_)
        · skip
          refine sat_lt [_, _, _, _] (ev_selI [0, 13434880, 52480, 13487360, 238, 13435085, 52685, 15066597, 8355711, 16711680, 65280, 16776960, 6053119, 16711935, 65535, 16777215] (by omega) (by show _ < ((16 : Nat) : Int); omega)) ⟨by decide, rfl⟩ rfl ?_
          refine sat_ret [.int .i64 _] rfl ?_
          first | (simp only [atS]; rw [if_pos (by omega)]; rfl) | (simp only [atS]; rw [if_neg (by omega), if_pos (by omega)]; done) | (simp only [atS, cubeS]; rw [if_neg (by omega), if_neg (by omega), lev_sel (by omega), lev_sel (by omega), lev_sel (by omega)])
        · skip
          first | omega | (exfalso; simp_all; done) | (exfalso; simp_all; omega)
      · skip
        refine sat_lt [_, _, _] (ev_geq _ _ _) ⟨by decide, rfl⟩ rfl ?_
        first | refine sat_br rfl (fun g1 => ?_) (fun g1 => ?_) | refine sat_brB rfl (fun g1 => ?_) (fun g1 => ?_)
        · skip
          first | refine sat_lt [_, _, _, _] (ev_subW (wrap64 (by omega) (by omega))) ⟨by decide, rfl⟩ rfl ?_ | refine sat_lt [_, _, _, _] (ev_sub _ _ _) ⟨by decide, rfl⟩ rfl ?_
          first | refine sat_lt [_, _, _, _, _] (ev_mulW (wrap64 (by omega) (by omega))) ⟨by decide, rfl⟩ rfl ?_ | refine sat_lt [_, _, _, _, _] (ev_mul _ _ _) ⟨by decide, rfl⟩ rfl ?_
          first | refine sat_lt [_, _, _, _, _, _] (ev_addW (wrap64 (by omega) (by omega))) ⟨by decide, rfl⟩ rfl ?_ | refine sat_lt [_, _, _, _, _, _] (ev_add _ _ _) ⟨by decide, rfl⟩ rfl ?_
          first | refine sat_lt [_, _, _, _, _, _, _] (ev_mulW (wrap64 (by omega) (by omega))) ⟨by decide, rfl⟩ rfl ?_ | refine sat_lt [_, _, _, _, _, _, _] (ev_mul _ _ _) ⟨by decide, rfl⟩ rfl ?_
          refine sat_ret [.int .i64 _] rfl ?_
          first | (simp only [atS]; rw [if_pos (by omega)]; rfl) | (simp only [atS]; rw [if_neg (by omega), if_pos (by omega)]; done) | (simp only [atS, cubeS]; rw [if_neg (by omega), if_neg (by omega), lev_sel (by omega), lev_sel (by omega), lev_sel (by omega)])
        · skip
          first | refine sat_lt [_, _, _, _] (ev_subW (wrap64 (by omega) (by omega))) ⟨by decide, rfl⟩ rfl ?_ | refine sat_lt [_, _, _, _] (ev_sub _ _ _) ⟨by decide, rfl⟩ rfl ?_
          first | refine sat_lt [_, _, _, _, _] (ev_quoW (by omega) (by omega) (wrap64 (by omega) (by omega))) ⟨by decide, rfl⟩ rfl ?_ | refine sat_lt [_, _, _, _, _] (ev_quo _ _ _ (by omega)) ⟨by decide, rfl⟩ rfl ?_
          refine sat_lt [_, _, _, _, _, _] (ev_inb _ _ _ _) ⟨by decide, rfl⟩ rfl ?_
          first | refine sat_br rfl (fun g2 => ?_) (fun g2 => ?_) | refine sat_brB rfl (fun g2 => ?_) (fun g2 => ?_)
          · skip
            refine sat_lt [_, _, _, _, _, _, _] (ev_selI [0, 95, 135, 175, 215, 255] (by omega) (by show _ < ((6 : Nat) : Int); omega)) ⟨by decide, rfl⟩ rfl ?_
            first | refine sat_lt [_, _, _, _, _, _, _, _] (ev_mulW (wrap64 (by omega) (by omega))) ⟨by decide, rfl⟩ rfl ?_ | refine sat_lt [_, _, _, _, _, _, _, _] (ev_mul _ _ _) ⟨by decide, rfl⟩ rfl ?_
            first | refine sat_lt [_, _, _, _, _, _, _, _, _] (ev_quoW (by omega) (by omega) (wrap64 (by omega) (by omega))) ⟨by decide, rfl⟩ rfl ?_ | refine sat_lt [_, _, _, _, _, _, _, _, _] (ev_quo _ _ _ (by omega)) ⟨by decide, rfl⟩ rfl ?_
            first | refine sat_lt [_, _, _, _, _, _, _, _, _, _] (ev_remW (by omega) (by omega)) ⟨by decide, rfl⟩ rfl ?_ | refine sat_lt [_, _, _, _, _, _, _, _, _, _] (ev_rem _ _ _ (by omega)) ⟨by decide, rfl⟩ rfl ?_
            refine sat_lt [_, _, _, _, _, _, _, _, _, _, _] (ev_inb _ _ _ _) ⟨by decide, rfl⟩ rfl ?_
            first | refine sat_br rfl (fun g3 => ?_) (fun g3 => ?_) | refine sat_brB rfl (fun g3 => ?_) (fun g3 => ?_)
            · skip
              refine sat_lt [_, _, _, _, _, _, _, _, _, _, _, _] (ev_selI [0, 95, 135, 175, 215, 255] (by omega) (by show _ < ((6 : Nat) : Int); omega)) ⟨by decide, rfl⟩ rfl ?_
              first | refine sat_lt [_, _, _, _, _, _, _, _, _, _, _, _, _] (ev_mulW (wrap64 (by omega) (by omega))) ⟨by decide, rfl⟩ rfl ?_ | refine sat_lt [_, _, _, _, _, _, _, _, _, _, _, _, _] (ev_mul _ _ _) ⟨by decide, rfl⟩ rfl ?_
              first | refine sat_lt [_, _, _, _, _, _, _, _, _, _, _, _, _, _] (ev_addW (wrap64 (by omega) (by omega))) ⟨by decide, rfl⟩ rfl ?_ | refine sat_lt [_, _, _, _, _, _, _, _, _, _, _, _, _, _] (ev_add _ _ _) ⟨by decide, rfl⟩ rfl ?_
              first | refine sat_lt [_, _, _, _, _, _, _, _, _, _, _, _, _, _, _] (ev_remW (by omega) (by omega)) ⟨by decide, rfl⟩ rfl ?_ | refine sat_lt [_, _, _, _, _, _, _, _, _, _, _, _, _, _, _] (ev_rem _ _ _ (by omega)) ⟨by decide, rfl⟩ rfl ?_
              refine sat_lt [_, _, _, _, _, _, _, _, _, _, _, _, _, _, _, _] (ev_inb _ _ _ _) ⟨by decide, rfl⟩ rfl ?_
              first | refine sat_br rfl (fun g4 => ?_) (fun g4 => ?_) | refine sat_brB rfl (fun g4 => ?_) (fun g4 => ?_)
              · skip
                refine sat_lt [_, _, _, _, _, _, _, _, _, _, _, _, _, _, _, _, _] (ev_selI [0, 95, 135, 175, 215, 255] (by omega) (by show _ < ((6 : Nat) : Int); omega)) ⟨by decide, rfl⟩ rfl ?_
                first | refine sat_lt [_, _, _, _, _, _, _, _, _, _, _, _, _, _, _, _, _, _] (ev_addW (wrap64 (by omega) (by omega))) ⟨by decide, rfl⟩ rfl ?_ | refine sat_lt [_, _, _, _, _, _, _, _, _, _, _, _, _, _, _, _, _, _] (ev_add _ _ _) ⟨by decide, rfl⟩ rfl ?_
                refine sat_ret [.int .i64 _] rfl ?_
                first | (simp only [atS]; rw [if_pos (by omega)]; rfl) | (simp only [atS]; rw [if_neg (by omega), if_pos (by omega)]; done) | (simp only [atS, cubeS]; rw [if_neg (by omega), if_neg (by omega), lev_sel (by omega), lev_sel (by omega), lev_sel (by omega)])
              · skip
                first | omega | (exfalso; simp_all; done) | (exfalso; simp_all; omega)
            · skip
              first | omega | (exfalso; simp_all; done) | (exfalso; simp_all; omega)
          · skip
            first | omega | (exfalso; simp_all; done) | (exfalso; simp_all; omega)
    · cases hs
  · cases hs
def L_rindex : List (FuncId × FnC) := (17, conF [.s 3] rindex_s [.s 3]) :: L_at
theorem L_rindex_ok {G : Nat → Option Obj} (hst : StartOk Tryd.prog G gl H0 n0) : ConsOk Tryd.prog G gl L_rindex := .cons (rindex_c hst) (L_at_ok hst)
end Go.Proofs.YtdmdghooamchfaaDoor
