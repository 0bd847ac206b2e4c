/- What functions of the program come to: contracts, each by the tree of its ways. -/
import Derived.Test.YtdmdghooamchfaaDoorSxC1
namespace Go.Proofs.YtdmdghooamchfaaDoor
set_option linter.all false
open Go Go.Sx
set_option maxRecDepth 100000
set_option linter.unusedVariables false
set_option linter.unusedSimpArgs false
def namedL : List Int := [0, 13434880, 52480, 13487360, 238, 13435085, 52685, 15066597, 8355711, 16711680, 65280, 16776960, 6053119, 16711935, 65535, 16777215]
def cubeS (n : Int) : Int := lev (n / 36) * 65536 + lev (n / 6 % 6) * 256 + lev (n % 6)
def atS (n : Int) : Int := if n < 16 then namedL.getD n.toNat 0 else if 232 ≤ n then (8 + 10 * (n - 232)) * 65793 else cubeS (n - 16)


def at_s : List U → Option (Nat × List U)
  | [.int .i64 n] => if 0 ≤ n ∧ n ≤ 255 then some (0, [.int .i64 (atS n)]) else none
  | _ => none
theorem at_s_e (n : Int) (hc : 0 ≤ n ∧ n ≤ 255) : at_s [.int .i64 n] = some (0, [.int .i64 (atS n)]) := if_pos hc
def at_t : Tr := .lt 8 (.bin .lss) [h 0 3, .int .i64 (16)] <| .br 1 (.lt 8 (.inb) [h 0 3, .int .i64 (16)] <| .br 2 (.lt 3 (.sel) [h 0 3, .int .i64 (0), .int .i64 (13434880), .int .i64 (52480), .int .i64 (13487360), .int .i64 (238), .int .i64 (13435085), .int .i64 (52685), .int .i64 (15066597), .int .i64 (8355711), .int .i64 (16711680), .int .i64 (65280), .int .i64 (16776960), .int .i64 (6053119), .int .i64 (16711935), .int .i64 (65535), .int .i64 (16777215)] <| .ret [h 3 3]) (.no)) (.lt 8 (.bin .geq) [h 0 3, .int .i64 (232)] <| .br 2 (.lt 3 (.bin .sub) [h 0 3, .int .i64 (232)] <| .lt 3 (.bin .mul) [.int .i64 (10), h 3 3] <| .lt 3 (.bin .add) [.int .i64 (8), h 4 3] <| .lt 3 (.bin .mul) [h 5 3, .int .i64 (65793)] <| .ret [h 6 3]) (.lt 3 (.bin .sub) [h 0 3, .int .i64 (16)] <| .lt 3 (.bin .quo) [h 3 3, .int .i64 (36)] <| .fn level_s [h 4 3] 1 <| .lt 3 (.bin .shl) [h 5 3, .int .u64 (16)] <| .lt 3 (.bin .quo) [h 3 3, .int .i64 (6)] <| .lt 3 (.bin .rem) [h 7 3, .int .i64 (6)] <| .fn level_s [h 8 3] 1 <| .lt 3 (.bin .shl) [h 9 3, .int .u64 (8)] <| .lt 3 (.bin .or) [h 6 3, h 10 3] <| .lt 3 (.bin .rem) [h 3 3, .int .i64 (6)] <| .fn level_s [h 12 3] 1 <| .lt 3 (.bin .or) [h 11 3, h 13 3] <| .ret [h 14 3]))
theorem at_c {G : Nat → Option Obj} (hst : StartOk Tryd.prog G gl H0 n0) : ConOk Tryd.prog G 28 [.s 3] at_s [.s 3] := by
  refine con_of_tree (C := cx L_rcheck []) (d := 60) at_t (cxg (L_rcheck_ok hst) .nil) hst ⟨Tryd.f28, _, Tryd.func28, rfl⟩ (by kernel_rfl) (by kernel_rfl) ?_
  intro us outs hs
  unfold at_s at hs
  split at hs
  · rename_i n
    split at hs
    · rename_i hc
      cases hs
      have e1 : 16 ≤ n → n < 232 → 0 ≤ lev ((n - 16) / 36) ∧ lev ((n - 16) / 36) ≤ 255 := fun _ _ => lev_bd (by omega)
      have e2 : 16 ≤ n → n < 232 → 0 ≤ lev ((n - 16) / 6 % 6) ∧ lev ((n - 16) / 6 % 6) ≤ 255 := fun _ _ => lev_bd (by omega)
      have e3 : 16 ≤ n → n < 232 → 0 ≤ lev ((n - 16) % 6) ∧ lev ((n - 16) % 6) ≤ 255 := fun _ _ => lev_bd (by omega)
      unfold at_t
      refine sat_lt [_, _] (ev_lss _ _ _) ⟨by decide, rfl⟩ rfl ?_
      first | refine sat_br rfl (fun g0 => ?_) (fun g0 => ?_) | refine sat_brB rfl (fun g0 => ?_) (fun g0 => ?_)
      · skip
        refine sat_lt [_, _, _] (ev_inb _ _ _ _) ⟨by decide, rfl⟩ rfl ?_
        first | refine sat_br rfl (fun g1 => ?_) (fun g1 => ?_) | refine sat_brB rfl (fun g1 => ?_) (fun g1 => ?_)
        · skip
          refine sat_lt [_, _, _, _] (ev_selI [0, 13434880, 52480, 13487360, 238, 13435085, 52685, 15066597, 8355711, 16711680, 65280, 16776960, 6053119, 16711935, 65535, 16777215] (by omega) (by show _ < ((16 : Nat) : Int); omega)) ⟨by decide, rfl⟩ rfl ?_
          refine sat_ret [.int .i64 _] rfl ?_
          first | (simp only [atS]; rw [if_pos (by omega)]; rfl) | (simp only [atS]; rw [if_neg (by omega), if_pos (by omega)]; done) | (simp only [atS, cubeS]; rw [if_neg (by omega), if_neg (by omega)]; done)
        · skip
          first | omega | (exfalso; simp_all; done) | (exfalso; simp_all; omega)
      · skip
        refine sat_lt [_, _, _] (ev_geq _ _ _) ⟨by decide, rfl⟩ rfl ?_
        first | refine sat_br rfl (fun g1 => ?_) (fun g1 => ?_) | refine sat_brB rfl (fun g1 => ?_) (fun g1 => ?_)
        · skip
          first | refine sat_lt [_, _, _, _] (ev_subW (wrap64 (by omega) (by omega))) ⟨by decide, rfl⟩ rfl ?_ | refine sat_lt [_, _, _, _] (ev_sub _ _ _) ⟨by decide, rfl⟩ rfl ?_
          first | refine sat_lt [_, _, _, _, _] (ev_mulW (wrap64 (by omega) (by omega))) ⟨by decide, rfl⟩ rfl ?_ | refine sat_lt [_, _, _, _, _] (ev_mul _ _ _) ⟨by decide, rfl⟩ rfl ?_
          first | refine sat_lt [_, _, _, _, _, _] (ev_addW (wrap64 (by omega) (by omega))) ⟨by decide, rfl⟩ rfl ?_ | refine sat_lt [_, _, _, _, _, _] (ev_add _ _ _) ⟨by decide, rfl⟩ rfl ?_
          first | refine sat_lt [_, _, _, _, _, _, _] (ev_mulW (wrap64 (by omega) (by omega))) ⟨by decide, rfl⟩ rfl ?_ | refine sat_lt [_, _, _, _, _, _, _] (ev_mul _ _ _) ⟨by decide, rfl⟩ rfl ?_
          refine sat_ret [.int .i64 _] rfl ?_
          first | (simp only [atS]; rw [if_pos (by omega)]; rfl) | (simp only [atS]; rw [if_neg (by omega), if_pos (by omega)]; done) | (simp only [atS, cubeS]; rw [if_neg (by omega), if_neg (by omega)]; done)
        · skip
          first | refine sat_lt [_, _, _, _] (ev_subW (wrap64 (by omega) (by omega))) ⟨by decide, rfl⟩ rfl ?_ | refine sat_lt [_, _, _, _] (ev_sub _ _ _) ⟨by decide, rfl⟩ rfl ?_
          first | refine sat_lt [_, _, _, _, _] (ev_quoW (by omega) (by omega) (wrap64 (by omega) (by omega))) ⟨by decide, rfl⟩ rfl ?_ | refine sat_lt [_, _, _, _, _] (ev_quo _ _ _ (by omega)) ⟨by decide, rfl⟩ rfl ?_
          refine sat_fn [_, _, _, _, _, _] (level_s_e _ (by omega)) rfl rfl ?_
          first | refine sat_lt [_, _, _, _, _, _, _] (ev_shlW 65536 (by decide) (by decide) (wrap64 (by omega) (by omega))) ⟨by decide, rfl⟩ rfl ?_ | refine sat_lt [_, _, _, _, _, _, _] (ev_shlL 65536 (by decide) (by decide)) ⟨by decide, rfl⟩ rfl ?_
          first | refine sat_lt [_, _, _, _, _, _, _, _] (ev_quoW (by omega) (by omega) (wrap64 (by omega) (by omega))) ⟨by decide, rfl⟩ rfl ?_ | refine sat_lt [_, _, _, _, _, _, _, _] (ev_quo _ _ _ (by omega)) ⟨by decide, rfl⟩ rfl ?_
          first | refine sat_lt [_, _, _, _, _, _, _, _, _] (ev_remW (by omega) (by omega)) ⟨by decide, rfl⟩ rfl ?_ | refine sat_lt [_, _, _, _, _, _, _, _, _] (ev_rem _ _ _ (by omega)) ⟨by decide, rfl⟩ rfl ?_
          refine sat_fn [_, _, _, _, _, _, _, _, _, _] (level_s_e _ (by omega)) rfl rfl ?_
          first | refine sat_lt [_, _, _, _, _, _, _, _, _, _, _] (ev_shlW 256 (by decide) (by decide) (wrap64 (by omega) (by omega))) ⟨by decide, rfl⟩ rfl ?_ | refine sat_lt [_, _, _, _, _, _, _, _, _, _, _] (ev_shlL 256 (by decide) (by decide)) ⟨by decide, rfl⟩ rfl ?_
          first | refine sat_lt [_, _, _, _, _, _, _, _, _, _, _, _] (ev_orA 16 65536 9223372036854775808 (by decide) (by decide) (by omega) (by omega) (by omega) (by omega) (by omega)) ⟨by decide, rfl⟩ rfl ?_ | refine sat_lt [_, _, _, _, _, _, _, _, _, _, _, _] (ev_orB 16 65536 9223372036854775808 (by decide) (by decide) (by omega) (by omega) (by omega) (by omega) (by omega)) ⟨by decide, rfl⟩ rfl ?_ | refine sat_lt [_, _, _, _, _, _, _, _, _, _, _, _] (ev_or _ _ _) ⟨by decide, rfl⟩ rfl ?_
          first | refine sat_lt [_, _, _, _, _, _, _, _, _, _, _, _, _] (ev_remW (by omega) (by omega)) ⟨by decide, rfl⟩ rfl ?_ | refine sat_lt [_, _, _, _, _, _, _, _, _, _, _, _, _] (ev_rem _ _ _ (by omega)) ⟨by decide, rfl⟩ rfl ?_
          refine sat_fn [_, _, _, _, _, _, _, _, _, _, _, _, _, _] (level_s_e _ (by omega)) rfl rfl ?_
          first | refine sat_lt [_, _, _, _, _, _, _, _, _, _, _, _, _, _, _] (ev_orA 8 256 9223372036854775808 (by decide) (by decide) (by omega) (by omega) (by omega) (by omega) (by omega)) ⟨by decide, rfl⟩ rfl ?_ | refine sat_lt [_, _, _, _, _, _, _, _, _, _, _, _, _, _, _] (ev_orB 8 256 9223372036854775808 (by decide) (by decide) (by omega) (by omega) (by omega) (by omega) (by omega)) ⟨by decide, rfl⟩ rfl ?_ | refine sat_lt [_, _, _, _, _, _, _, _, _, _, _, _, _, _, _] (ev_or _ _ _) ⟨by decide, rfl⟩ rfl ?_
          refine sat_ret [.int .i64 _] rfl ?_
          first | (simp only [atS]; rw [if_pos (by omega)]; rfl) | (simp only [atS]; rw [if_neg (by omega), if_pos (by omega)]; done) | (simp only [atS, cubeS]; rw [if_neg (by omega), if_neg (by omega)]; done)
    · cases hs
  · cases hs
def L_at : List (FuncId × FnC) := (28, conF [.s 3] at_s [.s 3]) :: L_rcheck
theorem L_at_ok {G : Nat → Option Obj} (hst : StartOk Tryd.prog G gl H0 n0) : ConsOk Tryd.prog G gl L_at := .cons (at_c hst) (L_rcheck_ok hst)
end Go.Proofs.YtdmdghooamchfaaDoor
