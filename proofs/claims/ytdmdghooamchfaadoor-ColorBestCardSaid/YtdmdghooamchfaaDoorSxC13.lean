/- What functions of the program come to: contracts, each by the tree of its ways. -/
import Derived.Test.YtdmdghooamchfaaDoorSxC12
namespace Go.Proofs.YtdmdghooamchfaaDoor
set_option linter.all false
open Go Go.Sx
set_option maxRecDepth 100000
set_option linter.unusedVariables false
set_option linter.unusedSimpArgs false

def U_nears : List (FuncId × FnC) := (19, conF [.s 3] rnearest_s [.s 3, .s 3]) :: (18, conF [.s 3] nearest_s [.s 3, .s 3]) :: (17, conF [.s 3] rindex_s [.s 3]) :: (16, tabF [] works_s [.s 8] [([], [.bool true])]) :: L0
theorem U_nears_ok {G : Nat → Option Obj} (hst : StartOk Tryd.prog G gl H0 n0) : ConsOk Tryd.prog G gl U_nears := (.cons (rnearest_c hst) (.cons (nearest_c hst) (.cons (rindex_c hst) (.consT [([], [.bool true])] (works_c hst) (by kernel_rfl) .nil))))
def nears_s : List U → Option (Nat × List U)
  | [.int .i64 rgb, .int .u8 i, .int .u16 b] => if (-9223372036854775808 ≤ rgb ∧ rgb ≤ 9223372036854775807) ∧ (0 ≤ i ∧ i ≤ 255) ∧ (0 ≤ b ∧ b ≤ 65535) then some (0, [.bool (true)]) else none
  | _ => none
theorem nears_s_e (rgb : Int) (i : Int) (b : Int) (hc : (-9223372036854775808 ≤ rgb ∧ rgb ≤ 9223372036854775807) ∧ (0 ≤ i ∧ i ≤ 255) ∧ (0 ≤ b ∧ b ≤ 65535)) : nears_s [.int .i64 rgb, .int .u8 i, .int .u16 b] = some (0, [.bool (true)]) := if_pos hc
def nears_t : Tr := .lt 3 (.conv .i64) [h 1 4] <| .fn rindex_s [h 3 3] 1 <| .lt 3 (.conv .i64) [h 2 5] <| .lt 3 (.bin .xor) [h 4 3, h 5 3] <| .lt 7 (.conv .u64) [h 0 3] <| .lt 7 (.bin .rem) [h 7 7, .int .u64 (16777216)] <| .lt 3 (.conv .i64) [h 8 7] <| .lt 7 (.conv .u64) [h 0 3] <| .lt 7 (.bin .rem) [h 10 7, .int .u64 (256)] <| .lt 3 (.conv .i64) [h 11 7] <| .lt 3 (.bin .mul) [h 12 3, .int .i64 (65793)] <| .fn nearest_s [h 0 3] 2 <| .fn rnearest_s [h 0 3] 2 <| .lt 8 (.bin .neq) [h 14 3, h 16 3] <| .br 18 (.ret [.bool false]) (.lt 8 (.bin .neq) [h 15 3, h 17 3] <| .br 19 (.ret [.bool false]) (.fn nearest_s [h 9 3] 2 <| .fn rnearest_s [h 9 3] 2 <| .lt 8 (.bin .neq) [h 20 3, h 22 3] <| .br 24 (.ret [.bool false]) (.lt 8 (.bin .neq) [h 21 3, h 23 3] <| .br 25 (.ret [.bool false]) (.fn nearest_s [h 6 3] 2 <| .fn rnearest_s [h 6 3] 2 <| .lt 8 (.bin .neq) [h 26 3, h 28 3] <| .br 30 (.ret [.bool false]) (.lt 8 (.bin .neq) [h 27 3, h 29 3] <| .br 31 (.ret [.bool false]) (.fn nearest_s [h 13 3] 2 <| .fn rnearest_s [h 13 3] 2 <| .lt 8 (.bin .neq) [h 32 3, h 34 3] <| .br 36 (.ret [.bool false]) (.lt 8 (.bin .neq) [h 33 3, h 35 3] <| .br 37 (.ret [.bool false]) (.ret [.bool true]))))))))
theorem nears_c {G : Nat → Option Obj} (hst : StartOk Tryd.prog G gl H0 n0) : ConOk Tryd.prog G 4 [.s 3, .s 4, .s 5] nears_s [.s 8] := by
  refine con_of_tree (C := cx U_nears P_rnear0) (d := 60) nears_t (cxg (U_nears_ok hst) (P_rnear0_ok hst)) hst ⟨Tryd.f4, _, Tryd.func4, rfl⟩ (by kernel_rfl) (by kernel_rfl) ?_
  intro us outs hs
  unfold nears_s at hs
  split at hs
  · rename_i rgb i b
    split at hs
    · rename_i hc
      cases hs
      unfold nears_t
      first | refine sat_lt [_, _, _, _] (ev_convW (wrap64 (by omega) (by omega))) ⟨by decide, rfl⟩ rfl ?_ | refine sat_lt [_, _, _, _] (ev_conv _ _ _) ⟨by decide, rfl⟩ rfl ?_
      refine sat_fn [_, _, _, _, _] (rindex_s_e _ (by omega)) rfl rfl ?_
      first | refine sat_lt [_, _, _, _, _, _] (ev_convW (wrap64 (by omega) (by omega))) ⟨by decide, rfl⟩ rfl ?_ | refine sat_lt [_, _, _, _, _, _] (ev_conv _ _ _) ⟨by decide, rfl⟩ rfl ?_
      refine sat_lt [_, _, _, _, _, _, _] (ev_xor _ _ _) ⟨by decide, rfl⟩ rfl ?_
      first | refine sat_lt [_, _, _, _, _, _, _, _] (ev_convW (wrapu64 (by omega) (by omega))) ⟨by decide, rfl⟩ rfl ?_ | refine sat_lt [_, _, _, _, _, _, _, _] (ev_conv _ _ _) ⟨by decide, rfl⟩ rfl ?_
      first | refine sat_lt [_, _, _, _, _, _, _, _, _] (ev_remW (by omega) (by omega)) ⟨by decide, rfl⟩ rfl ?_ | refine sat_lt [_, _, _, _, _, _, _, _, _] (ev_rem _ _ _ (by omega)) ⟨by decide, rfl⟩ rfl ?_
      first | refine sat_lt [_, _, _, _, _, _, _, _, _, _] (ev_convW (wrap64 (by omega) (by omega))) ⟨by decide, rfl⟩ rfl ?_ | refine sat_lt [_, _, _, _, _, _, _, _, _, _] (ev_conv _ _ _) ⟨by decide, rfl⟩ rfl ?_
      first | refine sat_lt [_, _, _, _, _, _, _, _, _, _, _] (ev_convW (wrapu64 (by omega) (by omega))) ⟨by decide, rfl⟩ rfl ?_ | refine sat_lt [_, _, _, _, _, _, _, _, _, _, _] (ev_conv _ _ _) ⟨by decide, rfl⟩ rfl ?_
      first | refine sat_lt [_, _, _, _, _, _, _, _, _, _, _, _] (ev_remW (by omega) (by omega)) ⟨by decide, rfl⟩ rfl ?_ | refine sat_lt [_, _, _, _, _, _, _, _, _, _, _, _] (ev_rem _ _ _ (by omega)) ⟨by decide, rfl⟩ rfl ?_
      first | refine sat_lt [_, _, _, _, _, _, _, _, _, _, _, _, _] (ev_convW (wrap64 (by omega) (by omega))) ⟨by decide, rfl⟩ rfl ?_ | refine sat_lt [_, _, _, _, _, _, _, _, _, _, _, _, _] (ev_conv _ _ _) ⟨by decide, rfl⟩ rfl ?_
      first | refine sat_lt [_, _, _, _, _, _, _, _, _, _, _, _, _, _] (ev_mulW (wrap64 (by omega) (by omega))) ⟨by decide, rfl⟩ rfl ?_ | refine sat_lt [_, _, _, _, _, _, _, _, _, _, _, _, _, _] (ev_mul _ _ _) ⟨by decide, rfl⟩ rfl ?_
      refine sat_fn [_, _, _, _, _, _, _, _, _, _, _, _, _, _, _, _] (nearest_s_e _) rfl rfl ?_
      refine sat_fn [_, _, _, _, _, _, _, _, _, _, _, _, _, _, _, _, _, _] (rnearest_s_e _) rfl rfl ?_
      refine sat_lt [_, _, _, _, _, _, _, _, _, _, _, _, _, _, _, _, _, _, _] (ev_neq _ _ _) ⟨by decide, rfl⟩ rfl ?_
      first | refine sat_br rfl (fun g0 => ?_) (fun g0 => ?_) | refine sat_brB rfl (fun g0 => ?_) (fun g0 => ?_)
      · skip
        refine sat_ret [.bool _] rfl ?_
        first | rfl | (exfalso; first | omega | simp_all; done)
      · skip
        refine sat_lt [_, _, _, _, _, _, _, _, _, _, _, _, _, _, _, _, _, _, _, _] (ev_neq _ _ _) ⟨by decide, rfl⟩ rfl ?_
        first | refine sat_br rfl (fun g1 => ?_) (fun g1 => ?_) | refine sat_brB rfl (fun g1 => ?_) (fun g1 => ?_)
        · skip
          refine sat_ret [.bool _] rfl ?_
          first | rfl | (exfalso; first | omega | simp_all; done)
        · skip
          refine sat_fn [_, _, _, _, _, _, _, _, _, _, _, _, _, _, _, _, _, _, _, _, _, _] (nearest_s_e _) rfl rfl ?_
          refine sat_fn [_, _, _, _, _, _, _, _, _, _, _, _, _, _, _, _, _, _, _, _, _, _, _, _] (rnearest_s_e _) rfl rfl ?_
          refine sat_lt [_, _, _, _, _, _, _, _, _, _, _, _, _, _, _, _, _, _, _, _, _, _, _, _, _] (ev_neq _ _ _) ⟨by decide, rfl⟩ rfl ?_
          first | refine sat_br rfl (fun g2 => ?_) (fun g2 => ?_) | refine sat_brB rfl (fun g2 => ?_) (fun g2 => ?_)
          · skip
            refine sat_ret [.bool _] rfl ?_
            first | rfl | (exfalso; first | omega | simp_all; done)
          · skip
            refine sat_lt [_, _, _, _, _, _, _, _, _, _, _, _, _, _, _, _, _, _, _, _, _, _, _, _, _, _] (ev_neq _ _ _) ⟨by decide, rfl⟩ rfl ?_
            first | refine sat_br rfl (fun g3 => ?_) (fun g3 => ?_) | refine sat_brB rfl (fun g3 => ?_) (fun g3 => ?_)
            · skip
              refine sat_ret [.bool _] rfl ?_
              first | rfl | (exfalso; first | omega | simp_all; done)
            · skip
              refine sat_fn [_, _, _, _, _, _, _, _, _, _, _, _, _, _, _, _, _, _, _, _, _, _, _, _, _, _, _, _] (nearest_s_e _) rfl rfl ?_
              refine sat_fn [_, _, _, _, _, _, _, _, _, _, _, _, _, _, _, _, _, _, _, _, _, _, _, _, _, _, _, _, _, _] (rnearest_s_e _) rfl rfl ?_
              refine sat_lt [_, _, _, _, _, _, _, _, _, _, _, _, _, _, _, _, _, _, _, _, _, _, _, _, _, _, _, _, _, _, _] (ev_neq _ _ _) ⟨by decide, rfl⟩ rfl ?_
              first | refine sat_br rfl (fun g4 => ?_) (fun g4 => ?_) | refine sat_brB rfl (fun g4 => ?_) (fun g4 => ?_)
              · skip
                refine sat_ret [.bool _] rfl ?_
                first | rfl | (exfalso; first | omega | simp_all; done)
              · skip
                refine sat_lt [_, _, _, _, _, _, _, _, _, _, _, _, _, _, _, _, _, _, _, _, _, _, _, _, _, _, _, _, _, _, _, _] (ev_neq _ _ _) ⟨by decide, rfl⟩ rfl ?_
                first | refine sat_br rfl (fun g5 => ?_) (fun g5 => ?_) | refine sat_brB rfl (fun g5 => ?_) (fun g5 => ?_)
                · skip
                  refine sat_ret [.bool _] rfl ?_
                  first | rfl | (exfalso; first | omega | simp_all; done)
                · skip
                  refine sat_fn [_, _, _, _, _, _, _, _, _, _, _, _, _, _, _, _, _, _, _, _, _, _, _, _, _, _, _, _, _, _, _, _, _, _] (nearest_s_e _) rfl rfl ?_
                  refine sat_fn [_, _, _, _, _, _, _, _, _, _, _, _, _, _, _, _, _, _, _, _, _, _, _, _, _, _, _, _, _, _, _, _, _, _, _, _] (rnearest_s_e _) rfl rfl ?_
                  refine sat_lt [_, _, _, _, _, _, _, _, _, _, _, _, _, _, _, _, _, _, _, _, _, _, _, _, _, _, _, _, _, _, _, _, _, _, _, _, _] (ev_neq _ _ _) ⟨by decide, rfl⟩ rfl ?_
                  first | refine sat_br rfl (fun g6 => ?_) (fun g6 => ?_) | refine sat_brB rfl (fun g6 => ?_) (fun g6 => ?_)
                  · skip
                    refine sat_ret [.bool _] rfl ?_
                    first | rfl | (exfalso; first | omega | simp_all; done)
                  · skip
                    refine sat_lt [_, _, _, _, _, _, _, _, _, _, _, _, _, _, _, _, _, _, _, _, _, _, _, _, _, _, _, _, _, _, _, _, _, _, _, _, _, _] (ev_neq _ _ _) ⟨by decide, rfl⟩ rfl ?_
                    first | refine sat_br rfl (fun g7 => ?_) (fun g7 => ?_) | refine sat_brB rfl (fun g7 => ?_) (fun g7 => ?_)
                    · skip
                      refine sat_ret [.bool _] rfl ?_
                      first | rfl | (exfalso; first | omega | simp_all; done)
                    · skip
                      refine sat_ret [.bool _] rfl ?_
                      first | rfl | (exfalso; first | omega | simp_all; done)
    · cases hs
  · cases hs
def L_nears : List (FuncId × FnC) := (4, conF [.s 3, .s 4, .s 5] nears_s [.s 8]) :: L_rnearest
theorem L_nears_ok {G : Nat → Option Obj} (hst : StartOk Tryd.prog G gl H0 n0) : ConsOk Tryd.prog G gl L_nears := .cons (nears_c hst) (L_rnearest_ok hst)
end Go.Proofs.YtdmdghooamchfaaDoor
