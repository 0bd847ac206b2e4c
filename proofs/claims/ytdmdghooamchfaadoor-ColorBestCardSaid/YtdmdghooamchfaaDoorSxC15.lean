/- What functions of the program come to: contracts, each by the tree of its ways. -/
import Derived.Test.YtdmdghooamchfaaDoorSxC14
namespace Go.Proofs.YtdmdghooamchfaaDoor
set_option linter.all false
open Go Go.Sx
set_option maxRecDepth 100000
set_option linter.unusedVariables false
set_option linter.unusedSimpArgs false
theorem nearest_k {x : Int} (h : 0 ≤ x ∧ x ≤ 16777215) : nearest_s [.int .i64 x] = some (0, [.int .i64 (nearS x), .int .i64 0]) := by
  rw [nearest_s_e, if_neg (by omega), if_neg (by omega)]
theorem dist_self (a : Int) : distS a a = 0 := by
  unfold distS sqS; simp
theorem sq0 {a b c : Int} (h : sqS a b c = 0) : a / c % 256 = b / c % 256 := by
  unfold sqS at h
  rcases Int.mul_eq_zero.1 h with h | h <;> omega
theorem dist0 {a b : Int} (h : 0 ≤ a ∧ a ≤ 16777215) (k : 0 ≤ b ∧ b ≤ 16777215) (hd : distS a b = 0) : a = b := by
  have q1 := sqS_bd a b 1 (by decide)
  have q2 := sqS_bd a b 256 (by decide)
  have q3 := sqS_bd a b 65536 (by decide)
  unfold distS at hd
  have e1 := sq0 (a := a) (b := b) (c := 1) (by omega)
  have e2 := sq0 (a := a) (b := b) (c := 256) (by omega)
  have e3 := sq0 (a := a) (b := b) (c := 65536) (by omega)
  omega
theorem near_own {i : Int} (h : 0 ≤ i ∧ i ≤ 255) : nearS (atS i) ≤ i ∧ atS (nearS (atS i)) = atS i := by
  have hb := at_bd h
  obtain ⟨h1, h2, h3⟩ := nearS_best (atS i)
  have h4 := h3 i h.1 (by omega)
  rw [dist_self] at h4
  have h5 := dist_bd (atS i) (atS (nearS (atS i)))
  have h6 := at_bd (n := nearS (atS i)) (by omega)
  exact ⟨by omega, (dist0 hb h6 (by omega)).symm⟩
theorem near_bd (x : Int) : 0 ≤ nearS x ∧ nearS x ≤ 255 := by
  obtain ⟨h1, h2, _⟩ := nearS_best x; omega

def U_best : List (FuncId × FnC) := (10, conF [.a [3, 3]] rgb_s [.s 3, .s 8]) :: (18, conF [.s 3] nearest_s [.s 3, .s 3]) :: (16, tabF [] works_s [.s 8] [([], [.bool true])]) :: L0
theorem U_best_ok {G : Nat → Option Obj} (hst : StartOk Tryd.prog G gl H0 n0) : ConsOk Tryd.prog G gl U_best := (.cons (rgb_c hst) (.cons (nearest_c hst) (.consT [([], [.bool true])] (works_c hst) (by kernel_rfl) .nil)))
def best_s : List U → Option (Nat × List U)
  | [.int .u32 n, .int .u8 i] => if (0 ≤ n ∧ n ≤ 4294967295) ∧ (0 ≤ i ∧ i ≤ 255) then some (0, [.bool (true)]) else none
  | _ => none
theorem best_s_e (n : Int) (i : Int) (hc : (0 ≤ n ∧ n ≤ 4294967295) ∧ (0 ≤ i ∧ i ≤ 255)) : best_s [.int .u32 n, .int .u8 i] = some (0, [.bool (true)]) := if_pos hc
def best_t : Tr := .lt 6 (.bin .rem) [h 0 6, .int .u32 (16777216)] <| .lt 3 (.conv .i64) [h 2 6] <| .fn nearest_s [h 3 3] 2 <| .lt 8 (.bin .neq) [h 5 3, .int .i64 (0)] <| .br 6 (.ret [.bool false]) (.lt 8 (.bin .lss) [h 4 3, .int .i64 (0)] <| .br 7 (.ret [.bool false]) (.lt 8 (.bin .gtr) [h 4 3, .int .i64 (255)] <| .br 8 (.ret [.bool false]) (.fn rgb_s [.int .i64 (1), h 4 3] 2 <| .lt 8 (.un .not) [h 10 8] <| .br 11 (.ret [.bool false]) (.fn best0_s [h 1 4, h 3 3, h 4 3, h 9 3, .int .i64 (0)] 1 <| .lt 3 (.conv .i64) [h 12 4] <| .fn rgb_s [.int .i64 (1), h 13 3] 2 <| .fn nearest_s [h 14 3] 2 <| .lt 8 (.bin .eql) [h 17 3, .int .i64 (0)] <| .br 18 (.lt 3 (.conv .i64) [h 12 4] <| .lt 8 (.bin .leq) [h 16 3, h 19 3] <| .br 20 (.fn rgb_s [.int .i64 (1), h 16 3] 2 <| .br 22 (.lt 8 (.bin .eql) [h 21 3, h 14 3] <| .ret [h 23 8]) (.ret [.bool false])) (.ret [.bool false])) (.ret [.bool false])))))
theorem best_c {G : Nat → Option Obj} (hst : StartOk Tryd.prog G gl H0 n0) : ConOk Tryd.prog G 6 [.s 6, .s 4] best_s [.s 8] := by
  refine con_of_tree (C := cx U_best P_best0) (d := 60) best_t (cxg (U_best_ok hst) (P_best0_ok hst)) hst ⟨Tryd.f6, _, Tryd.func6, rfl⟩ (by kernel_rfl) (by kernel_rfl) ?_
  intro us outs hs
  unfold best_s at hs
  split at hs
  · rename_i n i
    split at hs
    · rename_i hc
      cases hs
      have q0 := near_bd (n % 16777216)
      have q1 := near_own hc.2
      have q2 := near_bd (atS i)
      have q3 := at_bd hc.2
      unfold best_t
      first | refine sat_lt [_, _, _] (ev_remW (by omega) (by omega)) ⟨by decide, rfl⟩ rfl ?_ | refine sat_lt [_, _, _] (ev_rem _ _ _ (by omega)) ⟨by decide, rfl⟩ rfl ?_
      first | refine sat_lt [_, _, _, _] (ev_convW (wrap64 (by omega) (by omega))) ⟨by decide, rfl⟩ rfl ?_ | refine sat_lt [_, _, _, _] (ev_conv _ _ _) ⟨by decide, rfl⟩ rfl ?_
      refine sat_fn [_, _, _, _, _, _] (nearest_k (by omega)) rfl rfl ?_
      refine sat_lt [_, _, _, _, _, _, _] (ev_neq _ _ _) ⟨by decide, rfl⟩ rfl ?_
      first | refine sat_br rfl (fun g0 => ?_) (fun g0 => ?_) | refine sat_brB rfl (fun g0 => ?_) (fun g0 => ?_)
      · skip
        refine sat_ret [.bool _] rfl ?_
        first | rfl | (exfalso; first | omega | (cases g0; done) | (simp_all; done) | (simp_all; omega)) | (refine congrArg (fun z => [U.bool z]) ?_; simp [q1.2]; done) | (trace_state; done)
      · skip
        refine sat_lt [_, _, _, _, _, _, _, _] (ev_lss _ _ _) ⟨by decide, rfl⟩ rfl ?_
        first | refine sat_br rfl (fun g1 => ?_) (fun g1 => ?_) | refine sat_brB rfl (fun g1 => ?_) (fun g1 => ?_)
        · skip
          refine sat_ret [.bool _] rfl ?_
          first | rfl | (exfalso; first | omega | (cases g0; done) | (simp_all; done) | (simp_all; omega)) | (refine congrArg (fun z => [U.bool z]) ?_; simp [q1.2]; done) | (trace_state; done)
        · skip
          refine sat_lt [_, _, _, _, _, _, _, _, _] (ev_gtr _ _ _) ⟨by decide, rfl⟩ rfl ?_
          first | refine sat_br rfl (fun g2 => ?_) (fun g2 => ?_) | refine sat_brB rfl (fun g2 => ?_) (fun g2 => ?_)
          · skip
            refine sat_ret [.bool _] rfl ?_
            first | rfl | (exfalso; first | omega | (cases g0; done) | (simp_all; done) | (simp_all; omega)) | (refine congrArg (fun z => [U.bool z]) ?_; simp [q1.2]; done) | (trace_state; done)
          · skip
            refine sat_fn [_, _, _, _, _, _, _, _, _, _, _] (rgb_k (by omega)) rfl rfl ?_
            first | refine sat_lt [_, _, _, _, _, _, _, _, _, _, _, _] (ev_notD _) ⟨by decide, rfl⟩ rfl ?_ | refine sat_lt [_, _, _, _, _, _, _, _, _, _, _, _] (ev_not _) ⟨by decide, rfl⟩ rfl ?_
            first | refine sat_br rfl (fun g3 => ?_) (fun g3 => ?_) | refine sat_brB rfl (fun g3 => ?_) (fun g3 => ?_)
            · skip
              refine sat_ret [.bool _] rfl ?_
              first | rfl | (exfalso; first | omega | (cases g0; done) | (simp_all; done) | (simp_all; omega)) | (refine congrArg (fun z => [U.bool z]) ?_; simp [q1.2]; done) | (trace_state; done)
            · skip
              refine sat_fn [_, _, _, _, _, _, _, _, _, _, _, _, _] (best0_s_e _ _ _ _ _ ⟨by omega, by omega, rfl, rfl⟩) rfl rfl ?_
              first | refine sat_lt [_, _, _, _, _, _, _, _, _, _, _, _, _, _] (ev_convW (wrap64 (by omega) (by omega))) ⟨by decide, rfl⟩ rfl ?_ | refine sat_lt [_, _, _, _, _, _, _, _, _, _, _, _, _, _] (ev_conv _ _ _) ⟨by decide, rfl⟩ rfl ?_
              refine sat_fn [_, _, _, _, _, _, _, _, _, _, _, _, _, _, _, _] (rgb_k (by omega)) rfl rfl ?_
              refine sat_fn [_, _, _, _, _, _, _, _, _, _, _, _, _, _, _, _, _, _] (nearest_k (by omega)) rfl rfl ?_
              refine sat_lt [_, _, _, _, _, _, _, _, _, _, _, _, _, _, _, _, _, _, _] (ev_eql _ _ _) ⟨by decide, rfl⟩ rfl ?_
              first | refine sat_br rfl (fun g4 => ?_) (fun g4 => ?_) | refine sat_brB rfl (fun g4 => ?_) (fun g4 => ?_)
              · skip
                first | refine sat_lt [_, _, _, _, _, _, _, _, _, _, _, _, _, _, _, _, _, _, _, _] (ev_convW (wrap64 (by omega) (by omega))) ⟨by decide, rfl⟩ rfl ?_ | refine sat_lt [_, _, _, _, _, _, _, _, _, _, _, _, _, _, _, _, _, _, _, _] (ev_conv _ _ _) ⟨by decide, rfl⟩ rfl ?_
                refine sat_lt [_, _, _, _, _, _, _, _, _, _, _, _, _, _, _, _, _, _, _, _, _] (ev_leq _ _ _) ⟨by decide, rfl⟩ rfl ?_
                first | refine sat_br rfl (fun g5 => ?_) (fun g5 => ?_) | refine sat_brB rfl (fun g5 => ?_) (fun g5 => ?_)
                · skip
                  refine sat_fn [_, _, _, _, _, _, _, _, _, _, _, _, _, _, _, _, _, _, _, _, _, _, _] (rgb_k (by omega)) rfl rfl ?_
                  first | refine sat_br rfl (fun g6 => ?_) (fun g6 => ?_) | refine sat_brB rfl (fun g6 => ?_) (fun g6 => ?_)
                  · skip
                    refine sat_lt [_, _, _, _, _, _, _, _, _, _, _, _, _, _, _, _, _, _, _, _, _, _, _, _] (ev_eql _ _ _) ⟨by decide, rfl⟩ rfl ?_
                    refine sat_ret [.bool _] rfl ?_
                    first | rfl | (exfalso; first | omega | (cases g0; done) | (simp_all; done) | (simp_all; omega)) | (refine congrArg (fun z => [U.bool z]) ?_; simp [q1.2]; done) | (trace_state; done)
                  · skip
                    refine sat_ret [.bool _] rfl ?_
                    first | rfl | (exfalso; first | omega | (cases g0; done) | (simp_all; done) | (simp_all; omega)) | (refine congrArg (fun z => [U.bool z]) ?_; simp [q1.2]; done) | (trace_state; done)
                · skip
                  refine sat_ret [.bool _] rfl ?_
                  first | rfl | (exfalso; first | omega | (cases g0; done) | (simp_all; done) | (simp_all; omega)) | (refine congrArg (fun z => [U.bool z]) ?_; simp [q1.2]; done) | (trace_state; done)
              · skip
                refine sat_ret [.bool _] rfl ?_
                first | rfl | (exfalso; first | omega | (cases g0; done) | (simp_all; done) | (simp_all; omega)) | (refine congrArg (fun z => [U.bool z]) ?_; simp [q1.2]; done) | (trace_state; done)
    · cases hs
  · cases hs
def L_best : List (FuncId × FnC) := (6, conF [.s 6, .s 4] best_s [.s 8]) :: L_nears
theorem L_best_ok {G : Nat → Option Obj} (hst : StartOk Tryd.prog G gl H0 n0) : ConsOk Tryd.prog G gl L_best := .cons (best_c hst) (L_nears_ok hst)
end Go.Proofs.YtdmdghooamchfaaDoor
