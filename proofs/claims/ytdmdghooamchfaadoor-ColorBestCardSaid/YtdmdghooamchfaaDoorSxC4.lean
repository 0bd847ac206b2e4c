/- What functions of the program come to: contracts, each by the tree of its ways. -/
import Derived.Test.YtdmdghooamchfaaDoorSxC3
import Derived.Test.YtdmdghooamchfaaDoorSxKnown
namespace Go.Proofs.YtdmdghooamchfaaDoor
set_option linter.all false
open Go Go.Sx
set_option maxRecDepth 100000
set_option linter.unusedVariables false
set_option linter.unusedSimpArgs false
theorem at_bd {n : Int} (h : 0 ≤ n ∧ n ≤ 255) : 0 ≤ atS n ∧ atS n ≤ 16777215 := by
  unfold atS
  split
  · obtain ⟨k, rfl⟩ : ∃ k : Nat, n = k := ⟨n.toNat, by omega⟩
    have hk : k < 16 := by omega
    have : ((List.range 16).all fun k => decide (0 ≤ namedL.getD k 0 ∧ namedL.getD k 0 ≤ 16777215)) = true := by decide
    have := List.all_eq_true.1 this k (List.mem_range.2 hk)
    simpa using this
  · split
    · omega
    · have e1 := lev_bd (n := (n - 16) / 36) (by omega)
      have e2 := lev_bd (n := (n - 16) / 6 % 6) (by omega)
      have e3 := lev_bd (n := (n - 16) % 6) (by omega)
      unfold cubeS; omega
theorem sq_bd {x y : Int} (hx : 0 ≤ x ∧ x ≤ 255) (hy : 0 ≤ y ∧ y ≤ 255) : 0 ≤ (x - y) * (x - y) ∧ (x - y) * (x - y) ≤ 65025 := by
  obtain ⟨a, ha⟩ : ∃ a : Nat, (a : Int) = (x - y).natAbs := ⟨_, rfl⟩
  have h1 : (x - y) * (x - y) = (a : Int) * a := by rw [ha, Int.natAbs_mul_self' (x - y)]
  rw [h1]
  have h2 : a ≤ 255 := by omega
  have h3 : a * a ≤ 255 * 255 := Nat.mul_le_mul h2 h2
  constructor
  · exact Int.mul_nonneg (by omega) (by omega)
  · have h4 : a * a ≤ 65025 := h3
    have h5 : ((a * a : Nat) : Int) ≤ ((65025 : Nat) : Int) := Int.ofNat_le.2 h4
    rw [Int.natCast_mul] at h5
    exact h5
def sqS (a b c : Int) : Int := (a / c % 256 - b / c % 256) * (a / c % 256 - b / c % 256)
def distS (a b : Int) : Int := 0 + sqS a b 1 + sqS a b 256 + sqS a b 65536
theorem sqS_bd (a b c : Int) (hc : 0 < c) : 0 ≤ sqS a b c ∧ sqS a b c ≤ 65025 := by
  unfold sqS
  exact sq_bd ⟨Int.emod_nonneg _ (by decide), by have := Int.emod_lt_of_pos (a / c) (show (0 : Int) < 256 by decide); omega⟩ ⟨Int.emod_nonneg _ (by decide), by have := Int.emod_lt_of_pos (b / c) (show (0 : Int) < 256 by decide); omega⟩
def nearGo (rgb : Int) : Nat → Int → Int → Int → Int
  | 0, _, i, _ => i
  | k + 1, n, i, l => if distS rgb (atS n) < l then nearGo rgb k (n + 1) n (distS rgb (atS n)) else nearGo rgb k (n + 1) i l
theorem nearGo_hit {rgb n i l : Int} (h : n < 256) (hd : distS rgb (atS n) < l) : nearGo rgb (256 - n).toNat n i l = nearGo rgb (256 - (n + 1)).toNat (n + 1) n (distS rgb (atS n)) := by
  rw [show (256 - n).toNat = (256 - (n + 1)).toNat + 1 by omega, nearGo, if_pos hd]
theorem nearGo_miss {rgb n i l : Int} (h : n < 256) (hd : ¬ distS rgb (atS n) < l) : nearGo rgb (256 - n).toNat n i l = nearGo rgb (256 - (n + 1)).toNat (n + 1) i l := by
  rw [show (256 - n).toNat = (256 - (n + 1)).toNat + 1 by omega, nearGo, if_neg hd]
def nearS (rgb : Int) : Int := nearGo rgb 255 1 0 (distS rgb (atS 0))

def near0_s : List U → Option (Nat × List U)
  | [.int .i64 index, .int .i64 least, .int .i64 n, .int .i64 rgb] => if 1 ≤ n ∧ n ≤ 256 ∧ 0 ≤ rgb ∧ rgb ≤ 16777215 then some (0, [.int .i64 (nearGo rgb (256 - n).toNat n index least), .int .i64 rgb]) else none
  | _ => none
theorem near0_s_e (index : Int) (least : Int) (n : Int) (rgb : Int) (hc : 1 ≤ n ∧ n ≤ 256 ∧ 0 ≤ rgb ∧ rgb ≤ 16777215) : near0_s [.int .i64 index, .int .i64 least, .int .i64 n, .int .i64 rgb] = some (0, [.int .i64 (nearGo rgb (256 - n).toNat n index least), .int .i64 rgb]) := if_pos hc
def near0_D : LoopD := ⟨[(2, h 0 3), (4, .func (.func 39) ⟨[]⟩ ⟨[.pointer (some ⟨9, 0, none⟩)]⟩), (5, h 1 3), (6, h 2 3)], [(9, (3, [h 3 3]))], 4, [⟨.exit 0, [(2, h 0 3)], [(9, (3, [h 1 3]))], 2⟩]⟩
noncomputable def near0_B : Code := (Tryd.f18.body).getD .skip
noncomputable def near0_x : Code := match codeAt [true, true, true, true, false, true, false] near0_B with | some (.loop x) => x | _ => .skip
theorem near0_b : Tryd.f18.body = some near0_B := rfl
theorem near0_p : codeAt [true, true, true, true, false, true, false] near0_B = some (.loop near0_x) := by kernel_rfl
def near0_t : Tr := .lt 8 (.bin .lss) [h 2 3, .int .i64 (256)] <| .br 4 (.fn at_s [h 2 3] 1 <| .lt 3 (.bin .shr) [h 3 3, .int .i64 (0)] <| .lt 3 (.bin .and) [h 6 3, .int .i64 (255)] <| .lt 3 (.bin .shr) [h 5 3, .int .i64 (0)] <| .lt 3 (.bin .and) [h 8 3, .int .i64 (255)] <| .lt 3 (.bin .sub) [h 7 3, h 9 3] <| .lt 3 (.bin .mul) [h 10 3, h 10 3] <| .lt 3 (.bin .add) [.int .i64 (0), h 11 3] <| .lt 3 (.bin .shr) [h 3 3, .int .i64 (8)] <| .lt 3 (.bin .and) [h 13 3, .int .i64 (255)] <| .lt 3 (.bin .shr) [h 5 3, .int .i64 (8)] <| .lt 3 (.bin .and) [h 15 3, .int .i64 (255)] <| .lt 3 (.bin .sub) [h 14 3, h 16 3] <| .lt 3 (.bin .mul) [h 17 3, h 17 3] <| .lt 3 (.bin .add) [h 12 3, h 18 3] <| .lt 3 (.bin .shr) [h 3 3, .int .i64 (16)] <| .lt 3 (.bin .and) [h 20 3, .int .i64 (255)] <| .lt 3 (.bin .shr) [h 5 3, .int .i64 (16)] <| .lt 3 (.bin .and) [h 22 3, .int .i64 (255)] <| .lt 3 (.bin .sub) [h 21 3, h 23 3] <| .lt 3 (.bin .mul) [h 24 3, h 24 3] <| .lt 3 (.bin .add) [h 19 3, h 25 3] <| .lt 8 (.bin .lss) [h 26 3, h 1 3] <| .br 27 (.lt 3 (.bin .add) [h 2 3, .int .i64 (1)] <| .ret [.int .i64 (-1), h 2 3, h 26 3, h 28 3, h 3 3]) (.lt 3 (.bin .add) [h 2 3, .int .i64 (1)] <| .ret [.int .i64 (-1), h 0 3, h 1 3, h 28 3, h 3 3])) (.ret [.int .i64 (0), h 0 3, h 3 3])
def near0_m : List U → Nat
  | [.int .i64 index, .int .i64 least, .int .i64 n, .int .i64 rgb] => (256 - n).toNat
  | _ => 0
theorem near0_c {G : Nat → Option Obj} (hst : StartOk Tryd.prog G gl H0 n0) : ∀ (E : Nat → U) (base : Nat), @CodeOk ⟨E, G⟩ Tryd.prog base gl Tryd.f18.ntmps (.loop near0_x) (loopF near0_D near0_s) := by
  refine loop_ok (C := cx L_rindex []) (dep := 60) (f := 18) (n0 := n0) (nB := 10) (H0 := H0) near0_m near0_t (cxg (L_rindex_ok hst) .nil) hst Tryd.func18 near0_b near0_p (by kernel_rfl) (by kernel_rfl) (by kernel_rfl) ?_
  intro us d outs hs
  have hs0 := hs
  unfold near0_s at hs
  split at hs
  · rename_i index least n rgb
    split at hs
    · rename_i hc
      clear hs hs0
      have q1 := sqS_bd rgb (atS n) 1 (by decide)
      have q2 := sqS_bd rgb (atS n) 256 (by decide)
      have q3 := sqS_bd rgb (atS n) 65536 (by decide)
      unfold sqS at q1 q2 q3
      refine ⟨rfl, ?_⟩
      unfold near0_t
      refine sat_lt [_, _, _, _, _] (ev_lss _ _ _) ⟨by decide, rfl⟩ rfl ?_
      first | refine sat_br rfl (fun g0 => ?_) (fun g0 => ?_) | refine sat_brB rfl (fun g0 => ?_) (fun g0 => ?_)
      · skip
        refine sat_fn [_, _, _, _, _, _] (at_s_e _ (by omega)) rfl rfl ?_
        refine sat_lt [_, _, _, _, _, _, _] (ev_shrL 1 (by decide) (by decide)) ⟨by decide, rfl⟩ rfl ?_
        refine sat_lt [_, _, _, _, _, _, _, _] (ev_andR 8 256 (by decide) (by decide) (by decide)) ⟨by decide, rfl⟩ rfl ?_
        refine sat_lt [_, _, _, _, _, _, _, _, _] (ev_shrL 1 (by decide) (by decide)) ⟨by decide, rfl⟩ rfl ?_
        refine sat_lt [_, _, _, _, _, _, _, _, _, _] (ev_andR 8 256 (by decide) (by decide) (by decide)) ⟨by decide, rfl⟩ rfl ?_
        first | refine sat_lt [_, _, _, _, _, _, _, _, _, _, _] (ev_subW (wrap64 (by omega) (by omega))) ⟨by decide, rfl⟩ rfl ?_ | refine sat_lt [_, _, _, _, _, _, _, _, _, _, _] (ev_sub _ _ _) ⟨by decide, rfl⟩ rfl ?_
        first | refine sat_lt [_, _, _, _, _, _, _, _, _, _, _, _] (ev_mulW (wrap64 (by omega) (by omega))) ⟨by decide, rfl⟩ rfl ?_ | refine sat_lt [_, _, _, _, _, _, _, _, _, _, _, _] (ev_mul _ _ _) ⟨by decide, rfl⟩ rfl ?_
        first | refine sat_lt [_, _, _, _, _, _, _, _, _, _, _, _, _] (ev_addW (wrap64 (by omega) (by omega))) ⟨by decide, rfl⟩ rfl ?_ | refine sat_lt [_, _, _, _, _, _, _, _, _, _, _, _, _] (ev_add _ _ _) ⟨by decide, rfl⟩ rfl ?_
        refine sat_lt [_, _, _, _, _, _, _, _, _, _, _, _, _, _] (ev_shrL 256 (by decide) (by decide)) ⟨by decide, rfl⟩ rfl ?_
        refine sat_lt [_, _, _, _, _, _, _, _, _, _, _, _, _, _, _] (ev_andR 8 256 (by decide) (by decide) (by decide)) ⟨by decide, rfl⟩ rfl ?_
        refine sat_lt [_, _, _, _, _, _, _, _, _, _, _, _, _, _, _, _] (ev_shrL 256 (by decide) (by decide)) ⟨by decide, rfl⟩ rfl ?_
        refine sat_lt [_, _, _, _, _, _, _, _, _, _, _, _, _, _, _, _, _] (ev_andR 8 256 (by decide) (by decide) (by decide)) ⟨by decide, rfl⟩ rfl ?_
        first | refine sat_lt [_, _, _, _, _, _, _, _, _, _, _, _, _, _, _, _, _, _] (ev_subW (wrap64 (by omega) (by omega))) ⟨by decide, rfl⟩ rfl ?_ | refine sat_lt [_, _, _, _, _, _, _, _, _, _, _, _, _, _, _, _, _, _] (ev_sub _ _ _) ⟨by decide, rfl⟩ rfl ?_
        first | refine sat_lt [_, _, _, _, _, _, _, _, _, _, _, _, _, _, _, _, _, _, _] (ev_mulW (wrap64 (by omega) (by omega))) ⟨by decide, rfl⟩ rfl ?_ | refine sat_lt [_, _, _, _, _, _, _, _, _, _, _, _, _, _, _, _, _, _, _] (ev_mul _ _ _) ⟨by decide, rfl⟩ rfl ?_
        first | refine sat_lt [_, _, _, _, _, _, _, _, _, _, _, _, _, _, _, _, _, _, _, _] (ev_addW (wrap64 (by omega) (by omega))) ⟨by decide, rfl⟩ rfl ?_ | refine sat_lt [_, _, _, _, _, _, _, _, _, _, _, _, _, _, _, _, _, _, _, _] (ev_add _ _ _) ⟨by decide, rfl⟩ rfl ?_
        refine sat_lt [_, _, _, _, _, _, _, _, _, _, _, _, _, _, _, _, _, _, _, _, _] (ev_shrL 65536 (by decide) (by decide)) ⟨by decide, rfl⟩ rfl ?_
        refine sat_lt [_, _, _, _, _, _, _, _, _, _, _, _, _, _, _, _, _, _, _, _, _, _] (ev_andR 8 256 (by decide) (by decide) (by decide)) ⟨by decide, rfl⟩ rfl ?_
        refine sat_lt [_, _, _, _, _, _, _, _, _, _, _, _, _, _, _, _, _, _, _, _, _, _, _] (ev_shrL 65536 (by decide) (by decide)) ⟨by decide, rfl⟩ rfl ?_
        refine sat_lt [_, _, _, _, _, _, _, _, _, _, _, _, _, _, _, _, _, _, _, _, _, _, _, _] (ev_andR 8 256 (by decide) (by decide) (by decide)) ⟨by decide, rfl⟩ rfl ?_
        first | refine sat_lt [_, _, _, _, _, _, _, _, _, _, _, _, _, _, _, _, _, _, _, _, _, _, _, _, _] (ev_subW (wrap64 (by omega) (by omega))) ⟨by decide, rfl⟩ rfl ?_ | refine sat_lt [_, _, _, _, _, _, _, _, _, _, _, _, _, _, _, _, _, _, _, _, _, _, _, _, _] (ev_sub _ _ _) ⟨by decide, rfl⟩ rfl ?_
        first | refine sat_lt [_, _, _, _, _, _, _, _, _, _, _, _, _, _, _, _, _, _, _, _, _, _, _, _, _, _] (ev_mulW (wrap64 (by omega) (by omega))) ⟨by decide, rfl⟩ rfl ?_ | refine sat_lt [_, _, _, _, _, _, _, _, _, _, _, _, _, _, _, _, _, _, _, _, _, _, _, _, _, _] (ev_mul _ _ _) ⟨by decide, rfl⟩ rfl ?_
        first | refine sat_lt [_, _, _, _, _, _, _, _, _, _, _, _, _, _, _, _, _, _, _, _, _, _, _, _, _, _, _] (ev_addW (wrap64 (by omega) (by omega))) ⟨by decide, rfl⟩ rfl ?_ | refine sat_lt [_, _, _, _, _, _, _, _, _, _, _, _, _, _, _, _, _, _, _, _, _, _, _, _, _, _, _] (ev_add _ _ _) ⟨by decide, rfl⟩ rfl ?_
        refine sat_lt [_, _, _, _, _, _, _, _, _, _, _, _, _, _, _, _, _, _, _, _, _, _, _, _, _, _, _, _] (ev_lss _ _ _) ⟨by decide, rfl⟩ rfl ?_
        first | refine sat_br rfl (fun g1 => ?_) (fun g1 => ?_) | refine sat_brB rfl (fun g1 => ?_) (fun g1 => ?_)
        · skip
          first | refine sat_lt [_, _, _, _, _, _, _, _, _, _, _, _, _, _, _, _, _, _, _, _, _, _, _, _, _, _, _, _, _] (ev_addW (wrap64 (by omega) (by omega))) ⟨by decide, rfl⟩ rfl ?_ | refine sat_lt [_, _, _, _, _, _, _, _, _, _, _, _, _, _, _, _, _, _, _, _, _, _, _, _, _, _, _, _, _] (ev_add _ _ _) ⟨by decide, rfl⟩ rfl ?_
          refine sat_ret [.int .i64 _, .int .i64 _, .int .i64 _, .int .i64 _, .int .i64 _] rfl ?_
          refine leaf_back ?_ ?_
          · refine (near0_s_e _ _ _ _ (by omega)).trans (Eq.trans ?_ (near0_s_e _ _ _ _ (by omega)).symm)
            first | exact congrArg (fun z => some (0, [U.int .i64 z, U.int .i64 rgb])) (nearGo_hit (by omega) (by assumption)).symm | exact congrArg (fun z => some (0, [U.int .i64 z, U.int .i64 rgb])) (nearGo_miss (by omega) (by assumption)).symm
          · show (256 - (n + 1)).toNat < (256 - n).toNat
            omega
        · skip
          first | refine sat_lt [_, _, _, _, _, _, _, _, _, _, _, _, _, _, _, _, _, _, _, _, _, _, _, _, _, _, _, _, _] (ev_addW (wrap64 (by omega) (by omega))) ⟨by decide, rfl⟩ rfl ?_ | refine sat_lt [_, _, _, _, _, _, _, _, _, _, _, _, _, _, _, _, _, _, _, _, _, _, _, _, _, _, _, _, _] (ev_add _ _ _) ⟨by decide, rfl⟩ rfl ?_
          refine sat_ret [.int .i64 _, .int .i64 _, .int .i64 _, .int .i64 _, .int .i64 _] rfl ?_
          refine leaf_back ?_ ?_
          · refine (near0_s_e _ _ _ _ (by omega)).trans (Eq.trans ?_ (near0_s_e _ _ _ _ (by omega)).symm)
            first | exact congrArg (fun z => some (0, [U.int .i64 z, U.int .i64 rgb])) (nearGo_hit (by omega) (by assumption)).symm | exact congrArg (fun z => some (0, [U.int .i64 z, U.int .i64 rgb])) (nearGo_miss (by omega) (by assumption)).symm
          · show (256 - (n + 1)).toNat < (256 - n).toNat
            omega
      · skip
        refine sat_ret [.int .i64 _, .int .i64 _, .int .i64 _] rfl ?_
        refine leaf_exit (d := 0) ?_
        refine (near0_s_e _ _ _ _ (by omega)).trans ?_
        rw [show (256 - n).toNat = 0 by omega]; rfl
    · cases hs
  · cases hs
def P_near0 : List LpE := (18, ([true, true, true, true, false, true, false], loopF near0_D near0_s)) :: []
theorem P_near0_ok {G : Nat → Option Obj} (hst : StartOk Tryd.prog G gl H0 n0) : LpsOk Tryd.prog G gl P_near0 := .cons Tryd.func18 near0_b near0_p (near0_c hst) .nil


def nearest_s : List U → Option (Nat × List U)
  | [.int .i64 rgb] => some (0, [.int .i64 (if rgb < 0 ∨ 16777215 < rgb then 0 else nearS rgb), .int .i64 (if rgb < 0 ∨ 16777215 < rgb then 2 else 0)])
  | _ => none
theorem nearest_s_e (rgb : Int) : nearest_s [.int .i64 rgb] = some (0, [.int .i64 (if rgb < 0 ∨ 16777215 < rgb then 0 else nearS rgb), .int .i64 (if rgb < 0 ∨ 16777215 < rgb then 2 else 0)]) := rfl
def nearest_t : Tr := .lt 8 (.bin .lss) [h 0 3, .int .i64 (0)] <| .br 1 (.ret [.int .i64 (0), .int .i64 (2)]) (.lt 8 (.bin .gtr) [h 0 3, .int .i64 (16777215)] <| .br 2 (.ret [.int .i64 (0), .int .i64 (2)]) (.fn at_s [.int .i64 (0)] 1 <| .lt 3 (.bin .shr) [h 0 3, .int .i64 (0)] <| .lt 3 (.bin .and) [h 4 3, .int .i64 (255)] <| .lt 3 (.bin .shr) [h 3 3, .int .i64 (0)] <| .lt 3 (.bin .and) [h 6 3, .int .i64 (255)] <| .lt 3 (.bin .sub) [h 5 3, h 7 3] <| .lt 3 (.bin .mul) [h 8 3, h 8 3] <| .lt 3 (.bin .add) [.int .i64 (0), h 9 3] <| .lt 3 (.bin .shr) [h 0 3, .int .i64 (8)] <| .lt 3 (.bin .and) [h 11 3, .int .i64 (255)] <| .lt 3 (.bin .shr) [h 3 3, .int .i64 (8)] <| .lt 3 (.bin .and) [h 13 3, .int .i64 (255)] <| .lt 3 (.bin .sub) [h 12 3, h 14 3] <| .lt 3 (.bin .mul) [h 15 3, h 15 3] <| .lt 3 (.bin .add) [h 10 3, h 16 3] <| .lt 3 (.bin .shr) [h 0 3, .int .i64 (16)] <| .lt 3 (.bin .and) [h 18 3, .int .i64 (255)] <| .lt 3 (.bin .shr) [h 3 3, .int .i64 (16)] <| .lt 3 (.bin .and) [h 20 3, .int .i64 (255)] <| .lt 3 (.bin .sub) [h 19 3, h 21 3] <| .lt 3 (.bin .mul) [h 22 3, h 22 3] <| .lt 3 (.bin .add) [h 17 3, h 23 3] <| .fn near0_s [.int .i64 (0), h 24 3, .int .i64 (1), h 0 3] 2 <| .ret [h 25 3, .int .i64 (0)]))
theorem nearest_c {G : Nat → Option Obj} (hst : StartOk Tryd.prog G gl H0 n0) : ConOk Tryd.prog G 18 [.s 3] nearest_s [.s 3, .s 3] := by
  refine con_of_tree (C := cx L_rindex P_near0) (d := 60) nearest_t (cxg (L_rindex_ok hst) (P_near0_ok hst)) hst ⟨Tryd.f18, _, Tryd.func18, rfl⟩ (by kernel_rfl) (by kernel_rfl) ?_
  intro us outs hs
  unfold nearest_s at hs
  split at hs
  · rename_i rgb
    cases hs
    have q1 := sqS_bd rgb (atS 0) 1 (by decide)
    have q2 := sqS_bd rgb (atS 0) 256 (by decide)
    have q3 := sqS_bd rgb (atS 0) 65536 (by decide)
    unfold sqS at q1 q2 q3
    unfold nearest_t
    refine sat_lt [_, _] (ev_lss _ _ _) ⟨by decide, rfl⟩ rfl ?_
    first | refine sat_br rfl (fun g0 => ?_) (fun g0 => ?_) | refine sat_brB rfl (fun g0 => ?_) (fun g0 => ?_)
    · skip
      refine sat_ret [.int .i64 _, .int .i64 _] rfl ?_
      first | (simp only [nearS]; rw [if_pos (by omega), if_pos (by omega)]; done) | (rw [if_neg (by omega), if_neg (by omega)]; rfl)
    · skip
      refine sat_lt [_, _, _] (ev_gtr _ _ _) ⟨by decide, rfl⟩ rfl ?_
      first | refine sat_br rfl (fun g1 => ?_) (fun g1 => ?_) | refine sat_brB rfl (fun g1 => ?_) (fun g1 => ?_)
      · skip
        refine sat_ret [.int .i64 _, .int .i64 _] rfl ?_
        first | (simp only [nearS]; rw [if_pos (by omega), if_pos (by omega)]; done) | (rw [if_neg (by omega), if_neg (by omega)]; rfl)
      · skip
        refine sat_fn [_, _, _, _] (at_s_e _ (by omega)) rfl rfl ?_
        refine sat_lt [_, _, _, _, _] (ev_shrL 1 (by decide) (by decide)) ⟨by decide, rfl⟩ rfl ?_
        refine sat_lt [_, _, _, _, _, _] (ev_andR 8 256 (by decide) (by decide) (by decide)) ⟨by decide, rfl⟩ rfl ?_
        refine sat_lt [_, _, _, _, _, _, _] (ev_shrL 1 (by decide) (by decide)) ⟨by decide, rfl⟩ rfl ?_
        refine sat_lt [_, _, _, _, _, _, _, _] (ev_andR 8 256 (by decide) (by decide) (by decide)) ⟨by decide, rfl⟩ rfl ?_
        first | refine sat_lt [_, _, _, _, _, _, _, _, _] (ev_subW (wrap64 (by omega) (by omega))) ⟨by decide, rfl⟩ rfl ?_ | refine sat_lt [_, _, _, _, _, _, _, _, _] (ev_sub _ _ _) ⟨by decide, rfl⟩ rfl ?_
        first | refine sat_lt [_, _, _, _, _, _, _, _, _, _] (ev_mulW (wrap64 (by omega) (by omega))) ⟨by decide, rfl⟩ rfl ?_ | refine sat_lt [_, _, _, _, _, _, _, _, _, _] (ev_mul _ _ _) ⟨by decide, rfl⟩ rfl ?_
        first | refine sat_lt [_, _, _, _, _, _, _, _, _, _, _] (ev_addW (wrap64 (by omega) (by omega))) ⟨by decide, rfl⟩ rfl ?_ | refine sat_lt [_, _, _, _, _, _, _, _, _, _, _] (ev_add _ _ _) ⟨by decide, rfl⟩ rfl ?_
        refine sat_lt [_, _, _, _, _, _, _, _, _, _, _, _] (ev_shrL 256 (by decide) (by decide)) ⟨by decide, rfl⟩ rfl ?_
        refine sat_lt [_, _, _, _, _, _, _, _, _, _, _, _, _] (ev_andR 8 256 (by decide) (by decide) (by decide)) ⟨by decide, rfl⟩ rfl ?_
        refine sat_lt [_, _, _, _, _, _, _, _, _, _, _, _, _, _] (ev_shrL 256 (by decide) (by decide)) ⟨by decide, rfl⟩ rfl ?_
        refine sat_lt [_, _, _, _, _, _, _, _, _, _, _, _, _, _, _] (ev_andR 8 256 (by decide) (by decide) (by decide)) ⟨by decide, rfl⟩ rfl ?_
        first | refine sat_lt [_, _, _, _, _, _, _, _, _, _, _, _, _, _, _, _] (ev_subW (wrap64 (by omega) (by omega))) ⟨by decide, rfl⟩ rfl ?_ | refine sat_lt [_, _, _, _, _, _, _, _, _, _, _, _, _, _, _, _] (ev_sub _ _ _) ⟨by decide, rfl⟩ rfl ?_
        first | refine sat_lt [_, _, _, _, _, _, _, _, _, _, _, _, _, _, _, _, _] (ev_mulW (wrap64 (by omega) (by omega))) ⟨by decide, rfl⟩ rfl ?_ | refine sat_lt [_, _, _, _, _, _, _, _, _, _, _, _, _, _, _, _, _] (ev_mul _ _ _) ⟨by decide, rfl⟩ rfl ?_
        first | refine sat_lt [_, _, _, _, _, _, _, _, _, _, _, _, _, _, _, _, _, _] (ev_addW (wrap64 (by omega) (by omega))) ⟨by decide, rfl⟩ rfl ?_ | refine sat_lt [_, _, _, _, _, _, _, _, _, _, _, _, _, _, _, _, _, _] (ev_add _ _ _) ⟨by decide, rfl⟩ rfl ?_
        refine sat_lt [_, _, _, _, _, _, _, _, _, _, _, _, _, _, _, _, _, _, _] (ev_shrL 65536 (by decide) (by decide)) ⟨by decide, rfl⟩ rfl ?_
        refine sat_lt [_, _, _, _, _, _, _, _, _, _, _, _, _, _, _, _, _, _, _, _] (ev_andR 8 256 (by decide) (by decide) (by decide)) ⟨by decide, rfl⟩ rfl ?_
        refine sat_lt [_, _, _, _, _, _, _, _, _, _, _, _, _, _, _, _, _, _, _, _, _] (ev_shrL 65536 (by decide) (by decide)) ⟨by decide, rfl⟩ rfl ?_
        refine sat_lt [_, _, _, _, _, _, _, _, _, _, _, _, _, _, _, _, _, _, _, _, _, _] (ev_andR 8 256 (by decide) (by decide) (by decide)) ⟨by decide, rfl⟩ rfl ?_
        first | refine sat_lt [_, _, _, _, _, _, _, _, _, _, _, _, _, _, _, _, _, _, _, _, _, _, _] (ev_subW (wrap64 (by omega) (by omega))) ⟨by decide, rfl⟩ rfl ?_ | refine sat_lt [_, _, _, _, _, _, _, _, _, _, _, _, _, _, _, _, _, _, _, _, _, _, _] (ev_sub _ _ _) ⟨by decide, rfl⟩ rfl ?_
        first | refine sat_lt [_, _, _, _, _, _, _, _, _, _, _, _, _, _, _, _, _, _, _, _, _, _, _, _] (ev_mulW (wrap64 (by omega) (by omega))) ⟨by decide, rfl⟩ rfl ?_ | refine sat_lt [_, _, _, _, _, _, _, _, _, _, _, _, _, _, _, _, _, _, _, _, _, _, _, _] (ev_mul _ _ _) ⟨by decide, rfl⟩ rfl ?_
        first | refine sat_lt [_, _, _, _, _, _, _, _, _, _, _, _, _, _, _, _, _, _, _, _, _, _, _, _, _] (ev_addW (wrap64 (by omega) (by omega))) ⟨by decide, rfl⟩ rfl ?_ | refine sat_lt [_, _, _, _, _, _, _, _, _, _, _, _, _, _, _, _, _, _, _, _, _, _, _, _, _] (ev_add _ _ _) ⟨by decide, rfl⟩ rfl ?_
        refine sat_fn [_, _, _, _, _, _, _, _, _, _, _, _, _, _, _, _, _, _, _, _, _, _, _, _, _, _, _] (near0_s_e _ _ _ _ (by omega)) rfl rfl ?_
        refine sat_ret [.int .i64 _, .int .i64 _] rfl ?_
        first | (simp only [nearS]; rw [if_pos (by omega), if_pos (by omega)]; done) | (rw [if_neg (by omega), if_neg (by omega)]; rfl)
  · cases hs
def L_nearest : List (FuncId × FnC) := (18, conF [.s 3] nearest_s [.s 3, .s 3]) :: L_rindex
theorem L_nearest_ok {G : Nat → Option Obj} (hst : StartOk Tryd.prog G gl H0 n0) : ConsOk Tryd.prog G gl L_nearest := .cons (nearest_c hst) (L_rindex_ok hst)
end Go.Proofs.YtdmdghooamchfaaDoor
