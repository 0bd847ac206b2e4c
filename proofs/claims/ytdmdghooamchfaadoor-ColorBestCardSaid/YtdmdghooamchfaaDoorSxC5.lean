/- What functions of the program come to: contracts, each by the tree of its ways. -/
import Derived.Test.YtdmdghooamchfaaDoorSxC4
namespace Go.Proofs.YtdmdghooamchfaaDoor
set_option linter.all false
open Go Go.Sx
set_option maxRecDepth 100000
set_option linter.unusedVariables false
set_option linter.unusedSimpArgs false
/-- The best index so far. -/
def Best (rgb k m : Int) : Prop := 0 ≤ k ∧ k < m ∧ ∀ j, 0 ≤ j → j < m → distS rgb (atS k) ≤ distS rgb (atS j) ∧ (j < k → distS rgb (atS k) < distS rgb (atS j))
theorem nearGo_best {rgb : Int} : ∀ (m : Nat) (n i l : Int), l = distS rgb (atS i) → Best rgb i n → Best rgb (nearGo rgb m n i l) (n + m)
  | 0, n, i, l, hl, h => by simpa [nearGo] using h
  | m + 1, n, i, l, hl, ⟨h1, h2, h3⟩ => by
    unfold nearGo
    subst hl
    have e : n + ((m + 1 : Nat) : Int) = (n + 1) + (m : Nat) := by push_cast; omega
    rw [e]
    split
    · rename_i hd
      refine nearGo_best m (n + 1) n _ rfl ⟨by omega, by omega, fun j g1 g2 => ?_⟩
      rcases Int.lt_or_eq_of_le (show j ≤ n by omega) with g | rfl
      · have := (h3 j g1 g).1
        exact ⟨by omega, fun _ => by omega⟩
      · exact ⟨Int.le_refl _, fun h => by omega⟩
    · rename_i hd
      refine nearGo_best m (n + 1) i _ rfl ⟨by omega, by omega, fun j g1 g2 => ?_⟩
      rcases Int.lt_or_eq_of_le (show j ≤ n by omega) with g | rfl
      · exact h3 j g1 g
      · exact ⟨by omega, fun h => by omega⟩
theorem nearS_best (rgb : Int) : Best rgb (nearS rgb) 256 := by
  have := nearGo_best (rgb := rgb) 255 1 0 _ rfl ⟨by omega, by omega, fun j h1 h2 => by
    have : j = 0 := by omega
    subst this; exact ⟨Int.le_refl _, fun h => by omega⟩⟩
  exact this
theorem Best.uniq {rgb k m : Int} (h : Best rgb k 256) (g : Best rgb m 256) : k = m := by
  obtain ⟨h1, h2, h3⟩ := h
  obtain ⟨g1, g2, g3⟩ := g
  have a := h3 m g1 g2
  have b := g3 k h1 h2
  rcases Int.lt_trichotomy k m with e | e | e
  · have := b.2 e; omega
  · exact e
  · have := a.2 e; omega
def bestB (rgb k : Int) : Bool := decide (0 ≤ k ∧ k < 256) && (List.range 256).all fun j => decide (distS rgb (atS k) ≤ distS rgb (atS j)) && (!decide ((j : Int) < k) || decide (distS rgb (atS k) < distS rgb (atS j)))
theorem near_of {rgb k : Int} (h : bestB rgb k = true) : nearS rgb = k := by
  unfold bestB at h
  simp only [Bool.and_eq_true, decide_eq_true_eq, List.all_eq_true, List.mem_range, Bool.or_eq_true, Bool.not_eq_true', decide_eq_false_iff_not] at h
  refine Best.uniq (nearS_best rgb) ⟨h.1.1, h.1.2, fun j g1 g2 => ?_⟩
  obtain ⟨n, rfl⟩ : ∃ n : Nat, j = n := ⟨j.toNat, by omega⟩
  have := h.2 n (by omega)
  exact ⟨this.1, fun hj => by rcases this.2 with e | e <;> first | omega | exact absurd hj e⟩



def near_s : List U → Option (Nat × List U)
  | [.int .i64 n, .int .i64 i] => some (0, [.bool (decide (0 ≤ n ∧ n ≤ 16777215 ∧ nearS n = i))])
  | _ => none
theorem near_s_e (n : Int) (i : Int) : near_s [.int .i64 n, .int .i64 i] = some (0, [.bool (decide (0 ≤ n ∧ n ≤ 16777215 ∧ nearS n = i))]) := rfl
def near_t : Tr := .fn nearest_s [h 0 3] 2 <| .lt 8 (.bin .eql) [h 2 3, h 1 3] <| .br 4 (.lt 8 (.bin .eql) [h 3 3, .int .i64 (0)] <| .ret [h 5 8]) (.ret [.bool false])
theorem near_c {G : Nat → Option Obj} (hst : StartOk Tryd.prog G gl H0 n0) : ConOk Tryd.prog G 27 [.s 3, .s 3] near_s [.s 8] := by
  refine con_of_tree (C := cx L_nearest P_near0) (d := 60) near_t (cxg (L_nearest_ok hst) (P_near0_ok hst)) hst ⟨Tryd.f27, _, Tryd.func27, rfl⟩ (by kernel_rfl) (by kernel_rfl) ?_
  intro us outs hs
  unfold near_s at hs
  split at hs
  · rename_i n i
    cases hs
    unfold near_t
    refine sat_fn [_, _, _, _] (nearest_s_e _) rfl rfl ?_
    refine sat_lt [_, _, _, _, _] (ev_eql _ _ _) ⟨by decide, rfl⟩ rfl ?_
    first | refine sat_br rfl (fun g0 => ?_) (fun g0 => ?_) | refine sat_brB rfl (fun g0 => ?_) (fun g0 => ?_)
    · skip
      refine sat_lt [_, _, _, _, _, _] (ev_eql _ _ _) ⟨by decide, rfl⟩ rfl ?_
      refine sat_ret [.bool _] rfl ?_
      refine congrArg (fun z => [U.bool z]) ?_; by_cases hb : n < 0 ∨ 16777215 < n <;> (try rw [if_pos hb] at g0) <;> (try rw [if_neg hb] at g0) <;> first | (refine decide_eq_decide.2 ?_; rw [if_pos hb]; exact ⟨fun h => by omega, fun h => by omega⟩) | (refine decide_eq_decide.2 ?_; rw [if_neg hb]; exact ⟨fun _ => ⟨by omega, by omega, g0⟩, fun _ => rfl⟩) | (refine (decide_eq_false ?_).symm; rintro ⟨h1, h2, h3⟩; first | omega | exact g0 h3)
    · skip
      refine sat_ret [.bool _] rfl ?_
      refine congrArg (fun z => [U.bool z]) ?_; by_cases hb : n < 0 ∨ 16777215 < n <;> (try rw [if_pos hb] at g0) <;> (try rw [if_neg hb] at g0) <;> first | (refine decide_eq_decide.2 ?_; rw [if_pos hb]; exact ⟨fun h => by omega, fun h => by omega⟩) | (refine decide_eq_decide.2 ?_; rw [if_neg hb]; exact ⟨fun _ => ⟨by omega, by omega, g0⟩, fun _ => rfl⟩) | (refine (decide_eq_false ?_).symm; rintro ⟨h1, h2, h3⟩; first | omega | exact g0 h3)
  · cases hs
def L_near : List (FuncId × FnC) := (27, conF [.s 3, .s 3] near_s [.s 8]) :: L_nearest
theorem L_near_ok {G : Nat → Option Obj} (hst : StartOk Tryd.prog G gl H0 n0) : ConsOk Tryd.prog G gl L_near := .cons (near_c hst) (L_nearest_ok hst)
theorem near_k {n i : Int} (h : decide (0 ≤ n ∧ n ≤ 16777215) = true) (hb : bestB n i = true) : near_s [.int .i64 n, .int .i64 i] = some (0, [.bool true]) := by
  rw [near_s_e]
  have h := of_decide_eq_true h
  have : decide (0 ≤ n ∧ n ≤ 16777215 ∧ nearS n = i) = true := decide_eq_true ⟨h.1, h.2, near_of hb⟩
  rw [this]
end Go.Proofs.YtdmdghooamchfaaDoor
