/- Loops taken by what is shown of their round, part 2: the state at the loop's head, and behind it. -/
import Derived.Test.YtdmdghooamchfaaDoorSxLoop
namespace Go.Sx
set_option linter.all false
open Go
set_option linter.unusedVariables false
set_option linter.unusedSimpArgs false

section
variable {P : Program} {G : Nat → Option Obj}
-- The holes counted from elsewhere.
mutual
theorem shiftV_VR {E F : Nat → U} {ρ ρ2 : Ren} {S : Nat → Bool} {nx : Nat} (hS : ∀ b l, S b = true → ρ b = some l → ρ2 b = some l) (hF : ∀ i, F i = E (nx + i)) : ∀ (d : Nat) (p v' : Value), namesV S d p = true → @VR ⟨F, G⟩ ρ p v' → @VR ⟨E, G⟩ ρ2 (shiftV nx d p) v'
  | 0, p, v', hn, _ => by simp [namesV] at hn
  | d + 1, p, v', hn, hv => by
    cases hv with
    | pure hp =>
      have : shiftV nx (d + 1) p = p := by
        cases p <;> simp only [pureV] at hp <;> first | rfl | cases hp
      rw [this]; exact @VR.pure ⟨E, G⟩ _ _ hp
    | hole h1 h2 =>
      rename_i i t
      have : shiftV nx (d + 1) (.complex .f64 i t) = .complex .f64 (nx + i) t := by simp [shiftV, forceN_eq]
      rw [this]
      exact @VR.hole ⟨E, G⟩ ρ2 (nx + i) t v' (by show toV (E (nx + i)) = _; rw [← hF]; exact h1) (by show tagU (E (nx + i)) = _; rw [← hF]; exact h2)
    | junk h => exact @VR.junk ⟨E, G⟩ _ _ _ _ h
    | ixp h1 h2 h3 h4 h5 => simp [ixp, namesV, pureV] at hn
    | ptr h1 => exact @VR.ptr ⟨E, G⟩ _ _ _ _ (hS _ _ hn h1)
    | sl h1 hm => exact @VR.sl ⟨E, G⟩ _ _ _ _ _ _ (hS _ _ hn h1) hm
    | op h1 hm hn2 hc => exact @VR.op ⟨E, G⟩ _ _ _ _ _ _ _ (hS _ _ hn h1) hm hn2 hc
    | opE hs => exact @VR.opE ⟨E, G⟩ _ _ _ _ hs
    | map h1 => simp [namesV, pureV] at hn
    | func ha hb q1 q2 =>
      rename_i f a b a' b'
      obtain ⟨n1, n2⟩ := band (show (namesL S d a && namesL S d b) = true from hn)
      have r1 := shiftL_LR hS hF d a a' n1 ⟨ha, q1⟩
      have r2 := shiftL_LR hS hF d b b' n2 ⟨hb, q2⟩
      have : shiftV nx (d + 1) (.func (.func f) ⟨a⟩ ⟨b⟩) = .func (.func f) ⟨shiftL nx d a⟩ ⟨shiftL nx d b⟩ := by simp [shiftV, forceL_eq]
      rw [this]
      exact @VR.func ⟨E, G⟩ _ _ _ _ _ _ r1.1 r2.1 r1.2 r2.2
    | iface hv => exact @VR.iface ⟨E, G⟩ _ _ _ _ (shiftV_VR hS hF d _ _ hn hv)
    | agg ha q1 =>
      rename_i a a'
      have r1 := shiftL_LR hS hF d a a' hn ⟨ha, q1⟩
      have : shiftV nx (d + 1) (.agg ⟨a⟩) = .agg ⟨shiftL nx d a⟩ := by simp [shiftV, forceL_eq]
      rw [this]
      exact @VR.agg ⟨E, G⟩ _ _ _ r1.1 r1.2
    | tuple ha q1 =>
      rename_i a a'
      have r1 := shiftL_LR hS hF d a a' hn ⟨ha, q1⟩
      have : shiftV nx (d + 1) (.tuple ⟨a⟩) = .tuple ⟨shiftL nx d a⟩ := by simp [shiftV, forceL_eq]
      rw [this]
      exact @VR.tuple ⟨E, G⟩ _ _ _ r1.1 r1.2
theorem shiftL_LR {E F : Nat → U} {ρ ρ2 : Ren} {S : Nat → Bool} {nx : Nat} (hS : ∀ b l, S b = true → ρ b = some l → ρ2 b = some l) (hF : ∀ i, F i = E (nx + i)) : ∀ (d : Nat) (ps vs' : List Value), namesL S d ps = true → @LR ⟨F, G⟩ ρ ps vs' → @LR ⟨E, G⟩ ρ2 (shiftL nx d ps) vs'
  | 0, ps, vs', hn, _ => by simp [namesL] at hn
  | d + 1, [], vs', hn, hv => by rw [@LR.nil_inv ⟨F, G⟩ _ _ hv]; exact @LR.nil ⟨E, G⟩ _
  | d + 1, p :: ps, vs', hn, hv => by
    obtain ⟨v', r', rfl, h1, h2⟩ := @LR.tail ⟨F, G⟩ _ _ _ _ hv
    obtain ⟨n1, n2⟩ := band (show (namesV S d p && namesL S d ps) = true from hn)
    exact @LR.cons ⟨E, G⟩ _ _ _ _ _ (shiftV_VR hS hF d p v' n1 h1) (shiftL_LR hS hF d ps r' n2 h2)
end
end

abbrev Slots := List (Nat × Value)
abbrev Blks := List (Nat × (TypeId × List Value))
structure LoopX where
  ex : Ex
  sl : Slots
  bl : Blks
  n : Nat
structure LoopD where
  hs : Slots
  hb : Blks
  k : Nat
  xs : List LoopX

def bindS (fr : Fr) : Slots → Option (List (Nat × Value))
  | [] => some []
  | (t, p) :: r => match matchV DEP p (fr.get t), bindS fr r with
    | some a, some b => some (a ++ b)
    | _, _ => none
def bindB (H : Hp AB) : Blks → Option (List (Nat × Value))
  | [] => some []
  | (b, (T, cs)) :: r => match Hp.get H b with
    | some (.cells vs T2 false) => bif Nat.beq T T2 then match matchL DEP cs vs, bindB H r with
      | some x, some y => some (x ++ y)
      | _, _ => none else none
    | _ => none
def seqI : Nat → List (Nat × Value) → Bool
  | _, [] => true
  | k, (i, _) :: r => Nat.beq i k && seqI (k + 1) r
def bindH (fr : Fr) (H : Hp AB) (sl : Slots) (bl : Blks) : Option (List Value) :=
  match bindS fr sl, bindB H bl with
  | some a, some b => bif seqI 0 (a ++ b) then some ((a ++ b).map (·.2)) else none
  | _, _ => none

def junkFr : Fr := all8 (all8 (all8 junk))
def frOf (nx : Nat) : Slots → Fr
  | [] => junkFr
  | (t, p) :: r => (frOf nx r).set t (shiftV nx DEP p)
def putB (nx : Nat) : Blks → Hp AB → Hp AB
  | [], H => H
  | (b, (T, cs)) :: r, H => (putB nx r H).set b (some (.cells (shiftL nx DEP cs) T false))
def pickX (xs : List LoopX) (pi : List Nat) : Option (Nat × (LoopX × List Nat)) :=
  match xs with
  | [X] => some (0, (X, pi))
  | xs => match pi with
    | d :: r => match xs[d]? with
      | some X => some (d, (X, r))
      | none => none
    | [] => none
def loopF (L : LoopD) (spec : Spec) (s : S) : Option (Ex × S) :=
  match s with
  | ⟨fr, ⟨H, n, W, hi, ⟨nx, pi, log⟩⟩⟩ => match bindH fr H L.hs L.hb, pickX L.xs pi with
    | some xs, some (d, (X, pi)) => forceN nx fun nx => forceL xs fun xs => forceN (nx + X.n) fun nx' =>
      some (X.ex, ⟨frOf nx X.sl, ⟨putB nx X.bl H, n, X.bl.map (·.1) ++ W, hi, ⟨nx', pi, .con spec xs nx d X.n :: log⟩⟩⟩)
    | _, _ => none

/-! ### the frame and the heap of a pattern -/
def lookS : Slots → Nat → Option Value
  | [], _ => none
  | (k, v) :: r, t => if k = t then some v else lookS r t
theorem junkFr_get (t : Nat) : junkFr.get t = junk := by
  unfold Fr.get junkFr
  have h : ∀ (d : Nat) {α : Type} (v : α), d < 8 → (sel d).get (all8 v) = v := fun d α v hd => by
    match d, hd with
    | 0, _ | 1, _ | 2, _ | 3, _ | 4, _ | 5, _ | 6, _ | 7, _ => rfl
  rw [h _ _ (m8 _), h _ _ (m8 _), h _ _ (m8 _)]
theorem frOf_get {nx : Nat} : ∀ {sl : Slots}, (∀ x ∈ sl, x.1 < 512) → ∀ t, t < 512 → (frOf nx sl).get t = match lookS sl t with
    | some p => shiftV nx DEP p
    | none => junk
  | [], _, t, _ => junkFr_get t
  | (k, p) :: r, h, t, ht => by
    rw [frOf, fr_get_set _ _ _ _ (h (k, p) List.mem_cons_self) ht, frOf_get (fun x hx => h x (List.mem_cons_of_mem _ hx)) t ht]
    by_cases e : t = k
    · subst e; simp [lookS]
    · rw [if_neg e, lookS, if_neg (fun h => e h.symm)]
def lookB : Blks → Nat → Option (TypeId × List Value)
  | [], _ => none
  | (k, v) :: r, t => if k = t then some v else lookB r t
theorem putB_get {nx : Nat} {H : Hp AB} : ∀ {bl : Blks}, (∀ x ∈ bl, x.1 ≤ most) → ∀ b, b ≤ most → Hp.get (putB nx bl H) b = match lookB bl b with
    | some (T, cs) => some (.cells (shiftL nx DEP cs) T false)
    | none => Hp.get H b
  | [], _, b, _ => rfl
  | (k, (T, cs)) :: r, h, b, hb => by
    rw [putB, hp_get_set _ _ _ _ (h (k, (T, cs)) List.mem_cons_self) hb, putB_get (fun x hx => h x (List.mem_cons_of_mem _ hx)) b hb]
    by_cases e : b = k
    · subst e; simp [lookB]
    · rw [if_neg e, lookB, if_neg (fun h => e h.symm)]
theorem lookS_mem : ∀ {sl : Slots} {t : Nat} {p : Value}, lookS sl t = some p → (t, p) ∈ sl
  | (k, v) :: r, t, p, h => by
    rw [lookS] at h
    split at h
    · rename_i e; subst e; cases h; exact .head _
    · exact .tail _ (lookS_mem h)
theorem lookB_mem : ∀ {bl : Blks} {t : Nat} {p : TypeId × List Value}, lookB bl t = some p → (t, p) ∈ bl
  | (k, v) :: r, t, p, h => by
    rw [lookB] at h
    split at h
    · rename_i e; subst e; cases h; exact .head _
    · exact .tail _ (lookB_mem h)
theorem lookB_none : ∀ {bl : Blks} {t : Nat}, lookB bl t = none → t ∉ bl.map (·.1)
  | [], _, _, h => by simp at h
  | (k, v) :: r, t, h, hm => by
    rw [lookB] at h
    split at h
    · cases h
    · rename_i e
      rcases List.mem_cons.1 hm with h1 | h1
      · exact e h1.symm
      · exact lookB_none h h1

theorem bindS_mem {fr : Fr} : ∀ {sl : Slots} {bs : List (Nat × Value)}, bindS fr sl = some bs → ∀ x ∈ sl, ∃ a, matchV DEP x.2 (fr.get x.1) = some a ∧ ∀ y ∈ a, y ∈ bs
  | [], _, _, x, hx => by cases hx
  | (t, p) :: r, bs, h, x, hx => by
    unfold bindS at h
    split at h
    · rename_i a b ha hb
      cases h
      rcases List.mem_cons.1 hx with rfl | hx
      · exact ⟨a, ha, fun y hy => List.mem_append.2 (.inl hy)⟩
      · obtain ⟨c, h1, h2⟩ := bindS_mem hb x hx
        exact ⟨c, h1, fun y hy => List.mem_append.2 (.inr (h2 y hy))⟩
    · cases h
theorem bindB_mem {H : Hp AB} : ∀ {bl : Blks} {bs : List (Nat × Value)}, bindB H bl = some bs → ∀ x ∈ bl, ∃ vs a, Hp.get H x.1 = some (.cells vs x.2.1 false) ∧ matchL DEP x.2.2 vs = some a ∧ ∀ y ∈ a, y ∈ bs
  | [], _, _, x, hx => by cases hx
  | (b, (T, cs)) :: r, bs, h, x, hx => by
    unfold bindB at h
    split at h
    · rename_i vs T2 hg
      cases hq : Nat.beq T T2 with
      | false => rw [hq] at h; cases h
      | true =>
        rw [hq] at h
        have := Nat.eq_of_beq_eq_true hq
        subst this
        simp only [cond_true] at h
        split at h
        · rename_i a b2 ha hb
          cases h
          rcases List.mem_cons.1 hx with rfl | hx
          · exact ⟨vs, a, hg, ha, fun y hy => List.mem_append.2 (.inl hy)⟩
          · obtain ⟨vs2, c, h1, h2, h3⟩ := bindB_mem hb x hx
            exact ⟨vs2, c, h1, h2, fun y hy => List.mem_append.2 (.inr (h3 y hy))⟩
        · cases h
    · cases h
theorem seqI_get : ∀ {bs : List (Nat × Value)} {k : Nat}, seqI k bs = true → ∀ x ∈ bs, ∃ j, bs[j]? = some x ∧ x.1 = k + j
  | [], _, _, x, hx => by cases hx
  | (i, v) :: r, k, h, x, hx => by
    obtain ⟨h1, h2⟩ := band (show (Nat.beq i k && seqI (k + 1) r) = true from h)
    rcases List.mem_cons.1 hx with rfl | hx
    · exact ⟨0, rfl, Nat.eq_of_beq_eq_true h1⟩
    · obtain ⟨j, g1, g2⟩ := seqI_get h2 x hx
      exact ⟨j + 1, by simpa using g1, by omega⟩
/-- What is bound, in order. -/
theorem bindH_eq {fr : Fr} {H : Hp AB} {sl : Slots} {bl : Blks} {xs : List Value} (h : bindH fr H sl bl = some xs) : ∃ bs : List (Nat × Value), (∀ x ∈ bs, xs[x.1]? = some x.2) ∧
    (∀ x ∈ sl, ∃ a, matchV DEP x.2 (fr.get x.1) = some a ∧ ∀ y ∈ a, y ∈ bs) ∧ ∀ x ∈ bl, ∃ vs a, Hp.get H x.1 = some (.cells vs x.2.1 false) ∧ matchL DEP x.2.2 vs = some a ∧ ∀ y ∈ a, y ∈ bs := by
  unfold bindH at h
  split at h
  · rename_i a b ha hb
    cases hq : seqI 0 (a ++ b) with
    | false => rw [hq] at h; cases h
    | true =>
      rw [hq] at h
      cases h
      refine ⟨a ++ b, fun x hx => ?_, fun x hx => ?_, fun x hx => ?_⟩
      · obtain ⟨j, h1, h2⟩ := seqI_get hq x hx
        rw [Nat.zero_add] at h2
        rw [List.getElem?_map, h2, h1]; rfl
      · obtain ⟨c, h1, h2⟩ := bindS_mem ha x hx
        exact ⟨c, h1, fun y hy => List.mem_append.2 (.inl (h2 y hy))⟩
      · obtain ⟨vs, c, h1, h2, h3⟩ := bindB_mem hb x hx
        exact ⟨vs, c, h1, h2, fun y hy => List.mem_append.2 (.inr (h3 y hy))⟩
  · cases h
end Go.Sx
