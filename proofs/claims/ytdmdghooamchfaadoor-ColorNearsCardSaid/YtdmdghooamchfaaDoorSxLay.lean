/- The cells of a variable that is laid, out of its datum. -/
import Derived.Test.YtdmdghooamchfaaDoorSxTree
import Derived.OpenShut
import Derived.ProofKit
namespace Go.Sx
set_option linter.all false
open Go
set_option linter.unusedVariables false
set_option linter.unusedSimpArgs false

theorem condS {α : Type} {c : Bool} {x : Option α} {a : α} (h : (bif c then x else none) = some a) : c = true ∧ x = some a := by
  cases c
  · cases h
  · exact ⟨rfl, h⟩
def layA (f : DataW Unit → Option (List Value)) (c : Nat) : List (DataW Unit) → Option (List Value)
  | [] => some []
  | d :: r => match f d, layA f c r with
    | some a, some b => bif Nat.beq a.length c then some (a ++ b) else none
    | _, _ => none
def layS (P : Program) (f : TypeId → DataW Unit → Option (List Value)) : Nat → List Field → List (DataW Unit) → Option (List Value)
  | _, [], [] => some []
  | off, F :: fs, d :: r => match f F.type d, layS P f (off + P.cellsOf F.type) fs r with
    | some a, some b => bif Nat.beq F.offset off && Nat.beq a.length (P.cellsOf F.type) then some (a ++ b) else none
    | _, _ => none
  | _, _, _ => none
def layV (P : Program) : Nat → TypeId → DataW Unit → Option (List Value)
  | 0, _, _ => none
  | k + 1, t, d => match P.underlying t, d with
    | some .bool, .lit (.bool b) => some [.bool b]
    | some (.int _), .lit (.int j n) => some [.int j n]
    | some .string, .lit (.string l) => some [.string ⟨⟨l⟩⟩]
    | some (.array n e), .agg ds => bif Nat.beq (P.cellsOf t) (n * P.cellsOf e) && Nat.beq ds.length n then layA (layV P k e) (P.cellsOf e) ds else none
    | some (.struct fs), .agg ds => match layS P (layV P k) 0 fs.toList ds with
      | some L => bif Nat.beq L.length (P.cellsOf t) then some L else none
      | none => none
    | _, _ => none

theorem layA_eq {f : DataW Unit → Option (List Value)} {c : Nat} : ∀ {ds : List (DataW Unit)} {L cs : List Value}, layA f c ds = some L → cs.length = ds.length * c →
    (∀ (i : Nat) (d : DataW Unit), ds[i]? = some d → ∀ a, f d = some a → (cs.drop (i * c)).take c = a) → cs = L
  | [], L, cs, h, hl, hp => by cases h; exact List.eq_nil_of_length_eq_zero (by simpa using hl)
  | d :: r, L, cs, h, hl, hp => by
    unfold layA at h
    split at h
    · rename_i a b ha hb
      obtain ⟨h1, h2⟩ := condS h
      cases h2
      have e1 := hp 0 d rfl a ha
      simp only [Nat.zero_mul, List.drop_zero] at e1
      have hl2 : cs.length = r.length * c + c := by rw [hl, List.length_cons, Nat.add_mul, Nat.one_mul]
      have e2 : cs.drop c = b := layA_eq hb (by rw [List.length_drop]; omega) fun i d' hd a' ha' => by
        have := hp (i + 1) d' hd a' ha'
        rw [List.drop_drop]
        rwa [show c + i * c = (i + 1) * c by rw [Nat.add_mul, Nat.one_mul, Nat.add_comm]]
      rw [← e1, ← e2, List.take_append_drop]
    · cases h
theorem layS_eq {P : Program} {f : TypeId → DataW Unit → Option (List Value)} : ∀ {fs : List Field} {ds : List (DataW Unit)} {off : Nat} {L cs : List Value}, layS P f off fs ds = some L → cs.length = L.length →
    (∀ (i : Nat) (F : Field) (d : DataW Unit), fs[i]? = some F → ds[i]? = some d → ∀ a, f F.type d = some a → (cs.drop (F.offset - off)).take (P.cellsOf F.type) = a) → cs = L ∧ ∀ F ∈ fs, off ≤ F.offset
  | [], [], off, L, cs, h, hl, hp => by cases h; exact ⟨List.eq_nil_of_length_eq_zero (by simpa using hl), fun F hF => by cases hF⟩
  | F :: fs, d :: r, off, L, cs, h, hl, hp => by
    unfold layS at h
    split at h
    · rename_i a b ha hb
      obtain ⟨h1, h2⟩ := condS h
      cases h2
      obtain ⟨h3, h4⟩ := band h1
      have h3 := Nat.eq_of_beq_eq_true h3
      have h4 := Nat.eq_of_beq_eq_true h4
      have e1 := hp 0 F d rfl rfl a ha
      rw [h3, Nat.sub_self, List.drop_zero] at e1
      have hl2 : cs.length = P.cellsOf F.type + b.length := by rw [hl, List.length_append, h4]
      have hoffs : ∀ F' ∈ fs, off + P.cellsOf F.type ≤ F'.offset := (layS_off hb)
      have e2 := layS_eq (cs := cs.drop (P.cellsOf F.type)) hb (by rw [List.length_drop]; omega) fun i F' d' hF hd a' ha' => by
        have := hp (i + 1) F' d' hF hd a' ha'
        rw [List.drop_drop]
        have hm := hoffs F' (List.mem_of_getElem? hF)
        rwa [show P.cellsOf F.type + (F'.offset - (off + P.cellsOf F.type)) = F'.offset - off by omega]
      refine ⟨by rw [← e1, ← e2.1, List.take_append_drop], fun F' hF' => ?_⟩
      rcases List.mem_cons.1 hF' with rfl | hF'
      · omega
      · have := hoffs F' hF'; omega
    · cases h
  | [], _ :: _, _, _, _, h, _, _ => by cases h
  | _ :: _, [], _, _, _, h, _, _ => by cases h
where
  layS_off {P : Program} {f : TypeId → DataW Unit → Option (List Value)} : ∀ {fs : List Field} {ds : List (DataW Unit)} {off : Nat} {L : List Value}, layS P f off fs ds = some L → ∀ F ∈ fs, off ≤ F.offset
  | [], _, _, _, _, F, hF => by cases hF
  | F :: fs, d :: r, off, L, h, F', hF => by
    unfold layS at h
    split at h
    · rename_i a b ha hb
      obtain ⟨h1, h2⟩ := condS h
      obtain ⟨h3, h4⟩ := band h1
      have h3 := Nat.eq_of_beq_eq_true h3
      rcases List.mem_cons.1 hF with rfl | hF
      · omega
      · have := layS_off hb F' hF; omega
    · cases h
  | _ :: _, [], _, _, h, _, _ => by cases h

theorem layV_eq {P : Program} {w : World} {enc : TypeId × Value → Unit} {base : Nat} {sp : Nat → Bool} {held : Bool} : ∀ {k fuel : Nat} {t : TypeId} {d : DataW Unit} {cs L : List Value} {p : List MemPlace},
    layV P k t d = some L → DataW.trod enc P w base sp held fuel t cs = some (d, p) → cs = L
  | 0, _, _, _, _, _, _, h, _ => by cases h
  | k + 1, fuel, t, d, cs, L, p, h, ht => by
    unfold layV at h
    split at h
    · rename_i b hu
      cases h
      obtain ⟨b', rfl, hx⟩ := DataW.trod_bool hu ht
      cases hx; rfl
    · rename_i j' j n hu
      cases h
      obtain ⟨n', rfl, hx, _⟩ := DataW.trod_int hu ht
      cases hx; rfl
    · rename_i l hu
      cases h
      obtain ⟨s, rfl, hx, _⟩ := DataW.trod_string hu ht
      cases hx; rfl
    · rename_i n e ds hu
      obtain ⟨h1, h2⟩ := condS h
      obtain ⟨h3, h4⟩ := band h1
      have h3 := Nat.eq_of_beq_eq_true h3
      have h4 := Nat.eq_of_beq_eq_true h4
      obtain ⟨xs, m, _, hx, hl, hn, hel⟩ := DataW.trod_array hu ht
      have hds : ds = xs.map (·.1) := by cases hx; rfl
      refine layA_eq h2 (by rw [hl, h3, h4]) fun i d' hd a ha => ?_
      have hi : i < n := by have := (List.getElem?_eq_some_iff.1 hd).1; omega
      have he := hel i hi
      rw [hds, List.getElem?_map] at hd
      obtain ⟨x, hx1, rfl⟩ := Option.map_eq_some_iff.1 hd
      rw [hx1] at he
      exact layV_eq ha he
    · rename_i fs ds hu
      split at h
      · rename_i L' hL
        obtain ⟨h1, h2⟩ := condS h
        cases h2
        have h1 := Nat.eq_of_beq_eq_true h1
        obtain ⟨xs, m, _, hx, hl, hn, hel⟩ := DataW.trod_struct hu ht
        have hds : ds = xs.map (·.1) := by cases hx; rfl
        refine (layS_eq hL (by rw [hl, h1]) fun i F d' hF hd a ha => ?_).1
        have he := hel i F (by simpa using hF)
        rw [hds, List.getElem?_map] at hd
        obtain ⟨x, hx1, rfl⟩ := Option.map_eq_some_iff.1 hd
        rw [hx1] at he
        rw [Nat.sub_zero]
        exact layV_eq ha he
      · cases h
    · cases h
end Go.Sx
