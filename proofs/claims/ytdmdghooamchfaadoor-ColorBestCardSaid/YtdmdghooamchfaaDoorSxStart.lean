/- The start: the listed variables' cells, and that the machine's first heap stands in the world. -/
import Derived.Test.YtdmdghooamchfaaDoorSxLay
namespace Go.Sx
set_option linter.all false
open Go
set_option linter.unusedVariables false
set_option linter.unusedSimpArgs false

theorem laid_mem {P : Program} {w : World} : ∀ {laid : List (String × DataW Unit)} {ps : List MemPlace}, DataW.LaidVars P w laid ps → ∀ n d, (n, d) ∈ laid →
    ∃ g t cs fuel p, P.globalNamed n = some g ∧ (P.globals[g]?).map (·.type) = some t ∧ w.var? P n = some cs ∧ DataW.trod (fun _ => ()) P w 0 (fun _ => true) false fuel t cs.toList = some (d, p) ∧ ∀ x ∈ MemPlace.row ⟨g, 0, none⟩ cs.size, x ∈ ps
  | [], ps, h, n, d, hm => by cases hm
  | (n0, d0) :: r, ps, ⟨g, t, cs, fuel, p, q, h1, h2, h3, h4, h5, h6⟩, n, d, hm => by
    rcases List.mem_cons.1 hm with e | hm
    · cases e
      exact ⟨g, t, cs, fuel, p, h1, h2, h3, h4, fun x hx => by rw [h6]; exact List.mem_append_left _ (List.mem_append_left _ hx)⟩
    · obtain ⟨g', t', cs', fuel', p', a, b, c, e, f⟩ := laid_mem h5 n d hm
      exact ⟨g', t', cs', fuel', p', a, b, c, e, fun x hx => by rw [h6]; exact List.mem_append_right _ (f x hx)⟩
theorem var_heap {P : Program} {w : World} {n : String} {g : Nat} {cs : Array Value} (hg : P.globalNamed n = some g) (h : w.var? P n = some cs) : ∃ T fz, w.heap[g]? = some (.cells cs T fz) := by
  unfold World.var? at h
  rw [hg] at h
  simp only [Option.bind_some] at h
  split at h
  · rename_i c T fz hc; cases h; exact ⟨_, _, hc⟩
  · cases h
/-- A listed variable of plain data. -/
theorem laid_row {P : Program} {w : World} {laid : List (String × DataW Unit)} {n : String} {d : DataW Unit} {g k : Nat} {t : TypeId} {L : List Value} (h : laidMet P laid w) (hm : (n, d) ∈ laid)
    (hg : P.globalNamed n = some g) (ht : (P.globals[g]?).map (·.type) = some t) (hl : layV P k t d = some L) : ∃ C T fz, w.heap[g]? = some (.cells C T fz) ∧ C.toList = L := by
  obtain ⟨ps, h1, _⟩ := h
  obtain ⟨g', t', cs, fuel, p, a, b, c, e, _⟩ := laid_mem h1 n d hm
  cases hg.symm.trans a
  cases ht.symm.trans b
  obtain ⟨T, fz, hc⟩ := var_heap hg c
  exact ⟨cs, T, fz, hc, layV_eq hl e⟩
/-- A listed variable of an interface's type: one cell. -/
theorem laid_iface {P : Program} {w : World} {laid : List (String × DataW Unit)} {n : String} {d : DataW Unit} {g : Nat} {t : TypeId} (h : laidMet P laid w) (hm : (n, d) ∈ laid)
    (hg : P.globalNamed n = some g) (ht : (P.globals[g]?).map (·.type) = some t) (hi0 : (match P.underlying t with | some (.interface _) => true | _ => false) = true) : ∃ C T fz v, w.heap[g]? = some (.cells C T fz) ∧ C.toList = [v] ∧ flatR v = true := by
  obtain ⟨ps, h1, _⟩ := h
  obtain ⟨g', t', cs, fuel, p, a, b, c, e, _⟩ := laid_mem h1 n d hm
  cases hg.symm.trans a
  cases ht.symm.trans b
  obtain ⟨T, fz, hC⟩ := var_heap hg c
  have hi : ∃ ms, P.underlying t = some (.interface ms) := by
    split at hi0
    · rename_i ms hms; exact ⟨ms, hms⟩
    · cases hi0
  obtain ⟨ms, hi⟩ := hi
  cases fuel with
  | zero => simp [DataW.trod] at e
  | succ fuel =>
    unfold DataW.trod at e
    rw [hi] at e
    split at e
    all_goals first
      | (simp_all; done)
      | exact ⟨cs, T, fz, _, hC, by assumption, rfl⟩
      | (rename_i hh; exact ⟨cs, T, fz, _, hC, hh, rfl⟩)

theorem mkH_get : ∀ {rows : List (Nat × List Value)} {id : Nat} {ab : AB}, (∀ r ∈ rows, r.1 ≤ most) → id ≤ most → Hp.get (mkH rows) id = some ab → ∃ cs, (id, cs) ∈ rows ∧ ab = .cells cs 0 true
  | [], id, ab, _, _, h => by rw [mkH, hp_get0] at h; cases h
  | (b, cs) :: r, id, ab, hr, hid, h => by
    rw [mkH, hp_get_set _ _ _ _ (hr _ List.mem_cons_self) hid] at h
    split at h
    · rename_i e; subst e; cases h; exact ⟨cs, .head _, rfl⟩
    · obtain ⟨cs', h1, h2⟩ := mkH_get (fun x hx => hr x (List.mem_cons_of_mem _ hx)) hid h
      exact ⟨cs', .tail _ h1, h2⟩
/-- A row stands in the world. -/
def RowAt (W : World) (g : Nat) (cs : List Value) : Prop := ∃ C T fz, W.heap[g]? = some (.cells C T fz) ∧ C.toList.length = cs.length ∧ ∀ (i : Nat) (v v' : Value), cs[i]? = some v → C.toList[i]? = some v' → (v = v' ∧ pureV v = true) ∨ (v = one ∧ flatR v' = true)
theorem rowAt_data {W : World} {g : Nat} {L : List Value} (hp : L.all pureV = true) (h : ∃ C T fz, W.heap[g]? = some (.cells C T fz) ∧ C.toList = L) : RowAt W g L := by
  obtain ⟨C, T, fz, h1, h2⟩ := h
  refine ⟨C, T, fz, h1, by rw [h2], fun i v v' g1 g2 => .inl ?_⟩
  rw [h2] at g2
  cases g1.symm.trans g2
  exact ⟨rfl, List.all_eq_true.1 hp v (List.mem_of_getElem? g1)⟩
theorem rowAt_one {W : World} {g : Nat} (h : ∃ C T fz v, W.heap[g]? = some (.cells C T fz) ∧ C.toList = [v] ∧ flatR v = true) : RowAt W g [one] := by
  obtain ⟨C, T, fz, v, h1, h2, h3⟩ := h
  refine ⟨C, T, fz, h1, by rw [h2]; rfl, fun i u v' g1 g2 => .inr ?_⟩
  rw [h2] at g2
  cases i with
  | zero => simp at g1 g2; subst g1; subst g2; exact ⟨rfl, h3⟩
  | succ i => simp at g1
/-- The start, where only the listed variables are known. -/
theorem start_of {P : Program} {gl : Nat} {rows : List (Nat × List Value)} {W : World} (hs : gl ≤ W.heap.size) (hgl : gl ≤ most) (hb : ∀ r ∈ rows, r.1 < gl) (hr : ∀ r ∈ rows, RowAt W r.1 r.2) : StartOk P (fun k => W.heap[k]?) gl (mkH rows) gl := by
  intro w hG
  have hw : ∀ k, k < W.heap.size → w.heap[k]? = W.heap[k]? := fun k hk => by
    rw [Array.getElem?_eq_getElem hk]
    exact hG k _ (Array.getElem?_eq_getElem hk)
  have hsz : W.heap.size ≤ w.heap.size := by
    rcases Nat.lt_or_ge w.heap.size W.heap.size with h | h
    · have := hw w.heap.size h
      rw [Array.getElem?_eq_none (Nat.le_refl _), Array.getElem?_eq_getElem h] at this
      cases this
    · exact h
  refine ⟨fun b => if b < gl then some ⟨b, 0, 0⟩ else none, ⟨fun E base => @HR.mk ⟨E, _⟩ _ _ _ _ _ (fun b l hb => ?_) (fun id hid ab hab => ?_), fun g hg => by simp [hg], fun b hb => by simp; omega, fun b l hl => ?_, fun id ab hid hab => ?_, Nat.le_refl _⟩⟩ --, fun id hid ab hab => ?_⟩, fun g hg => by simp [hg], fun b hb => by simp; omega, fun b l hl => ?_, fun id ab hid hab => ?_, Nat.le_refl _⟩⟩
  · have hb : (if b < gl then some (⟨b, 0, 0⟩ : Loc) else none) = some l := hb
    split at hb
    · cases hb; exact ⟨by omega, by show b < _; omega⟩
    · cases hb
  · obtain ⟨cs, h1, rfl⟩ := mkH_get (fun r hr' => by have := hb r hr'; omega) hid hab
    have hlt := hb _ h1
    obtain ⟨C, T, fz, g1, g2, g3⟩ := hr _ h1
    refine ⟨⟨id, 0, 0⟩, by simp; exact hlt, ⟨C, fz, T, ?_, fun i v hi => ?_, fun h => by cases h⟩, fun h => by simp [AB.rw] at h⟩
    · show w.heap[id]? = _
      rw [hw id (by have := hb _ h1; simp only at this; omega)]; exact g1
    · have hlen := (List.getElem?_eq_some_iff.1 hi).1
      have hc : C.toList[i]? = some C.toList[i] := List.getElem?_eq_getElem (by rw [g2]; exact hlen)
      refine ⟨_, by show C[0 + i]? = _; rw [Nat.zero_add, ← Array.getElem?_toList]; exact hc, ?_⟩
      rcases g3 i v _ hi hc with ⟨e1, e2⟩ | ⟨e1, e2⟩
      · rw [← e1]; exact @VR.pure ⟨E, _⟩ _ _ e2
      · rw [e1]; exact @VR.junk ⟨E, _⟩ _ _ _ _ (fun _ => e2)
  · have hl : (if b < gl then some (⟨b, 0, 0⟩ : Loc) else none) = some l := hl
    split at hl
    · cases hl; exact ⟨_, Array.getElem?_eq_getElem (by show b < _; omega)⟩
    · cases hl
  · obtain ⟨cs, h1, rfl⟩ := mkH_get (fun r hr' => by have := hb r hr'; omega) hid hab
    rfl
end Go.Sx
