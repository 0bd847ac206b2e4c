/- The operations, part 5: new blocks, lengths, conversions. -/
import Derived.Test.YtdmdghooamchfaaDoorSxOp4
namespace Go.Sx
set_option linter.all false
open Go
set_option linter.unusedVariables false
set_option linter.unusedSimpArgs false
variable [Ora]

section
variable {P : Program} {base : Nat} {ρ : Ren} {m m' : Mem} {w : World}

/-- A block of cells that is new, as the world after a draw or without. -/
theorem new_cells {cs cs' : List Value} {C : Array Value} {e : TypeId} {v : Value} {k : Nat → Value} {cap : Nat} {fz : Nat × Nat} {wd : World} (h : HR P base ρ m.H w) (hb : base ≤ w.heap.size) (hn : newM m (.cells cs e false) k = some (v, m')) (hf : Free ρ m.n m'.hi)
    (hc : LR ρ cs cs') (hC : ∀ (i : Nat) (v : Value), cs'[i]? = some v → C[i]? = some v) (hfz : ∀ i, i < C.size → ¬ (fz.1 ≤ i ∧ i < fz.2)) (hcap : ∀ inf, P.info? e = some inf → cap * inf.size ≤ C.size)
    (hd : wd.os = w.os ∧ wd.tape = w.tape ∧ wd.output = w.output) (hh : wd.heap = w.heap) :
    v = k m.n ∧ upd ρ m.n ⟨w.heap.size, 0, cap⟩ m.n = some ⟨w.heap.size, 0, cap⟩ ∧ St P base ρ (upd ρ m.n ⟨w.heap.size, 0, cap⟩) m m' w { wd with heap := wd.heap.push (.cells C e fz) } := by
  have hfree : ρ m.n = none := by
    obtain ⟨_, _, rfl⟩ := newM_eq hn
    exact hf m.n (Nat.le_refl _) (upN_le _ _).2
  refine St.alloc (o := .cells C e fz) h hb hn hf hd (by simp [hh]) rfl ⟨C, fz, e, by simp [hh], fun i u hi => ?_, fun _ => ⟨rfl, hfz, fun inf hi => by have := hcap inf hi; simpa using this⟩⟩
  obtain ⟨u', h1, h2⟩ := hc.get hi
  exact ⟨u', by rw [Nat.zero_add]; exact hC i u' h1, h2.mono (upd_ext hfree)⟩

theorem new_simple {cs cs' : List Value} {e : TypeId} {v : Value} {k : Nat → Value} (h : HR P base ρ m.H w) (hb : base ≤ w.heap.size) (hn : newM m (.cells cs e false) k = some (v, m')) (hf : Free ρ m.n m'.hi) (hc : LR ρ cs cs') :
    v = k m.n ∧ upd ρ m.n ⟨w.heap.size, 0, 0⟩ m.n = some ⟨w.heap.size, 0, 0⟩ ∧ St P base ρ (upd ρ m.n ⟨w.heap.size, 0, 0⟩) m m' w { w with heap := w.heap.push (.cells ⟨cs'⟩ e (0, 0)) } :=
  new_cells (wd := w) h hb hn hf hc (fun i v hi => by simpa using hi) (fun i _ hh => by have h1 : 0 ≤ i := hh.1; have h2 : i < 0 := hh.2; omega) (fun inf _ => by simp) ⟨rfl, rfl, rfl⟩ rfl

theorem oAlloc_ok {e : TypeId} {v : Value} (h : HR P base ρ m.H w) (hb : base ≤ w.heap.size) (ho : oAlloc P m e = some (v, m')) (hf : Free ρ m.n m'.hi) : VOk P base ρ m w (Instr.alloc e true (.tuple #[])) v m' := by
  unfold oAlloc at ho
  split at ho
  · rename_i z hz
    obtain ⟨h1, h2, h3⟩ := new_simple h hb ho hf (zero_LR hz)
    refine ⟨.pointer (some ⟨w.heap.size, 0, none⟩), _, _, ?_, ?_, h3⟩
    · simp [Instr.alloc, newVar, newRow, Sem.run_bind, run_zero hz, Result.andThen, newObj, Sem.run]
    · rw [h1]; exact .ptr h2
  · cases ho
theorem oBox_ok {e : TypeId} {x x' v : Value} (h : HR P base ρ m.H w) (hb : base ≤ w.heap.size) (ho : oBox m e x = some (v, m')) (hf : Free ρ m.n m'.hi) (hx : VR ρ x x') : VOk P base ρ m w (Instr.box e x') v m' := by
  unfold oBox at ho
  obtain ⟨hfl, ho⟩ := cond_some ho
  obtain ⟨h1, h2, h3⟩ := new_simple h hb ho hf (hx.cells (by
    cases hq : isWide x with
    | false => rfl
    | true =>
      unfold isWide at hq
      split at hq
      · exfalso
        simp only [Value.cells] at hfl
        simp [flat] at hfl
        simp [hfl] at hq
      · cases hq))
  refine ⟨.pointer (some ⟨w.heap.size, 0, none⟩), _, _, ?_, ?_, h3⟩
  · simp [Instr.box, newVar, newRow, Sem.run_bind, Result.andThen, newObj, Sem.run]
  · rw [h1]; exact .ptr h2

theorem repL_eq (z : List Value) : ∀ n : Nat, repL z n = (List.replicate n z).flatten
  | 0 => rfl
  | n + 1 => by simp [repL, repL_eq z n, List.replicate_succ]
theorem repL_get (z : List Value) (hz : z ≠ []) : ∀ (n i : Nat), (repL z n)[i]? = if i < n * z.length then z[i % z.length]? else none
  | 0, i => by simp [repL]
  | n + 1, i => by
    have hpos : 0 < z.length := List.length_pos_iff.2 hz
    rw [repL]
    by_cases h : i < z.length
    · rw [List.getElem?_append_left h, if_pos (by rw [Nat.succ_mul]; omega), Nat.mod_eq_of_lt h]
    · rw [List.getElem?_append_right (by omega), repL_get z hz n, Nat.succ_mul]
      have e : (i - z.length) % z.length = i % z.length := by rw [← Nat.mod_eq_sub_mod (by omega)]
      by_cases h2 : i - z.length < n * z.length
      · rw [if_pos h2, if_pos (by omega), e]
      · rw [if_neg h2, if_neg (by omega)]
theorem zeros_arr {z : Array Value} {n s : Nat} (hz : z.size = s) (hs : n * s ≠ 0) : (Array.range (n * s)).map (z[· % z.size]!) = ⟨repL z.toList n⟩ := by
  have hne : z.toList ≠ [] := by
    intro e
    have : z.size = 0 := by simpa using congrArg List.length e
    rw [hz] at this; subst this; simp at hs
  apply Array.ext'
  apply List.ext_getElem?
  intro i
  rw [repL_get _ hne]
  simp only [Array.toList_map, Array.toList_range, List.getElem?_map]
  have hl : z.toList.length = s := by simpa using hz
  rw [hl]
  by_cases h : i < n * s
  · rw [if_pos h, List.getElem?_range h]
    have hpos : 0 < s := by
      rcases Nat.eq_zero_or_pos s with h0 | h0
      · subst h0; simp at hs
      · exact h0
    have hm : i % s < z.size := by rw [hz]; exact Nat.mod_lt _ hpos
    simp [hz, getElem!_pos z (i % s) hm, List.getElem?_eq_getElem (show i % s < z.toList.length by simpa using hm)]
  · rw [if_neg h]; simp; omega
theorem zerosM_ok {e : TypeId} {n s : Nat} {zs : List Value} (hs : sizeM P e = some s) (h : zerosM P e n = some zs) :
    ((n * s = 0 ∧ zs = []) ∨ (n * s ≠ 0 ∧ ∃ z : Value, (∀ w, (zeroValue e).run P w = .ok z w) ∧ (Array.range (n * s)).map (z.cells[· % z.cells.size]!) = ⟨zs⟩)) ∧ LR ρ zs zs := by
  unfold zerosM at h
  rw [hs] at h
  simp only at h
  cases hq : Nat.beq (n * s) 0 with
  | true =>
    rw [hq] at h; simp only [cond_true, Option.some.injEq] at h
    subst h
    exact ⟨.inl ⟨Nat.eq_of_beq_eq_true hq, rfl⟩, .nil⟩
  | false =>
    rw [hq] at h; simp only [cond_false] at h
    have hq' : n * s ≠ 0 := fun e => by rw [e] at hq; cases hq
    split at h
    · rename_i z hz
      obtain ⟨h1, h2⟩ := cond_some h
      cases h2
      have h1 := Nat.eq_of_beq_eq_true h1
      refine ⟨.inr ⟨hq', z, fun w => run_zero hz w, zeros_arr h1 hq'⟩, ?_⟩
      have hall : ∀ l : List Value, LR ρ l l → ∀ n, LR ρ (repL l n) (repL l n) := fun l hl n => by
        induction n with
        | zero => exact .nil
        | succ n ih => exact hl.append ih
      exact hall _ (zero_LR hz) n
    · cases h

theorem buildSliceM_ok {t : TypeId} {n : Nat} {parts parts' : List (Nat × Value)} {v : Value} (h : HR P base ρ m.H w) (hb : base ≤ w.heap.size) (ho : buildSliceM P m t n parts = some (v, m')) (hf : Free ρ m.n m'.hi) (hp : PR ρ parts parts') :
    VOk P base ρ m w (Instr.buildSlice t n ⟨parts'⟩) v m' := by
  unfold buildSliceM at ho
  split at ho
  · rename_i e hu
    split at ho
    · rename_i s zs hs hz
      obtain ⟨h1, ho⟩ := cond_some ho
      obtain ⟨h1, h1o⟩ := boolAnd h1
      have h1 := Nat.le_of_ble_eq_true h1
      have h1o : n < OPEN := Nat.le_of_ble_eq_true h1o
      split at ho
      · rename_i cs hcs
        obtain ⟨hzz, hzl⟩ := zerosM_ok (ρ := ρ) hs hz
        obtain ⟨r', h2, h3⟩ := fillM_ok hcs hp hzl
        obtain ⟨g1, g2, g3⟩ := new_simple h hb ho hf h3
        refine ⟨.slice (some ⟨w.heap.size, 0, none⟩) n n, _, _, ?_, ?_, g3⟩
        · unfold Instr.buildSlice
          simp only [Sem.run_bind, run_und hu, run_size hs, Result.andThen]
          rw [if_neg (by omega)]
          have h2' : Instr.fill (fun i => some (i * s, s)) ⟨zs⟩ parts' = some ⟨r'⟩ := h2
          rcases hzz with ⟨hq, rfl⟩ | ⟨hq, z, hzr, hza⟩
          · have e0 : ∀ z : Array Value, Array.map (fun x => z[x % z.size]!) (Array.range (n * s)) = ⟨[]⟩ := fun z => by rw [hq]; apply Array.ext'; simp
            simp only [if_pos hq, e0, h2']
            rfl
          · simp only [if_neg hq, Sem.run_bind, Sem.run_pure, Result.andThen, hzr, hza, h2']
            rfl
        · rw [g1]; exact .sl g2 h1o
      · cases ho
    · cases ho
  · cases ho

theorem makeSliceM_ok {t : TypeId} {l c l' c' v : Value} (h : HR P base ρ m.H w) (hb : base ≤ w.heap.size) (ho : makeSliceM P m t l c = some (v, m')) (hf : Free ρ m.n m'.hi) (hl : VR ρ l l') (hc : VR ρ c c') :
    VOk P base ρ m w (Instr.makeSlice t l' c') v m' := by
  unfold makeSliceM at ho
  split at ho
  · rename_i e j1 l j2 c hu
    cases inv_int hl; cases inv_int hc
    split at ho
    · rename_i i hi
      obtain ⟨h1, ho⟩ := cond_some ho
      obtain ⟨h1, h3⟩ := boolAnd h1
      obtain ⟨h1, h2⟩ := boolAnd h1
      have h1 := Nat.le_of_ble_eq_true h1
      have h2 := Nat.le_of_ble_eq_true h2
      have h3 := Nat.le_of_ble_eq_true h3
      split at ho
      · rename_i zs hz
        rw [forceL_eq] at ho
        have hs : sizeM P e = some i.size := by simp [sizeM, hi]
        obtain ⟨hzz, hzl⟩ := zerosM_ok (ρ := ρ) hs hz
        obtain ⟨g1, g2, g3⟩ := new_simple h hb ho hf hzl
        refine ⟨.slice (some ⟨w.heap.size, 0, none⟩) l c, _, _, ?_, ?_, g3⟩
        · have wl : IntKind.i64.wrap (Int.ofNat l) = Int.ofNat l := wrap_nat .i64 l (by simp only [topN]; omega)
          have wc : IntKind.i64.wrap (Int.ofNat c) = Int.ofNat c := wrap_nat .i64 c (by simp only [topN]; omega)
          have hroom : (askRoom (c * i.bytes)).run P w = .ok () w := by
            unfold askRoom roomBytes; rw [if_neg (by omega)]; rfl
          have hcb : ((i.bytes : Int) * (c : Int)) = ((c * i.bytes : Nat) : Int) := by rw [Nat.mul_comm]; simp
          have hlb : ((i.bytes : Int) * (l : Int)) ≤ ((c * i.bytes : Nat) : Int) := by
            have : i.bytes * l ≤ c * i.bytes := by rw [Nat.mul_comm]; exact Nat.mul_le_mul_right _ h1
            exact_mod_cast this
          unfold Instr.makeSlice
          simp only [Sem.run_bind, run_und hu, asInt, asIntOf, Result.andThen, Sem.run_pure, run_typeInfo' hi, wl, wc]
          rw [if_neg]
          · have hc2 : (Int.ofNat c).toNat = c := by simp
            have hl2 : (Int.ofNat l).toNat = l := by simp
            simp only [Sem.run_bind, Sem.run_pure, Result.andThen, hc2, hl2, hroom, run_size hs]
            rcases hzz with ⟨hq, rfl⟩ | ⟨hq, z, hzr, hza⟩
            · have e0 : ∀ z : Array Value, Array.map (fun x => z[x % z.size]!) (Array.range (c * i.size)) = ⟨[]⟩ := fun z => by rw [hq]; apply Array.ext'; simp
              simp only [if_pos hq, e0]
              rfl
            · simp only [if_neg hq, Sem.run_bind, Sem.run_pure, Result.andThen, hzr, hza]
              rfl
          · have e1 : Int.ofNat c = (c : Int) := rfl
            have e2 : Int.ofNat l = (l : Int) := rfl
            simp only [e1, e2, hcb]
            simp
            omega
        · rw [g1]; exact .sl g2 (by unfold OPEN; omega)
      · cases ho
    · cases ho
  · cases ho
end
end Go.Sx
