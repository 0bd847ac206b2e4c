/- The memory's own moves: reading, writing, making. -/
import Derived.Test.YtdmdghooamchfaaDoorSxRel
namespace Go.Sx
set_option linter.all false
open Go
set_option linter.unusedVariables false
set_option linter.unusedSimpArgs false
variable [Ora]

theorem boolAnd {a b : Bool} (h : (a && b) = true) : a = true ∧ b = true := by simpa using h
theorem cond_some {α : Type} {c : Bool} {x : Option α} {y : α} (h : (bif c then x else none) = some y) : c = true ∧ x = some y := by
  cases c
  · simp at h
  · exact ⟨rfl, h⟩

/-! ### what the memory functions come to -/
theorem newM_eq {m : Mem} {ab : AB} {k : Nat → Value} {v : Value} {m' : Mem} (h : newM m ab k = some (v, m')) : m.n ≤ most ∧ v = k m.n ∧ m' = ⟨m.H.set m.n (some ab), m.n + 1, m.W, upN m.hi m.n, m.lg⟩ := by
  obtain ⟨H, n, W, hi, lg⟩ := m
  simp only [newM, forceN_eq, put_eq] at h
  obtain ⟨h1, h2⟩ := cond_some h
  simp only [Option.some.injEq, Prod.mk.injEq] at h2
  exact ⟨by simpa using h1, h2.1.symm, h2.2.symm⟩
theorem setM_eq {m : Mem} {id : Nat} {ab : AB} {m' : Mem} (h : setM m id ab = some m') : id ≤ most ∧ m' = ⟨m.H.set id (some ab), m.n, id :: m.W, m.hi, m.lg⟩ := by
  obtain ⟨H, n, W, hi, lg⟩ := m
  simp only [setM, forceN_eq, put_eq] at h
  obtain ⟨h1, h2⟩ := cond_some h
  simp only [Option.some.injEq] at h2
  exact ⟨by simpa using h1, h2.symm⟩
theorem killM_eq (m : Mem) (id : Nat) : killM m id = ⟨m.H.set id none, m.n, id :: m.W, m.hi, m.lg⟩ := by
  obtain ⟨H, n, W, hi, lg⟩ := m
  simp only [killM, forceN_eq, put_eq]
theorem upN_le (hi n : Nat) : hi ≤ upN hi n ∧ n < upN hi n := by
  unfold upN
  cases h : Nat.blt n hi with
  | true => have := Nat.le_of_ble_eq_true h; simp; omega
  | false =>
    have : ¬ n < hi := fun h' => by rw [show Nat.blt n hi = true from Nat.ble_eq_true_of_le h'] at h; cases h
    simp; omega

def upd (ρ : Ren) (n : Nat) (l : Loc) : Ren := fun b => if b = n then some l else ρ b
theorem upd_ext {ρ : Ren} {n : Nat} {l : Loc} (h : ρ n = none) : ∀ b k, ρ b = some k → upd ρ n l b = some k := fun b k hb => by
  unfold upd
  by_cases e : b = n
  · subst e; rw [h] at hb; cases hb
  · rw [if_neg e]; exact hb
theorem upd_self (ρ : Ren) (n : Nat) (l : Loc) : upd ρ n l n = some l := by simp [upd]
theorem upd_inv {ρ : Ren} {n : Nat} {l : Loc} {b : Nat} {k : Loc} (h : upd ρ n l b = some k) (h0 : ρ b = none) : b = n ∧ k = l := by
  unfold upd at h
  by_cases e : b = n
  · rw [if_pos e] at h; exact ⟨e, (Option.some.inj h).symm⟩
  · rw [if_neg e] at h; rw [h0] at h; cases h

section
variable {P : Program} {base : Nat} {ρ : Ren} {m m' : Mem} {w w' : World}

/-- A new block in the world, and its number. -/
theorem St.alloc {ab : AB} {k : Nat → Value} {v : Value} {o : Obj} {l : Loc} (h : HR P base ρ m.H w) (hb : base ≤ w.heap.size) (hn : newM m ab k = some (v, m')) (hf : Free ρ m.n m'.hi)
    (ho : w'.os = w.os ∧ w'.tape = w.tape ∧ w'.output = w.output) (hh : w'.heap = w.heap.push o) (hl : l.blk = w.heap.size) (hab : BR P (upd ρ m.n l) ab l w') :
    v = k m.n ∧ upd ρ m.n l m.n = some l ∧ St P base ρ (upd ρ m.n l) m m' w w' := by
  obtain ⟨hle, hv, rfl⟩ := newM_eq hn
  have hfree : ρ m.n = none := hf m.n (Nat.le_refl _) (upN_le _ _).2
  have hext := upd_ext (l := l) hfree
  have hlt : ∀ b k, ρ b = some k → k.blk < w.heap.size := fun b k hk => (h.dom b k hk).2
  have hold : ∀ k, k < w.heap.size → w'.heap[k]? = w.heap[k]? := fun k hk => by rw [hh, Array.getElem?_push]; rw [if_neg (by omega)]
  refine ⟨hv, upd_self _ _ _, hext, fun b k h1 h2 => ?_, by simp, (upN_le _ _).1, fun _ => Nat.succ_le_of_lt (upN_le _ _).2, ⟨fun b k hk => ?_, fun id hid a ha => ?_⟩, fun b hb => hb, fun b h1 h2 => absurd h1 h2, fun k hk _ => hold k hk, by rw [hh]; simp, ho, fun b k h1 h2 => ?_, fun id hid h1 h2 => ?_⟩
  · obtain ⟨rfl, rfl⟩ := upd_inv h1 h2; exact ⟨Nat.le_refl _, Nat.lt_succ_self _⟩
  · cases h0 : ρ b with
    | some k0 =>
      rw [hext b k0 h0] at hk
      have := Option.some.inj hk; subst this
      exact ⟨(h.dom b k0 h0).1, by rw [hh]; simp; exact Nat.lt_succ_of_lt (h.dom b k0 h0).2⟩
    | none => obtain ⟨rfl, rfl⟩ := upd_inv hk h0; exact ⟨hle, by rw [hh, hl]; simp⟩
  · rw [hp_get_set _ _ _ _ hle hid] at ha
    by_cases e : id = m.n
    · rw [if_pos e] at ha
      have ha := Option.some.inj ha; subst ha; subst e
      refine ⟨l, upd_self _ _ _, hab, fun _ => ⟨by omega, fun id2 hid2 ab2 l2 h2 h3 h4 => ?_⟩⟩
      cases h0 : ρ id2 with
      | some k0 =>
        rw [hext id2 k0 h0] at h3
        have := Option.some.inj h3; subst this
        have := hlt id2 k0 h0; omega
      | none => exact (upd_inv h3 h0).1
    · rw [if_neg e] at ha
      obtain ⟨l0, h1, h2, h3⟩ := h.at_ id hid a ha
      refine ⟨l0, hext _ _ h1, h2.mono hext (hold _ (hlt _ _ h1)), fun hr => ⟨(h3 hr).1, fun id2 hid2 ab2 l2 g1 g2 g3 => ?_⟩⟩
      rw [hp_get_set _ _ _ _ hle hid2] at g1
      by_cases e2 : id2 = m.n
      · subst e2
        rw [upd_self] at g2
        have := Option.some.inj g2; subst this
        have := hlt id l0 h1; omega
      · rw [if_neg e2] at g1
        unfold upd at g2
        rw [if_neg e2] at g2
        exact (h3 hr).2 id2 hid2 ab2 l2 g1 g2 g3
  · obtain ⟨rfl, rfl⟩ := upd_inv h1 h2; exact .inl (by omega)
  · rw [hp_get_set _ _ _ _ hle hid, if_neg]
    intro e; subst e
    rcases h2 with h2 | h2
    · omega
    · have h2 : upN m.hi m.n ≤ m.n := h2
      have := (upN_le m.hi m.n).2; omega

/-- A block that the machine may write has been written. -/
theorem St.write {ab ab' : AB} {id : Nat} {l : Loc} (h : HR P base ρ m.H w) (hs : setM m id ab' = some m') (hg : Hp.get m.H id = some ab) (hrw : ab.rw = true) (hl : ρ id = some l)
    (ho : w'.os = w.os ∧ w'.tape = w.tape ∧ w'.output = w.output) (hsz : w'.heap.size = w.heap.size) (hk : ∀ k, k ≠ l.blk → w'.heap[k]? = w.heap[k]?) (hb : BR P ρ ab' l w') : St P base ρ ρ m m' w w' := by
  obtain ⟨hle, rfl⟩ := setM_eq hs
  obtain ⟨l0, h1, h2, h3⟩ := h.at_ id hle ab hg
  rw [hl] at h1
  have := Option.some.inj h1; subst this
  refine ⟨fun _ _ h => h, fun b k h1 h2 => (by rw [h1] at h2; cases h2), Nat.le_refl _, Nat.le_refl _, fun h => h, ⟨fun b k hk' => ⟨(h.dom b k hk').1, by rw [hsz]; exact (h.dom b k hk').2⟩, fun id2 hid2 a ha => ?_⟩, fun b hb => List.mem_cons_of_mem _ hb, fun b h1 h2 k hk' => ?_, fun k hk' hb' => hk k ?_, by rw [hsz]; exact Nat.le_refl _, ho, fun b k h1 h2 => (by rw [h1] at h2; cases h2), fun id2 hid2 h4 h5 => ?_⟩
  · rw [hp_get_set _ _ _ _ hle hid2] at ha
    by_cases e : id2 = id
    · rw [if_pos e] at ha
      have ha := Option.some.inj ha; subst ha; subst e
      refine ⟨l, hl, hb, fun _ => ⟨(h3 hrw).1, fun id3 hid3 ab3 l3 g1 g2 g3 => ?_⟩⟩
      rw [hp_get_set _ _ _ _ hle hid3] at g1
      by_cases e3 : id3 = id2
      · exact e3
      · rw [if_neg e3] at g1; exact (h3 hrw).2 id3 hid3 ab3 l3 g1 g2 g3
    · rw [if_neg e] at ha
      obtain ⟨l2, g1, g2, g3⟩ := h.at_ id2 hid2 a ha
      have hne : l2.blk ≠ l.blk := fun hh => e ((h3 hrw).2 id2 hid2 a l2 ha g1 hh)
      refine ⟨l2, g1, g2.mono (fun _ _ h => h) (hk _ hne), fun hr => ⟨(g3 hr).1, fun id3 hid3 ab3 l3 f1 f2 f3 => ?_⟩⟩
      rw [hp_get_set _ _ _ _ hle hid3] at f1
      by_cases e3 : id3 = id
      · subst e3
        rw [hl] at f2
        have := Option.some.inj f2; subst this
        exact (g3 hr).2 id3 hid3 ab l hg hl f3
      · rw [if_neg e3] at f1; exact (g3 hr).2 id3 hid3 ab3 l3 f1 f2 f3
  · rcases List.mem_cons.1 h1 with rfl | h1
    · exact ⟨ab, hg, hrw⟩
    · exact absurd h1 h2
  · exact fun e => hb' id List.mem_cons_self l hl e.symm
  · rw [hp_get_set _ _ _ _ hle hid2, if_neg]
    intro e; subst e; exact h4 List.mem_cons_self

/-! ### reading -/
theorem cutL_eq {cs : List Value} {o n : Nat} {r : List Value} (h : cutL cs o n = some r) : r = (cs.drop o).take n ∧ r.length = n := by
  unfold cutL at h
  simp only at h
  obtain ⟨h1, h2⟩ := cond_some h
  have h2 := (Option.some.inj h2).symm
  subst h2
  exact ⟨rfl, Nat.eq_of_beq_eq_true h1⟩

theorem pick_list {C : Array Value} {cs : List Value} {s : Nat} (h : ∀ (i : Nat) (v : Value), cs[i]? = some v → ∃ v', C[s + i]? = some v' ∧ VR ρ v v') : ∃ cs', LR ρ cs cs' ∧ ∀ (i : Nat) (v' : Value), cs'[i]? = some v' → C[s + i]? = some v' := by
  induction cs generalizing s with
  | nil => exact ⟨[], .nil, fun i v' h => by simp at h⟩
  | cons v r ih =>
    obtain ⟨v', h1, h2⟩ := h 0 v rfl
    obtain ⟨r', h3, h4⟩ := ih (s := s + 1) fun i u hi => by
      obtain ⟨u', a, b⟩ := h (i + 1) u (by simpa using hi)
      exact ⟨u', by rw [show s + 1 + i = s + (i + 1) by omega]; exact a, b⟩
    refine ⟨v' :: r', .cons h2 h3, fun i u hi => ?_⟩
    cases i with
    | zero => simp at hi; subst hi; simpa using h1
    | succ i =>
      have := h4 i u (by simpa using hi)
      rw [show s + (i + 1) = s + 1 + i by omega]; exact this

theorem read_ok {a : Addr} {n : Nat} {r : List Value} {l : Loc} (h : HR P base ρ m.H w) (hr : readM m a n = some r) (hl : ρ a.block = some l) :
    ∃ r', LR ρ r r' ∧ r'.length = n ∧ (∀ (j : Nat) (v' : Value), r'[j]? = some v' → w.cell? ⟨l.blk, a.off + l.sh + j, none⟩ = some v') := by
  unfold readM at hr
  split at hr
  · rename_i cs T ro hspot hg
    obtain ⟨hr1, hr2⟩ := cutL_eq hr
    obtain ⟨l0, h1, ⟨C, fz, T', h2, h3, _⟩, _⟩ := h.at_ a.block (h.dom _ _ hl).1 _ hg
    rw [hl] at h1
    have := Option.some.inj h1; subst this
    obtain ⟨r', h4, h5⟩ := pick_list (ρ := ρ) (C := C) (cs := r) (s := l.sh + a.off) fun i v hi => by
      have hin : i < n := by
        have := (List.getElem?_eq_some_iff.1 hi).1
        omega
      rw [hr1, List.getElem?_take_of_lt hin, List.getElem?_drop] at hi
      obtain ⟨v', g1, g2⟩ := h3 _ v hi
      exact ⟨v', by rw [show l.sh + a.off + i = l.sh + (a.off + i) by omega]; exact g1, g2⟩
    refine ⟨r', h4, h4.1 ▸ hr2, fun j v' hj => ?_⟩
    have := h5 j v' hj
    simp [World.cell?, h2, show a.off + l.sh + j = l.sh + a.off + j by omega, this]
  · cases hr

theorem load_cells {b o : Nat} {r' : List Value} {n : Nat} (hn : r'.length = n) (h : ∀ (j : Nat) (v' : Value), r'[j]? = some v' → w.cell? ⟨b, o + j, none⟩ = some v') : (loadCells ⟨b, o, none⟩ n).run P w = .ok ⟨r'⟩ w := by
  subst hn
  have := run_loadCells_list (P := P) w ⟨b, o, none⟩ r' (fun j v hj => by rw [add_none']; exact h j v hj)
  exact this
where
  add_none' {b o i : Nat} : (Addr.mk b o none).add i = ⟨b, o + i, none⟩ := by
    unfold Addr.add
    split
    · rename_i h; subst h; rfl
    · rfl

/-! ### writing -/
theorem putL_length : ∀ (vs cs : List Value) (k : Nat), (putL cs k vs).length = cs.length
  | [], _, _ => rfl
  | v :: r, cs, k => by rw [putL, putL_length r]; simp
theorem putL_LR {cs cs' : List Value} (h : LR ρ cs cs') : ∀ {vs vs' : List Value} {k : Nat}, LR ρ vs vs' → LR ρ (putL cs k vs) (putL cs' k vs')
  | [], vs', k, hv => by rw [hv.nil_inv]; exact h
  | v :: r, vs', k, hv => by
    obtain ⟨v', r', rfl, h1, h2⟩ := hv.tail
    simp only [putL]
    exact putL_LR (h.set h1 k) h2

theorem flat_VR {v v' : Value} (h : VR ρ v v') (hf : flat v = true) : flatR v' = true := by
  cases h with
  | hole h _ => have := toV_pure h; cases v' <;> first | rfl | cases this
  | junk h => exact h (Nat.eq_of_beq_eq_true hf)
  | pure hp => cases v <;> first | rfl | cases hf | cases hp
  | ixp h hs hi hz hv => subst hv; rfl
  | _ => first | exact hf | rfl
theorem flat_LR : ∀ {vs vs' : List Value}, LR ρ vs vs' → vs.all flat = true → vs'.all flatR = true
  | [], vs', h, _ => by rw [h.nil_inv]; rfl
  | v :: r, vs', h, hf => by
    obtain ⟨v', r', rfl, h1, h2⟩ := h.tail
    simp only [List.all_cons, Bool.and_eq_true] at hf ⊢
    exact ⟨flat_VR h1 hf.1, flat_LR h2 hf.2⟩

theorem run_storeCells {b o : Nat} {T : TypeId} {fz : Nat × Nat} : ∀ (vs : List Value) (i : Nat) (C : Array Value) (w : World), w.heap[b]? = some (.cells C T fz) → vs.all flatR = true → o + i + vs.length ≤ C.size →
    (∀ i, i < C.size → ¬ (fz.1 ≤ i ∧ i < fz.2)) →
    ∃ w', (storeCells ⟨b, o, none⟩ vs i).run P w = .ok () w' ∧ (w'.os = w.os ∧ w'.tape = w.tape ∧ w'.output = w.output) ∧ w'.heap.size = w.heap.size ∧ w'.heap[b]? = some (.cells ⟨putL C.toList (o + i) vs⟩ T fz) ∧ ∀ k, k ≠ b → w'.heap[k]? = w.heap[k]?
  | [], i, C, w, h, _, _, _ => ⟨w, rfl, ⟨rfl, rfl, rfl⟩, rfl, h, fun _ _ => rfl⟩
  | v :: r, i, C, w, h, h1, hl, hz => by
    simp only [List.all_cons, Bool.and_eq_true] at h1
    simp only [List.length_cons] at hl
    have hlt : o + i < C.size := by omega
    have hb : (w.setCell ⟨b, o + i, none⟩ v).heap[b]? = some (.cells (C.setIfInBounds (o + i) v) T fz) := by
      simp [World.setCell, Array.getElem?_modify, h]
    obtain ⟨w', hr, hs, hsz, hg, hk⟩ := run_storeCells (b := b) (o := o) (T := T) (fz := fz) r (i + 1) (C.setIfInBounds (o + i) v) (w.setCell ⟨b, o + i, none⟩ v) hb h1.2 (by simp; omega) (by simpa using hz)
    refine ⟨w', ?_, ?_, ?_, ?_, fun k hk' => ?_⟩
    · have hc : w.cell? ⟨b, o + i, none⟩ = some C[o + i] := by simp [World.cell?, h, hlt]
      have hf : w.frozen? ⟨b, o + i, none⟩ = false := by
        have := hz (o + i) hlt
        simp only [World.frozen?, h]
        by_cases h1 : fz.1 ≤ o + i <;> by_cases h2 : o + i < fz.2 <;> simp [h1, h2] <;> exact absurd ⟨h1, h2⟩ this
      have hst : (store ((Addr.mk b o none).add i) v).run P w = .ok () (w.setCell ⟨b, o + i, none⟩ v) := by
        rw [load_cells.add_none']
        unfold store
        cases v <;> simp_all [Sem.run, flatR]
      unfold storeCells
      simp only [Sem.run_bind, hst, Result.andThen]
      exact hr
    · simpa [World.setCell] using hs
    · rw [hsz]; simp [World.setCell]
    · rw [hg]
      have : (C.setIfInBounds (o + i) v).toList = C.toList.set (o + i) v := by simp
      rw [this]
      simp [putL, Nat.add_assoc]
    · rw [hk k hk']
      simp only [World.setCell, Array.getElem?_modify]
      rw [if_neg (fun e => hk' e.symm)]

theorem putL_get (vs : List Value) : ∀ (cs : List Value) (k i : Nat), k + vs.length ≤ cs.length → (putL cs k vs)[i]? = if k ≤ i ∧ i < k + vs.length then vs[i - k]? else cs[i]? := by
  induction vs with
  | nil => intro cs k i h; simp [putL]; intro h1 h2; omega
  | cons v r ih =>
    intro cs k i h
    simp only [List.length_cons] at h ⊢
    rw [putL, ih (cs.set k v) (k + 1) i (by simp; omega)]
    by_cases h1 : k + 1 ≤ i ∧ i < k + 1 + r.length
    · rw [if_pos h1, if_pos (by omega), show i - k = (i - (k + 1)) + 1 by omega]; rfl
    · rw [if_neg h1]
      by_cases h2 : i = k
      · subst h2
        rw [if_pos (by omega), Nat.sub_self, List.getElem?_set_self (by omega)]; rfl
      · rw [if_neg (by omega), List.getElem?_set_ne (fun e => h2 e.symm)]

/-- Cells of a block that the machine may write are written: what the program's stores come to. -/
theorem write_ok {a : Addr} {vs vs' : List Value} {l : Loc} (h : HR P base ρ m.H w) (hw : writeM m a vs = some m') (hl : ρ a.block = some l) (hv : LR ρ vs vs') :
    ∃ w', (storeCells ⟨l.blk, a.off + l.sh, none⟩ vs').run P w = .ok () w' ∧ St P base ρ ρ m m' w w' := by
  unfold writeM at hw
  split at hw
  · rename_i cs T hspot hg
    obtain ⟨hc, hs⟩ := cond_some hw
    obtain ⟨hc1, hc2⟩ := boolAnd hc
    have hc1 := Nat.le_of_ble_eq_true hc1
    rw [forceL_eq] at hs
    obtain ⟨l0, h1, ⟨C, fz, T', h2, h3, h4⟩, h5⟩ := h.at_ a.block (h.dom _ _ hl).1 _ hg
    rw [hl] at h1
    have := Option.some.inj h1; subst this
    obtain ⟨rfl, h6, h7⟩ := h4 rfl
    have hlast : ∀ i, i < cs.length → l.sh + i < C.size := fun i hi => by
      obtain ⟨v', g, _⟩ := h3 i cs[i] (List.getElem?_eq_getElem hi)
      exact (Array.getElem?_eq_some_iff.1 g).1
    have hlen : vs'.length = vs.length := hv.1.symm
    by_cases hz : vs.length = 0
    · have e1 : vs = [] := List.length_eq_zero_iff.1 hz
      have e2 : vs' = [] := List.length_eq_zero_iff.1 (by omega)
      subst e1; subst e2
      exact ⟨w, rfl, St.write h hs hg rfl hl ⟨rfl, rfl, rfl⟩ rfl (fun _ _ => rfl) ⟨C, fz, _, h2, by simpa [putL] using h3, h4⟩⟩
    · have hin : l.sh + (a.off + vs.length - 1) < C.size := hlast _ (by omega)
      obtain ⟨w', hr, ho, hsz, hgb, hk⟩ := run_storeCells (P := P) (b := l.blk) (o := a.off + l.sh) (fz := fz) vs' 0 C w h2 (flat_LR hv hc2) (by omega) h6
      refine ⟨w', hr, St.write h hs hg rfl hl ho hsz hk ⟨_, fz, _, hgb, fun i v hi => ?_, fun _ => ⟨rfl, by simpa [putL_length] using h6, by simpa [putL_length] using h7⟩⟩⟩
      rw [putL_get _ _ _ _ hc1] at hi
      have hpos : C.toList.length = C.size := by simp
      have hg2 : ∀ j, (putL C.toList (a.off + l.sh + 0) vs')[l.sh + j]? = if a.off ≤ j ∧ j < a.off + vs'.length then vs'[j - a.off]? else C.toList[l.sh + j]? := fun j => by
        rw [putL_get _ _ _ _ (by omega)]
        by_cases hj : a.off ≤ j ∧ j < a.off + vs'.length
        · rw [if_pos hj, if_pos (by omega), show l.sh + j - (a.off + l.sh + 0) = j - a.off by omega]
        · rw [if_neg hj, if_neg (by omega)]
      show ∃ v', (Array.mk (putL C.toList (a.off + l.sh + 0) vs'))[l.sh + i]? = some v' ∧ _
      simp only [List.getElem?_toArray, hg2]
      by_cases hj : a.off ≤ i ∧ i < a.off + vs.length
      · rw [if_pos hj] at hi
        rw [if_pos (by omega)]
        exact hv.get hi
      · rw [if_neg hj] at hi
        rw [if_neg (by omega)]
        obtain ⟨v', g1, g2⟩ := h3 i v hi
        exact ⟨v', by simpa using g1, g2⟩
  · cases hw
end
end Go.Sx
