/- The operations, part 3: places, parts, structs and arrays that are built, slices. -/
import Derived.Test.YtdmdghooamchfaaDoorSxOp2
namespace Go.Sx
set_option linter.all false
open Go
set_option linter.unusedVariables false
set_option linter.unusedSimpArgs false
variable [Ora]

section
variable {P : Program} {base : Nat} {ρ : Ren} {m m' : Mem} {w : World}

theorem plus_eq (a : Addr) (n : Nat) : plus a n = ⟨a.block, a.off + n, none⟩ := by simp [plus, forceN_eq]
theorem add_none (b o i : Nat) : (Addr.mk b o none).add i = ⟨b, o + i, none⟩ := load_cells.add_none'

theorem fieldAtM_ok {s : TypeId} {x x' v : Value} {i : Nat} (h : fieldAtM P s x i = some v) (hx : VR ρ x x') (w : World) : ∃ v', (Instr.fieldAt s x' i).run P w = .ok v' w ∧ VR ρ v v' := by
  unfold fieldAtM at h
  split at h
  · rename_i fs a hu
    obtain ⟨l, hl, hs, rfl⟩ := inv_ptr hx
    split at h
    · rename_i f hf hs'
      split at h
      · rename_i n hn
        cases h
        rw [plus_eq]
        refine ⟨_, ?_, .ptr hl⟩
        have hf' : fs[i]? = some f := by simpa using hf
        have := run_size hn w
        simp [Instr.fieldAt, Sem.run_bind, run_und hu, Result.andThen, hf', Instr.sureAddr, fieldPlace, this, add_none]
      · cases h
    · cases h
  · cases h

theorem fieldM_ok {t : TypeId} {x x' v : Value} {i : Nat} (h : fieldM P t x i = some v) (hx : VR ρ x x') (w : World) : ∃ v', (Instr.field t x' i).run P w = .ok v' w ∧ VR ρ v v' := by
  unfold fieldM at h
  split at h
  · rename_i fs cs hu
    obtain ⟨cs', rfl, hc⟩ := inv_agg hx
    split at h
    · rename_i f hf
      obtain ⟨v', h1, h2⟩ := partM_ok h hc w
      have hf' : fs[i]? = some f := by simpa using hf
      refine ⟨v', ?_, h2⟩
      simp [Instr.field, Sem.run_bind, run_und hu, Result.andThen, hf', asAgg, h1]
    · cases h
  · cases h

theorem indexAtM_ok {t : TypeId} {x x' i i' v : Value} (h : indexAtM P t x i = some v) (hx : VR ρ x x') (hi : VR ρ i i') (w : World) : ∃ v', (Instr.indexAt t x' i').run P w = .ok v' w ∧ VR ρ v v' := by
  unfold indexAtM at h
  split at h
  · rename_i n e a k0 k hu
    cases inv_int hi
    obtain ⟨l, hl, hs, rfl⟩ := inv_ptr hx
    split at h
    · rename_i s hn hs'
      obtain ⟨h1, h2⟩ := cond_some h
      cases h2
      have h1 : k < n := Nat.le_of_ble_eq_true h1
      rw [plus_eq]
      refine ⟨.pointer (some ⟨l.blk, a.off + k * s + l.sh, none⟩), ?_, .ptr hl⟩
      simp [Instr.indexAt, Sem.run_bind, run_und hu, Result.andThen, asIntOf, run_size hn, h1, add_none, Instr.sureAddr]
    · cases h
  · rename_i e a n c k0 k hu
    cases inv_int hi
    split at h
    · rename_i s hn hs'
      obtain ⟨h1, h2⟩ := cond_some h
      cases h2
      have h1 : k < n := Nat.le_of_ble_eq_true h1
      rw [plus_eq]
      cases hx with
      | pure hp => simp [pureV] at hp
      | sl hl hm =>
        rename_i b o l
        refine ⟨.pointer (some ⟨l.blk, o + k * s + l.sh, none⟩), ?_, .ptr hl⟩
        simp [Instr.indexAt, Sem.run_bind, run_und hu, Result.andThen, asIntOf, run_size hn, h1, add_none]
      | op hl hm hn' hc =>
        rename_i b o l _
        refine ⟨.pointer (some ⟨l.blk, o + k * s + l.sh, none⟩), ?_, .ptr hl⟩
        simp [Instr.indexAt, Sem.run_bind, run_und hu, Result.andThen, asIntOf, run_size hn, h1, add_none]
      | opE hs => omega
    · cases h
  · cases h

theorem indexM_ok {t : TypeId} {x x' i i' v : Value} (h : indexM P t x i = some v) (hx : VR ρ x x') (hi : VR ρ i i') (w : World) : ∃ v', (Instr.index t x' i').run P w = .ok v' w ∧ VR ρ v v' := by
  unfold indexM at h
  split at h
  · rename_i n e cs k0 k hu
    cases inv_int hi
    obtain ⟨cs', rfl, hc⟩ := inv_agg hx
    split at h
    · rename_i s hn
      obtain ⟨h1, h2⟩ := cond_some h
      have h1 : k < n := Nat.le_of_ble_eq_true h1
      obtain ⟨v', h3, h4⟩ := partM_ok h2 hc w
      refine ⟨v', ?_, h4⟩
      simp [Instr.index, Sem.run_bind, run_und hu, Result.andThen, asIntOf, run_size hn, h1, h3]
    · cases h
  · rename_i s k0 k hu
    cases inv_int hi
    cases inv_str hx
    split at h
    · rename_i b hb
      cases h
      refine ⟨_, ?_, .pure rfl⟩
      have hlt : k < s.size := by
        have := (List.getElem?_eq_some_iff.1 hb).1
        simpa using this
      have hg : s[k]? = some b := by
        rw [getElem?_pos s k hlt]
        have := (List.getElem?_eq_some_iff.1 hb).2
        rw [← this]; rfl
      simp [Instr.index, Sem.run_bind, run_und hu, Result.andThen, asIntOf, hg]
    · cases h
  · cases h

theorem oExtract_ok {x x' v : Value} {i : Nat} (h : oExtract m x i = some (v, m')) (hx : VR ρ x x') (w : World) : m' = m ∧ ∃ v', (Instr.extract x' i).run P w = .ok v' w ∧ VR ρ v v' := by
  unfold oExtract at h
  split at h
  · rename_i vs
    obtain ⟨cs', rfl, hc⟩ := inv_tuple hx
    unfold noM at h
    split at h
    · rename_i u hu
      cases h
      obtain ⟨v', h1, h2⟩ := hc.get hu
      exact ⟨rfl, v', by simp [Instr.extract, h1], h2⟩
    · cases h
  · cases h

/-! ### what is built -/
theorem fold_putL : ∀ (vs : List Value) (off k : Nat) (C : Array Value), ((vs.zipIdx k).foldl (fun (cs : Array Value) (x : Value × Nat) => cs.setIfInBounds (off + x.2) x.1) C) = ⟨putL C.toList (off + k) vs⟩
  | [], off, k, C => rfl
  | v :: r, off, k, C => by
    simp only [List.zipIdx_cons, List.foldl_cons]
    rw [fold_putL r off (k + 1)]
    simp [putL, Nat.add_assoc]
/-- Parts, place by place. -/
def PR (ρ : Ren) : List (Nat × Value) → List (Nat × Value) → Prop
  | [], [] => True
  | (i, v) :: r, (j, v') :: r' => i = j ∧ VR ρ v v' ∧ PR ρ r r'
  | _, _ => False
theorem fillM_ok {place : Nat → Option (Nat × Nat)} : ∀ {parts parts' : List (Nat × Value)} {cs cs' r : List Value}, fillM place cs parts = some r → PR ρ parts parts' → LR ρ cs cs' → ∃ r', Instr.fill place ⟨cs'⟩ parts' = some ⟨r'⟩ ∧ LR ρ r r'
  | [], [], cs, cs', r, h, _, hc => by
    simp only [fillM, Option.some.injEq] at h; subst h
    exact ⟨cs', rfl, hc⟩
  | [], _ :: _, _, _, _, _, hp, _ => hp.elim
  | _ :: _, [], _, _, _, _, hp, _ => hp.elim
  | (i, v) :: rest, (j, v') :: rest', cs, cs', r, h, ⟨hij, hv, hp⟩, hc => by
    subst hij
    unfold fillM at h
    split at h
    · cases h
    · rename_i off size hpl
      obtain ⟨h1, h2⟩ := cond_some h
      obtain ⟨h3, h4⟩ := boolAnd h1
      obtain ⟨h3, hj⟩ := boolAnd h3
      have h3 := Nat.eq_of_beq_eq_true h3
      have h4 := Nat.le_of_ble_eq_true h4
      rw [forceL_eq] at h2
      have hcv := hv.cells (by simpa using hj)
      have hsz : v'.cells.size = v.cells.size := by have := hcv.1; simp at this; omega
      obtain ⟨r', h5, h6⟩ := fillM_ok h2 hp (putL_LR hc hcv)
      refine ⟨r', ?_, h6⟩
      unfold Instr.fill
      simp only [hpl]
      rw [if_neg]
      · have := fold_putL v'.cells.toList off 0 ⟨cs'⟩
        have e : (v'.cells.zipIdx.foldl (fun (cs : Array Value) (x : Value × Nat) => cs.setIfInBounds (off + x.2) x.1) ⟨cs'⟩) = ⟨putL cs' off v'.cells.toList⟩ := by
          rw [← Array.foldl_toList, Array.toList_zipIdx, this]; rfl
        have e2 : (Array.foldl (fun cs x => match x with | (c, j) => cs.setIfInBounds (off + j) c) ({ toList := cs' } : Array Value) v'.cells.zipIdx) = ⟨putL cs' off v'.cells.toList⟩ := e
        rw [e2]
        exact h5
      · have := hc.1
        simp [hsz]
        constructor
        · exact h3
        · omega

theorem run_places : ∀ (fs : List Field) (ps : List (Nat × Nat)), placesM P fs = some ps → ∀ w : World, (fs.mapM (fun f => do pure (f.offset, ← sizeOf f.type) : Field → Sem (Nat × Nat))).run P w = .ok ps w
  | [], ps, h, w => by simp only [placesM, Option.some.injEq] at h; subst h; rfl
  | f :: r, ps, h, w => by
    unfold placesM at h
    split at h
    · rename_i n l hn hl
      cases h
      have ih := run_places r l hl w
      simp only [List.mapM_cons, Sem.run_bind, run_size hn, Result.andThen, Sem.run_pure]
      rw [ih]
    · cases h

theorem buildM_ok {t : TypeId} {parts parts' : List (Nat × Value)} {v : Value} (h : buildM P t parts = some v) (hp : PR ρ parts parts') (w : World) : ∃ v', (Instr.build t ⟨parts'⟩).run P w = .ok v' w ∧ VR ρ v v' := by
  unfold buildM at h
  split at h
  · rename_i z fs hz hu
    split at h
    · rename_i ps hps
      split at h
      · rename_i cs hcs
        cases h
        obtain ⟨r', h1, h2⟩ := fillM_ok hcs hp (zero_LR hz)
        refine ⟨.agg ⟨r'⟩, ?_, .agg h2.1 h2.2⟩
        have hm : (fs.mapM (fun f => do pure (f.offset, ← sizeOf f.type) : Field → Sem (Nat × Nat))).run P w = .ok ps.toArray w := by
          rw [Array.mapM_eq_mapM_toList]
          show (Sem.bind (fs.toList.mapM (fun f => do pure (f.offset, ← sizeOf f.type) : Field → Sem (Nat × Nat))) fun l => Sem.pure l.toArray).run P w = _
          have := run_places _ _ hps w
          have hb : ∀ (x : Sem (List (Nat × Nat))) (k : List (Nat × Nat) → Sem (Array (Nat × Nat))), (Sem.bind x k).run P w = (x >>= k).run P w := fun _ _ => rfl
          rw [hb, Sem.run_bind, this]; rfl
        have h1' : Instr.fill (fun i => ps[i]?) z.cells parts' = some ⟨r'⟩ := h1
        unfold Instr.build
        simp only [Sem.run_bind, run_zero hz, run_und hu, Result.andThen, hm, List.getElem?_toArray]
        simp only [h1']
        rfl
      · cases h
    · cases h
  · rename_i z n e hz hu
    split at h
    · rename_i s hs
      split at h
      · rename_i cs hcs
        cases h
        obtain ⟨r', h1, h2⟩ := fillM_ok hcs hp (zero_LR hz)
        refine ⟨.agg ⟨r'⟩, ?_, .agg h2.1 h2.2⟩
        have h1' : Instr.fill (fun i => some (i * s, s)) z.cells parts' = some ⟨r'⟩ := h1
        simp [Instr.build, Sem.run_bind, run_zero hz, run_und hu, Result.andThen, run_size hs, h1']
      · cases h
    · cases h
  · cases h
end
end Go.Sx
