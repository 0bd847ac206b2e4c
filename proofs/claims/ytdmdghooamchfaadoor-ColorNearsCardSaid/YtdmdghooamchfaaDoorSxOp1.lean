/- The operations, one by one: what the machine makes of them is what the program makes of them. Part 1: values, places, loads and stores. -/
import Derived.Test.YtdmdghooamchfaaDoorSxMem
namespace Go.Sx
set_option linter.all false
open Go
set_option linter.unusedVariables false
set_option linter.unusedSimpArgs false
variable [Ora]

/-- What the program's operation comes to stands to what the machine's comes to. -/
def VOk (P : Program) (base : Nat) (ρ : Ren) (m : Mem) (w : World) (s : Sem Value) (v : Value) (m' : Mem) : Prop :=
  ∃ v' ρ' w', s.run P w = .ok v' w' ∧ VR ρ' v v' ∧ St P base ρ ρ' m m' w w'
def UOk (P : Program) (base : Nat) (ρ : Ren) (m : Mem) (w : World) (s : Sem Unit) (m' : Mem) : Prop :=
  ∃ ρ' w', s.run P w = .ok () w' ∧ St P base ρ ρ' m m' w w'

section
variable {P : Program} {base : Nat} {ρ : Ren} {m m' : Mem} {w : World}

theorem VOk.same {s : Sem Value} {v v' : Value} (h : HR P base ρ m.H w) (hr : s.run P w = .ok v' w) (hv : VR ρ v v') : VOk P base ρ m w s v m := ⟨v', ρ, w, hr, hv, .refl h⟩

theorem inv_bool {b : Bool} {v' : Value} (h : VR ρ (.bool b) v') : v' = .bool b := by cases h; rfl
theorem inv_int {k : IntKind} {n : Int} {v' : Value} (h : VR ρ (.int k n) v') : v' = .int k n := by cases h; rfl
theorem inv_str {s : ByteArray} {v' : Value} (h : VR ρ (.string s) v') : v' = .string s := by cases h; rfl
theorem inv_ptr {a : Addr} {v' : Value} (h : VR ρ (.pointer (some a)) v') : ∃ l, ρ a.block = some l ∧ a.spot = none ∧ v' = .pointer (some ⟨l.blk, a.off + l.sh, none⟩) := by
  cases h with
  | pure hp => simp [pureV] at hp
  | ptr h => exact ⟨_, h, rfl, rfl⟩
theorem inv_agg {cs : Array Value} {v' : Value} (h : VR ρ (.agg cs) v') : ∃ cs', v' = .agg ⟨cs'⟩ ∧ LR ρ cs.toList cs' := by
  cases h with
  | pure hp => simp [pureV] at hp
  | agg ha h => exact ⟨_, rfl, ha, h⟩
theorem inv_tuple {cs : Array Value} {v' : Value} (h : VR ρ (.tuple cs) v') : ∃ cs', v' = .tuple ⟨cs'⟩ ∧ LR ρ cs.toList cs' := by
  cases h with
  | pure hp => simp [pureV] at hp
  | tuple ha h => exact ⟨_, rfl, ha, h⟩

/-! ### types -/
theorem run_typeInfo' {t : TypeId} {i : TypeInfo} (h : P.info? t = some i) (w : World) : (typeInfo t).run P w = .ok i w := by simp [typeInfo, Sem.run_bind, run_program, Result.andThen, h]
theorem run_size {t : TypeId} {n : Nat} (h : sizeM P t = some n) (w : World) : (sizeOf t).run P w = .ok n w := by
  unfold sizeM at h
  split at h
  · rename_i i hi
    have := Option.some.inj h; subst this
    simp [sizeOf, Sem.run_bind, run_typeInfo' hi, Result.andThen]
  · cases h
theorem run_und {t : TypeId} {d : TypeDesc} (h : P.underlying t = some d) (w : World) : (underlying t).run P w = .ok d w := by simp [underlying, Sem.run_bind, run_program, Result.andThen, h]
theorem run_agg {t : TypeId} {b : Bool} (h : isAggM P t = some b) (w : World) : (isAgg t).run P w = .ok b w := by
  unfold isAggM at h
  cases hu : P.underlying t with
  | none => rw [hu] at h; cases h
  | some d =>
    rw [hu] at h
    simp only [isAgg, Sem.run_bind, run_und hu, Result.andThen]
    cases d <;> cases h <;> rfl
theorem zeroM_eq {t : TypeId} {z : Value} (h : zeroM P t = some z) : ∃ i, P.info? t = some i ∧ i.zero = some z ∧ pureC z = true := by
  unfold zeroM at h
  split at h
  · rename_i i hi
    split at h
    · rename_i v hv
      obtain ⟨h1, h2⟩ := cond_some h
      have := Option.some.inj h2; subst this
      exact ⟨i, hi, hv, h1⟩
    · cases h
  · cases h
theorem run_zero {t : TypeId} {z : Value} (h : zeroM P t = some z) (w : World) : (zeroValue t).run P w = .ok z w := by
  obtain ⟨i, hi, hz, _⟩ := zeroM_eq h
  simp [zeroValue, Sem.run_bind, run_typeInfo' hi, Result.andThen, hz]
theorem zero_LR {t : TypeId} {z : Value} (h : zeroM P t = some z) : LR ρ z.cells.toList z.cells.toList := by
  obtain ⟨i, hi, hz, hp⟩ := zeroM_eq h
  exact (VR.ofC hp).cells (by cases z <;> first | rfl | cases hp)

/-! ### loads and stores -/
theorem loadM_ok {t : TypeId} {a : Addr} {v : Value} {l : Loc} (h : HR P base ρ m.H w) (hv : loadM P m t a = some v) (hl : ρ a.block = some l) :
    ∃ v', (loadVar t ⟨l.blk, a.off + l.sh, none⟩).run P w = .ok v' w ∧ VR ρ v v' := by
  unfold loadM at hv
  split at hv
  · rename_i ha
    split at hv
    · rename_i n hn
      split at hv
      · rename_i cs hr
        have := Option.some.inj hv; subst this
        obtain ⟨r', h1, h2, h3⟩ := read_ok h hr hl
        refine ⟨.agg ⟨r'⟩, ?_, .agg h1.1 h1.2⟩
        simp [loadVar, Sem.run_bind, run_agg ha, run_size hn, Result.andThen, load_cells h2 h3]
      · cases hv
    · cases hv
  · rename_i ha
    split at hv
    · rename_i u r hr
      have := Option.some.inj hv; subst this
      obtain ⟨r', h1, h2, h3⟩ := read_ok h hr hl
      obtain ⟨v', r2, rfl, h4, _⟩ := h1.tail
      refine ⟨v', ?_, h4⟩
      have := h3 0 v' rfl
      simp [loadVar, Sem.run_bind, run_agg ha, Result.andThen, run_load, show w.cell? ⟨l.blk, a.off + l.sh, none⟩ = some v' from by simpa using this]
    · cases hv
  · cases hv

theorem storeM_ok {t : TypeId} {a : Addr} {v v' : Value} {l : Loc} (h : HR P base ρ m.H w) (hs : storeM P m t a v = some m') (hl : ρ a.block = some l) (hv : VR ρ v v') :
    UOk P base ρ m w (storeVar t ⟨l.blk, a.off + l.sh, none⟩ v') m' := by
  unfold storeM at hs
  split at hs
  · rename_i n hn
    obtain ⟨h1, h2⟩ := cond_some hs
    obtain ⟨h1, hj⟩ := boolAnd h1
    have h1 := Nat.eq_of_beq_eq_true h1
    have hc := hv.cells (by simpa using hj)
    obtain ⟨w', hr, hst⟩ := write_ok h h2 hl hc
    refine ⟨ρ, w', ?_, hst⟩
    have e : v'.cells.size = n := by
      have := hc.1
      simp at this; omega
    simp [storeVar, Sem.run_bind, run_size hn, Result.andThen, e, hr]
  · cases hs

/-! ### parts -/
theorem partM_ok {t : TypeId} {cs cs' : List Value} {off : Nat} {v : Value} (h : partM P t cs off = some v) (hc : LR ρ cs cs') (w : World) : ∃ v', (part t ⟨cs'⟩ off).run P w = .ok v' w ∧ VR ρ v v' := by
  unfold partM at h
  split at h
  · rename_i ha
    split at h
    · rename_i n hn
      split at h
      · rename_i r hr
        have := Option.some.inj h; subst this
        obtain ⟨h1, h2⟩ := cutL_eq hr
        have hlr := (hc.drop off).take n
        rw [← h1] at hlr
        refine ⟨.agg ⟨(cs'.drop off).take n⟩, ?_, .agg hlr.1 hlr.2⟩
        simp [part, Sem.run_bind, run_agg ha, run_size hn, Result.andThen, List.extract]
      · cases h
    · cases h
  · rename_i ha
    obtain ⟨v', h1, h2⟩ := hc.get h
    refine ⟨v', ?_, h2⟩
    simp [part, Sem.run_bind, run_agg ha, Result.andThen, h1]
  · cases h

/-! ### equality -/
set_option maxHeartbeats 1000000 in
mutual
theorem eqM_ok : ∀ (d : Nat) (t : TypeId) (x y x' y' : Value) (b : Bool), eqM P d t x y = some b → VR ρ x x' → VR ρ y y' → ∀ (n : Nat), d ≤ n → ∀ w : World, (Op.equalIn n t x' y').run P w = .ok b w
  | 0, _, _, _, _, _, _, h, _, _, _, _, _ => by simp [eqM] at h
  | d + 1, t, x, y, x', y', b, h, hx, hy, n, hn, w => by
    obtain ⟨n, rfl⟩ : ∃ k, n = k + 1 := ⟨n - 1, by omega⟩
    have hn' : d ≤ n := by omega
    unfold eqM at h
    split at h
    · rename_i hu; cases inv_bool hx; cases inv_bool hy; cases h
      simp [Op.equalIn, Sem.run_bind, run_und hu, Result.andThen]
    · rename_i hu
      cases inv_int hx; cases inv_int hy
      obtain ⟨h1, h2⟩ := cond_some h
      cases h2
      have h1 := of_decide_eq_true h1
      simp [Op.equalIn, Sem.run_bind, run_und hu, Result.andThen, h1]
    · rename_i hu; cases inv_str hx; cases inv_str hy; cases h
      rw [← ByteArray.toList_eq, ← ByteArray.toList_eq]
      exact run_equalIn_string (P := P) w n t _ _ hu
    · rename_i hu
      cases h
      cases hx with | pure _ => ?_
      cases hy with
      | pure _ => rename_i p _; cases p <;> simp [Op.equalIn, Sem.run_bind, run_und hu, Result.andThen]
      | ptr h => simp [Op.equalIn, Sem.run_bind, run_und hu, Result.andThen]
    · rename_i hu
      cases h
      cases hy with | pure _ => ?_
      obtain ⟨l, _, _, rfl⟩ := inv_ptr hx
      simp [Op.equalIn, Sem.run_bind, run_und hu, Result.andThen]
    · rename_i hu; cases h; cases hx; cases hy
      simp [Op.equalIn, Sem.run_bind, run_und hu, Result.andThen]
    · rename_i hu; cases h; cases hx
      cases hy with
      | pure hp => simp [pureV] at hp
      | iface h => simp [Op.equalIn, Sem.run_bind, run_und hu, Result.andThen]
    · rename_i hu; cases h; cases hy
      cases hx with
      | pure hp => simp [pureV] at hp
      | iface h => simp [Op.equalIn, Sem.run_bind, run_und hu, Result.andThen]
    · rename_i tx vx ty vy hu
      cases hx with | pure hp => simp [pureV] at hp | iface hx => ?_
      cases hy with | pure hp => simp [pureV] at hp | iface hy => ?_
      cases ht : Nat.beq tx ty with
      | false =>
        rw [ht] at h
        cases h
        have : tx ≠ ty := fun e => by subst e; simp at ht
        simp [Op.equalIn, Sem.run_bind, run_und hu, Result.andThen, this]
      | true =>
        rw [ht] at h
        have := Nat.eq_of_beq_eq_true ht; subst this
        simp only [cond_true] at h
        split at h
        · rename_i i hi
          obtain ⟨h1, h2⟩ := cond_some h
          have ih := eqM_ok d tx vx vy _ _ b h2 hx hy n hn' w
          simp [Op.equalIn, Sem.run_bind, run_und hu, Result.andThen, run_typeInfo' hi, h1, ih]
        · cases h
    · rename_i hu; cases h
      cases hx with | pure _ => ?_
      cases hy with
      | pure hp => rename_i p _ _ _; cases p <;> simp [Op.equalIn, Sem.run_bind, run_und hu, Result.andThen]
      | sl h hm => simp [Op.equalIn, Sem.run_bind, run_und hu, Result.andThen]
      | op h hm hn hc => simp [Op.equalIn, Sem.run_bind, run_und hu, Result.andThen]
      | opE hs => simp [Op.equalIn, Sem.run_bind, run_und hu, Result.andThen]
    · rename_i hu; cases h
      cases hy with | pure _ => ?_
      cases hx with
      | pure hp => simp [pureV] at hp
      | sl h hm => simp [Op.equalIn, Sem.run_bind, run_und hu, Result.andThen]
      | op h hm hn hc => simp [Op.equalIn, Sem.run_bind, run_und hu, Result.andThen]
      | opE hs => simp [Op.equalIn, Sem.run_bind, run_und hu, Result.andThen]
    · rename_i hu; cases h
      cases hx with | pure _ => ?_
      cases hy with
      | pure _ => rename_i p _; cases p <;> simp [Op.equalIn, Sem.run_bind, run_und hu, Result.andThen]
      | map h => simp [Op.equalIn, Sem.run_bind, run_und hu, Result.andThen]
    · rename_i hu; cases h; cases hx; cases hy
      simp [Op.equalIn, Sem.run_bind, run_und hu, Result.andThen]
    · rename_i hu; cases h; cases hx
      cases hy with
      | pure hp => simp [pureV] at hp
      | func _ _ _ _ => simp [Op.equalIn, Sem.run_bind, run_und hu, Result.andThen]
    · rename_i hu; cases h; cases hy
      cases hx with
      | pure hp => simp [pureV] at hp
      | func _ _ _ _ => simp [Op.equalIn, Sem.run_bind, run_und hu, Result.andThen]
    · rename_i fs xs ys hu
      cases hs : P.stoodInHeld t with
      | true => rw [hs] at h; cases h
      | false =>
        rw [hs] at h
        obtain ⟨xs', rfl, hx1⟩ := inv_agg hx
        obtain ⟨ys', rfl, hy1⟩ := inv_agg hy
        have hf : P.fieldsOf t = fs := by simp [Program.fieldsOf, hu]
        rw [run_equalIn_struct (P := P) w n t _ _ (by rw [hf]; exact hu) hs, hf]
        exact eqF_ok d fs.toList xs.toList ys.toList xs' ys' b h hx1 hy1 n hn' w
    · cases h
theorem eqF_ok : ∀ (d : Nat) (fs : List Field) (xs ys xs' ys' : List Value) (b : Bool), eqF P d fs xs ys = some b → LR ρ xs xs' → LR ρ ys ys' → ∀ (n : Nat), d ≤ n → ∀ w : World, (Op.eqFields n ⟨xs'⟩ ⟨ys'⟩ fs).run P w = .ok b w
  | 0, _, _, _, _, _, _, h, _, _, _, _, _ => by simp [eqF] at h
  | d + 1, [], _, _, _, _, _, h, _, _, _, _, _ => by
    simp only [eqF, Option.some.injEq] at h; subst h; simp [Op.eqFields]
  | d + 1, f :: fs, xs, ys, xs', ys', b, h, hx, hy, n, hn, w => by
    unfold eqF at h
    cases hnm : f.name == "_" with
    | true => rw [hnm] at h; cases h
    | false =>
      rw [hnm] at h
      simp only [cond_false] at h
      have hn' : f.name ≠ "_" := by simpa using hnm
      split at h
      · rename_i x y h1 h2
        obtain ⟨x', g1, g2⟩ := partM_ok h1 hx w
        obtain ⟨y', g3, g4⟩ := partM_ok h2 hy w
        split at h
        · rename_i he
          have ih := eqM_ok d f.type x y x' y' true he g2 g4 n (by omega) w
          have ih2 := eqF_ok d fs xs ys xs' ys' b h hx hy n (by omega) w
          unfold Op.eqFields
          rw [if_pos hn']
          simp [Sem.run_bind, g1, g3, Result.andThen, ih, ih2]
        · rename_i he
          cases h
          have ih := eqM_ok d f.type x y x' y' false he g2 g4 n (by omega) w
          unfold Op.eqFields
          rw [if_pos hn']
          simp [Sem.run_bind, g1, g3, Result.andThen, ih]
        · cases h
      · cases h
end
end
end Go.Sx
