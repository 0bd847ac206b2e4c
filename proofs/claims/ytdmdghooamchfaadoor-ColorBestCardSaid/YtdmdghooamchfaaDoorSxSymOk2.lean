/- What the machine makes of holes, part 2: every operation. -/
import Derived.Test.YtdmdghooamchfaaDoorSxSymOk
namespace Go.Sx
set_option linter.all false
open Go
set_option linter.unusedVariables false
set_option linter.unusedSimpArgs false
variable [Ora]
section
variable {P : Program} {base : Nat} {ρ : Ren} {m m' : Mem} {w : World}

theorem pk (k : IntKind) (n : Int) : pureV (.int k n) = true := rfl
theorem symUn_ok {op : UnOp} {x x' v : Value} (h : symUn m op x = some (v, m')) (hx : VR ρ x x') (hS : Sat m'.lg) (w : World) : ∃ r, (Op.unary op x').run P w = .ok r w ∧ VR ρ v r := by
  unfold symUn at h
  simp only at h
  split at h
  · obtain ⟨h1, h⟩ := cond_some h
    obtain ⟨b, rfl, e⟩ := tag_bool hx (Nat.eq_of_beq_eq_true h1)
    obtain ⟨u, e1, e2, r, e3, e4, _⟩ := letM_ok h hS
    simp only [List.map_cons, List.map_nil, e, evU, ev1, unM, ofV] at e1
    subst e1; cases e3
    exact ⟨_, (unM_ok (P := P) (ρ := ρ) (op := .not) (x := .bool b) (v := .bool !b) rfl (.pure rfl) w).1, e4 ρ⟩
  · obtain ⟨h1, h⟩ := cond_some h
    obtain ⟨k, n, rfl, e, _⟩ := tag_int hx (Nat.le_of_ble_eq_true h1)
    obtain ⟨u, e1, e2, r, e3, e4, e5⟩ := letM_ok h hS
    simp only [List.map_cons, List.map_nil, e, evU, ev1] at e1
    subst e1
    obtain ⟨r', g1, g2⟩ := ofV_toV (by rw [e2]; exact e5)
    rw [e3] at g2; cases g2
    exact ⟨_, (unM_ok (P := P) (ρ := ρ) g1 (.pure (pk k n)) w).1, e4 ρ⟩

theorem symConv_ok {s t : TypeId} {x x' v : Value} (h : symConv P m s t x = some (v, m')) (hx : VR ρ x x') (hS : Sat m'.lg) (w : World) : ∃ r, (convert s t x').run P w = .ok r w ∧ VR ρ v r := by
  unfold symConv at h
  split at h
  · rename_i j k hs ht
    obtain ⟨h1, h⟩ := cond_some h
    obtain ⟨j2, n, rfl, e, _⟩ := tag_int hx (Nat.le_of_ble_eq_true h1)
    obtain ⟨u, e1, e2, r, e3, e4, e5⟩ := letM_ok h hS
    simp only [List.map_cons, List.map_nil, e, evU] at e1
    subst e1; cases e3
    exact ⟨_, by simp [convert, Sem.run_bind, run_und hs, run_und ht, Result.andThen, Conv.intToInt], e4 ρ⟩
  · rename_i hs ht
    obtain ⟨h1, h⟩ := cond_some h
    cases h
    obtain ⟨b, rfl, e⟩ := tag_str hx (Nat.eq_of_beq_eq_true h1)
    exact ⟨_, by simp [convert, Sem.run_bind, run_und hs, run_und ht, Result.andThen], hx⟩
  · cases h

theorem sameTags_get {t : Nat} : ∀ {cs : List Value}, sameTags t cs = true → ∀ {i : Nat} {v : Value}, cs[i]? = some v → tagOf v = t
  | [], _, i, v, h => by simp at h
  | c :: r, hs, i, v, h => by
    obtain ⟨h1, h2⟩ := boolAnd (show (Nat.beq (tagOf c) t && sameTags t r) = true from hs)
    cases i with
    | zero => simp at h; subst h; exact Nat.eq_of_beq_eq_true h1
    | succ i => exact sameTags_get h2 (by simpa using h)

theorem sel_ok {t e : TypeId} {n tg : Nat} {cs : Array Value} {x' i i' v : Value} (hu : P.underlying t = some (.array n e)) (ha : isAggM P e = some false) (hsz : sizeM P e = some 1) (hl : cs.toList.length = n) (htg : sameTags tg cs.toList = true) (h10 : tg < 10)
    (hi8 : tagOf i < 8) (h : letM m tg .sel (i :: cs.toList) = some (v, m')) (hx : VR ρ (.agg cs) x') (hi : VR ρ i i') (hS : Sat m'.lg) (w : World) : ∃ r, (Instr.index t x' i').run P w = .ok r w ∧ VR ρ v r := by
  obtain ⟨k, z, rfl, e, _⟩ := tag_int hi hi8
  obtain ⟨u, e1, e2, r, e3, e4, e5⟩ := letM_ok h hS
  simp only [List.map_cons, e] at e1
  cases z with
  | negSucc z => simp only [evU] at e1; subst e1; cases e3
  | ofNat z =>
    simp only [evU] at e1
    by_cases hz : z < cs.toList.length
    · have hget : cs.toList[z]? = some cs.toList[z] := List.getElem?_eq_getElem hz
      have htag := sameTags_get htg hget
      have hm : indexM P t (.agg cs) (.int k (.ofNat z)) = some cs.toList[z] := by
        have hb : Nat.blt z n = true := Nat.ble_eq_true_of_le (by omega)
        simp only [indexM, hu, hsz, hb, cond_true, partM, ha, Nat.mul_one]
        exact hget
      obtain ⟨v', g1, g2⟩ := indexM_ok (P := P) hm hx (.pure rfl) w
      obtain ⟨f1, _⟩ := tag_val g2 (by omega)
      have : u = argU Ora.env cs.toList[z] := by
        rw [← e1, List.getD_eq_getElem?_getD, List.getElem?_map, hget]; rfl
      rw [this, f1] at e3
      cases e3
      exact ⟨_, g1, e4 ρ⟩
    · rw [List.getD_eq_getElem?_getD, List.getElem?_eq_none (by simp at hz ⊢; omega)] at e1
      subst e1; cases e3

theorem sizeD_one {e : TypeId} (h : Nat.beq (symIndex.sizeD P e) 1 = true) : sizeM P e = some 1 := by
  have h := Nat.eq_of_beq_eq_true h
  unfold symIndex.sizeD at h
  split at h
  · rename_i n hn; rw [hn, h]
  · cases h

theorem symIndex_ok {t : TypeId} {x x' i i' v : Value} (h : symIndex P m t x i = some (v, m')) (hx : VR ρ x x') (hi : VR ρ i i') (hS : Sat m'.lg) (w : World) : ∃ r, (Instr.index t x' i').run P w = .ok r w ∧ VR ρ v r := by
  unfold symIndex at h
  cases hq : !(Nat.blt (tagOf i) 8) with
  | true => rw [hq] at h; cases h
  | false =>
    have hi8 : tagOf i < 8 := by
      have : Nat.blt (tagOf i) 8 = true := by simpa using hq
      exact Nat.le_of_ble_eq_true this
    rw [hq] at h
    simp only [cond_false] at h
    split at h
    · rename_i hu
      obtain ⟨h1, h⟩ := cond_some h
      obtain ⟨s, rfl, f1⟩ := tag_str hx (Nat.eq_of_beq_eq_true h1)
      obtain ⟨k, z, rfl, f2, _⟩ := tag_int hi hi8
      obtain ⟨u, e1, e2, r, e3, e4, e5⟩ := letM_ok h hS
      simp only [List.map_cons, List.map_nil, f1, f2] at e1
      cases z with
      | negSucc z => simp only [evU] at e1; subst e1; cases e3
      | ofNat z =>
        simp only [evU] at e1
        split at e1
        · rename_i b hb
          subst e1; cases e3
          have hm : indexM P t (.string ⟨⟨s⟩⟩) (.int k (.ofNat z)) = some (.int .u8 b.toNat) := by
            simp only [indexM, hu, hb]
          obtain ⟨v', g1, g2⟩ := indexM_ok (P := P) (ρ := ρ) hm (.pure rfl) (.pure rfl) w
          cases inv_int g2
          exact ⟨_, g1, e4 ρ⟩
        · subst e1; cases e3
    · rename_i n e hu
      split at h
      · rename_i cs k he
        obtain ⟨h1, h⟩ := cond_some h
        obtain ⟨h1, h3⟩ := boolAnd h1
        obtain ⟨h1, h2⟩ := boolAnd h1
        exact sel_ok hu (by simp [isAggM, he]) (sizeD_one h3) (Nat.eq_of_beq_eq_true h1) h2 (by have := kTag_lt k; omega) hi8 h hx hi hS w
      · rename_i cs he
        obtain ⟨h1, h⟩ := cond_some h
        obtain ⟨h1, h3⟩ := boolAnd h1
        obtain ⟨h1, h2⟩ := boolAnd h1
        exact sel_ok hu (by simp [isAggM, he]) (sizeD_one h3) (Nat.eq_of_beq_eq_true h1) h2 (by omega) hi8 h hx hi hS w
      · cases h
    · cases h

theorem sub_ok {t : TypeId} (hu : P.underlying t = some .string) {s : List UInt8} {l h : Int} {u : U} {r : Value} {kl kh : IntKind} (e1 : subU s l h = u) (e3 : toV u = some r) : sliceM P t (.string ⟨⟨s⟩⟩) (some (.int kl l)) (some (.int kh h)) none = some r := by
  unfold subU at e1
  split at e1
  · rename_i l h
    split at e1
    · rename_i hh
      subst e1; cases e3
      have b1 : Nat.ble h (ByteArray.size ⟨⟨s⟩⟩) = true := Nat.ble_eq_true_of_le hh.2
      have b2 : Nat.ble l h = true := Nat.ble_eq_true_of_le hh.1
      simp only [sliceM, hu, boundM, b1, b2, cond_true]
    · subst e1; cases e3
  · subst e1; cases e3

theorem symSlice_ok {t : TypeId} {x x' v : Value} {lo hi mx lo' hi' mx' : Option Value} (h : symSlice P m t x lo hi mx = some (v, m')) (hx : VR ρ x x') (hlo : OR ρ lo lo') (hhi : OR ρ hi hi') (hmx : OR ρ mx mx') (hS : Sat m'.lg) (w : World) :
    ∃ r, (Instr.sliceAt t x' lo' hi' mx').run P w = .ok r w ∧ VR ρ v r := by
  have none_inv : ∀ {o : Option Value}, OR ρ none o → o = none := fun {o} h => by cases o <;> first | rfl | exact h.elim
  have some_inv : ∀ {y : Value} {o : Option Value}, OR ρ (some y) o → ∃ y', o = some y' ∧ VR ρ y y' := fun {y o} h => by cases o <;> first | exact h.elim | exact ⟨_, rfl, h⟩
  unfold symSlice at h
  split at h
  · rename_i hu
    cases none_inv hmx
    obtain ⟨h1, h⟩ := cond_some h
    obtain ⟨s, rfl, f1⟩ := tag_str hx (Nat.eq_of_beq_eq_true h1)
    have str_of : ∀ {y : Value}, VR ρ (.string ⟨⟨s⟩⟩) y → y = .string ⟨⟨s⟩⟩ := fun h => inv_str h
    split at h
    · cases h
      cases none_inv hlo; cases none_inv hhi
      have hm : sliceM P t (.string ⟨⟨s⟩⟩) none none none = some (.string ⟨⟨s⟩⟩) := by
        have e : ByteArray.size ⟨⟨s⟩⟩ = s.length := rfl
        simp [sliceM, hu, boundM, e]
      obtain ⟨v', g1, g2⟩ := sliceM_ok (P := P) (ρ := ρ) (lo' := none) (hi' := none) (mx' := none) hm (.pure rfl) trivial trivial trivial w
      cases inv_str g2
      exact ⟨_, g1, hx⟩
    · obtain ⟨h2, h⟩ := cond_some h
      obtain ⟨l', rfl, hl⟩ := some_inv hlo
      cases none_inv hhi
      obtain ⟨k, z, rfl, f2, _⟩ := tag_int hl (Nat.le_of_ble_eq_true h2)
      obtain ⟨u, e1, e2, r, e3, e4, e5⟩ := letM_ok h hS
      simp only [List.map_cons, List.map_nil, f1, f2, evU] at e1
      have hm := sub_ok (P := P) (kl := k) (kh := .i64) hu e1 e3
      have hm2 : sliceM P t (.string ⟨⟨s⟩⟩) (some (.int k z)) none none = some r := by
        rw [← hm]
        have e : ByteArray.size ⟨⟨s⟩⟩ = s.length := rfl
        have b : Nat.ble s.length s.length = true := Nat.ble_eq_true_of_le (Nat.le_refl _)
        have e6 : ((s.length : Nat) : Int) = Int.ofNat s.length := rfl
        simp only [sliceM, hu, boundM, e, e6, b, cond_true]
      obtain ⟨v', g1, g2⟩ := sliceM_ok (P := P) (ρ := ρ) (lo' := some (.int k z)) (hi' := none) (mx' := none) hm2 (.pure rfl) (VR.pure rfl : VR ρ _ _) trivial trivial w
      have : VR ρ r v' := g2
      have hp := toV_pure e3
      cases g2 with
      | pure _ => exact ⟨_, g1, e4 ρ⟩
      | _ => simp [pureV, ixp] at hp
    · obtain ⟨h2, h⟩ := cond_some h
      obtain ⟨h', rfl, hh⟩ := some_inv hhi
      cases none_inv hlo
      obtain ⟨k, z, rfl, f2, _⟩ := tag_int hh (Nat.le_of_ble_eq_true h2)
      obtain ⟨u, e1, e2, r, e3, e4, e5⟩ := letM_ok h hS
      have f0 : argU Ora.env (.int .i64 0) = .int .i64 0 := rfl
      simp only [List.map_cons, List.map_nil, f1, f2, f0, evU] at e1
      have hm := sub_ok (P := P) (kl := .i64) (kh := k) hu e1 e3
      have hm2 : sliceM P t (.string ⟨⟨s⟩⟩) none (some (.int k z)) none = some r := by
        rw [← hm]
        have e6 : (0 : Int) = Int.ofNat 0 := rfl
        cases z with
        | negSucc z => simp only [sliceM, hu, boundM]
        | ofNat z =>
          have b0 : Nat.ble 0 z = true := Nat.ble_eq_true_of_le (Nat.zero_le _)
          simp only [sliceM, hu, boundM, e6]
          cases Nat.ble z (ByteArray.size ⟨⟨s⟩⟩) <;> simp [b0]
      obtain ⟨v', g1, g2⟩ := sliceM_ok (P := P) (ρ := ρ) (lo' := none) (hi' := some (.int k z)) (mx' := none) hm2 (.pure rfl) trivial (VR.pure rfl : VR ρ _ _) trivial w
      have hp := toV_pure e3
      cases g2 with
      | pure _ => exact ⟨_, g1, e4 ρ⟩
      | _ => simp [pureV, ixp] at hp
    · obtain ⟨h2, h⟩ := cond_some h
      obtain ⟨h2, h3⟩ := boolAnd h2
      obtain ⟨h', rfl, hh⟩ := some_inv hhi
      obtain ⟨l', rfl, hl⟩ := some_inv hlo
      obtain ⟨k, z, rfl, f2, _⟩ := tag_int hl (Nat.le_of_ble_eq_true h2)
      obtain ⟨j, y, rfl, f3, _⟩ := tag_int hh (Nat.le_of_ble_eq_true h3)
      obtain ⟨u, e1, e2, r, e3, e4, e5⟩ := letM_ok h hS
      simp only [List.map_cons, List.map_nil, f1, f2, f3, evU] at e1
      have hm := sub_ok (P := P) (kl := k) (kh := j) hu e1 e3
      obtain ⟨v', g1, g2⟩ := sliceM_ok (P := P) (ρ := ρ) (lo' := some (.int k z)) (hi' := some (.int j y)) (mx' := none) hm (.pure rfl) (VR.pure rfl : VR ρ _ _) (VR.pure rfl : VR ρ _ _) trivial w
      have hp := toV_pure e3
      cases g2 with
      | pure _ => exact ⟨_, g1, e4 ρ⟩
      | _ => simp [pureV, ixp] at hp
  · cases h

theorem symBuiltin_ok {b : Builtin} {vs vs' : List Value} {tys : List TypeId} {ty : TypeId} {ks : Array Bool} {v : Value} (hr : HR P base ρ m.H w) (h : symBuiltin P m b vs tys = some (v, m')) (hx : LR ρ vs vs') (hS : Sat m'.lg) :
    ∃ s : Sem Value, builtin b ⟨tys⟩ ty ks ⟨vs'⟩ = (do pure (.value (← s))) ∧ ∃ r, s.run P w = .ok r w ∧ VR ρ v r := by
  unfold symBuiltin at h
  split at h
  · obtain ⟨x', r1, rfl, h1, h2⟩ := hx.tail
    cases h2.nil_inv
    split at h
    · rename_i hu
      obtain ⟨h3, h⟩ := cond_some h
      obtain ⟨s, rfl, f1⟩ := tag_str h1 (Nat.eq_of_beq_eq_true h3)
      obtain ⟨u, e1, e2, r, e3, e4, e5⟩ := letM_ok h hS
      simp only [List.map_cons, List.map_nil, f1, evU] at e1
      subst e1; cases e3
      rename_i t rest _ _
      have hm : lenM P m t (.string ⟨⟨s⟩⟩) = some (.int .i64 s.length) := by simp [lenM, hu]
      obtain ⟨g1, _⟩ := lenM_ok (ρ := ρ) (ty := ty) (tys := rest) hr hm (.pure rfl)
      exact ⟨_, rfl, _, g1, e4 ρ⟩
    · cases h
  · obtain ⟨x', r1, rfl, h1, h2⟩ := hx.tail
    obtain ⟨y', r2, rfl, h3, h4⟩ := h2.tail
    cases h4.nil_inv
    obtain ⟨h5, h⟩ := cond_some h
    obtain ⟨h5, h6⟩ := boolAnd h5
    have h5 := Nat.le_of_ble_eq_true h5
    have h6 := Nat.eq_of_beq_eq_true h6
    obtain ⟨k, a, rfl, f1, q1⟩ := tag_int h1 h5
    obtain ⟨j, c, rfl, f2, q2⟩ := tag_int h3 (h6 ▸ h5)
    obtain ⟨u, e1, e2, r, e3, e4, e5⟩ := letM_ok h hS
    simp only [List.map_cons, List.map_nil, f1, f2, evU] at e1
    subst e1; cases e3
    obtain ⟨g1, _⟩ := maxM_ok (P := P) (ρ := ρ) (ty := ty) (tys := ⟨tys⟩) (vs := [.int k a, .int j c]) rfl (.cons (.pure rfl) (.cons (.pure rfl) .nil)) w
    exact ⟨_, rfl, _, g1, e4 ρ⟩
  · obtain ⟨x', r1, rfl, h1, h2⟩ := hx.tail
    obtain ⟨y', r2, rfl, h3, h4⟩ := h2.tail
    cases h4.nil_inv
    obtain ⟨h5, h⟩ := cond_some h
    obtain ⟨h5, h6⟩ := boolAnd h5
    have h5 := Nat.le_of_ble_eq_true h5
    have h6 := Nat.eq_of_beq_eq_true h6
    obtain ⟨k, a, rfl, f1, q1⟩ := tag_int h1 h5
    obtain ⟨j, c, rfl, f2, q2⟩ := tag_int h3 (h6 ▸ h5)
    obtain ⟨u, e1, e2, r, e3, e4, e5⟩ := letM_ok h hS
    simp only [List.map_cons, List.map_nil, f1, f2, evU] at e1
    subst e1; cases e3
    obtain ⟨g1, _⟩ := minM_ok (P := P) (ρ := ρ) (ty := ty) (tys := ⟨tys⟩) (vs := [.int k a, .int j c]) rfl (.cons (.pure rfl) (.cons (.pure rfl) .nil)) w
    exact ⟨_, rfl, _, g1, e4 ρ⟩
  · cases h

/-! ### places by an index that is not known -/
theorem argI_of {v : Value} {k : IntKind} {n : Int} (h : argU Ora.env v = .int k n) : argI Ora.env v = some n := by
  cases v with
  | complex k i t =>
    cases k with
    | f64 =>
      have h : Ora.env i = .int _ n := h
      simp only [argI, h]
    | f32 => cases h
  | int j n => cases h; rfl
  | _ => cases h
theorem argU_of {v : Value} {n : Int} (h : argI Ora.env v = some n) : ∃ k, argU Ora.env v = .int k n := by
  cases v with
  | complex k i t =>
    cases k with
    | f64 =>
      simp only [argI] at h
      split at h
      · rename_i k z he; cases h; exact ⟨k, he⟩
      · cases h
    | f32 => cases h
  | int j n => cases h; exact ⟨j, rfl⟩
  | _ => cases h
theorem ixAt_ok {a : Addr} {s n : Nat} {i i' v : Value} (h : ixAt m a s n i = some (v, m')) (hi : VR ρ i i') (hS : Sat m'.lg) : v = ixp a s i n ∧ ∃ k z, i' = .int k (.ofNat z) ∧ z < n ∧ argI Ora.env i = some (.ofNat z) := by
  unfold ixAt at h
  cases hq : !(Nat.blt (tagOf i) 8) with
  | true => rw [hq] at h; cases h
  | false =>
    have hi8 : tagOf i < 8 := by
      have : Nat.blt (tagOf i) 8 = true := by simpa using hq
      exact Nat.le_of_ble_eq_true this
    rw [hq] at h
    simp only [cond_false] at h
    split at h
    · rename_i b H k W hh lg hl
      split at h
      · rename_i lg' hb
        cases h
        obtain ⟨u, e1, e2, r, e3, e4, _⟩ := letM_ok hl (SatL.le hS (brL_le hb))
        have hbt := brL_ok (ρ := ρ) hb (e4 ρ) hS
        subst hbt
        obtain ⟨k0, z, rfl, f1, _⟩ := tag_int hi hi8
        have f0 : argU Ora.env (.int .i64 (.ofNat n)) = .int .i64 (.ofNat n) := rfl
        simp only [List.map_cons, List.map_nil, f1, f0, evU] at e1
        subst e1
        have e3 : (decide (0 ≤ z) && decide (z < Int.ofNat n)) = true := by
          have := Option.some.inj e3
          exact Value.bool.inj this
        simp only [Bool.and_eq_true, decide_eq_true_eq] at e3
        cases z with
        | negSucc z => exact absurd e3.1 (by simp)
        | ofNat z => exact ⟨rfl, k0, z, rfl, by have := e3.2; simpa using this, argI_of f1⟩
      · cases h
    · cases h
theorem symIndexAt_ok {t : TypeId} {x x' i i' v : Value} (h : symIndexAt P m t x i = some (v, m')) (hx : VR ρ x x') (hi : VR ρ i i') (hS : Sat m'.lg) (w : World) : ∃ r, (Instr.indexAt t x' i').run P w = .ok r w ∧ VR ρ v r := by
  unfold symIndexAt at h
  split at h
  · rename_i n e a hu
    split at h
    · rename_i s hs hsp
      obtain ⟨rfl, k, z, rfl, hz, he⟩ := ixAt_ok h hi hS
      obtain ⟨l, hl, _, rfl⟩ := inv_ptr hx
      have hb : Nat.blt z n = true := Nat.ble_eq_true_of_le hz
      have hm : indexAtM P t (.pointer (some a)) (.int k (.ofNat z)) = some (.pointer (some ⟨a.block, a.off + z * s, none⟩)) := by
        simp only [indexAtM, hu, hs, hsp, hb, cond_true, plus, forceN_eq]
      obtain ⟨v', g1, g2⟩ := indexAtM_ok (P := P) hm hx (.pure rfl) w
      obtain ⟨l2, hl2, _, rfl⟩ := inv_ptr g2
      have hl2 : ρ a.block = some l2 := hl2
      rw [hl] at hl2; cases hl2
      exact ⟨_, g1, .ixp hl hsp he hz rfl⟩
    · cases h
  · rename_i e a n c hu
    split at h
    · rename_i s hs hsp
      cases hc : Nat.beq c (OPEN + 2) with
      | true => rw [hc] at h; cases h
      | false =>
        rw [hc] at h
        obtain ⟨rfl, k, z, rfl, hz, he⟩ := ixAt_ok h hi hS
        have hb : Nat.blt z n = true := Nat.ble_eq_true_of_le hz
        have hm : indexAtM P t (.slice (some a) n c) (.int k (.ofNat z)) = some (.pointer (some ⟨a.block, a.off + z * s, none⟩)) := by
          simp only [indexAtM, hu, hs, hsp, hb, cond_true, plus, forceN_eq]
        obtain ⟨v', g1, g2⟩ := indexAtM_ok (P := P) hm hx (.pure rfl) w
        obtain ⟨l2, hl2, _, rfl⟩ := inv_ptr g2
        have hl2 : ρ a.block = some l2 := hl2
        exact ⟨_, g1, .ixp hl2 hsp he hz rfl⟩
    · cases h
  · cases h
theorem inv_ixp {a : Addr} {s n : Nat} {i v' : Value} (h : VR ρ (ixp a s i n) v') : ∃ l z, ρ a.block = some l ∧ a.spot = none ∧ argI Ora.env i = some (.ofNat z) ∧ z < n ∧ v' = .pointer (some ⟨l.blk, a.off + z * s + l.sh, none⟩) := by
  generalize hx : ixp a s i n = x at h
  cases h with
  | ixp h hs hi hz hv =>
    simp only [ixp, Value.func.injEq, Array.mk.injEq, List.cons.injEq, Value.pointer.injEq, Option.some.injEq, Value.int.injEq, Int.ofNat.injEq, true_and, and_true] at hx
    obtain ⟨rfl, rfl, rfl, rfl⟩ := hx
    exact ⟨_, _, h, hs, hi, hz, hv⟩
  | pure hp => subst hx; simp [ixp, pureV] at hp
  | _ => simp [ixp] at hx
theorem symFieldAt_ok {s : TypeId} {x x' v : Value} {i : Nat} (h : symFieldAt P m s x i = some (v, m')) (hx : VR ρ x x') (w : World) : ∃ r, (Instr.fieldAt s x' i).run P w = .ok r w ∧ VR ρ v r := by
  unfold symFieldAt at h
  split at h
  · rename_i a k j n
    split at h
    · rename_i fs hu
      split at h
      · rename_i f hf hsp
        split at h
        · rename_i z hz
          cases h
          obtain ⟨l, y, h1, h2, h3, h4, rfl⟩ := inv_ixp (n := n) (s := k) (i := j) hx
          have hm : fieldAtM P s (.pointer (some ⟨a.block, a.off + y * k, none⟩)) i = some (.pointer (some ⟨a.block, a.off + y * k + f.offset, none⟩)) := by
            simp only [fieldAtM, hu, hf, hz, plus, forceN_eq]
          obtain ⟨v', g1, g2⟩ := fieldAtM_ok (P := P) (ρ := ρ) hm (.ptr h1) w
          obtain ⟨l2, hl2, _, rfl⟩ := inv_ptr g2
          have hl2 : ρ a.block = some l2 := hl2
          rw [h1] at hl2; cases hl2
          refine ⟨_, g1, ?_⟩
          simp only [plus, forceN_eq]
          refine .ixp (a := ⟨a.block, a.off + f.offset, none⟩) h1 rfl h3 h4 ?_
          simp only [Value.pointer.injEq, Option.some.injEq, Addr.mk.injEq, true_and, and_true]
          omega
        · cases h
      · cases h
    · cases h
  · cases h
theorem strideL_get {cs : List Value} {s : Nat} : ∀ {n o : Nat} {l : List Value}, strideL cs s o n = some l → l.length = n ∧ ∀ z, z < n → cs[o + z * s]? = l[z]?
  | 0, o, l, h => by cases h; exact ⟨rfl, fun z hz => by omega⟩
  | n + 1, o, l, h => by
    unfold strideL at h
    split at h
    · rename_i v r hv hr
      cases h
      obtain ⟨h1, h2⟩ := strideL_get hr
      refine ⟨by simp [h1], fun z hz => ?_⟩
      cases z with
      | zero => simpa using hv
      | succ z =>
        have := h2 z (by omega)
        rw [Nat.succ_mul, show o + (z * s + s) = o + s + z * s by omega]
        simpa using this
    · cases h
theorem selCells_ok {cs cs' : List Value} {s n : Nat} {i : Value} {z : Nat} (he : argI Ora.env i = some (.ofNat z)) (hz : z < n) (hl : LR ρ cs cs') : ∀ {k o : Nat} {m m' : Mem} {r : List Value}, selCells m cs s n i o k = some (r, m') → Sat m'.lg →
    LR ρ r ((cs'.drop (o + z * s)).take k) ∧ r.length = k
  | 0, o, m, m', r, h, hS => by cases h; exact ⟨by simpa using LR.nil, rfl⟩
  | k + 1, o, m, m', r, h, hS => by
    unfold selCells at h
    split at h
    · rename_i v l hstr
      obtain ⟨hq, h⟩ := cond_some h
      obtain ⟨hq, h10⟩ := boolAnd hq
      have h10 : tagOf v < 10 := Nat.le_of_ble_eq_true h10
      split at h
      · rename_i hh m1 h1
        split at h
        · rename_i r2 m2 h2
          cases h
          obtain ⟨ih1, ih2⟩ := selCells_ok he hz hl h2 hS
          obtain ⟨u, e1, e2, rr, e3, e4, _⟩ := letM_ok h1 (SatL.le hS (selCells_le h2).1)
          obtain ⟨g1, g2⟩ := strideL_get hstr
          have hget := g2 z hz
          have hzl : z < (v :: l).length := by rw [g1]; exact hz
          rw [List.getElem?_eq_getElem hzl] at hget
          obtain ⟨c', f1, f2⟩ := hl.get hget
          have htag := sameTags_get hq (List.getElem?_eq_getElem hzl)
          obtain ⟨t1, _⟩ := tag_val f2 (by omega)
          obtain ⟨ki, ei⟩ := argU_of he
          simp only [List.map_cons, ei, evU] at e1
          have e1 : u = argU Ora.env (v :: l)[z] := by
            rw [← e1]
            show (List.map (argU Ora.env) (v :: l)).getD z .none = _
            rw [List.getD_eq_getElem?_getD, List.getElem?_map, List.getElem?_eq_getElem hzl]; rfl
          rw [e1, t1] at e3
          cases e3
          refine ⟨?_, by simp [ih2]⟩
          have : (cs'.drop (o + z * s)).take (k + 1) = rr :: (cs'.drop (o + 1 + z * s)).take k := by
            rw [List.drop_eq_getElem_cons (List.getElem?_eq_some_iff.1 f1).1, List.take_succ_cons, (List.getElem?_eq_some_iff.1 f1).2, show o + z * s + 1 = o + 1 + z * s by omega]
          rw [this]
          exact .cons (e4 ρ) ih1
        · cases h
      · cases h
    · cases h
theorem load_of {t : TypeId} {a : Addr} {l : Loc} {z s n k : Nat} {i : Value} {cs hs : List Value} (h : HR P base ρ m.H w) (hr : readM m a ((n - 1) * s + k) = some cs) (hl : ρ a.block = some l) (he : argI Ora.env i = some (.ofNat z)) (hz : z < n) (hc : selCells m cs s n i 0 k = some (hs, m')) (hS : Sat m'.lg) :
    ∃ rs, LR ρ hs rs ∧ rs.length = k ∧ ∀ (j : Nat) (v' : Value), rs[j]? = some v' → w.cell? ⟨l.blk, a.off + z * s + l.sh + j, none⟩ = some v' := by
  obtain ⟨r', h1, h2, h3⟩ := read_ok h hr hl
  obtain ⟨g1, g2⟩ := selCells_ok he hz h1 hc hS
  rw [Nat.zero_add] at g1
  refine ⟨_, g1, g1.1 ▸ g2, fun j v' hj => ?_⟩
  have hjk : j < k := by
    have := (List.getElem?_eq_some_iff.1 hj).1
    simp at this; omega
  rw [List.getElem?_take_of_lt hjk, List.getElem?_drop] at hj
  have := h3 _ v' hj
  rw [show a.off + z * s + l.sh + j = a.off + l.sh + (z * s + j) by omega]
  exact this
theorem symLoad_ok {t : TypeId} {x x' v : Value} (h : HR P base ρ m.H w) (ho : symLoad P m t x = some (v, m')) (hx : VR ρ x x') (hS : Sat m'.lg) : ∃ r, (Instr.loadAt t x').run P w = .ok r w ∧ VR ρ v r := by
  unfold symLoad at ho
  split at ho
  · rename_i a s i n
    obtain ⟨l, z, h1, h2, h3, h4, rfl⟩ := inv_ixp (n := n) (s := s) (i := i) hx
    split at ho
    · rename_i ha
      split at ho
      · rename_i cs hr
        split at ho
        · rename_i hh m2 hc
          cases ho
          obtain ⟨rs, g1, g2, g3⟩ := load_of (t := t) h hr h1 h3 h4 hc hS
          obtain ⟨v', r2, rfl, e1, e2⟩ := g1.tail
          refine ⟨v', ?_, e1⟩
          have := g3 0 v' rfl
          simp [Instr.loadAt, Instr.sureAddr, loadVar, Sem.run_bind, run_agg ha, Result.andThen, run_load, show w.cell? ⟨l.blk, a.off + z * s + l.sh, none⟩ = some v' from by simpa using this]
        · cases ho
      · cases ho
    · rename_i zz ha hn
      split at ho
      · rename_i cs hr
        split at ho
        · rename_i hh m2 hc
          cases ho
          obtain ⟨rs, g1, g2, g3⟩ := load_of (t := t) h hr h1 h3 h4 hc hS
          refine ⟨.agg ⟨rs⟩, ?_, .agg g1.1 g1.2⟩
          simp [Instr.loadAt, Instr.sureAddr, loadVar, Sem.run_bind, run_agg ha, run_size hn, Result.andThen, load_cells g2 g3]
        · cases ho
      · cases ho
    · cases ho
  · cases ho

/-- Every operation on holes. -/
theorem symM_ok {fr : Fr} {g : Operand → Value} {o : Oper} {v : Value} (h : HR P base ρ m.H w) (ho : symM P fr m o.op = some (v, m')) (hg : FR ρ fr g o.op) (hS : Sat m'.lg) : NOk P base ρ m w (execOp g o) v m' := by
  obtain ⟨_, lg, rfl⟩ := symM_le ho
  have hst : St P base ρ ρ m (m.wLg lg) w w := St.wLg h lg
  obtain ⟨dst, op, ty, pos, af, gd⟩ := o
  simp only at ho hg
  have hx1 : ∀ {x}, x ∈ op.operands.toList → VR ρ (ev fr x) (g x) := fun hx => hg _ hx
  have fin : ∀ {s : Sem Value}, (∃ r, s.run P w = .ok r w ∧ VR ρ v r) → NOk P base ρ m w (do pure (.value (← s))) v (m.wLg lg) := fun {s} ⟨r, h1, h2⟩ => NOk.of ⟨r, ρ, w, h1, h2, hst⟩
  unfold symM at ho
  split at ho
  · rename_i c a b
    have hc := hx1 (x := c) (by simp [Op.operands])
    unfold symPick at ho
    obtain ⟨H, n, W, hi, l0⟩ := m
    simp only at ho
    split at ho
    · rename_i l1 hb
      simp only [Option.some.injEq, Prod.mk.injEq] at ho
      obtain ⟨rfl, ho⟩ := ho
      have hS1 : Sat l1 := by
        have : l1 = (Mem.wLg ⟨H, n, W, hi, l0⟩ lg).lg := by rw [← ho]
        rw [this]; exact hS
      have := brL_ok hb hc hS1
      exact ⟨g a, ρ, w, .inl (by simp [execOp, this, asBool]), hx1 (by simp [Op.operands]), hst⟩
    · rename_i l1 hb
      simp only [Option.some.injEq, Prod.mk.injEq] at ho
      obtain ⟨rfl, ho⟩ := ho
      have hS1 : Sat l1 := by
        have : l1 = (Mem.wLg ⟨H, n, W, hi, l0⟩ lg).lg := by rw [← ho]
        rw [this]; exact hS
      have := brL_ok hb hc hS1
      exact ⟨g b, ρ, w, .inl (by simp [execOp, this, asBool]), hx1 (by simp [Op.operands]), hst⟩
    · cases ho
  · rename_i op t x y yt
    have hx := hx1 (x := x) (by simp [Op.operands])
    have hy := hx1 (x := y) (by simp [Op.operands])
    refine fin (s := do eqGuard op t x y (g x) (g y); binOp op t (g x) (g y)) ?_
    split at ho
    · rename_i r hr; cases ho; exact symBin_ok hr hx hy hS w
    · rename_i hr; exact symEq_ok ho hx hy hr hS w
  · rename_i op t x
    exact fin (s := Op.unary op (g x)) (symUn_ok ho (hx1 (by simp [Op.operands])) hS w)
  · exact fin (symConv_ok ho (hx1 (by simp [Op.operands])) hS w)
  · rename_i t x lo hi mx
    exact fin (s := Instr.sliceAt t (g x) (lo.map g) (hi.map g) (mx.map g)) (symSlice_ok ho (hx1 (x := x) (by simp [Op.operands])) (evO_OR (g := g) fun y hy => hx1 (by simp [Op.operands] at hy ⊢; exact .inr (.inl hy))) (evO_OR (g := g) fun y hy => hx1 (by simp [Op.operands] at hy ⊢; exact .inr (.inr (.inl hy)))) (evO_OR (g := g) fun y hy => hx1 (by simp [Op.operands] at hy ⊢; exact .inr (.inr (.inr hy)))) hS w)
  · exact fin (symIndex_ok ho (hx1 (by simp [Op.operands])) (hx1 (by simp [Op.operands])) hS w)
  · exact fin (symIndexAt_ok ho (hx1 (by simp [Op.operands])) (hx1 (by simp [Op.operands])) hS w)
  · exact fin (symFieldAt_ok ho (hx1 (by simp [Op.operands])) w)
  · rename_i t x
    exact fin (s := Instr.loadAt t (g x)) (symLoad_ok h ho (hx1 (by simp [Op.operands])) hS)
  · rename_i b xs tys
    have l1 := evL_LR (ρ := ρ) (fr := fr) (g := g) (xs := xs.toList) fun x hx => hx1 (by show x ∈ (#[] ++ xs : Array Operand).toList; simpa using hx)
    obtain ⟨ks, e2⟩ : ∃ ks, execOp g ⟨dst, .call ⟨.builtin b, xs, tys⟩, ty, pos, af, gd⟩ = builtin b tys ty ks (xs.map g) := ⟨_, rfl⟩
    obtain ⟨s, e, hs⟩ := symBuiltin_ok (ty := ty) (ks := ks) h ho l1 hS
    have e1 : xs.map g = ⟨xs.toList.map g⟩ := by apply Array.ext'; simp
    rw [e2, e1]
    have e3 : tys = ⟨tys.toList⟩ := rfl
    rw [e3, e]
    exact fin hs
  · cases ho
end
end Go.Sx
