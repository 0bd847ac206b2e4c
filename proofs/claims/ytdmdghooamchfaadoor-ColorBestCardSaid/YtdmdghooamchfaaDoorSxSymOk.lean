/- What the machine makes of holes is what the program makes of what they stand for. -/
import Derived.Test.YtdmdghooamchfaaDoorSxEv
namespace Go.Sx
set_option linter.all false
open Go
set_option linter.unusedVariables false
set_option linter.unusedSimpArgs false
variable [Ora]

/-! ### the machine's own operations leave the log alone -/
theorem newM_lg {m m' : Mem} {ab : AB} {k : Nat → Value} {v : Value} (h : newM m ab k = some (v, m')) : m'.lg = m.lg := by
  obtain ⟨_, _, rfl⟩ := newM_eq h; rfl
theorem setM_lg {m m' : Mem} {id : Nat} {ab : AB} (h : setM m id ab = some m') : m'.lg = m.lg := by
  obtain ⟨_, rfl⟩ := setM_eq h; rfl
theorem writeM_lg {m m' : Mem} {a : Addr} {vs : List Value} (h : writeM m a vs = some m') : m'.lg = m.lg := by
  unfold writeM at h
  split at h
  · obtain ⟨_, h⟩ := cond_some h
    rw [forceL_eq] at h
    exact setM_lg h
  · cases h
theorem storeM_lg {P : Program} {m m' : Mem} {t : TypeId} {a : Addr} {v : Value} (h : storeM P m t a v = some m') : m'.lg = m.lg := by
  unfold storeM at h
  split at h
  · obtain ⟨_, h⟩ := cond_some h; exact writeM_lg h
  · cases h
theorem noM_lg {m m' : Mem} {o : Option Value} {v : Value} (h : noM o m = some (v, m')) : m'.lg = m.lg := by
  obtain ⟨_, rfl⟩ := noM_some h; rfl
theorem buildSliceM_lg {P : Program} {m m' : Mem} {t : TypeId} {n : Nat} {ps : List (Nat × Value)} {v : Value} (h : buildSliceM P m t n ps = some (v, m')) : m'.lg = m.lg := by
  unfold buildSliceM at h
  split at h
  · split at h
    · obtain ⟨_, h⟩ := cond_some h
      split at h
      · exact newM_lg h
      · cases h
    · cases h
  · cases h
theorem makeSliceM_lg {P : Program} {m m' : Mem} {t : TypeId} {l c v : Value} (h : makeSliceM P m t l c = some (v, m')) : m'.lg = m.lg := by
  unfold makeSliceM at h
  split at h
  · split at h
    · obtain ⟨_, h⟩ := cond_some h
      split at h
      · rw [forceL_eq] at h; exact newM_lg h
      · cases h
    · cases h
  · cases h
theorem convM_lg {P : Program} {m m' : Mem} {s t : TypeId} {x v : Value} (h : convM P m s t x = some (v, m')) : m'.lg = m.lg := by
  unfold convM at h
  split at h
  · cases h; rfl
  · cases h; rfl
  · cases h; rfl
  · split at h
    · split at h
      · rw [forceL_eq] at h; exact newM_lg h
      · cases h
    · cases h
  · split at h <;> cases h; rfl
  · split at h
    · split at h
      · split at h <;> cases h; rfl
      · cases h
    · cases h
  · cases h
theorem appendM_lg {P : Program} {m m' : Mem} {t t2 : TypeId} {x y v : Value} (h : appendM P m t t2 x y = some (v, m')) : m'.lg = m.lg := by
  unfold appendM at h
  split at h
  · rename_i e0 d2 _ _
    cases hq : isSeqD d2 with
    | false => rw [hq] at h; cases h
    | true =>
    rw [hq] at h
    simp only [Bool.not_true, cond_false] at h
    split at h
    · rename_i i a n c _
      split at h
      · rename_i k new z _ _
        obtain ⟨_, h⟩ := cond_some h
        cases hk : Nat.beq k 0 with
        | true =>
          rw [hk] at h
          simp only [cond_true] at h
          split at h
          · obtain ⟨_, h⟩ := cond_some h; cases h; rfl
          · obtain ⟨_, h⟩ := cond_some h; cases h; rfl
        | false =>
          rw [hk] at h
          simp only [cond_false] at h
          split at h
          · obtain ⟨_, h⟩ := cond_some h
            rw [forceL_eq] at h; exact newM_lg h
          · cases hc : Nat.blt c OPEN with
            | true =>
              rw [hc] at h
              simp only [cond_true] at h
              cases hn : Nat.ble (n + k) c with
              | true =>
                rw [hn] at h
                simp only [cond_true] at h
                split at h
                · rename_i m1 _ hw; cases h; exact writeM_lg hw
                · cases h
              | false =>
                rw [hn] at h
                simp only [cond_false] at h
                split at h
                · rw [forceL_eq] at h; exact newM_lg h
                · cases h
            | false =>
              rw [hc] at h
              simp only [cond_false] at h
              obtain ⟨_, h⟩ := cond_some h
              split at h
              · obtain ⟨_, h⟩ := cond_some h
                rw [forceL_eq] at h
                rw [newM_lg h, killM_eq]
              · cases h
      · cases h
    · cases h
  · cases h
theorem copyM_lg {P : Program} {m m' : Mem} {t : TypeId} {x y v : Value} (h : copyM P m t x y = some (v, m')) : m'.lg = m.lg := by
  unfold copyM at h
  split at h
  · split at h
    · split at h
      · split at h
        · obtain ⟨_, h⟩ := cond_some h; cases h; rfl
        · rename_i k cs hq0 _ ad
          cases hz : Nat.beq cs.length 0 with
          | true => rw [hz] at h; cases h; rfl
          | false =>
            rw [hz] at h
            simp only [cond_false] at h
            obtain ⟨_, h⟩ := cond_some h
            split at h
            · rename_i hw; cases h; exact writeM_lg hw
            · cases h
      · cases h
    · cases h
  · cases h
theorem unsafeStrM_lg {P : Program} {m m' : Mem} {pt : TypeId} {p l v : Value} (h : unsafeStrM P m pt p l = some (v, m')) : m'.lg = m.lg := by
  unfold unsafeStrM at h
  split at h
  · cases h; rfl
  · split at h
    · split at h
      · obtain ⟨_, h⟩ := cond_some h
        split at h
        · split at h
          · rename_i hset; cases h; exact setM_lg hset
          · cases h
        · cases h
      · cases h
    · cases h
  · cases h
theorem builtinM_lg {P : Program} {m m' : Mem} {b : Builtin} {vs : List Value} {tys : List TypeId} {v : Value} (h : builtinM P m b vs tys = some (v, m')) : m'.lg = m.lg := by
  unfold builtinM at h
  split at h
  · exact noM_lg h
  · exact appendM_lg h
  · exact copyM_lg h
  · exact noM_lg h
  · exact noM_lg h
  · unfold sliceDataM at h
    split at h
    · cases h; rfl
    · rename_i a n c
      cases hq : Nat.beq n 0 || Nat.beq c 0 || Nat.beq c (OPEN + 2) with
      | true => rw [hq] at h; cases h
      | false => rw [hq] at h; cases h; rfl
    · cases h
  · exact unsafeStrM_lg h
  · cases h
theorem opM_lg {P : Program} {fr : Fr} {m m' : Mem} {o : Op} {v : Value} (h : opM P fr m o = some (v, m')) : m'.lg = m.lg := by
  unfold opM at h
  split at h
  · cases h; rfl
  · cases h; rfl
  · unfold oPick at h; split at h <;> cases h <;> rfl
  · unfold oAlloc at h
    split at h
    · exact newM_lg h
    · cases h
  · unfold oBox at h
    obtain ⟨_, h⟩ := cond_some h
    exact newM_lg h
  · exact noM_lg h
  · exact buildSliceM_lg h
  · unfold oLoad at h
    split at h
    · exact noM_lg h
    · cases h
  · unfold oStore at h
    split at h
    · obtain ⟨h, _⟩ := memM_some h; exact storeM_lg h
    · cases h
  · unfold oNil at h; split at h <;> cases h <;> rfl
  · unfold oBin at h
    rename_i op t x y yt
    cases hq : isEq op with
    | true => rw [hq] at h; simp only [cond_true] at h; obtain ⟨_, h⟩ := cond_some h; exact noM_lg h
    | false => rw [hq] at h; exact noM_lg h
  · exact noM_lg h
  · exact convM_lg h
  · unfold oIface at h
    split at h
    · split at h
      · cases h
      · obtain ⟨_, h⟩ := cond_some h; cases h; rfl
    · cases h
  · cases h; rfl
  · exact makeSliceM_lg h
  · exact noM_lg h
  · exact noM_lg h
  · exact noM_lg h
  · exact noM_lg h
  · exact noM_lg h
  · unfold oExtract at h
    split at h
    · exact noM_lg h
    · cases h
  · exact builtinM_lg h
  · cases h

/-! ### the operations on holes go on with the log -/
theorem letM_le {m m' : Mem} {t : Nat} {op : LOp} {xs : List Value} {v : Value} (h : letM m t op xs = some (v, m')) : m.lg.le m'.lg := by
  obtain ⟨_, rfl⟩ := letM_eq h
  obtain ⟨H, n, W, hi, l⟩ := m
  exact ⟨[_], rfl⟩
/-- A memory that is another one's, but for the log. -/
def OnlyLg (m m' : Mem) : Prop := ∃ lg, m' = m.wLg lg
theorem OnlyLg.refl (m : Mem) : OnlyLg m m := ⟨m.lg, by cases m; rfl⟩
theorem OnlyLg.trans {a b c : Mem} (h : OnlyLg a b) (k : OnlyLg b c) : OnlyLg a c := by
  obtain ⟨l, rfl⟩ := h; obtain ⟨l2, rfl⟩ := k
  exact ⟨l2, by cases a; rfl⟩
theorem letM_only {m m' : Mem} {t : Nat} {op : LOp} {xs : List Value} {v : Value} (h : letM m t op xs = some (v, m')) : OnlyLg m m' := ⟨_, (letM_eq h).2⟩

section
variable {P : Program} {base : Nat} {ρ : Ren} {m m' : Mem} {w : World}

theorem symPick_le {c a b v : Value} (h : symPick m c a b = some (v, m')) : m.lg.le m'.lg ∧ OnlyLg m m' := by
  obtain ⟨H, n, W, hi, lg⟩ := m
  unfold symPick at h
  simp only at h
  split at h
  · rename_i lg' hb; cases h; exact ⟨brL_le hb, ⟨_, rfl⟩⟩
  · rename_i lg' hb; cases h; exact ⟨brL_le hb, ⟨_, rfl⟩⟩
  · cases h

theorem symBin_le {op : BinOp} {t : TypeId} {a b v : Value} (h : symBin P m op t a b = some (v, m')) : m.lg.le m'.lg ∧ OnlyLg m m' := by
  unfold symBin at h
  simp only at h
  cases h1 : (Nat.blt (tagOf a) 8 && Nat.blt (tagOf b) 8) || (Nat.beq (tagOf a) 9 && Nat.beq (tagOf b) 9) with
  | true => rw [h1] at h; exact ⟨letM_le h, letM_only h⟩
  | false =>
    rw [h1] at h
    simp only [cond_false] at h
    obtain ⟨_, h⟩ := cond_some h
    exact ⟨letM_le h, letM_only h⟩
theorem symEq_le {op : BinOp} {t : TypeId} {x y : Operand} {a b v : Value} (h : symEq P m op t x y a b = some (v, m')) : m.lg.le m'.lg ∧ OnlyLg m m' := by
  unfold symEq at h
  obtain ⟨_, h⟩ := cond_some h
  split at h
  · exact ⟨letM_le h, letM_only h⟩
  · split at h
    · rename_i m1 h1
      exact ⟨(letM_le h1).trans (letM_le h), (letM_only h1).trans (letM_only h)⟩
    · cases h
  · cases h
theorem symIndex_le {t : TypeId} {x i v : Value} (h : symIndex P m t x i = some (v, m')) : m.lg.le m'.lg ∧ OnlyLg m m' := by
  unfold symIndex at h
  cases hq : !(Nat.blt (tagOf i) 8) with
  | true => rw [hq] at h; cases h
  | false =>
    rw [hq] at h
    simp only [cond_false] at h
    split at h
    · obtain ⟨_, h⟩ := cond_some h; exact ⟨letM_le h, letM_only h⟩
    · split at h
      · obtain ⟨_, h⟩ := cond_some h; exact ⟨letM_le h, letM_only h⟩
      · obtain ⟨_, h⟩ := cond_some h; exact ⟨letM_le h, letM_only h⟩
      · cases h
    · cases h
theorem symSlice_le {t : TypeId} {x v : Value} {lo hi mx : Option Value} (h : symSlice P m t x lo hi mx = some (v, m')) : m.lg.le m'.lg ∧ OnlyLg m m' := by
  unfold symSlice at h
  split at h
  · obtain ⟨_, h⟩ := cond_some h
    split at h
    · cases h; exact ⟨.refl _, .refl _⟩
    · obtain ⟨_, h⟩ := cond_some h; exact ⟨letM_le h, letM_only h⟩
    · obtain ⟨_, h⟩ := cond_some h; exact ⟨letM_le h, letM_only h⟩
    · obtain ⟨_, h⟩ := cond_some h; exact ⟨letM_le h, letM_only h⟩
  · cases h
theorem symUn_le {op : UnOp} {x v : Value} (h : symUn m op x = some (v, m')) : m.lg.le m'.lg ∧ OnlyLg m m' := by
  unfold symUn at h
  simp only at h
  split at h
  · obtain ⟨_, h⟩ := cond_some h; exact ⟨letM_le h, letM_only h⟩
  · obtain ⟨_, h⟩ := cond_some h; exact ⟨letM_le h, letM_only h⟩
theorem symConv_le {s t : TypeId} {x v : Value} (h : symConv P m s t x = some (v, m')) : m.lg.le m'.lg ∧ OnlyLg m m' := by
  unfold symConv at h
  split at h
  · obtain ⟨_, h⟩ := cond_some h; exact ⟨letM_le h, letM_only h⟩
  · obtain ⟨_, h⟩ := cond_some h; cases h; exact ⟨.refl _, .refl _⟩
  · cases h
theorem symBuiltin_le {b : Builtin} {vs : List Value} {tys : List TypeId} {v : Value} (h : symBuiltin P m b vs tys = some (v, m')) : m.lg.le m'.lg ∧ OnlyLg m m' := by
  unfold symBuiltin at h
  split at h
  · split at h
    · obtain ⟨_, h⟩ := cond_some h; exact ⟨letM_le h, letM_only h⟩
    · cases h
  · obtain ⟨_, h⟩ := cond_some h; exact ⟨letM_le h, letM_only h⟩
  · obtain ⟨_, h⟩ := cond_some h; exact ⟨letM_le h, letM_only h⟩
  · cases h
theorem ixAt_le {a : Addr} {s n : Nat} {i v : Value} (h : ixAt m a s n i = some (v, m')) : m.lg.le m'.lg ∧ OnlyLg m m' := by
  unfold ixAt at h
  cases hq : !(Nat.blt (tagOf i) 8) with
  | true => rw [hq] at h; cases h
  | false =>
    rw [hq] at h
    simp only [cond_false] at h
    split at h
    · rename_i b H k W hi lg hl
      split at h
      · rename_i lg' hb
        cases h
        have h1 := letM_le hl
        obtain ⟨l1, h2⟩ := letM_only hl
        refine ⟨h1.trans (brL_le hb), lg', ?_⟩
        obtain ⟨H0, n0, W0, hi0, l0⟩ := m
        cases h2
        rfl
      · cases h
    · cases h
theorem symIndexAt_le {t : TypeId} {x i v : Value} (h : symIndexAt P m t x i = some (v, m')) : m.lg.le m'.lg ∧ OnlyLg m m' := by
  unfold symIndexAt at h
  split at h
  · split at h
    · exact ixAt_le h
    · cases h
  · split at h
    · generalize hq : Nat.beq _ (OPEN + 2) = q at h
      cases q with
      | true => cases h
      | false => exact ixAt_le h
    · cases h
  · cases h
theorem symFieldAt_le {s : TypeId} {x v : Value} {i : Nat} (h : symFieldAt P m s x i = some (v, m')) : m.lg.le m'.lg ∧ OnlyLg m m' := by
  unfold symFieldAt at h
  split at h
  · split at h
    · split at h
      · split at h
        · cases h; exact ⟨.refl _, .refl _⟩
        · cases h
      · cases h
    · cases h
  · cases h
theorem selCells_le {cs : List Value} {s n : Nat} {i : Value} : ∀ {k o : Nat} {m m' : Mem} {r : List Value}, selCells m cs s n i o k = some (r, m') → m.lg.le m'.lg ∧ OnlyLg m m'
  | 0, o, m, m', r, h => by cases h; exact ⟨.refl _, .refl _⟩
  | k + 1, o, m, m', r, h => by
    unfold selCells at h
    split at h
    · obtain ⟨_, h⟩ := cond_some h
      split at h
      · rename_i m1 h1
        split at h
        · rename_i h2
          cases h
          have := selCells_le h2
          exact ⟨(letM_le h1).trans this.1, (letM_only h1).trans this.2⟩
        · cases h
      · cases h
    · cases h
theorem symLoad_le {t : TypeId} {x v : Value} (h : symLoad P m t x = some (v, m')) : m.lg.le m'.lg ∧ OnlyLg m m' := by
  unfold symLoad at h
  split at h
  · split at h
    · split at h
      · split at h
        · rename_i h1; cases h; exact selCells_le h1
        · cases h
      · cases h
    · split at h
      · split at h
        · rename_i h1; cases h; exact selCells_le h1
        · cases h
      · cases h
    · cases h
  · cases h
theorem symM_le {fr : Fr} {o : Op} {v : Value} (h : symM P fr m o = some (v, m')) : m.lg.le m'.lg ∧ OnlyLg m m' := by
  unfold symM at h
  split at h
  · exact symPick_le h
  · split at h
    · rename_i r hr; cases h; exact symBin_le hr
    · exact symEq_le h
  · exact symUn_le h
  · exact symConv_le h
  · exact symSlice_le h
  · exact symIndex_le h
  · exact symIndexAt_le h
  · exact symFieldAt_le h
  · exact symLoad_le h
  · exact symBuiltin_le h
  · cases h

/-! ### soundness -/
theorem kTag_inj {j k : IntKind} (h : kTag j = kTag k) : j = k := by cases j <;> cases k <;> first | rfl | (simp only [kTag] at h; omega)

theorem symBin_ok {op : BinOp} {t : TypeId} {x y : Operand} {a b a' b' v : Value} (h : symBin P m op t a b = some (v, m')) (ha : VR ρ a a') (hb : VR ρ b b') (hS : Sat m'.lg) (w : World) :
    ∃ r, (do eqGuard op t x y a' b'; binOp op t a' b' : Sem Value).run P w = .ok r w ∧ VR ρ v r := by
  have fin : ∀ {r : Value} {p q : Value}, scal p = true → scal q = true → binM P op t p q = some r → a' = p → b' = q → (do eqGuard op t x y a' b'; binOp op t a' b' : Sem Value).run P w = .ok r w := fun {r p q} hp hq hr e1 e2 => by
    subst e1; subst e2
    have v1 : VR ρ a' a' := .pure (by cases a' <;> simp [scal] at hp <;> rfl)
    have v2 : VR ρ b' b' := .pure (by cases b' <;> simp [scal] at hq <;> rfl)
    have g : guardM P t x y a' b' = true := by
      cases a' <;> simp [scal] at hp <;> cases b' <;> simp [scal] at hq <;> rfl
    have hg := guard_ok (op := op) (fun _ => g) v1 v2 w
    obtain ⟨h2, _⟩ := binM_ok hr v1 v2 w
    simp [Sem.run_bind, hg, h2, Result.andThen]
  unfold symBin at h
  simp only at h
  cases h1 : (Nat.blt (tagOf a) 8 && Nat.blt (tagOf b) 8) || (Nat.beq (tagOf a) 9 && Nat.beq (tagOf b) 9) with
  | true =>
    rw [h1] at h
    obtain ⟨u, e1, e2, r, e3, e4, e5⟩ := letM_ok h hS
    have ht : tagU u < 10 := by rw [e2]; exact e5
    refine ⟨r, ?_, e4 ρ⟩
    rcases Bool.or_eq_true _ _ ▸ h1 with h1 | h1
    · obtain ⟨p1, p2⟩ := boolAnd h1
      obtain ⟨k, n, rfl, f1, _⟩ := tag_int ha (Nat.le_of_ble_eq_true p1)
      obtain ⟨j, n2, rfl, f2, _⟩ := tag_int hb (Nat.le_of_ble_eq_true p2)
      simp only [List.map_cons, List.map_nil, f1, f2, evU, evB] at e1
      subst e1
      obtain ⟨r', g1, g2⟩ := ofV_toV ht
      rw [e3] at g2; cases g2
      exact fin rfl rfl (by unfold binM; exact g1) rfl rfl
    · obtain ⟨p1, p2⟩ := boolAnd h1
      obtain ⟨s1, rfl, f1⟩ := tag_str ha (Nat.eq_of_beq_eq_true p1)
      obtain ⟨s2, rfl, f2⟩ := tag_str hb (Nat.eq_of_beq_eq_true p2)
      simp only [List.map_cons, List.map_nil, f1, f2, evU, evB] at e1
      subst e1
      obtain ⟨r', g1, g2⟩ := ofV_toV ht
      rw [e3] at g2; cases g2
      exact fin rfl rfl (by unfold binM; exact g1) rfl rfl
  | false =>
    rw [h1] at h
    simp only [cond_false] at h
    obtain ⟨h2, h⟩ := cond_some h
    obtain ⟨h2, h5⟩ := boolAnd h2
    obtain ⟨h2, h4⟩ := boolAnd h2
    obtain ⟨h2, h3⟩ := boolAnd h2
    have hu : P.underlying t = some .bool := by
      split at h5
      · assumption
      · cases h5
    obtain ⟨u, e1, e2, r, e3, e4, _⟩ := letM_ok h hS
    refine ⟨r, ?_, e4 ρ⟩
    obtain ⟨p, rfl, f1⟩ := tag_bool ha (Nat.eq_of_beq_eq_true h2)
    obtain ⟨q, rfl, f2⟩ := tag_bool hb (Nat.eq_of_beq_eq_true h3)
    simp only [List.map_cons, List.map_nil, f1, f2, evU, evB] at e1
    cases op <;> simp only [isEq] at h4 <;> first
      | cases h4
      | skip
    · subst e1; cases e3
      exact fin rfl rfl (by simp [binM, restM, eqM, hu]) rfl rfl
    · subst e1; cases e3
      exact fin rfl rfl (by simp [binM, restM, eqM, hu]) rfl rfl

theorem binOp_equal {t : TypeId} {a' b' : Value} (e : Bool) (hne : ∃ cs, a' = .agg cs) : binOp (bif e then .eql else .neq) t a' b' = (do let r ← Op.equal t a' b'; pure (.bool (bif e then r else !r))) := by
  obtain ⟨cs, rfl⟩ := hne
  cases e <;> cases b' <;> rfl

theorem symEq_ok {op : BinOp} {t : TypeId} {x y : Operand} {a b a' b' v : Value} (h : symEq P m op t x y a b = some (v, m')) (ha : VR ρ a a') (hb : VR ρ b b') (hn : symBin P m op t a b = none) (hS : Sat m'.lg) (w : World) :
    ∃ r, (do eqGuard op t x y a' b'; binOp op t a' b' : Sem Value).run P w = .ok r w ∧ VR ρ v r := by
  unfold symEq at h
  obtain ⟨hg, h⟩ := cond_some h
  have hgu := guard_ok (op := op) (fun _ => hg) ha hb w
  have hagg : ∀ {l}, eqS P 20 t a b = some l → (op = .eql ∨ op = .neq) → ∃ cs, a' = .agg cs := fun {l} hl hop => by
    unfold eqS at hl
    cases hs : isScalar P t a b with
    | true =>
      unfold isScalar at hs
      unfold symBin at hn
      simp only at hn
      split at hs
      · rename_i hu
        obtain ⟨q1, q2⟩ := boolAnd hs
        rw [Nat.eq_of_beq_eq_true q1, Nat.eq_of_beq_eq_true q2, hu] at hn
        obtain ⟨H, n, W, hi, ⟨nx, pi, log⟩⟩ := m
        rcases hop with rfl | rfl <;> simp [isEq, letM, forceN_eq, forceL_eq] at hn
      · rename_i k hu
        obtain ⟨q1, q2⟩ := boolAnd hs
        have q3 := kTag_lt k
        have q4 : Nat.blt (kTag k) 8 = true := Nat.ble_eq_true_of_le q3
        rw [Nat.eq_of_beq_eq_true q1, Nat.eq_of_beq_eq_true q2, q4] at hn
        obtain ⟨H, n, W, hi, ⟨nx, pi, log⟩⟩ := m
        simp [letM, forceN_eq, forceL_eq] at hn
      · obtain ⟨q1, q2⟩ := boolAnd hs
        rw [Nat.eq_of_beq_eq_true q1, Nat.eq_of_beq_eq_true q2] at hn
        obtain ⟨H, n, W, hi, ⟨nx, pi, log⟩⟩ := m
        simp [letM, forceN_eq, forceL_eq] at hn
      · cases hs
    | false =>
      rw [hs] at hl
      simp only [cond_false] at hl
      split at hl
      · obtain ⟨cs', rfl, _⟩ := inv_agg ha; exact ⟨_, rfl⟩
      · cases hl
  split at h
  · rename_i l hl _
    obtain ⟨u, e1, e2, r, e3, e4, _⟩ := letM_ok h hS
    refine ⟨r, ?_, e4 ρ⟩
    simp only [evU] at e1
    split at e1
    · rename_i z hz
      subst e1; cases e3
      have he : (Op.equal t a' b').run P w = .ok z w := eqS_ok 20 t a b a' b' l z hl hz ha hb _ (by decide) w
      have hq := binOp_equal (t := t) (b' := b') true (hagg hl (.inl rfl))
      simp only [cond_true] at hq
      rw [hq]
      simp [Sem.run_bind, hgu, he, Result.andThen]
    · subst e1; cases e3
  · rename_i l hl _
    split at h
    · rename_i hh m1 h1
      have hS1 : Sat m1.lg := SatL.le hS (letM_le h)
      obtain ⟨u1, f1, f2, r1, f3, f4, _⟩ := letM_ok h1 hS1
      obtain ⟨u, e1, e2, r, e3, e4, _⟩ := letM_ok h hS
      refine ⟨r, ?_, e4 ρ⟩
      simp only [evU] at f1
      split at f1
      · rename_i z hz
        subst f1; cases f3
        have hv := tag_val (ρ := ρ) (f4 ρ) (by obtain ⟨e, _⟩ := letM_eq h1; rw [e]; show 8 < 10; omega)
        have : argU Ora.env hh = .bool z := by
          cases hu : argU Ora.env hh <;> rw [hu] at hv <;> first | (cases hv.1; done) | skip
          all_goals (obtain ⟨hv1, _⟩ := hv; cases hv1; rfl)
        simp only [List.map_cons, List.map_nil, this, evU, ev1, unM, ofV] at e1
        subst e1; cases e3
        have he : (Op.equal t a' b').run P w = .ok z w := eqS_ok 20 t a b a' b' l z hl hz ha hb _ (by decide) w
        have hq := binOp_equal (t := t) (b' := b') false (hagg hl (.inr rfl))
        simp only [cond_false] at hq
        rw [hq]
        simp [Sem.run_bind, hgu, he, Result.andThen]
      · subst f1; cases f3
    · cases h
  · cases h
end
end Go.Sx
