/- The operations, part 2: numbers, strings, comparisons, conversions, places, parts. -/
import Derived.Test.YtdmdghooamchfaaDoorSxOp1
namespace Go.Sx
set_option linter.all false
open Go
set_option linter.unusedVariables false
set_option linter.unusedSimpArgs false

/-! ### integers -/
theorem wrap_nat (k : IntKind) (m : Nat) (h : m ≤ topN k) : k.wrap (.ofNat m) = .ofNat m := by
  cases k <;> simp only [topN] at h <;> simp only [IntKind.wrap, IntKind.bits, IntKind.signed, Nat.reduceSub] <;> simp <;> omega
theorem wrapF_eq (k : IntKind) (n : Int) : wrapF k n = k.wrap n := by
  unfold wrapF
  cases n with
  | ofNat m =>
    simp only
    cases h : Nat.ble m (topN k) with
    | true => rw [wrap_nat k m (Nat.le_of_ble_eq_true h)]; rfl
    | false => rfl
  | negSucc m => rfl
theorem addF_eq (a b : Int) : addF a b = a + b := by cases a <;> cases b <;> rfl
theorem mulF_eq (a b : Int) : mulF a b = a * b := by cases a <;> cases b <;> rfl
theorem subF_eq (a b : Int) : subF a b = a - b := by
  cases a <;> cases b <;> try rfl
  rename_i m n
  simp only [subF]
  cases h : Nat.ble n m with
  | true =>
    have := Nat.le_of_ble_eq_true h
    simp only [cond_true]
    show Int.ofNat (m - n) = _
    have e : (Int.ofNat (m - n)) = (m : Int) - (n : Int) := by simp [Int.ofNat_sub this]
    exact e
  | false => rfl
theorem ltF_eq (a b : Int) : ltF a b = decide (a < b) := by
  cases a with
  | ofNat m => cases b with
    | ofNat n =>
      simp only [ltF]
      rw [Bool.eq_iff_iff]
      simp [Nat.blt, Nat.ble_eq]
      omega
    | negSucc n => simp only [ltF]; symm; simp; omega
  | negSucc m => cases b with
    | ofNat n => simp only [ltF]; symm; simp; omega
    | negSucc n =>
      simp only [ltF]
      rw [Bool.eq_iff_iff]
      simp [Nat.blt, Nat.ble_eq]
      omega
theorem leF_eq (a b : Int) : leF a b = decide (a ≤ b) := by
  cases a with
  | ofNat m => cases b with
    | ofNat n => simp only [leF]; rw [Bool.eq_iff_iff]; simp [Nat.ble_eq]
    | negSucc n => simp only [leF]; symm; simp; omega
  | negSucc m => cases b with
    | ofNat n => simp only [leF]; symm; simp; omega
    | negSucc n => simp only [leF]; rw [Bool.eq_iff_iff]; simp [Nat.ble_eq]; omega
theorem eqF'_eq (a b : Int) : eqF' a b = (a == b) := by
  cases a <;> cases b <;> simp only [eqF'] <;> rw [Bool.eq_iff_iff] <;> simp
  omega
theorem sameK_eq {k j : IntKind} (h : sameK k j = true) : k = j := by cases k <;> cases j <;> first | rfl | cases h
variable [Ora]

section
variable {P : Program} {base : Nat} {ρ : Ren} {m m' : Mem} {w : World}

theorem bitsM_ok {op : BinOp} {k : IntKind} {a b : Int} {v : Value} (h : bitsM op k a b = some v) (w : World) : (Op.intBits op k a b).run P w = .ok v w ∧ pureV v = true := by
  unfold bitsM at h
  split at h <;> cases h <;> exact ⟨rfl, rfl⟩
theorem intM_ok {op : BinOp} {k : IntKind} {a b : Int} {t : TypeId} {v : Value} (hs : isSh op = none) (h : intM op k a b = some v) (w : World) : (binOp op t (.int k a) (.int k b)).run P w = .ok v w ∧ pureV v = true := by
  unfold intM at h
  cases op <;> simp only [isSh] at hs <;> try cases hs
  all_goals simp only [mkI_eq, wrapF_eq, addF_eq, subF_eq, mulF_eq, ltF_eq, leF_eq, eqF'_eq] at h
  case quo =>
    cases hb : (b == 0) <;> rw [hb] at h <;> cases h
    have : b ≠ 0 := by simpa using hb
    exact ⟨by simp [binOp, Op.intDiv, this], rfl⟩
  case rem =>
    cases hb : (b == 0) <;> rw [hb] at h <;> cases h
    have : b ≠ 0 := by simpa using hb
    exact ⟨by simp [binOp, Op.intDiv, this], rfl⟩
  case and => exact ⟨by simpa [binOp] using (bitsM_ok h w).1, (bitsM_ok (P := P) h w).2⟩
  case or => exact ⟨by simpa [binOp] using (bitsM_ok h w).1, (bitsM_ok (P := P) h w).2⟩
  case xor => exact ⟨by simpa [binOp] using (bitsM_ok h w).1, (bitsM_ok (P := P) h w).2⟩
  case andNot => exact ⟨by simpa [binOp] using (bitsM_ok h w).1, (bitsM_ok (P := P) h w).2⟩
  all_goals
    cases h
    refine ⟨?_, rfl⟩
    simp only [binOp, Op.intCmp, Op.intArith, ne_eq, not_true, if_false]
    rfl

theorem ltL_eq : ∀ a b : List UInt8, ltL a b = Op.bytesLess a b
  | [], [] => rfl
  | _ :: _, [] => rfl
  | [], _ :: _ => rfl
  | a :: x, b :: y => by simp [ltL, Op.bytesLess, ltL_eq x y]
theorem bytes_append (a b : ByteArray) : a ++ b = ⟨⟨a.data.toList ++ b.data.toList⟩⟩ := by
  have h : (a ++ b).data = ⟨a.data.toList ++ b.data.toList⟩ := by
    rw [ByteArray.data_append]
    apply Array.ext'
    simp
  cases hab : a ++ b with
  | mk d => rw [hab] at h; simp only at h; rw [h]
theorem strM_ok {op : BinOp} {a b : ByteArray} {t : TypeId} {v : Value} (h : strM op a b = some v) (w : World) : (binOp op t (.string a) (.string b)).run P w = .ok v w ∧ pureV v = true := by
  unfold strM at h
  split at h
  · obtain ⟨h1, h2⟩ := cond_some h
    rw [forceL_eq] at h2
    cases h2
    refine ⟨?_, rfl⟩
    have h1 := Nat.le_of_ble_eq_true h1
    have : ¬ (((a.size + b.size : Nat) : Int) > IntKind.i64.max) := by simp [IntKind.max, IntKind.bits, IntKind.signed]; omega
    simp only [binOp, Op.stringOp, if_neg this, bytes_append]
    rfl
  all_goals first
    | (cases h; refine ⟨?_, rfl⟩; simp only [binOp, Op.stringOp, ByteArray.toList_eq, ltL_eq]; rfl)
    | cases h

def scal : Value → Bool
  | .int _ _ | .bool _ | .string _ => true
  | _ => false
theorem toV_shape {u : U} {v : Value} (h : toV u = some v) : scal v = true := by cases u <;> cases h <;> rfl
def isCx : Value → Bool
  | .complex _ _ _ => true
  | .func (.yield _) _ _ => true
  | _ => false
theorem eqM_cx {d : Nat} {t : TypeId} {a b : Value} {r : Bool} (h : eqM P d t a b = some r) : isCx a = false ∧ isCx b = false := by
  cases d with
  | zero => simp [eqM] at h
  | succ d =>
    unfold eqM at h
    split at h <;> first | exact ⟨rfl, rfl⟩ | cases h
theorem guard_run {op : BinOp} {t : TypeId} {x y : Operand} {a b a' b' : Value} (hg1 : guardM P t x y a b = true) (ha : VR ρ a a') (hb : VR ρ b b') (w : World) (hop : op = .eql ∨ op = .neq) : (eqGuard op t x y a' b').run P w = .ok () w := by
  unfold eqGuard
  rw [if_neg (by rcases hop with rfl | rfl <;> simp)]
  clear hop
  unfold guardM at hg1
  split at hg1
  · cases ha; cases hb
    simp only [Bool.or_eq_true] at hg1
    rcases hg1 with hg | hg
    · cases x <;> simp only [isC] at hg <;> first | rfl | cases hg
    · cases y <;> simp only [isC] at hg <;> first | (cases x <;> rfl) | cases hg
  · obtain ⟨xs', rfl, _⟩ := inv_agg ha
    obtain ⟨ys', rfl, _⟩ := inv_agg hb
    have hg : P.eqGuardType P.depth t = false := by simpa using hg1
    simp [Sem.run_bind, run_program, Result.andThen, hg]
  · rename_i hn1 hn2
    obtain ⟨hj1, hj2⟩ := boolAnd hg1
    split
    · exfalso
      cases ha with
      | hole h _ => have := toV_shape h; simp [scal] at this
      | junk => cases hj1
      | ixp _ _ _ _ hv => cases hv
      | pure _ =>
        cases hb with
        | hole h _ => have := toV_shape h; simp [scal] at this
        | junk => cases hj2
        | ixp _ _ _ _ hv => cases hv
        | pure _ => exact hn1 rfl rfl
    · exfalso
      cases ha with
      | hole h _ => have := toV_shape h; simp [scal] at this
      | junk => cases hj1
      | ixp _ _ _ _ hv => cases hv
      | pure h => simp [pureV] at h
      | agg _ _ =>
        cases hb with
        | hole h _ => have := toV_shape h; simp [scal] at this
        | junk => cases hj2
        | ixp _ _ _ _ hv => cases hv
        | pure h => simp [pureV] at h
        | agg _ _ => exact hn2 _ _ rfl rfl
    · rfl
theorem guard_ok {op : BinOp} {t : TypeId} {x y : Operand} {a b a' b' : Value} (hg : isEq op = true → guardM P t x y a b = true) (ha : VR ρ a a') (hb : VR ρ b b') (w : World) : (eqGuard op t x y a' b').run P w = .ok () w := by
  cases hop : isEq op with
  | false =>
    unfold eqGuard
    cases op <;> simp only [isEq] at hop <;> first | rfl | cases hop
  | true => exact guard_run (hg hop) ha hb w (by cases op <;> simp only [isEq] at hop <;> first | (exact .inl rfl) | (exact .inr rfl) | cases hop)

theorem eql_run {t : TypeId} {a b a' b' : Value} (ha : VR ρ a a') (hb : VR ρ b b') (hn1 : ∀ (k j : IntKind) (x y : Int), a = .int k x → b = .int j y → False) (hn2 : ∀ x y : ByteArray, a = .string x → b = .string y → False) (hc1 : isCx a = false) (hc2 : isCx b = false) (e : Bool) :
    binOp (bif e then .eql else .neq) t a' b' = (do let r ← Op.equal t a' b'; pure (.bool (bif e then r else !r))) := by
  cases ha with
  | hole _ _ => cases hc1
  | junk => cases hc1
  | ixp _ _ _ _ _ => cases hc1
  | pure hp =>
    cases a <;> simp only [pureV] at hp <;> try cases hp
    all_goals
      cases hb with
      | hole _ _ => cases hc2
      | junk => cases hc2
      | ixp _ _ _ _ _ => cases hc2
      | pure hq => cases b <;> simp only [pureV] at hq <;> first | (cases e <;> rfl) | (exfalso; exact hn1 _ _ _ _ rfl rfl) | (exfalso; exact hn2 _ _ rfl rfl) | cases hq
      | _ => cases e <;> rfl
  | _ =>
    cases hb with
    | hole _ _ => cases hc2
    | junk => cases hc2
    | ixp _ _ _ _ _ => cases hc2
    | pure hq => cases b <;> simp only [pureV] at hq <;> first | (cases e <;> rfl) | cases hq
    | _ => cases e <;> rfl

theorem binM_ok {op : BinOp} {t : TypeId} {a b a' b' v : Value} (h : binM P op t a b = some v) (ha : VR ρ a a') (hb : VR ρ b b') (w : World) : (binOp op t a' b').run P w = .ok v w ∧ pureV v = true := by
  unfold binM at h
  split at h
  · cases inv_int ha; cases inv_int hb
    unfold intM2 at h
    split at h
    · rename_i l hl
      split at h
      · rename_i n
        cases h
        unfold shiftM
        cases op <;> simp only [isSh] at hl <;> cases hl
        · refine ⟨?_, by simp [mkI_eq, pureV]⟩
          simp [binOp, Op.shift, mkI_eq]
          intro h; omega
        · refine ⟨?_, by simp [mkI_eq, pureV]⟩
          simp [binOp, Op.shift, mkI_eq]
          intro h; omega
      · cases h
    · rename_i hl
      obtain ⟨h1, h2⟩ := cond_some h
      cases sameK_eq h1
      exact intM_ok hl h2 w
  · cases inv_str ha; cases inv_str hb
    exact strM_ok h w
  · rename_i hn1 hn2
    unfold restM at h
    have he : ∀ r, eqM P 20 t a b = some r → (Op.equal t a' b').run P w = .ok r w := fun r hr => eqM_ok 20 t a b a' b' r hr ha hb _ (by decide) w
    have hq := fun (r : Bool) (hr : eqM P 20 t a b = some r) e => eql_run (t := t) ha hb (fun k j x y => hn1 k x j y) (fun x y => hn2 x y) (eqM_cx hr).1 (eqM_cx hr).2 e
    split at h
    · split at h
      · rename_i r hr
        cases h
        refine ⟨?_, rfl⟩
        have h3 := hq r hr true
        simp only [cond_true] at h3
        rw [h3]; simp [Sem.run_bind, he r hr, Result.andThen]
      · cases h
    · split at h
      · rename_i r hr
        cases h
        refine ⟨?_, rfl⟩
        have h3 := hq r hr false
        simp only [cond_false] at h3
        rw [h3]; simp [Sem.run_bind, he r hr, Result.andThen]
      · cases h
    · cases h
end
end Go.Sx
