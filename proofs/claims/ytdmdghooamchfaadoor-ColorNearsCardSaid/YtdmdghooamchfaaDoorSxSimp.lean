/- What the rows of a tree come to, in plain numbers. -/
import Derived.Test.YtdmdghooamchfaaDoorSxTree
namespace Go.Sx
set_option linter.all false
open Go
set_option linter.unusedVariables false
abbrev h (i t : Nat) : Value := hole i t

theorem sameK_refl (k : IntKind) : sameK k k = true := by cases k <;> rfl
theorem ev_add (k : IntKind) (a b : Int) : evU (.bin .add) [.int k a, .int k b] = .int k (k.wrap (a + b)) := by
  simp [evU, evB, intM2, sameK_refl, isSh, intM, mkI_eq, wrapF_eq, addF_eq, ofV]
theorem ev_sub (k : IntKind) (a b : Int) : evU (.bin .sub) [.int k a, .int k b] = .int k (k.wrap (a - b)) := by
  simp [evU, evB, intM2, sameK_refl, isSh, intM, mkI_eq, wrapF_eq, subF_eq, ofV]
theorem ev_mul (k : IntKind) (a b : Int) : evU (.bin .mul) [.int k a, .int k b] = .int k (k.wrap (a * b)) := by
  simp [evU, evB, intM2, sameK_refl, isSh, intM, mkI_eq, wrapF_eq, mulF_eq, ofV]
theorem ev_quo (k : IntKind) (a b : Int) (hb : b ≠ 0) : evU (.bin .quo) [.int k a, .int k b] = .int k (k.wrap (a.tdiv b)) := by
  have hb' : (b == 0) = false := by simpa using hb
  simp [evU, evB, intM2, sameK_refl, isSh, intM, mkI_eq, eqF'_eq, hb', ofV]
theorem ev_rem (k : IntKind) (a b : Int) (hb : b ≠ 0) : evU (.bin .rem) [.int k a, .int k b] = .int k (a.tmod b) := by
  have hb' : (b == 0) = false := by simpa using hb
  simp [evU, evB, intM2, sameK_refl, isSh, intM, mkI_eq, eqF'_eq, hb', ofV]
theorem ev_and (k : IntKind) (a b : Int) : evU (.bin .and) [.int k a, .int k b] = .int k (k.wrap (BitVec.ofInt k.bits a &&& BitVec.ofInt k.bits b).toNat) := by
  simp [evU, evB, intM2, sameK_refl, isSh, intM, bitsM, ofV]
theorem ev_or (k : IntKind) (a b : Int) : evU (.bin .or) [.int k a, .int k b] = .int k (k.wrap (BitVec.ofInt k.bits a ||| BitVec.ofInt k.bits b).toNat) := by
  simp [evU, evB, intM2, sameK_refl, isSh, intM, bitsM, ofV]
theorem ev_xor (k : IntKind) (a b : Int) : evU (.bin .xor) [.int k a, .int k b] = .int k (k.wrap (BitVec.ofInt k.bits a ^^^ BitVec.ofInt k.bits b).toNat) := by
  simp [evU, evB, intM2, sameK_refl, isSh, intM, bitsM, ofV]
theorem ev_andNot (k : IntKind) (a b : Int) : evU (.bin .andNot) [.int k a, .int k b] = .int k (k.wrap (BitVec.ofInt k.bits a &&& ~~~BitVec.ofInt k.bits b).toNat) := by
  simp [evU, evB, intM2, sameK_refl, isSh, intM, bitsM, ofV]
theorem ev_eql (k : IntKind) (a b : Int) : evU (.bin .eql) [.int k a, .int k b] = .bool (decide (a = b)) := by
  simp [evU, evB, intM2, sameK_refl, isSh, intM, eqF'_eq, ofV]
  rw [Bool.eq_iff_iff]; simp
theorem ev_neq (k : IntKind) (a b : Int) : evU (.bin .neq) [.int k a, .int k b] = .bool (decide (a ≠ b)) := by
  simp [evU, evB, intM2, sameK_refl, isSh, intM, eqF'_eq, ofV]
  rw [Bool.eq_iff_iff]; simp
theorem ev_lss (k : IntKind) (a b : Int) : evU (.bin .lss) [.int k a, .int k b] = .bool (decide (a < b)) := by
  simp [evU, evB, intM2, sameK_refl, isSh, intM, ltF_eq, ofV]
theorem ev_leq (k : IntKind) (a b : Int) : evU (.bin .leq) [.int k a, .int k b] = .bool (decide (a ≤ b)) := by
  simp [evU, evB, intM2, sameK_refl, isSh, intM, leF_eq, ofV]
theorem ev_gtr (k : IntKind) (a b : Int) : evU (.bin .gtr) [.int k a, .int k b] = .bool (decide (b < a)) := by
  simp [evU, evB, intM2, sameK_refl, isSh, intM, ltF_eq, ofV]
theorem ev_geq (k : IntKind) (a b : Int) : evU (.bin .geq) [.int k a, .int k b] = .bool (decide (b ≤ a)) := by
  simp [evU, evB, intM2, sameK_refl, isSh, intM, leF_eq, ofV]
theorem ev_shl (k j : IntKind) (a b : Int) (hb : 0 ≤ b) : evU (.bin .shl) [.int k a, .int j b] = .int k (k.wrap (a * 2 ^ (min b.toNat k.bits))) := by
  obtain ⟨n, rfl⟩ : ∃ n : Nat, b = n := ⟨b.toNat, by omega⟩
  simp [evU, evB, intM2, isSh, shiftM, mkI_eq, ofV]
theorem ev_shr (k j : IntKind) (a b : Int) (hb : 0 ≤ b) : evU (.bin .shr) [.int k a, .int j b] = .int k (a.fdiv (2 ^ (min b.toNat k.bits))) := by
  obtain ⟨n, rfl⟩ : ∃ n : Nat, b = n := ⟨b.toNat, by omega⟩
  simp [evU, evB, intM2, isSh, shiftM, mkI_eq, ofV]
theorem ev_beq (a b : Bool) : evU (.bin .eql) [.bool a, .bool b] = .bool (decide (a = b)) := by cases a <;> cases b <;> rfl
theorem ev_bne (a b : Bool) : evU (.bin .neq) [.bool a, .bool b] = .bool (decide (a ≠ b)) := by cases a <;> cases b <;> rfl
theorem ev_seq (a b : List UInt8) : evU (.bin .eql) [.str a, .str b] = .bool (decide (a = b)) := by
  show U.bool (a == b) = _
  congr 1; rw [Bool.eq_iff_iff]; simp
theorem ev_sne (a b : List UInt8) : evU (.bin .neq) [.str a, .str b] = .bool (decide (a ≠ b)) := by
  show U.bool (!(a == b)) = _
  congr 1; rw [Bool.eq_iff_iff]; simp
theorem ev_cat (a b : List UInt8) (hl : a.length + b.length ≤ 1000000000) : evU (.bin .add) [.str a, .str b] = .str (a ++ b) := by
  have hl : Nat.ble (ByteArray.size ⟨⟨a⟩⟩ + ByteArray.size ⟨⟨b⟩⟩) 1000000000 = true := Nat.ble_eq_true_of_le hl
  simp [evU, evB, strM, hl, forceL_eq, ofV]
theorem ev_not (a : Bool) : evU (.un .not) [.bool a] = .bool (!a) := rfl
theorem ev_notD (p : Prop) [Decidable p] : evU (.un .not) [.bool (decide p)] = .bool (decide ¬p) := by
  show U.bool (!decide p) = _
  simp
theorem ev_neg (k : IntKind) (a : Int) : evU (.un .neg) [.int k a] = .int k (k.wrap (0 - a)) := by simp [evU, ev1, unM, mkI_eq, ofV]
theorem ev_conv (k j : IntKind) (a : Int) : evU (.conv k) [.int j a] = .int k (k.wrap a) := rfl
theorem ev_len (s : List UInt8) : evU .len [.str s] = .int .i64 s.length := rfl
theorem ev_inb (j k : IntKind) (a n : Int) : evU .inb [.int j a, .int k n] = .bool (decide (0 ≤ a ∧ a < n)) := by
  show U.bool (decide (0 ≤ a) && decide (a < n)) = _
  simp
theorem ev_idx (j : IntKind) (s : List UInt8) (i : Int) (h0 : 0 ≤ i) (h1 : i < s.length) : evU .idx [.str s, .int j i] = .int .u8 (s.getD i.toNat 0).toNat := by
  obtain ⟨n, rfl⟩ : ∃ n : Nat, i = n := ⟨i.toNat, by omega⟩
  have hn : n < s.length := by omega
  show (match s[n]? with | some b => U.int .u8 b.toNat | none => U.none) = _
  simp [List.getD_eq_getElem?_getD, hn]
theorem ev_sel (j : IntKind) (i : Int) (cs : List U) (h0 : 0 ≤ i) : evU .sel (.int j i :: cs) = cs.getD i.toNat .none := by
  obtain ⟨n, rfl⟩ : ∃ n : Nat, i = n := ⟨i.toNat, by omega⟩
  rfl
theorem ev_sub' (j k : IntKind) (s : List UInt8) (l r : Int) (h0 : 0 ≤ l) (h1 : l ≤ r) (h2 : r ≤ s.length) : evU .sub [.str s, .int j l, .int k r] = .str ((s.drop l.toNat).take (r.toNat - l.toNat)) := by
  obtain ⟨n, rfl⟩ : ∃ n : Nat, l = n := ⟨l.toNat, by omega⟩
  obtain ⟨m, rfl⟩ : ∃ n : Nat, r = n := ⟨r.toNat, by omega⟩
  show subU s (.ofNat n) (.ofNat m) = _
  simp only [subU]
  rw [if_pos (by omega)]; rfl
theorem ev_sub1 (j : IntKind) (s : List UInt8) (l : Int) (h0 : 0 ≤ l) (h1 : l ≤ s.length) : evU .sub1 [.str s, .int j l] = .str (s.drop l.toNat) := by
  obtain ⟨n, rfl⟩ : ∃ n : Nat, l = n := ⟨l.toNat, by omega⟩
  show subU s (.ofNat n) (.ofNat s.length) = _
  simp only [subU]
  rw [if_pos (by omega), List.take_of_length_le (by simp)]; simp
theorem ev_max (k j : IntKind) (a b : Int) : evU .max [.int k a, .int j b] = .int k (max a b) := by
  show U.int k (if b > a then b else a) = _
  congr 1; omega
theorem ev_min (k j : IntKind) (a b : Int) : evU .min [.int k a, .int j b] = .int k (min a b) := by
  show U.int k (if b < a then b else a) = _
  congr 1; omega

/-! ### numbers that fit -/
theorem wrap64 {n : Int} (h : -9223372036854775808 ≤ n) (h2 : n ≤ 9223372036854775807) : IntKind.i64.wrap n = n := by
  simp only [IntKind.wrap, IntKind.bits, IntKind.signed]; simp; omega
theorem wrap8 {n : Int} (h : 0 ≤ n) (h2 : n ≤ 255) : IntKind.u8.wrap n = n := by
  simp only [IntKind.wrap, IntKind.bits, IntKind.signed]; simp; omega
theorem wrapu64 {n : Int} (h : 0 ≤ n) (h2 : n ≤ 18446744073709551615) : IntKind.u64.wrap n = n := by
  simp only [IntKind.wrap, IntKind.bits, IntKind.signed]; simp; omega
theorem wrapu32 {n : Int} (h : 0 ≤ n) (h2 : n ≤ 4294967295) : IntKind.u32.wrap n = n := by
  simp only [IntKind.wrap, IntKind.bits, IntKind.signed]; simp; omega
theorem wrap32 {n : Int} (h : -2147483648 ≤ n) (h2 : n ≤ 2147483647) : IntKind.i32.wrap n = n := by
  simp only [IntKind.wrap, IntKind.bits, IntKind.signed]; simp; omega

/-! ### rows whose numbers fit -/
theorem ev_addW {k : IntKind} {a b : Int} (hw : k.wrap (a + b) = a + b) : evU (.bin .add) [.int k a, .int k b] = .int k (a + b) := by rw [ev_add, hw]
theorem ev_subW {k : IntKind} {a b : Int} (hw : k.wrap (a - b) = a - b) : evU (.bin .sub) [.int k a, .int k b] = .int k (a - b) := by rw [ev_sub, hw]
theorem ev_mulW {k : IntKind} {a b : Int} (hw : k.wrap (a * b) = a * b) : evU (.bin .mul) [.int k a, .int k b] = .int k (a * b) := by rw [ev_mul, hw]
theorem ev_convW {k j : IntKind} {a : Int} (hw : k.wrap a = a) : evU (.conv k) [.int j a] = .int k a := by rw [ev_conv, hw]
theorem ev_negW {k : IntKind} {a : Int} (hw : k.wrap (0 - a) = 0 - a) : evU (.un .neg) [.int k a] = .int k (0 - a) := by rw [ev_neg, hw]
theorem ev_quoW {k : IntKind} {a b : Int} (h0 : 0 ≤ a) (hb : 0 < b) (hw : k.wrap (a / b) = a / b) : evU (.bin .quo) [.int k a, .int k b] = .int k (a / b) := by
  rw [ev_quo _ _ _ (by omega), Int.tdiv_eq_ediv_of_nonneg h0, hw]
theorem ev_remW {k : IntKind} {a b : Int} (h0 : 0 ≤ a) (hb : 0 < b) : evU (.bin .rem) [.int k a, .int k b] = .int k (a % b) := by
  rw [ev_rem _ _ _ (by omega), Int.tmod_eq_emod_of_nonneg h0]
theorem ev_shrL {k j : IntKind} {a b : Int} (c : Int) (hb : 0 ≤ b) (hc : (2 : Int) ^ (min b.toNat k.bits) = c) : evU (.bin .shr) [.int k a, .int j b] = .int k (a / c) := by
  rw [ev_shr _ _ _ _ hb, ← hc, Int.fdiv_eq_ediv_of_nonneg _ (Int.le_of_lt (Int.pow_pos (by decide)))]
theorem ev_shlL {k j : IntKind} {a b : Int} (c : Int) (hb : 0 ≤ b) (hc : (2 : Int) ^ (min b.toNat k.bits) = c) : evU (.bin .shl) [.int k a, .int j b] = .int k (k.wrap (a * c)) := by
  rw [ev_shl _ _ _ _ hb, ← hc]
theorem ev_shlW {k j : IntKind} {a b : Int} (c : Int) (hb : 0 ≤ b) (hc : (2 : Int) ^ (min b.toNat k.bits) = c) (hw : k.wrap (a * c) = a * c) : evU (.bin .shl) [.int k a, .int j b] = .int k (a * c) := by
  rw [ev_shlL c hb hc, hw]
theorem ev_selI {k j : IntKind} {i : Int} (zs : List Int) (h0 : 0 ≤ i) (h1 : i < zs.length) : evU .sel (.int j i :: zs.map (U.int k)) = .int k (zs.getD i.toNat 0) := by
  rw [ev_sel _ _ _ h0, List.getD_eq_getElem?_getD, List.getElem?_map, List.getD_eq_getElem?_getD]
  have : i.toNat < zs.length := by omega
  simp [this]

/-- Numbers below the highest power stay. -/
theorem wrapSmall {k : IntKind} {n : Int} (h0 : 0 ≤ n) (h : n < 2 ^ (k.bits - 1)) : k.wrap n = n := by
  cases k <;> simp only [IntKind.bits, Nat.reduceSub] at h <;> simp only [IntKind.wrap, IntKind.bits, IntKind.signed, Nat.reduceSub] <;> simp <;> omega
theorem ev_andR {k : IntKind} {a m : Int} (n : Nat) (c : Int) (hn : n < k.bits) (hc : (2 : Int) ^ n = c) (hm : m + 1 = c) : evU (.bin .and) [.int k a, .int k m] = .int k (a % c) := by
  subst hc
  obtain rfl : m = 2 ^ n - 1 := by omega
  rw [ev_and]
  congr 1
  have e1 : (BitVec.ofInt k.bits (2 ^ n - 1)).toNat = 2 ^ n - 1 := by
    rw [BitVec.toNat_ofInt]
    have h1 : ((2 : Int) ^ n - 1) = ((2 ^ n - 1 : Nat) : Int) := by
      have : 1 ≤ 2 ^ n := Nat.one_le_two_pow
      simp [Int.ofNat_sub this]
    rw [h1, ← Int.natCast_emod, Int.toNat_natCast]
    apply Nat.mod_eq_of_lt
    have h3 : (2 : Nat) ^ n < 2 ^ k.bits := Nat.pow_lt_pow_right (by decide) hn
    have h4 : 1 ≤ 2 ^ n := Nat.one_le_two_pow
    omega
  have e2 : ((BitVec.ofInt k.bits a &&& BitVec.ofInt k.bits (2 ^ n - 1)).toNat : Int) = a % 2 ^ n := by
    rw [BitVec.toNat_and, e1, Nat.and_two_pow_sub_one_eq_mod, BitVec.toNat_ofInt]
    have h0 : 0 ≤ a % ((2 ^ k.bits : Nat) : Int) := Int.emod_nonneg _ (by have : 0 < 2 ^ k.bits := Nat.two_pow_pos _; omega)
    rw [Int.natCast_emod, Int.toNat_of_nonneg h0]
    have : ((2 ^ n : Nat) : Int) ∣ ((2 ^ k.bits : Nat) : Int) := Int.natCast_dvd_natCast.2 (Nat.pow_dvd_pow 2 (Nat.le_of_lt hn))
    rw [Int.emod_emod_of_dvd _ this]
    simp
  rw [e2]
  have hp : (0 : Int) < 2 ^ n := Int.pow_pos (by decide)
  refine wrapSmall (Int.emod_nonneg _ (by omega)) (Int.lt_of_lt_of_le (Int.emod_lt_of_pos _ hp) ?_)
  have : (2 : Nat) ^ n ≤ 2 ^ (k.bits - 1) := Nat.pow_le_pow_right (by decide) (by omega)
  exact_mod_cast this
theorem ofInt_small {b : Nat} {a : Int} (h0 : 0 ≤ a) (h : a < 2 ^ b) : (BitVec.ofInt b a).toNat = a.toNat := by
  rw [BitVec.toNat_ofInt]
  congr 1
  apply Int.emod_eq_of_lt h0
  have : ((2 ^ b : Nat) : Int) = (2 : Int) ^ b := by simp
  rw [this]; exact h
theorem ev_orA {k : IntKind} {a b : Int} (n : Nat) (c M : Int) (hc : (2 : Int) ^ n = c) (hM : (2 : Int) ^ (k.bits - 1) = M) (ha0 : 0 ≤ a) (ham : a % c = 0) (hb0 : 0 ≤ b) (hb : b < c) (hs : a + b < M) : evU (.bin .or) [.int k a, .int k b] = .int k (a + b) := by
  rw [ev_or]
  congr 1
  have hlt : (2 : Int) ^ (k.bits - 1) ≤ 2 ^ k.bits := by
    have : (2 : Nat) ^ (k.bits - 1) ≤ 2 ^ k.bits := Nat.pow_le_pow_right (by decide) (Nat.sub_le _ _)
    exact_mod_cast this
  have e : ((BitVec.ofInt k.bits a ||| BitVec.ofInt k.bits b).toNat : Int) = a + b := by
    rw [BitVec.toNat_or, ofInt_small ha0 (by omega), ofInt_small hb0 (by omega)]
    obtain ⟨x, rfl⟩ : ∃ x : Nat, a = x := ⟨a.toNat, by omega⟩
    obtain ⟨y, rfl⟩ : ∃ y : Nat, b = y := ⟨b.toNat, by omega⟩
    subst hc
    simp only [Int.toNat_natCast]
    have h1 : x % 2 ^ n = 0 := by exact_mod_cast ham
    have h2 : y < 2 ^ n := by exact_mod_cast hb
    have h3 := Nat.two_pow_add_eq_or_of_lt h2 (x / 2 ^ n)
    have h4 : 2 ^ n * (x / 2 ^ n) = x := Nat.mul_div_cancel' (Nat.dvd_of_mod_eq_zero h1)
    rw [h4] at h3
    rw [← h3]; simp
  rw [e]
  have hs' : a + b < 2 ^ (k.bits - 1) := by omega
  have h0' : 0 ≤ a + b := by omega
  exact wrapSmall h0' hs'
theorem ev_orB {k : IntKind} {a b : Int} (n : Nat) (c M : Int) (hc : (2 : Int) ^ n = c) (hM : (2 : Int) ^ (k.bits - 1) = M) (ha0 : 0 ≤ b) (ham : b % c = 0) (hb0 : 0 ≤ a) (hb : a < c) (hs : a + b < M) : evU (.bin .or) [.int k a, .int k b] = .int k (a + b) := by
  have : evU (.bin .or) [.int k a, .int k b] = evU (.bin .or) [.int k b, .int k a] := by
    rw [ev_or, ev_or, BitVec.or_comm]
  rw [this, ev_orA n c M hc hM ha0 ham hb0 hb (by omega), Int.add_comm]

/-! ### the tree, row by row -/
theorem sat_lt {L : List U → Prop} {t : Nat} {op : LOp} {xs : List Value} {k : Tr} {E : List U} {u : U} (E' : List U) (he : evU op (xs.map (argU (gE E))) = u) (ht : t < 10 ∧ tagU u = t) (hE : E ++ [u] = E') (hk : k.sat L E') : (Tr.lt t op xs k).sat L E := by
  subst he; subst hE; exact ⟨ht, hk⟩
theorem sat_br {L : List U → Prop} {i : Nat} {a b : Tr} {E : List U} {p : Prop} [Decidable p] (he : gE E i = .bool (decide p)) (ha : p → a.sat L E) (hb : ¬p → b.sat L E) : (Tr.br i a b).sat L E :=
  ⟨decide p, he, fun h => ha (of_decide_eq_true h), fun h => hb (of_decide_eq_false h)⟩
theorem sat_brB {L : List U → Prop} {i : Nat} {a b : Tr} {E : List U} {c : Bool} (he : gE E i = .bool c) (ha : c = true → a.sat L E) (hb : c = false → b.sat L E) : (Tr.br i a b).sat L E := ⟨c, he, ha, hb⟩
theorem sat_ret {L : List U → Prop} {xs : List Value} {E : List U} (r : List U) (he : xs.map (argU (gE E)) = r) (h : L r) : (Tr.ret xs).sat L E := by subst he; exact h
theorem sat_fn {L : List U → Prop} {spec : Spec} {xs : List Value} {n : Nat} {k : Tr} {E outs : List U} (E' : List U) (he : spec (xs.map (argU (gE E))) = some (0, outs)) (hn : outs.length = n) (hE : E ++ outs = E') (hk : k.sat L E') : (Tr.fn spec xs n k).sat L E := by
  subst hE; exact ⟨outs, he, hn, hk⟩
end Go.Sx
