/- What the machine's runs come to is what the program comes to: whole calls. -/
import Derived.Test.YtdmdghooamchfaaDoorSxSound
namespace Go.Sx
set_option linter.all false
open Go
set_option linter.unusedVariables false
set_option linter.unusedSimpArgs false
variable [Ora]

theorem keepL_get {H' : Hp AB} : ∀ (l : List Nat) (H : Hp AB), (∀ b ∈ l, b ≤ most) → ∀ id, id ≤ most → Hp.get (keepL H' H l) id = if id ∈ l then Hp.get H' id else Hp.get H id
  | [], H, _, id, _ => by simp [keepL]
  | b :: r, H, hl, id, hid => by
    have hb := hl b List.mem_cons_self
    rw [keepL, put_eq, keepL_get r _ (fun x hx => hl x (List.mem_cons_of_mem _ hx)) id hid, hp_get_set _ _ _ _ hb hid]
    by_cases h1 : id ∈ r
    · rw [if_pos h1, if_pos (List.mem_cons_of_mem _ h1)]
    · rw [if_neg h1]
      by_cases h2 : id = b
      · subst h2; rw [if_pos rfl, if_pos List.mem_cons_self]
      · rw [if_neg h2, if_neg (by simp [h1, h2])]
theorem hasN_iff {l : List Nat} {b : Nat} : hasN l b = true ↔ b ∈ l := by
  unfold hasN
  rw [List.any_eq_true]
  constructor
  · rintro ⟨x, hx, h⟩; rw [Nat.eq_of_beq_eq_true h]; exact hx
  · intro h; exact ⟨b, h, by simp⟩
theorem mem_dedup : ∀ (l acc : List Nat) (b : Nat), b ∈ dedup l acc ↔ b ∈ l ∨ b ∈ acc
  | [], acc, b => by simp [dedup]
  | x :: r, acc, b => by
    unfold dedup
    cases h : hasN acc x with
    | true =>
      have hx := hasN_iff.1 h
      simp only [cond_true]
      rw [mem_dedup r acc b]
      constructor
      · rintro (h | h)
        · exact .inl (List.mem_cons_of_mem _ h)
        · exact .inr h
      · rintro (h | h)
        · rcases List.mem_cons.1 h with rfl | h
          · exact .inr hx
          · exact .inl h
        · exact .inr h
    | false =>
      simp only [cond_false]
      rw [mem_dedup r (x :: acc) b]
      simp only [List.mem_cons]
      constructor
      · rintro (h | h | h)
        · exact .inl (.inr h)
        · exact .inl (.inl h)
        · exact .inr h
      · rintro ((h | h) | h)
        · exact .inr (.inl h)
        · exact .inl h
        · exact .inr (.inr h)
theorem bigIds_le {l : List Nat} (h : bigIds l = true) : ∀ b ∈ l, b ≤ most := fun b hb => Nat.le_of_ble_eq_true (List.all_eq_true.1 h b hb)

section
variable {P : Program} {base gl nt : Nat}

/-- A value whose addresses are old stands as it stood. -/
theorem low_VR {ρ ρ1 : Ren} {n : Nat} (ho : ∀ b l, b < n → ρ1 b = some l → ρ b = some l) {v v' : Value} (h : VR ρ1 v v') : ∀ (d : Nat), lowV n d v = true → VR ρ v v' := by
  have hl : ∀ (low : Value → Bool) (a : List Value), lowL low a = true → ∀ (i : Nat) (v : Value), a[i]? = some v → low v = true := fun low a => by
    induction a with
    | nil => intro _ i v h; simp at h
    | cons x r ih =>
      intro h i v hi
      obtain ⟨h1, h2⟩ := boolAnd (show (low x && lowL low r) = true from h)
      cases i with
      | zero => simp at hi; subst hi; exact h1
      | succ i => exact ih h2 i v (by simpa using hi)
  induction h with
  | pure h => intro d _; exact .pure h
  | hole h ht => intro d _; exact .hole h ht
  | junk h => intro d _; exact .junk h
  | ixp h hs hi hz hv =>
    intro d hd
    cases d with
    | zero => cases hd
    | succ d =>
      obtain ⟨g1, _⟩ := boolAnd hd
      obtain ⟨g1, _⟩ := boolAnd (show (lowV n d _ && _) = true from g1)
      cases d with
      | zero => cases g1
      | succ d => exact .ixp (ho _ _ (Nat.le_of_ble_eq_true g1) h) hs hi hz hv
  | ptr h => intro d hd; cases d with | zero => cases hd | succ d => exact .ptr (ho _ _ (Nat.le_of_ble_eq_true hd) h)
  | sl h hm => intro d hd; cases d with | zero => cases hd | succ d => exact .sl (ho _ _ (Nat.le_of_ble_eq_true hd) h) hm
  | op h hm hn hc => intro d hd; cases d with | zero => cases hd | succ d => exact .op (ho _ _ (Nat.le_of_ble_eq_true hd) h) hm hn hc
  | opE hs => intro d _; exact .opE hs
  | map h => intro d hd; cases d with | zero => cases hd | succ d => exact .map (ho _ _ (Nat.le_of_ble_eq_true hd) h)
  | func ha hb h1 h2 ih1 ih2 =>
    intro d hd
    cases d with
    | zero => cases hd
    | succ d =>
      obtain ⟨g1, g2⟩ := boolAnd hd
      exact .func ha hb (fun i v v' a b => ih1 i v v' a b d (hl _ _ g1 i v a)) (fun i v v' a b => ih2 i v v' a b d (hl _ _ g2 i v a))
  | iface h ih => intro d hd; cases d with | zero => cases hd | succ d => exact .iface (ih d hd)
  | agg ha h ih => intro d hd; cases d with | zero => cases hd | succ d => exact .agg ha (fun i v v' a b => ih i v v' a b d (hl _ _ hd i v a))
  | tuple ha h ih => intro d hd; cases d with | zero => cases hd | succ d => exact .tuple ha (fun i v v' a b => ih i v v' a b d (hl _ _ hd i v a))

theorem low_BR {ρ ρ1 : Ren} {n : Nat} (ho : ∀ b l, b < n → ρ1 b = some l → ρ b = some l) {ab : AB} {l : Loc} {w : World} (h : BR P ρ1 ab l w) (hlow : lowB n (some ab) = true) : BR P ρ ab l w := by
  cases ab with
  | cells cs T ro =>
    obtain ⟨C, fz, T', h1, h2, h3⟩ := h
    refine ⟨C, fz, T', h1, fun i v hi => ?_, h3⟩
    obtain ⟨v', g1, g2⟩ := h2 i v hi
    have hv : lowV n 10 v = true := by
      have hlow2 : lowL (lowV n 10) cs = true := hlow
      clear h2 g1 g2 hlow
      induction cs generalizing i with
      | nil => simp at hi
      | cons x r ih =>
        obtain ⟨q1, q2⟩ := boolAnd (show (lowV n 10 x && lowL (lowV n 10) r) = true from hlow2)
        cases i with
        | zero => simp at hi; subst hi; exact q1
        | succ i => exact ih i (by simpa using hi) q2
    exact ⟨v', g1, low_VR ho g2 10 hv⟩
  | map es clock =>
    obtain ⟨h0, es', h1, h2, h3⟩ := h
    refine ⟨h0, es', h1, h2, fun i e e' g1 g2 => ?_⟩
    obtain ⟨a, b, c, d⟩ := h3 i e e' g1 g2
    have hv : lowV n 10 e.val = true := by
      have hlow2 : lowE n es = true := hlow
      clear h3 h2 g2 a b c d hlow
      induction es generalizing i with
      | nil => simp at g1
      | cons x r ih =>
        obtain ⟨q1, q2⟩ := boolAnd (show (lowV n 10 x.key && (lowV n 10 x.val && lowE n r)) = true from hlow2)
        obtain ⟨q2, q3⟩ := boolAnd q2
        cases i with
        | zero => simp at g1; subst g1; exact q2
        | succ i => exact ih i (by simpa using g1) q3
    exact ⟨a, b, c, low_VR ho d 10 hv⟩
  | iter s pos => exact h
theorem lowW_mem {n : Nat} {H : Hp AB} : ∀ {l : List Nat}, lowW n H l = true → ∀ b ∈ l, lowB n (Hp.get H b) = true
  | [], _, b, h => by cases h
  | x :: r, h, b, hb => by
    obtain ⟨h1, h2⟩ := boolAnd (show (lowB n (Hp.get H x) && lowW n H r) = true from h)
    rcases List.mem_cons.1 hb with rfl | hb
    · exact h1
    · exact lowW_mem h2 b hb

theorem gc_ok {ρ ρ1 : Ren} {m m1 m' : Mem} {w w1 : World} {v v' : Value} (hg : gcM m m1 v = some m') (st : St P base ρ ρ1 ⟨m.H, m.n, [], m.hi, m.lg⟩ m1 w w1) (hat : At P base gl ρ m m'.hi w) (hv : VR ρ1 v v') :
    m'.hi = m1.hi ∧ ∃ ρ2, VR ρ2 v v' ∧ St P base ρ ρ2 m m' w w1 := by
  have hn1 : m1.n ≤ m1.hi := st.nhi hat.nh
  have hle : m.hi ≤ m1.hi := st.hle
  -- numbers that are old
  have hmemW : ∀ b, b ∈ dedup (m1.W.filter fun b => Nat.blt b m.n || Nat.ble m1.hi b) [] ↔ b ∈ m1.W ∧ (b < m.n ∨ m1.hi ≤ b) := fun b => by
    rw [mem_dedup]
    simp only [List.mem_filter, List.not_mem_nil, or_false, Bool.or_eq_true]
    constructor
    · rintro ⟨h1, h2⟩; exact ⟨h1, h2.imp (fun h => Nat.le_of_ble_eq_true h) (fun h => Nat.le_of_ble_eq_true h)⟩
    · rintro ⟨h1, h2⟩; exact ⟨h1, h2.imp (fun h => Nat.ble_eq_true_of_le h) (fun h => Nat.ble_eq_true_of_le h)⟩
  unfold gcM at hg
  generalize hW : dedup (m1.W.filter fun b => Nat.blt b m.n || Nat.ble m1.hi b) [] = W at hg hmemW
  simp only [forceN_eq, forceL_eq, force8_eq] at hg
  have hold : m1.hi = m'.hi → ∀ b l, ρ b = some l → b < m.n ∨ m1.hi ≤ b := fun he b l hb => by
    rcases Nat.lt_or_ge b m.n with h1 | h1
    · exact .inl h1
    · rcases Nat.lt_or_ge b m1.hi with h2 | h2
      · rw [hat.fr b h1 (he ▸ h2)] at hb; cases hb
      · exact .inr h2
  have hnotW : m1.hi = m'.hi → ∀ id, id ≤ most → id ∉ W → ∀ ab, Hp.get m.H id = some ab → id ∉ m1.W ∧ Hp.get m1.H id = some ab := fun he id hid hnw ab hab => by
    obtain ⟨l, h1, _, _⟩ := hat.hr.at_ id hid ab hab
    have ho := hold he id l h1
    have h2 : id ∉ m1.W := fun h => hnw ((hmemW id).2 ⟨h, ho⟩)
    exact ⟨h2, by rw [st.same id hid h2 ho]; exact hab⟩
  have hwrw : ∀ b ∈ W, ∀ l, ρ b = some l → ∃ ab, Hp.get m.H b = some ab ∧ ab.rw = true := fun b hb l hl => st.wrw b ((hmemW b).1 hb).1 (by simp) l hl
  cases hq : lowV m.n 10 v && lowW m.n m1.H W with
  | true =>
    rw [hq] at hg
    simp only [cond_true] at hg
    obtain ⟨hbig, hg⟩ := cond_some hg
    cases hg
    obtain ⟨q1, q2⟩ := boolAnd hq
    have hbig := bigIds_le hbig
    have ho : ∀ b l, b < m.n → ρ1 b = some l → ρ b = some l := fun b l hb hl => by
      cases h0 : ρ b with
      | some l0 => rw [st.ext b l0 h0] at hl; exact hl
      | none => have h := (st.new b l hl h0).1; exact absurd hb (Nat.not_lt.2 h)
    have hget : ∀ id, id ≤ most → Hp.get (keepL m1.H m.H W) id = if id ∈ W then Hp.get m1.H id else Hp.get m.H id := fun id hid => keepL_get W _ hbig id hid
    have hsub : ∀ id, id ≤ most → ∀ ab, Hp.get (keepL m1.H m.H W) id = some ab → Hp.get m1.H id = some ab := fun id hid ab hab => by
      rw [hget id hid] at hab
      by_cases h : id ∈ W
      · rw [if_pos h] at hab; exact hab
      · rw [if_neg h] at hab; exact (hnotW rfl id hid h ab hab).2
    have hr1 := st.hr.sub hsub
    have hρ : ∀ id, id ≤ most → ∀ ab, Hp.get (keepL m1.H m.H W) id = some ab → ∀ l, ρ1 id = some l → ρ id = some l := fun id hid ab hab l hl => by
      cases h0 : ρ id with
      | some l0 => rw [st.ext id l0 h0] at hl; exact hl
      | none =>
        exfalso
        have hn := st.new id l hl h0
        rw [hget id hid] at hab
        by_cases h : id ∈ W
        · have := ((hmemW id).1 h).2
          have h1 : m.n ≤ id := hn.1
          have h2 := hn.2
          omega
        · rw [if_neg h] at hab
          obtain ⟨l0, h1, _⟩ := hat.hr.at_ id hid ab hab
          rw [h1] at h0; cases h0
    refine ⟨rfl, ρ, low_VR ho hv 10 q1, ⟨fun _ _ h => h, fun b k h1 h2 => (by rw [h1] at h2; cases h2), Nat.le_refl _, hle, fun h => Nat.le_trans h hle, ⟨fun b l hb => ⟨(hat.hr.dom b l hb).1, Nat.lt_of_lt_of_le (hat.hr.dom b l hb).2 st.size⟩, fun id hid ab hab => ?_⟩, fun b hb => List.mem_append.2 (.inr hb), fun b h1 h2 l hl => ?_, fun k hk hb => ?_, st.size, st.os, fun b k h1 h2 => (by rw [h1] at h2; cases h2), fun id hid h1 h2 => ?_⟩⟩
    · obtain ⟨l, g1, g2, g3⟩ := hr1.at_ id hid ab hab
      have hl := hρ id hid ab hab l g1
      refine ⟨l, hl, ?_, fun hrw => ⟨(g3 hrw).1, fun id2 hid2 ab2 l2 f1 f2 f3 => (g3 hrw).2 id2 hid2 ab2 l2 f1 (st.ext _ _ f2) f3⟩⟩
      have hab0 := hab
      rw [hget id hid] at hab
      by_cases h : id ∈ W
      · rw [if_pos h] at hab
        have := lowW_mem q2 id h
        rw [hab] at this
        exact low_BR ho g2 this
      · rw [if_neg h] at hab
        obtain ⟨l0, e1, e2, e3⟩ := hat.hr.at_ id hid ab hab
        rw [hl] at e1
        have := Option.some.inj e1; subst this
        refine e2.mono (fun _ _ h => h) (st.keep l.blk (hat.hr.dom id l hl).2 fun b hb lb hlb heq => ?_)
        have hbW : b ∈ W := (hmemW b).2 ⟨hb, hold rfl b lb hlb⟩
        obtain ⟨abb, c1, c2⟩ := hwrw b hbW lb hlb
        obtain ⟨lb0, d1, _, d3⟩ := hat.hr.at_ b (hat.hr.dom b lb hlb).1 abb c1
        rw [hlb] at d1
        have := Option.some.inj d1; subst this
        have := (d3 c2).2 id hid ab l hab hl heq.symm
        subst this
        exact h hbW
    · rcases List.mem_append.1 h1 with h | h
      · exact hwrw b h l hl
      · exact absurd h h2
    · exact st.keep k hk fun b hb' l hl => hb b (List.mem_append.2 (.inl ((hmemW b).2 ⟨hb', hold rfl b l hl⟩))) l hl
    · show Hp.get (keepL m1.H m.H W) id = _
      rw [hget id hid, if_neg (fun h => h1 (List.mem_append.2 (.inl h)))]
  | false =>
    rw [hq] at hg
    simp only [cond_false] at hg
    generalize hI : (reach m.n m1.H 100000 (idsV 10 v ++ wOf m1.H W) []).filter (fun b => Nat.ble m.n b && Nat.blt b m1.hi) = I at hg
    have hIm : ∀ b ∈ I, m.n ≤ b ∧ b < m1.hi := fun b hb => by
      subst hI
      obtain ⟨_, h⟩ := List.mem_filter.1 hb
      obtain ⟨h1, h2⟩ := boolAnd h
      exact ⟨Nat.le_of_ble_eq_true h1, Nat.le_of_ble_eq_true h2⟩
    obtain ⟨hbig, hg⟩ := cond_some hg
    cases hg
    have hbig := bigIds_le hbig
    have hget : ∀ id, id ≤ most → Hp.get (keepL m1.H m.H (W ++ I)) id = if id ∈ W ++ I then Hp.get m1.H id else Hp.get m.H id := fun id hid => keepL_get _ _ hbig id hid
    have hsub : ∀ id, id ≤ most → ∀ ab, Hp.get (keepL m1.H m.H (W ++ I)) id = some ab → Hp.get m1.H id = some ab := fun id hid ab hab => by
      rw [hget id hid] at hab
      by_cases h : id ∈ W ++ I
      · rw [if_pos h] at hab; exact hab
      · rw [if_neg h] at hab; exact (hnotW rfl id hid (fun hh => h (List.mem_append.2 (.inl hh))) ab hab).2
    refine ⟨rfl, ρ1, hv, ⟨st.ext, st.new, st.nle, hle, fun _ => hn1, st.hr.sub hsub, fun b hb => List.mem_append.2 (.inr hb), fun b h1 h2 l hl => ?_, fun k hk hb => ?_, st.size, st.os, fun b l h1 h2 => ?_, fun id hid h1 h2 => ?_⟩⟩
    · rcases List.mem_append.1 h1 with h | h
      · exact hwrw b h l hl
      · exact absurd h h2
    · exact st.keep k hk fun b hb' l hl => hb b (List.mem_append.2 (.inl ((hmemW b).2 ⟨hb', hold rfl b l hl⟩))) l hl
    · rcases st.blk b l h1 h2 with h | ⟨b0, h3, l0, h4, h5⟩
      · exact .inl h
      · exact .inr ⟨b0, List.mem_append.2 (.inl ((hmemW b0).2 ⟨h3, hold rfl b0 l0 h4⟩)), l0, h4, h5⟩
    · show Hp.get (keepL m1.H m.H (W ++ I)) id = _
      rw [hget id hid, if_neg]
      intro h
      rcases List.mem_append.1 h with h | h
      · exact h1 (List.mem_append.2 (.inl h))
      · have := hIm id h
        have h2 : id < m.n ∨ m1.hi ≤ id := h2
        omega

/-! ### a call -/
theorem argFr_get : ∀ (vs : List Value) (fr : Fr) (i t : Nat), i + vs.length ≤ 512 → t < 512 → (argFr fr i vs).get t = if i ≤ t ∧ t < i + vs.length then vs.getD (t - i) undef else fr.get t
  | [], fr, i, t, _, _ => by simp [argFr]; intro h1 h2; omega
  | v :: r, fr, i, t, h, ht => by
    simp only [List.length_cons] at h ⊢
    rw [argFr, setS_set, argFr_get r _ (i + 1) t (by omega) ht, fr_get_set _ _ _ _ (by omega) ht]
    by_cases h1 : i + 1 ≤ t ∧ t < i + 1 + r.length
    · rw [if_pos h1, if_pos (by omega), show t - i = (t - (i + 1)) + 1 by omega]; rfl
    · rw [if_neg h1]
      by_cases h2 : t = i
      · subst h2; rw [if_pos rfl, if_pos (by omega), Nat.sub_self]; rfl
      · rw [if_neg h2, if_neg (by omega)]

def resS (tmps : Array Value) : ResultVar → Sem Value
  | .tmp t => pure (tmps.getD t undef)
  | .cell a t => do loadVar t (← asAddr (tmps.getD a undef))
theorem resL_ok {ρ : Ren} {s : S} {a : Act} {w : World} (h : HR P base ρ s.m.H w) (hf : FrR ρ nt s.fr a) : ∀ (rs : List ResultVar) (vs : List Value), resL P nt s rs = some vs → ∃ vs', LR ρ vs vs' ∧
    (rs.mapM (resS a.tmps)).run P w = .ok vs' w
  | [], vs, hr => by
    simp only [resL, Option.some.injEq] at hr; subst hr
    exact ⟨[], .nil, rfl⟩
  | r :: rs, vs, hr => by
    unfold resL at hr
    split at hr
    · rename_i v vs0 h1 h2
      cases hr
      obtain ⟨vs', g1, g2⟩ := resL_ok h hf rs vs0 h2
      have hone : ∃ v', VR ρ v v' ∧ (resS a.tmps r).run P w = .ok v' w := by
        unfold resV at h1
        split at h1
        · rename_i t
          obtain ⟨q1, q2⟩ := cond_some h1
          cases q2
          exact ⟨_, hf.get t (Nat.le_of_ble_eq_true q1), rfl⟩
        · rename_i c t
          obtain ⟨q1, q2⟩ := cond_some h1
          have hv := hf.get c (Nat.le_of_ble_eq_true q1)
          split at q2
          · rename_i ad hev
            rw [hev] at hv
            obtain ⟨l, hl, _, e⟩ := inv_ptr hv
            obtain ⟨v', e1, e2⟩ := loadM_ok h q2 hl
            exact ⟨v', e2, by simp [resS, e, asAddr, e1]⟩
          · cases q2
      obtain ⟨v', e1, e2⟩ := hone
      refine ⟨v' :: vs', .cons e1 g1, ?_⟩
      simp only [List.mapM_cons, Sem.run_bind, e2, g2, Result.andThen, Sem.run_pure]
    · cases hr

theorem resM_ok {ρ : Ren} {fn : Func} {s : S} {a : Act} {w : World} {v : Value} (h : HR P base ρ s.m.H w) (hf : FrR ρ fn.ntmps s.fr a) (hr : resM fn P s = some v) : ∃ v', VR ρ v v' ∧ (results fn a.tmps).run P w = .ok v' w := by
  unfold resM at hr
  have key : ∀ vs, resL P fn.ntmps s fn.results.toList = some vs → ∃ vs', LR ρ vs vs' ∧ (results fn a.tmps).run P w = .ok (if h : vs'.toArray.size = 1 then vs'.toArray[0] else .tuple vs'.toArray) w := fun vs hvs => by
    obtain ⟨vs', g1, g2⟩ := resL_ok h hf _ vs hvs
    refine ⟨vs', g1, ?_⟩
    have he : results fn a.tmps = (do let vs ← fn.results.mapM (resS a.tmps); pure (if h : vs.size = 1 then vs[0] else .tuple vs)) := by
      unfold results; rfl
    have hm : (fn.results.mapM (resS a.tmps)).run P w = .ok vs'.toArray w := by
      rw [Array.mapM_eq_mapM_toList]
      show (Sem.bind (fn.results.toList.mapM (resS a.tmps)) fun l => Sem.pure l.toArray).run P w = _
      have hb : ∀ (x : Sem (List Value)) (k : List Value → Sem (Array Value)), (Sem.bind x k).run P w = (x >>= k).run P w := fun _ _ => rfl
      rw [hb, Sem.run_bind, g2]; rfl
    rw [he, Sem.run_bind, hm]
    rfl
  split at hr
  · rename_i u hl
    cases hr
    obtain ⟨vs', g1, g2⟩ := key _ hl
    obtain ⟨v', r', rfl, g3, g4⟩ := g1.tail
    cases g4.nil_inv
    exact ⟨v', g3, g2⟩
  · rename_i vs hne hl
    cases hr
    obtain ⟨vs', g1, g2⟩ := key _ hl
    refine ⟨.tuple ⟨vs'⟩, .tuple g1.1 g1.2, ?_⟩
    rw [g2, dif_neg]
    intro h1
    have h1 : vs'.length = 1 := by simpa using h1
    have h2 : vs.length = 1 := by rw [g1.1]; exact h1
    obtain ⟨x, rfl⟩ := List.length_eq_one_iff.1 h2
    exact hne x rfl
  · cases hr

/-- What is asked of the program's functions. -/
def NameOk (P : Program) : Prop := ∀ (f : Nat) (fn : Func), P.funcs[f]? = some fn → (fn.name == "runtime.NumGoroutine") = false

theorem gcM_lg {m m1 m' : Mem} {v : Value} (hg : gcM m m1 v = some m') : m'.lg = m1.lg := by
  unfold gcM at hg
  simp only [forceN_eq, forceL_eq, force8_eq] at hg
  cases hq : lowV m.n 10 v && lowW m.n m1.H (dedup (m1.W.filter fun b => Nat.blt b m.n || Nat.ble m1.hi b) []) with
  | true => rw [hq] at hg; obtain ⟨_, q⟩ := cond_some hg; cases q; rfl
  | false => rw [hq] at hg; obtain ⟨_, q⟩ := cond_some hg; cases q; rfl
theorem body_lg {fn : Func} {c : Code} {call : CallT} (hc : ∀ f, FnOk P base gl f (call f)) (hd : DrawsOk P base gl call) {lp : LpT} (hlp : LpOk P base gl fn.ntmps c lp) {vs : List Value} {m m' : Mem} {v : Value}
    (hr : bodyM fn P (compC P fn.ntmps gl call lp [] c) vs m = some (v, m')) : m.lg.le m'.lg := by
  unfold bodyM at hr
  obtain ⟨_, hr⟩ := cond_some hr
  have hst : startM (compC P fn.ntmps gl call lp [] c) (argFr fr0 0 vs) m = (compC P fn.ntmps gl call lp [] c).run ⟨argFr fr0 0 vs, ⟨m.H, m.n, [], m.hi, m.lg⟩⟩ := rfl
  rw [hst] at hr
  unfold endM at hr
  split at hr
  · rename_i s hrun
    have h1 := (code_hi hc hd hlp c [] rfl _ _ _ hrun).2
    split at hr
    · split at hr
      · rename_i m2 hm2; cases hr; rw [gcM_lg hm2]; exact h1
      · cases hr
    · cases hr
  · rename_i s hrun
    have h1 := (code_hi hc hd hlp c [] rfl _ _ _ hrun).2
    split at hr
    · split at hr
      · rename_i m2 hm2; cases hr; rw [gcM_lg hm2]; exact h1
      · cases hr
    · cases hr
  · cases hr
theorem body_ok {f : FuncId} {fn : Func} {c : Code} {call : CallT} (hf : P.funcs[f]? = some fn) (hb : fn.body = some c) (hnm : (fn.name == "runtime.NumGoroutine") = false) (hc : ∀ f, FnOk P base gl f (call f)) (hd : DrawsOk P base gl call) {lp : LpT} (hlp : LpOk P base gl fn.ntmps c lp) :
    FnOk P base gl f ⟨bodyM fn P (compC P fn.ntmps gl call lp [] c)⟩ := by
  refine ⟨fun vs m m' v hr => body_lg hc hd hlp hr, ?_⟩
  intro ρ m m' w vs vs' v hr hS hat hl
  have hr : bodyM fn P (compC P fn.ntmps gl call lp [] c) vs m = some (v, m') := hr
  unfold bodyM at hr
  obtain ⟨h1, hr⟩ := cond_some hr
  obtain ⟨h1, h2⟩ := boolAnd h1
  have h1 := Nat.le_of_ble_eq_true h1
  have h2 := Nat.le_of_ble_eq_true h2
  left
  constructor
  · have hn : fn.name ≠ "runtime.NumGoroutine" := by simpa using hnm
    simp [callFunc, hf, hn, hb]
  · have hst : startM (compC P fn.ntmps gl call lp [] c) (argFr fr0 0 vs) m = (compC P fn.ntmps gl call lp [] c).run ⟨argFr fr0 0 vs, ⟨m.H, m.n, [], m.hi, m.lg⟩⟩ := rfl
    rw [hst] at hr
    have hfr : FrR ρ fn.ntmps (argFr fr0 0 vs) { tmps := ⟨vs'⟩ ++ Array.replicate (fn.ntmps - (Array.mk vs').size) undef, defers := [] } := by
      have hlen := hl.1
      refine ⟨by simp; omega, h2, rfl, fun t ht => ?_⟩
      rw [argFr_get _ _ _ _ (by omega) (by omega)]
      by_cases hlt : t < vs.length
      · rw [if_pos (by omega)]
        have hlt' : t < vs'.length := by omega
        have := hl.2 t vs[t] vs'[t] (List.getElem?_eq_getElem hlt) (List.getElem?_eq_getElem hlt')
        simpa [Array.getD_eq_getD_getElem?, Array.getElem?_append, hlt, hlt', List.getD_eq_getElem?_getD] using this
      · rw [if_neg (by omega), fr_get0]
        have hlt' : ¬ t < vs'.length := by omega
        have : (({ toList := vs' } : Array Value) ++ Array.replicate (fn.ntmps - (Array.mk vs').size) undef).getD t undef = undef := by
          simp [Array.getD_eq_getD_getElem?, Array.getElem?_append, hlt', Array.getElem?_replicate]
          split <;> rfl
        rw [this]; exact undef_VR ρ
    unfold endM at hr
    have fin : ∀ (e : Ex) (s : S), (compC P fn.ntmps gl call lp [] c).run ⟨argFr fr0 0 vs, ⟨m.H, m.n, [], m.hi, m.lg⟩⟩ = some (e, s) → (e = .normal ∨ e = .ret) → (∃ u, resM fn P s = some u ∧ ∃ m2, gcM m s.m u = some m2 ∧ (u, m2) = (v, m')) → Calls P f ⟨vs'⟩ w (Post P base ρ m m' w v) := fun e s hrun he ⟨u, hres, m2, hgc, heq⟩ => by
      cases heq
      have hhi : s.m.hi = m'.hi := by
        unfold gcM at hgc
        simp only [forceN_eq, forceL_eq, force8_eq] at hgc
        cases hq : lowV m.n 10 v && lowW m.n s.m.H (dedup (s.m.W.filter fun b => Nat.blt b m.n || Nat.ble s.m.hi b) []) with
        | true => rw [hq] at hgc; obtain ⟨_, q⟩ := cond_some hgc; cases q; rfl
        | false => rw [hq] at hgc; obtain ⟨_, q⟩ := cond_some hgc; cases q; rfl
      refine calls_of_wp hf hb ?_
      have hat0 : At P base gl ρ ⟨m.H, m.n, [], m.hi, m.lg⟩ s.m.hi w := ⟨hat.hr, hat.bs, fun b q1 q2 => hat.fr b q1 (hhi ▸ q2), hat.gr, hat.nh, fun b hb => (by cases hb), hat.gf⟩
      have hS1 : Sat s.m.lg := by rw [← gcM_lg hgc]; exact hS
      refine code_ok hc hd hlp c [] rfl ρ _ s e _ w _ hrun hS1 hat0 hfr fun ρ1 a1 w1 f1 st1 => ?_
      obtain ⟨v', g1, g2⟩ := resM_ok st1.hr f1 hres
      obtain ⟨_, ρ2, g3, g4⟩ := gc_ok hgc st1 hat g1
      rcases he with rfl | rfl
      · exact ⟨f1.defers, v', g2, v', ρ2, rfl, g3, g4⟩
      · exact ⟨f1.defers, v', g2, v', ρ2, rfl, g3, g4⟩
    split at hr
    · rename_i s hrun
      split at hr
      · rename_i u hu
        split at hr
        · rename_i m2 hm2; cases hr; exact fin _ s hrun (.inl rfl) ⟨_, hu, _, hm2, rfl⟩
        · cases hr
      · cases hr
    · rename_i s hrun
      split at hr
      · rename_i u hu
        split at hr
        · rename_i m2 hm2; cases hr; exact fin _ s hrun (.inr rfl) ⟨_, hu, _, hm2, rfl⟩
        · cases hr
      · cases hr
    · cases hr

/-- What the tables say is so of the program. -/
structure CxOk (C : Cx) (base : Nat) : Prop where
  names : NameOk C.P
  ext : ∀ f k fn, C.P.funcs[f]? = some fn → fn.body = none → findE C.ext f = some k → FnOk C.P base C.gl f ⟨extM k⟩
  con : ∀ f c, C.con f = some c → FnOk C.P base C.gl f c
  lp : ∀ f fn body, C.P.funcs[f]? = some fn → fn.body = some body → LpOk C.P base C.gl fn.ntmps body (C.lp f)
  draws : ∀ call, (∀ f, FnOk C.P base C.gl f (call f)) → DrawsOk C.P base C.gl call

theorem noFn_ok (f : FuncId) : FnOk P base gl f ⟨fun _ _ => none⟩ := ⟨fun vs m m' v hr => (by cases hr), fun ρ m m' w vs vs' v hr => (by cases hr)⟩

theorem callN_ok {C : Cx} (h : CxOk C base) : ∀ (d : Nat) (f : FuncId), FnOk C.P base C.gl f (callN C d f)
  | 0, f => noFn_ok f
  | d + 1, f => by
    unfold callN
    split
    · exact noFn_ok f
    · rename_i fn hf
      have hf : C.P.funcs[f]? = some fn := by simpa using hf
      split
      · rename_i c hcon; exact h.con f c hcon
      · split
        · rename_i hb
          split
          · rename_i k hk; exact h.ext f k fn hf hb hk
          · exact noFn_ok f
        · rename_i c hb
          have hc := fun f => callN_ok h d f
          exact body_ok (gl := C.gl) hf hb (h.names f fn hf) hc (h.draws _ hc) (h.lp f fn c hf hb)
end
end Go.Sx
