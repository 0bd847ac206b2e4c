/- Regions that draw their order, part 2: any order. -/
import Derived.Test.YtdmdghooamchfaaDoorSxDraw
namespace Go.Sx
set_option linter.all false
open Go
set_option linter.unusedVariables false
set_option linter.unusedSimpArgs false
variable [Ora]

/-- The machine's run over the region, operation by operation. -/
structure Rg (P : Program) (base gl nt : Nat) (call : CallT) (ops : Array Oper) (F : Nat → Fr) (M : Nat → Mem) (V : Nat → Value) (R : Nat → List Rec) : Prop where
  st : ∀ i o, ops[i]? = some o → StepAt P nt gl call ops.toList ((ancs ops.toList []).getD i []) (R i) o (F i) (F (i + 1)) (M i) (M (i + 1)) (V i)
  rc : ∀ i o, ops[i]? = some o → (R (i + 1) = R i ∧ ∃ lg, M (i + 1) = (M i).wLg lg) ∨ R (i + 1) = ⟨i, (M i).n, (M (i + 1)).n⟩ :: R i
  ok : opsOk ops.toList (ancs ops.toList []) ops.toList 0 = true
  nh : (M 0).n ≤ (M 0).hi

section
variable {P : Program} {base gl nt : Nat} {call : CallT} {ops : Array Oper} {F : Nat → Fr} {M : Nat → Mem} {V : Nat → Value} {R : Nat → List Rec}

theorem get_of_lt {i : Nat} (h : i < ops.size) : ∃ o, ops[i]? = some o := ⟨ops[i], by simp [h]⟩

theorem Rg.one (g : Rg P base gl nt call ops F M V R) {i : Nat} {o : Oper} (ho : ops[i]? = some o) (hn : (M i).n ≤ (M i).hi) : (M i).n ≤ (M (i + 1)).n ∧ (M i).hi ≤ (M (i + 1)).hi ∧ (M (i + 1)).n ≤ (M (i + 1)).hi ∧ (M (i + 1)).W = (M i).W ∧
    ∀ id, id ≤ most → (id < (M i).n ∨ (M (i + 1)).n ≤ id) → Hp.get (M (i + 1)).H id = Hp.get (M i).H id := by
  obtain ⟨_, _, _, h⟩ := g.st i o ho
  rcases h with ⟨lg, _, _, h⟩ | ⟨lg, _, mv, m', _, _, _, hhi, hm⟩
  · rw [h]; exact ⟨Nat.le_refl _, Nat.le_refl _, hn, rfl, fun _ _ _ => rfl⟩
  · obtain ⟨h1, h2, h3, h4, _, _, _, h5⟩ := merge_ok hm hn hhi
    exact ⟨h1, h2, h3, h4, fun id hid hh => by rw [h5 id hid, if_neg (by show ¬ ((M i).n ≤ id ∧ _); omega)]; rfl⟩

theorem Rg.all (g : Rg P base gl nt call ops F M V R) : ∀ i, i ≤ ops.size → (M 0).n ≤ (M i).n ∧ (M 0).hi ≤ (M i).hi ∧ (M i).n ≤ (M i).hi ∧ (M i).W = (M 0).W ∧
    ∀ id, id ≤ most → (id < (M 0).n ∨ (M i).n ≤ id) → Hp.get (M i).H id = Hp.get (M 0).H id
  | 0, _ => ⟨Nat.le_refl _, Nat.le_refl _, g.nh, rfl, fun _ _ _ => rfl⟩
  | i + 1, h => by
    obtain ⟨h1, h2, h3, h4, h5⟩ := g.all i (by omega)
    obtain ⟨o, ho⟩ := get_of_lt (ops := ops) (i := i) (by omega)
    obtain ⟨k1, k2, k3, k4, k5⟩ := g.one ho h3
    exact ⟨Nat.le_trans h1 k1, Nat.le_trans h2 k2, k3, k4.trans h4, fun id hid hh => by rw [k5 id hid (by omega), h5 id hid (by omega)]⟩
theorem Rg.mono (g : Rg P base gl nt call ops F M V R) {i : Nat} : ∀ d, i + d ≤ ops.size → (M i).n ≤ (M (i + d)).n ∧ (M i).hi ≤ (M (i + d)).hi ∧ ∀ id, id ≤ most → id < (M i).n → Hp.get (M (i + d)).H id = Hp.get (M i).H id
  | 0, _ => ⟨Nat.le_refl _, Nat.le_refl _, fun _ _ _ => rfl⟩
  | d + 1, h => by
    obtain ⟨h1, h2, h5⟩ := g.mono (i := i) d (by omega)
    obtain ⟨o, ho⟩ := get_of_lt (ops := ops) (i := i + d) (by omega)
    obtain ⟨k1, k2, k3, k4, k5⟩ := g.one ho (g.all (i + d) (by omega)).2.2.1
    exact ⟨Nat.le_trans h1 k1, Nat.le_trans h2 k2, fun id hid hh => by rw [show i + (d + 1) = i + d + 1 by omega, k5 id hid (by omega), h5 id hid hh]⟩
theorem Rg.le (g : Rg P base gl nt call ops F M V R) {i j : Nat} (h : i ≤ j) (hj : j ≤ ops.size) : (M i).n ≤ (M j).n ∧ (M i).hi ≤ (M j).hi ∧ ∀ id, id ≤ most → id < (M i).n → Hp.get (M j).H id = Hp.get (M i).H id := by
  have := g.mono (i := i) (j - i) (by omega)
  rwa [show i + (j - i) = j by omega] at this
theorem view_lg {m mv : Mem} {c : Cls} {us : List Rec} (h : viewM m c us = some mv) : mv.lg = m.lg := by
  obtain ⟨H, n, W, hi, lg⟩ := m
  unfold viewM at h
  simp only at h
  cases c with
  | free => cases h; rfl
  | one b =>
    simp only at h
    cases hq : hasN (hidden us) b || !(Nat.ble b most) with
    | true => rw [hq] at h; cases h
    | false => rw [hq, put_eq] at h; cases h; rfl
  | all =>
    simp only at h
    obtain ⟨hb, h⟩ := cond_some h
    cases h; rfl
theorem merge_lg {m m' m2 : Mem} (h : mergeM m m' = some m2) : m2.lg = m'.lg := by
  unfold mergeM at h
  cases hq : Nat.ble m'.hi m.n with
  | true => rw [hq] at h; cases h; rfl
  | false =>
    rw [hq] at h
    obtain ⟨_, h⟩ := cond_some h
    simp only [forceN_eq, force8_eq] at h
    cases h
    rfl
theorem stepAt_lg {all : List Oper} {b : List Nat} {rs : List Rec} {o : Oper} {fr fr' : Fr} {m m2 : Mem} {v : Value} (hc : ∀ f, FnOk P base gl f (call f)) (h : StepAt P nt gl call all b rs o fr fr' m m2 v) : m.lg.le m2.lg := by
  obtain ⟨_, _, _, h⟩ := h
  rcases h with ⟨lg, hw, _, h⟩ | ⟨lg, hw, mv, m', hv, hr, _, hhi, hm⟩
  · rw [h]; exact wantM_le hw
  · rw [merge_lg hm]
    have h1 := stepC_lg hc hr
    rw [view_lg hv] at h1
    exact (wantM_le hw).trans h1
theorem Rg.lgs (g : Rg P base gl nt call ops F M V R) (hc : ∀ f, FnOk P base gl f (call f)) {i : Nat} : ∀ d, i + d ≤ ops.size → (M i).lg.le (M (i + d)).lg
  | 0, _ => .refl _
  | d + 1, h => by
    obtain ⟨o, ho⟩ := get_of_lt (ops := ops) (i := i + d) (by omega)
    exact (g.lgs hc d (by omega)).trans (stepAt_lg hc (g.st (i + d) o ho))
/-- A number that was used ahead of i was used by one of them. -/
theorem Rg.who (g : Rg P base gl nt call ops F M V R) : ∀ i, i ≤ ops.size → ∀ b, (M 0).n ≤ b → b < (M i).n → ∃ k, k < i ∧ (M k).n ≤ b ∧ b < (M (k + 1)).n
  | 0, _, b, h1, h2 => by omega
  | i + 1, h, b, h1, h2 => by
    rcases Nat.lt_or_ge b (M i).n with h3 | h3
    · obtain ⟨k, k1, k2⟩ := g.who i (by omega) b h1 h3
      exact ⟨k, by omega, k2⟩
    · exact ⟨i, by omega, h3, h2⟩
theorem mem_hidden : ∀ {rs : List Rec} {b : Nat}, b ∈ hidden rs ↔ ∃ r ∈ rs, r.lo ≤ b ∧ b < r.hi
  | [], b => by simp [hidden]
  | r :: rs, b => by
    simp only [hidden, List.mem_append, mem_span, mem_hidden (rs := rs), List.mem_cons]
    constructor
    · rintro (h | ⟨r', h1, h2⟩)
      · exact ⟨r, .inl rfl, by omega⟩
      · exact ⟨r', .inr h1, h2⟩
    · rintro ⟨r', rfl | h1, h2⟩
      · exact .inl (by omega)
      · exact .inr ⟨r', h1, h2⟩
theorem Rg.recs (g : Rg P base gl nt call ops F M V R) : ∀ i, i ≤ ops.size → ∀ k, k < i → ∀ b, (M k).n ≤ b → b < (M (k + 1)).n → ⟨k, (M k).n, (M (k + 1)).n⟩ ∈ R i
  | 0, _, k, h, _, _, _ => by omega
  | i + 1, hi, k, h, b, h1, h2 => by
    obtain ⟨o, ho⟩ := get_of_lt (ops := ops) (i := i) (by omega)
    by_cases e : k = i
    · subst e
      rcases g.rc k o ho with ⟨_, lg, h3⟩ | h3
      · rw [h3] at h2; have h2 : b < (M k).n := h2; omega
      · rw [h3]; exact List.mem_cons_self
    · have := g.recs i (by omega) k (by omega) b h1 h2
      rcases g.rc i o ho with ⟨h3, _⟩ | h3
      · rw [h3]; exact this
      · rw [h3]; exact List.mem_cons_of_mem _ this

/-- The view of an operation: what it holds, the memory ahead of the operation holds, and it is not hidden. -/
theorem view_ok {m mv : Mem} {c : Cls} {us : List Rec} (h : viewM m c us = some mv) : mv.n = m.n ∧ mv.hi = m.hi ∧ mv.W = [] ∧ mv.lg = m.lg ∧ ∀ id, id ≤ most → ∀ ab, Hp.get mv.H id = some ab → Hp.get m.H id = some ab ∧ id ∉ hidden us := by
  obtain ⟨H, n, W, hi, lg⟩ := m
  unfold viewM at h
  simp only at h
  cases c with
  | free =>
    cases h
    exact ⟨rfl, rfl, rfl, rfl, fun id _ ab hab => by rw [hp_get0] at hab; cases hab⟩
  | one b =>
    simp only at h
    cases hq : hasN (hidden us) b || !(Nat.ble b most) with
    | true => rw [hq] at h; cases h
    | false =>
      rw [hq, put_eq] at h
      cases h
      simp only [Bool.or_eq_false_iff, Bool.not_eq_false'] at hq
      have hb := Nat.le_of_ble_eq_true hq.2
      refine ⟨rfl, rfl, rfl, rfl, fun id hid ab hab => ?_⟩
      have hab : Hp.get (Hp.set hp0 b (Hp.get H b)) id = some ab := hab
      rw [hp_get_set _ _ _ _ hb hid] at hab
      by_cases e : id = b
      · subst e
        rw [if_pos rfl] at hab
        exact ⟨hab, fun hm => by rw [hasN_iff.2 hm] at hq; exact absurd hq.1 (by simp)⟩
      · rw [if_neg e, hp_get0] at hab; cases hab
  | all =>
    simp only at h
    obtain ⟨hb, h⟩ := cond_some h
    cases h
    refine ⟨rfl, rfl, rfl, rfl, fun id hid ab hab => ?_⟩
    have hab : Hp.get (hideL H (hidden us)) id = some ab := hab
    rw [hideL_get _ _ (bigIds_le hb) id hid] at hab
    by_cases e : id ∈ hidden us
    · rw [if_pos e] at hab; cases hab
    · rw [if_neg e] at hab; exact ⟨hab, e⟩

/-- Is the number one that an operation of D used? -/
def used (M : Nat → Mem) (D : Nat → Bool) (b : Nat) : Nat → Bool
  | 0 => false
  | n + 1 => (D n && Nat.ble (M n).n b && Nat.blt b (M (n + 1)).n) || used M D b n
theorem used_iff {D : Nat → Bool} {b : Nat} : ∀ n, used M D b n = true ↔ ∃ k, k < n ∧ D k = true ∧ (M k).n ≤ b ∧ b < (M (k + 1)).n
  | 0 => by simp [used]
  | n + 1 => by
    simp only [used, Bool.or_eq_true, Bool.and_eq_true, used_iff n]
    constructor
    · rintro (⟨⟨h1, h2⟩, h3⟩ | ⟨k, h1, h2⟩)
      · exact ⟨n, by omega, h1, Nat.le_of_ble_eq_true h2, Nat.le_of_ble_eq_true h3⟩
      · exact ⟨k, by omega, h2⟩
    · rintro ⟨k, h1, h2, h3, h4⟩
      by_cases e : k = n
      · subst e; exact .inl ⟨⟨h2, Nat.ble_eq_true_of_le h3⟩, Nat.ble_eq_true_of_le h4⟩
      · exact .inr ⟨k, by omega, h2, h3, h4⟩
/-- The heap where the operations of D have come up. -/
def GD (M : Nat → Mem) (N : Nat) (D : Nat → Bool) (b : Nat) : Option AB := bif used M D b N then Hp.get (M N).H b else Hp.get (M 0).H b

/-- The state where the operations of D have come up. -/
structure Inv (P : Program) (base gl nt : Nat) (ops : Array Oper) (F : Nat → Fr) (M : Nat → Mem) (V : Nat → Value) (ρ0 : Ren) (w0 : World) (D : Nat → Bool) (ρ : Ren) (a : Act) (w : World) : Prop where
  ext : ∀ b l, ρ0 b = some l → ρ b = some l
  new : ∀ b l, ρ b = some l → ρ0 b = none → used M D b ops.size = true ∧ w0.heap.size ≤ l.blk
  hr : HRf P base ρ (GD M ops.size D) w
  keep : ∀ k, k < w0.heap.size → w.heap[k]? = w0.heap[k]?
  size : w0.heap.size ≤ w.heap.size
  os : w.os = w0.os ∧ w.tape = w0.tape ∧ w.output = w0.output
  tsz : a.tmps.size = nt
  dfr : a.defers = []
  frm : ∀ t, t < nt → VR ρ (fval D (fun k => (ops[k]?).bind (·.dst)) V (F 0).get t ops.size) (a.tmps.getD t undef)

theorem ops_list {i : Nat} {o : Oper} (h : ops[i]? = some o) : ops.toList[i]? = some o := by simpa using h
theorem opsOk_at {ops : List Oper} {an : List (List Nat)} : ∀ (r : List Oper) (i : Nat), opsOk ops an r i = true → ∀ j o, r[j]? = some o → edgesOk (i + j) o.after.toList = true ∧ slotOk an (i + j) (slotsOf ops o) ops 0 = true
  | [], i, h, j, o, hj => by simp at hj
  | x :: r, i, h, j, o, hj => by
    obtain ⟨h1, h2⟩ := boolAnd (show (edgesOk i x.after.toList && (slotOk an i (slotsOf ops x) ops 0 && opsOk ops an r (i + 1))) = true from h)
    obtain ⟨h2, h3⟩ := boolAnd h2
    cases j with
    | zero => simp at hj; subst hj; exact ⟨h1, h2⟩
    | succ j =>
      have := opsOk_at r (i + 1) h3 j o (by simpa using hj)
      rwa [show i + 1 + j = i + (j + 1) by omega] at this
theorem edgesOk_at : ∀ {es : List Edge} {i : Nat}, edgesOk i es = true → ∀ e ∈ es, Region.binds .any e = true → e.on < i
  | [], i, h, e, he, _ => by cases he
  | x :: r, i, h, e, he, hb => by
    obtain ⟨h1, h2⟩ := boolAnd (show ((!(Region.binds .any x) || Nat.blt x.on i) && edgesOk i r) = true from h)
    rcases List.mem_cons.1 he with rfl | he
    · rw [hb] at h1
      have h1 : Nat.blt e.on i = true := by simpa only [Bool.not_true, Bool.false_or] using h1
      exact Nat.le_of_ble_eq_true h1
    · exact edgesOk_at h2 e he hb
theorem slotOk_at {an : List (List Nat)} {i : Nat} {sl : List Tmp} : ∀ (r : List Oper) (k0 : Nat), slotOk an i sl r k0 = true → ∀ j p t, r[j]? = some p → k0 + j ≠ i → p.dst = some t → t ∈ sl → ordB an i (k0 + j) = true
  | [], k0, h, j, p, t, hj, _, _, _ => by simp at hj
  | x :: r, k0, h, j, p, t, hj, hne, hd, ht => by
    obtain ⟨h1, h2⟩ := boolAnd (show ((Nat.beq k0 i || (match x.dst with | none => true | some t => !(hasN sl t) || ordB an i k0)) && slotOk an i sl r (k0 + 1)) = true from h)
    cases j with
    | zero =>
      simp at hj; subst hj
      have hb : Nat.beq k0 i = false := by
        cases hq : Nat.beq k0 i with
        | false => rfl
        | true => exact absurd (Nat.eq_of_beq_eq_true hq) hne
      rw [hb, hd, Bool.false_or] at h1
      simp only [hasN_iff.2 ht, Bool.not_true, Bool.false_or] at h1
      exact h1
    | succ j =>
      have := slotOk_at r (k0 + 1) h2 j p t (by simpa using hj) (by omega) hd ht
      rwa [show k0 + 1 + j = k0 + (j + 1) by omega] at this

/-- The slots of operation i hold what the machine's run has in them ahead of i. -/
theorem Rg.slot (g : Rg P base gl nt call ops F M V R) {D : Nat → Bool} (hc : Closed ops.toList fun k => D k = true) (hlt : ∀ k, D k = true → k < ops.size) {i : Nat} {o : Oper} (ho : ops[i]? = some o) (hi : D i = false)
    (hr : ∀ e ∈ o.after.toList, Region.binds .any e = true → D e.on = true) {t : Tmp} (ht : t ∈ slotsOf ops.toList o) : ∀ k p, ops[k]? = some p → k ≠ i → p.dst = some t → (D k = true ↔ k < i) := fun k p hp hne hd => by
  have hb : ∀ (i : Nat) (o : Oper), ops.toList[i]? = some o → ∀ e ∈ o.after.toList, Region.binds .any e = true → e.on < i := fun i o ho => by
    have := (opsOk_at _ 0 g.ok i o ho).1
    rw [Nat.zero_add] at this
    exact edgesOk_at this
  have h1 := (opsOk_at _ 0 g.ok i o (ops_list ho)).2
  have h2 := slotOk_at _ 0 h1 k p t (ops_list hp) (by omega) hd ht
  rw [Nat.zero_add, Nat.zero_add] at h2
  unfold ordB at h2
  rcases Nat.lt_trichotomy k i with hlt' | heq | hgt
  · have hq : Nat.blt i k = false := by
      cases hq : Nat.blt i k with
      | false => rfl
      | true => have : i < k := Nat.le_of_ble_eq_true hq; omega
    rw [hq] at h2
    have hm := hasN_iff.1 (by simpa using h2)
    exact ⟨fun _ => hlt', fun _ => anc_in hc hb (i + 1) i k o (Nat.lt_succ_self i) (ops_list ho) hr hm⟩
  · exact absurd heq hne
  · have hq : Nat.blt i k = true := Nat.ble_eq_true_of_le hgt
    rw [hq] at h2
    have hm := hasN_iff.1 (by simpa using h2)
    refine ⟨fun hk => ?_, fun h => by omega⟩
    have := anc_in hc hb (k + 1) k i p (Nat.lt_succ_self k) (ops_list hp) (fun e he hbe => hc k p (ops_list hp) hk e he hbe) hm
    rw [hi] at this; cases this

/-- The machine's frame ahead of i, by what came up before. -/
theorem Rg.frame (g : Rg P base gl nt call ops F M V R) (hnt : nt ≤ 512) {t : Tmp} (ht : t < nt) : ∀ i, i ≤ ops.size → (F i).get t = fval (fun k => Nat.blt k i) (fun k => (ops[k]?).bind (·.dst)) V (F 0).get t i
  | 0, _ => rfl
  | i + 1, h => by
    obtain ⟨o, ho⟩ := get_of_lt (ops := ops) (i := i) (by omega)
    obtain ⟨h1, _, h3, _⟩ := g.st i o ho
    have ih := g.frame hnt ht i (by omega)
    have e1 : fval (fun k => Nat.blt k (i + 1)) (fun k => (ops[k]?).bind (·.dst)) V (F 0).get t i = fval (fun k => Nat.blt k i) (fun k => (ops[k]?).bind (·.dst)) V (F 0).get t i := fval_congr i fun k hk _ => by
      rw [show Nat.blt k (i + 1) = true from Nat.ble_eq_true_of_le (by omega), show Nat.blt k i = true from Nat.ble_eq_true_of_le hk]
    have e2 : Nat.blt i (i + 1) = true := Nat.ble_eq_true_of_le (Nat.le_refl _)
    rw [h3]
    unfold fval
    rw [e1, ← ih]
    simp only [e2, ho, Option.bind_some, true_and]
    cases hd : o.dst with
    | none => simp [dstF]
    | some d =>
      rw [hd] at h1
      have hd' : d < nt := Nat.le_of_ble_eq_true h1
      simp only [dstF, Option.some.injEq]
      rw [fr_get_set _ _ _ _ (Nat.lt_of_lt_of_le hd' hnt) (Nat.lt_of_lt_of_le ht hnt)]
      by_cases e : t = d
      · subst e; simp
      · rw [if_neg e, if_neg (fun h => e h.symm)]
/-- What operation i looks at is what the machine's operation i looked at. -/
theorem Rg.look (g : Rg P base gl nt call ops F M V R) (hnt : nt ≤ 512) {D : Nat → Bool} (hc : Closed ops.toList fun k => D k = true) (hlt : ∀ k, D k = true → k < ops.size) {i : Nat} {o : Oper} (ho : ops[i]? = some o) (hi : D i = false)
    (hr : ∀ e ∈ o.after.toList, Region.binds .any e = true → D e.on = true) {t : Tmp} (ht : t ∈ slotsOf ops.toList o) (htn : t < nt) : fval D (fun k => (ops[k]?).bind (·.dst)) V (F 0).get t ops.size = (F i).get t := by
  have hil : i < ops.size := (Array.getElem?_eq_some_iff.1 ho).1
  rw [g.frame hnt htn i (by omega)]
  have hs := g.slot hc hlt ho hi hr ht
  have e1 : fval D (fun k => (ops[k]?).bind (·.dst)) V (F 0).get t ops.size = fval (fun k => Nat.blt k i) (fun k => (ops[k]?).bind (·.dst)) V (F 0).get t ops.size := fval_congr _ fun k hk hd => by
    obtain ⟨p, hp⟩ := get_of_lt (ops := ops) hk
    rw [hp] at hd
    by_cases e : k = i
    · subst e; rw [hi]; symm
      cases hq : Nat.blt k k with
      | false => rfl
      | true => have : k < k := Nat.le_of_ble_eq_true hq; omega
    · have := hs k p hp e hd
      rw [Bool.eq_iff_iff, this]
      exact ⟨fun h => Nat.ble_eq_true_of_le h, fun h => Nat.le_of_ble_eq_true h⟩
  rw [e1]
  -- beyond i nothing has come up
  have e2 : ∀ d, i + d ≤ ops.size → fval (fun k => Nat.blt k i) (fun k => (ops[k]?).bind (·.dst)) V (F 0).get t (i + d) = fval (fun k => Nat.blt k i) (fun k => (ops[k]?).bind (·.dst)) V (F 0).get t i := by
    intro d
    induction d with
    | zero => intro _; rfl
    | succ d ih =>
      intro hd
      rw [show i + (d + 1) = (i + d) + 1 by omega]
      rw [fval, if_neg (fun hh => by have : i + d < i := Nat.le_of_ble_eq_true hh.1; omega)]
      exact ih (by omega)
  have := e2 (ops.size - i) (by omega)
  rwa [show i + (ops.size - i) = ops.size by omega] at this

theorem tmp_slot {o : Oper} {x : Operand} {t : Tmp} (hx : x ∈ o.op.operands.toList) (ht : x = .tmp t) : t ∈ slotsOf ops.toList o := by
  unfold slotsOf
  refine List.mem_append.2 (.inr (List.mem_append.2 (.inl (List.mem_flatMap.2 ⟨x, hx, ?_⟩))))
  subst ht; simp [tmpOf]

/-- One operation comes up. -/
theorem Rg.step (g : Rg P base gl nt call ops F M V R) (hcall : ∀ f, FnOk P base gl f (call f)) {ρ0 ρ : Ren} {w0 w : World} {D D' : Nat → Bool} {a : Act} {i : Nat} {o : Oper} {Q : Exit → Act → World → Prop} {K : Act → World → Prop}
    (hat : At P base gl ρ0 (M 0) (M ops.size).hi w0) (hS : Sat (M ops.size).lg) (hnt : nt ≤ 512) (inv : Inv P base gl nt ops F M V ρ0 w0 D ρ a w) (hc : Closed ops.toList fun k => D k = true) (hlt : ∀ k, D k = true → k < ops.size) (ho : ops[i]? = some o) (hi : D i = false)
    (hr : ∀ e ∈ o.after.toList, Region.binds .any e = true → D e.on = true) (hD : ∀ k, k ≠ i → D' k = D k) (hDi : D' i = true)
    (hK : ∀ ρ' a' w', Inv P base gl nt ops F M V ρ0 w0 D' ρ' a' w' → K a' w') : wpOp P ops Q i K a w := by
  have hil : i < ops.size := (Array.getElem?_eq_some_iff.1 ho).1
  obtain ⟨hd1, hd2, hF, hstep⟩ := g.st i o ho
  have hlo := g.le (i := 0) (j := i) (by omega) (by omega)
  have hup := g.le (i := i + 1) (j := ops.size) (by omega) (by omega)
  have hone := g.one ho (g.all i (by omega)).2.2.1
  -- the slots that are looked at
  have hlook : ∀ t, t ∈ slotsOf ops.toList o → t < nt → VR ρ ((F i).get t) (a.tmps.getD t undef) := fun t ht htn => by
    rw [← g.look hnt hc hlt ho hi hr ht htn]; exact inv.frm t htn
  have hFR : FR ρ (F i) a.eval o.op := fun x hx => by
    have hok : okX nt gl x = true := List.all_eq_true.1 hd2 x hx
    cases x with
    | tmp t => exact hlook t (tmp_slot hx rfl) (Nat.le_of_ble_eq_true hok)
    | const v => exact VR.ofC hok
    | global gg => exact VR.ptr (o := 0) (inv.ext _ _ (hat.gr gg (Nat.le_of_ble_eq_true hok)))
    | func f => exact .func (a := []) (b := []) (a' := []) (b' := []) rfl rfl (fun i v v' h => by simp at h) (fun i v v' h => by simp at h)
  have hwant : ∀ lg b, wantM nt (F i) (M i).lg ops.toList o = some (b, lg) → Sat lg → Region.wanted o (yielded ops a.tmps) = b := fun lg b hw hSl => by
    unfold wantM at hw
    split at hw
    · rename_i hg; cases hw; simp [Region.wanted, hg]
    · rename_i j want hg
      split at hw
      · rename_i p hp
        split at hw
        · rename_i t ht
          obtain ⟨h1, h2⟩ := cond_some hw
          have h1 : t < nt := Nat.le_of_ble_eq_true h1
          have hv := hlook t (by
            unfold slotsOf
            refine List.mem_append.2 (.inr (List.mem_append.2 (.inr ?_)))
            simp [hg, hp, ht]) h1
          exact wanted_of hg hp ht (by rw [inv.tsz]; exact h1) (wantV_ok h2 hv hSl)
        · cases hw
      · cases hw
  -- the frame behind it
  have hframe : ∀ (ρ' : Ren) (v' : Value), (∀ b l, ρ b = some l → ρ' b = some l) → VR ρ' (V i) v' → ∀ t, t < nt → VR ρ' (fval D' (fun k => (ops[k]?).bind (·.dst)) V (F 0).get t ops.size) ((a.put o.dst v').tmps.getD t undef) := fun ρ' v' he hv t ht => by
    by_cases hd : o.dst = some t
    · have hnext : ∀ k, i < k → k < ops.size → (ops[k]?).bind (·.dst) = some t → D k = false := fun k hik hk hkd => by
        obtain ⟨p, hp⟩ := get_of_lt (ops := ops) hk
        rw [hp] at hkd
        have := g.slot hc hlt ho hi hr (t := t) (by unfold slotsOf; simp [hd]) k p hp (by omega) hkd
        cases hq : D k with
        | false => rfl
        | true => have := this.1 hq; omega
      rw [fval_add hD hDi ops.size hil (by simp [ho, hd]) hnext]
      simp only [hd, Act.put, Array.getD_eq_getD_getElem?]
      rw [Array.getElem?_setIfInBounds, if_pos rfl, if_pos (by rw [inv.tsz]; exact ht)]
      exact hv
    · rw [fval_other hD (by simp [ho]; exact hd)]
      have h1 := (inv.frm t ht).mono he
      cases hdd : o.dst with
      | none => exact h1
      | some d =>
        have hne : d ≠ t := fun e => hd (e ▸ hdd)
        simp only [Act.put, Array.getD_eq_getD_getElem?] at h1 ⊢
        rw [Array.getElem?_setIfInBounds, if_neg hne]
        exact h1
  have hused : ∀ b, used M D' b ops.size = true ↔ (used M D b ops.size = true ∨ ((M i).n ≤ b ∧ b < (M (i + 1)).n)) := fun b => by
    rw [used_iff, used_iff]
    constructor
    · rintro ⟨k, h1, h2, h3⟩
      by_cases e : k = i
      · subst e; exact .inr h3
      · rw [hD k e] at h2; exact .inl ⟨k, h1, h2, h3⟩
    · rintro (⟨k, h1, h2, h3⟩ | h3)
      · have e : k ≠ i := fun e => by subst e; rw [hi] at h2; cases h2
        exact ⟨k, h1, by rw [hD k e]; exact h2, h3⟩
      · exact ⟨i, hil, hDi, h3⟩
  unfold wpOp
  simp only [ho]
  have hSi : Sat (M (i + 1)).lg := SatL.le hS (by have := g.lgs hcall (i := i + 1) (ops.size - (i + 1)) (by omega); rwa [show i + 1 + (ops.size - (i + 1)) = ops.size by omega] at this)
  rcases hstep with ⟨lg, hw, hv, hm⟩ | ⟨lg, hw, mv, m', hview, hrun, hW, hhi, hmerge⟩
  · -- it is passed over
    have hSl : Sat lg := by rw [hm] at hSi; exact hSi
    rw [hwant lg false hw hSl]
    simp only [Bool.false_eq_true, if_false]
    have hG : GD M ops.size D' = GD M ops.size D := by
      funext b
      unfold GD
      have : used M D' b ops.size = used M D b ops.size := by
        rw [Bool.eq_iff_iff, hused b]
        constructor
        · rintro (h | h)
          · exact h
          · rw [hm] at h; have h2 : b < (M i).n := h.2; omega
        · exact .inl
      rw [this]
    refine hK ρ _ w ⟨inv.ext, fun b l h1 h2 => ⟨(hused b).2 (.inl (inv.new b l h1 h2).1), (inv.new b l h1 h2).2⟩, hG ▸ inv.hr, inv.keep, inv.size, inv.os, ?_, ?_, hframe ρ undef (fun _ _ h => h) (hv ▸ undef_VR ρ)⟩
    · cases hdd : o.dst <;> simp [Act.put, inv.tsz]
    · cases hdd : o.dst <;> simp [Act.put, inv.dfr]
  · have hSm : Sat m'.lg := by rw [merge_lg hmerge] at hSi; exact hSi
    have hSl : Sat lg := SatL.le hSm (by have := stepC_lg hcall hrun; rw [view_lg hview] at this; exact this)
    rw [hwant lg true hw hSl]
    simp only [if_true]
    refine .inl ?_
    obtain ⟨v1, v2, v3, _, v4⟩ := view_ok hview
    have v1 : mv.n = (M i).n := v1
    have v2 : mv.hi = (M i).hi := v2
    have v4 : ∀ id, id ≤ most → ∀ ab, Hp.get mv.H id = some ab → Hp.get (M i).H id = some ab ∧ id ∉ hidden (openR ((ancs ops.toList []).getD i []) (R i)) := v4
    have hnh := (g.all i (by omega)).2.2.1
    obtain ⟨q1, q2, q3, q4, q5, q6, _, q7⟩ := merge_ok hmerge hnh hhi
    have q1 : (M i).n ≤ (M (i + 1)).n := q1
    have q5 : (M (i + 1)).n = m'.hi ∨ ((M (i + 1)).n = (M i).n ∧ m'.hi ≤ (M i).n) := q5
    have q7 : ∀ id, id ≤ most → Hp.get (M (i + 1)).H id = if (M i).n ≤ id ∧ id < (M (i + 1)).n then Hp.get m'.H id else Hp.get (M i).H id := q7
    -- the view stands
    have hHR : HR P base ρ mv.H w := inv.hr.hr fun id hid ab hab => by
      obtain ⟨h1, h2⟩ := v4 id hid ab hab
      unfold GD
      by_cases hin : (M 0).n ≤ id ∧ id < (M i).n
      · obtain ⟨k, k1, k2, k3⟩ := g.who i (by omega) id hin.1 hin.2
        have hDk : D k = true := by
          have hrec := g.recs i (by omega) k k1 id k2 k3
          by_cases hk : k ∈ (ancs ops.toList []).getD i []
          · exact anc_in hc (fun i o ho => by
              have := (opsOk_at _ 0 g.ok i o ho).1
              rw [Nat.zero_add] at this
              exact edgesOk_at this) (i + 1) i k o (Nat.lt_succ_self i) (ops_list ho) hr hk
          · exfalso
            refine h2 (mem_hidden.2 ⟨_, List.mem_filter.2 ⟨hrec, ?_⟩, k2, k3⟩)
            cases hq : hasN ((ancs ops.toList []).getD i []) k with
            | false => rfl
            | true => exact absurd (hasN_iff.1 hq) hk
        have hu : used M D id ops.size = true := (used_iff _).2 ⟨k, by omega, hDk, k2, k3⟩
        rw [hu]
        simp only [cond_true]
        rw [(g.le (i := i) (j := ops.size) (by omega) (by omega)).2.2 id hid hin.2]
        exact h1
      · have hA := (g.all i (by omega)).2.2.2.2 id hid (by omega)
        rw [hA] at h1
        have hu : used M D id ops.size = false := by
          cases hq : used M D id ops.size with
          | false => rfl
          | true =>
            exfalso
            obtain ⟨k, k1, _, k2, k3⟩ := (used_iff _).1 hq
            obtain ⟨l, e1, _⟩ := hat.hr.at_ id hid ab h1
            have hk0 := g.le (i := 0) (j := k) (by omega) (by omega)
            have hkN := g.le (i := k + 1) (j := ops.size) (by omega) (by omega)
            have hNn := (g.all ops.size (Nat.le_refl _)).2.2.1
            rw [hat.fr id (by omega) (by omega)] at e1
            cases e1
        rw [hu]
        exact h1
    have hFree : Free ρ mv.n m'.hi := fun b h1 h2 => by
      rw [v1] at h1
      cases hb : ρ b with
      | none => rfl
      | some l =>
        exfalso
        cases h0 : ρ0 b with
        | some l0 =>
          rw [hat.fr b (by omega) (by omega)] at h0
          cases h0
        | none =>
          obtain ⟨k, k1, k2, k3, k4⟩ := (used_iff _).1 (inv.new b l hb h0).1
          have hki : k ≠ i := fun e => by subst e; rw [hi] at k2; cases k2
          rcases Nat.lt_or_ge k i with hki' | hki'
          · have := (g.le (i := k + 1) (j := i) (by omega) (by omega)).1
            omega
          · have := (g.le (i := i + 1) (j := k) (by omega) (by omega)).1
            rcases q5 with q5 | ⟨_, q5⟩ <;> omega
    have hAt : At P base gl ρ mv m'.hi w := ⟨hHR, Nat.le_trans hat.bs inv.size, hFree, hat.gr.mono inv.ext, (by rw [v1, v2]; exact hnh), fun b hb => (by rw [v3] at hb; cases hb), fun k o hk => ⟨(hat.gf k o hk).1, (inv.keep k (Nat.lt_of_lt_of_le (hat.gf k o hk).1 hat.bs)).trans (hat.gf k o hk).2⟩⟩
    refine stepC_ok hcall hrun hSm hAt hFR fun v' ρ' w' hv st => hK ρ' _ w' ?_
    have hkeep : ∀ k, k < w.heap.size → w'.heap[k]? = w.heap[k]? := fun k hk => st.keep k hk fun b hb => by rw [hW] at hb; cases hb
    have hm'n : m'.n ≤ m'.hi := st.nhi (by rw [v1, v2]; exact hnh)
    have hnew : ∀ b l, ρ' b = some l → ρ b = none → ((M i).n ≤ b ∧ b < (M (i + 1)).n) ∧ w.heap.size ≤ l.blk := fun b l h1 h2 => by
      have h3 := st.new b l h1 h2
      rw [v1] at h3
      refine ⟨⟨h3.1, ?_⟩, ?_⟩
      · rcases q5 with q5 | ⟨_, q5⟩ <;> omega
      · rcases st.blk b l h1 h2 with h | ⟨b0, h, _⟩
        · exact h
        · rw [hW] at h; cases h
    have hin : ∀ id, id ≤ most → (M i).n ≤ id → id < (M (i + 1)).n → GD M ops.size D' id = Hp.get m'.H id ∧ ρ id = none := fun id hid h1 h2 => by
      constructor
      · unfold GD
        rw [(hused id).2 (.inr ⟨h1, h2⟩)]
        simp only [cond_true]
        rw [hup.2.2 id hid h2, q7 id hid, if_pos ⟨h1, h2⟩]
      · refine hFree id (by rw [v1]; exact h1) ?_
        rcases q5 with q5 | ⟨q5, _⟩
        · omega
        · rw [q5] at h2; omega
    have hout : ∀ id, ¬ ((M i).n ≤ id ∧ id < (M (i + 1)).n) → GD M ops.size D' id = GD M ops.size D id := fun id hid => by
      unfold GD
      have : used M D' id ops.size = used M D id ops.size := by
        rw [Bool.eq_iff_iff, hused id]
        exact ⟨fun h => h.elim (fun h => h) (fun h => absurd h hid), .inl⟩
      rw [this]
    refine ⟨fun b l h => st.ext b l (inv.ext b l h), fun b l h1 h2 => ?_, ⟨st.hr.dom, fun id hid ab hab => ?_⟩, fun k hk => by rw [hkeep k (Nat.lt_of_lt_of_le hk inv.size), inv.keep k hk], Nat.le_trans inv.size st.size, ⟨st.os.1.trans inv.os.1, st.os.2.1.trans inv.os.2.1, st.os.2.2.trans inv.os.2.2⟩, ?_, ?_, hframe ρ' v' st.ext hv⟩
    · cases h0 : ρ b with
      | some l1 =>
        rw [st.ext b l1 h0] at h1
        have := Option.some.inj h1; subst this
        exact ⟨(hused b).2 (.inl (inv.new b l1 h0 h2).1), (inv.new b l1 h0 h2).2⟩
      | none =>
        have := hnew b l h1 h0
        exact ⟨(hused b).2 (.inr this.1), Nat.le_trans inv.size this.2⟩
    · by_cases hI : (M i).n ≤ id ∧ id < (M (i + 1)).n
      · obtain ⟨h1, h2⟩ := hin id hid hI.1 hI.2
        rw [h1] at hab
        obtain ⟨l, e1, e2, e3⟩ := st.hr.at_ id hid ab hab
        refine ⟨l, e1, e2, fun hrw => ⟨(e3 hrw).1, fun id2 hid2 ab2 l2 f1 f2 f3 => ?_⟩⟩
        by_cases hI2 : (M i).n ≤ id2 ∧ id2 < (M (i + 1)).n
        · rw [(hin id2 hid2 hI2.1 hI2.2).1] at f1
          exact (e3 hrw).2 id2 hid2 ab2 l2 f1 f2 f3
        · rw [hout id2 hI2] at f1
          obtain ⟨l3, c1, _⟩ := inv.hr.at_ id2 hid2 ab2 f1
          have c2 := (inv.hr.dom id2 l3 c1).2
          rw [st.ext id2 l3 c1] at f2
          have := Option.some.inj f2; subst this
          have := (hnew id l e1 h2).2
          omega
      · rw [hout id hI] at hab
        obtain ⟨l, e1, e2, e3⟩ := inv.hr.at_ id hid ab hab
        have hlb := (inv.hr.dom id l e1).2
        refine ⟨l, st.ext _ _ e1, e2.mono st.ext (hkeep _ hlb), fun hrw => ⟨(e3 hrw).1, fun id2 hid2 ab2 l2 f1 f2 f3 => ?_⟩⟩
        by_cases hI2 : (M i).n ≤ id2 ∧ id2 < (M (i + 1)).n
        · have := (hnew id2 l2 f2 (hin id2 hid2 hI2.1 hI2.2).2).2
          omega
        · rw [hout id2 hI2] at f1
          obtain ⟨l3, c1, _⟩ := inv.hr.at_ id2 hid2 ab2 f1
          rw [st.ext id2 l3 c1] at f2
          have := Option.some.inj f2; subst this
          exact (e3 hrw).2 id2 hid2 ab2 l3 f1 c1 f3
    · cases hdd : o.dst <;> simp [Act.put, inv.tsz]
    · cases hdd : o.dst <;> simp [Act.put, inv.dfr]
end
end Go.Sx
