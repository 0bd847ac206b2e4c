/- Regions that draw their order: whatever order the tape picks, it comes to what the machine's one order comes to. -/
import Derived.Test.YtdmdghooamchfaaDoorSxCall
namespace Go.Sx
set_option linter.all false
open Go
set_option linter.unusedVariables false
set_option linter.unusedSimpArgs false
variable [Ora]

/-- One operation of the machine's run over such a region. -/
def StepAt (P : Program) (nt gl : Nat) (call : CallT) (all : List Oper) (b : List Nat) (rs : List Rec) (o : Oper) (fr fr' : Fr) (m m2 : Mem) (v : Value) : Prop :=
  dstOk nt o.dst = true ∧ okOp nt gl o.op = true ∧ fr' = dstF o.dst v fr ∧
  ((∃ lg, wantM nt fr m.lg all o = some (false, lg) ∧ v = undef ∧ m2 = m.wLg lg) ∨
    (∃ lg, wantM nt fr m.lg all o = some (true, lg) ∧ ∃ mv m', viewM (m.wLg lg) (clsM fr o.op) (openR b rs) = some mv ∧ (stepC P call o.op).run fr mv = some (v, m') ∧ m'.W = [] ∧ m.hi ≤ m'.hi ∧ mergeM (m.wLg lg) m' = some m2))

def Traced (P : Program) (nt gl : Nat) (call : CallT) (all : List Oper) (r : List Oper) (i : Nat) (bs : List (List Nat)) (rs : List Rec) (s s' : S) : Prop :=
    ∃ (F : Nat → Fr) (M : Nat → Mem) (V : Nat → Value) (R : Nat → List Rec), F i = s.fr ∧ M i = s.m ∧ R i = rs ∧ F (i + r.length) = s'.fr ∧ M (i + r.length) = s'.m ∧
      ∀ j o, r[j]? = some o → StepAt P nt gl call all (bs.getD j []) (R (i + j)) o (F (i + j)) (F (i + j + 1)) (M (i + j)) (M (i + j + 1)) (V (i + j)) ∧
        ((R (i + j + 1) = R (i + j) ∧ ∃ lg, M (i + j + 1) = (M (i + j)).wLg lg) ∨ R (i + j + 1) = ⟨i + j, (M (i + j)).n, (M (i + j + 1)).n⟩ :: R (i + j))
theorem trace {P : Program} {nt gl : Nat} {call : CallT} {all : List Oper} : ∀ (r : List Oper) (i : Nat) (bs : List (List Nat)) (rs : List Rec) (s s' : S), runDraw P nt gl call all r i bs rs s = some s' → Traced P nt gl call all r i bs rs s s'
  | [], i, bs, rs, s, s', h => by
    have h : some s = some s' := by cases bs <;> exact h
    cases h
    exact ⟨fun _ => s.fr, fun _ => s.m, fun _ => undef, fun _ => rs, rfl, rfl, rfl, rfl, rfl, fun j o hj => by simp at hj⟩
  | o :: r, i, [], rs, s, s', h => by obtain ⟨fr, m⟩ := s; cases h
  | o :: r, i, b :: bs, rs, ⟨fr, ⟨H0, n0, W0, hi0, lg0⟩⟩, s', h => by
    generalize hmdef : (⟨H0, n0, W0, hi0, lg0⟩ : Mem) = m at h
    have glue : ∀ (v : Value) (m2 : Mem) (rs2 : List Rec), StepAt P nt gl call all b rs o fr (dstF o.dst v fr) m m2 v → ((rs2 = rs ∧ ∃ lg, m2 = m.wLg lg) ∨ rs2 = ⟨i, m.n, m2.n⟩ :: rs) → runDraw P nt gl call all r (i + 1) bs rs2 ⟨dstF o.dst v fr, m2⟩ = some s' → Traced P nt gl call all (o :: r) i (b :: bs) rs ⟨fr, m⟩ s' := fun v m2 rs2 hst hrs hrun => by
      obtain ⟨F, M, V, R, f1, f2, f3, f4, f5, f6⟩ := trace r (i + 1) bs rs2 _ s' hrun
      refine ⟨fun j => if j ≤ i then fr else F j, fun j => if j ≤ i then m else M j, fun j => if j ≤ i then v else V j, fun j => if j ≤ i then rs else R j, by simp, by simp, by simp, ?_, ?_, ?_⟩
      · simp only [List.length_cons]
        rw [if_neg (by omega), show i + (r.length + 1) = i + 1 + r.length by omega]; exact f4
      · simp only [List.length_cons]
        rw [if_neg (by omega), show i + (r.length + 1) = i + 1 + r.length by omega]; exact f5
      · intro j o' hj
        cases j with
        | zero =>
          simp at hj; subst hj
          simp only [Nat.add_zero, Nat.le_refl, if_true, Nat.not_succ_le_self, if_false, f1, f2, f3]
          exact ⟨hst, hrs⟩
        | succ j =>
          have hj' : r[j]? = some o' := by simpa using hj
          have := f6 j o' hj'
          simp only [show ¬ i + (j + 1) ≤ i by omega, show ¬ i + (j + 1) + 1 ≤ i by omega, if_false]
          rw [show i + (j + 1) = i + 1 + j by omega]
          simpa using this
    subst hmdef
    unfold runDraw at h
    split at h
    · rename_i lg hw hd
      obtain ⟨d1, d2⟩ := boolAnd hd
      unfold drawOne at h
      simp only at h
      split at h
      · rename_i mv hv
        split at h
        · rename_i v m' hr
          split at h
          · rename_i hW hhi
            split at h
            · rename_i m2 hm
              rw [dstC_run] at h
              exact glue v m2 _ ⟨d1, d2, rfl, .inr ⟨lg, hw, mv, m', hv, hr, hW, Nat.le_of_ble_eq_true hhi, hm⟩⟩ (.inr rfl) h
            · cases h
          · cases h
        · cases h
      · cases h
    · rename_i lg hw hd
      obtain ⟨d1, d2⟩ := boolAnd hd
      rw [dstC_run] at h
      exact glue undef _ _ ⟨d1, d2, rfl, .inl ⟨lg, hw, rfl, rfl⟩⟩ (.inl ⟨rfl, lg, rfl⟩) h
    · cases h

/-! ### the order that must be kept -/
theorem addN_mem {l : List Nat} {b k : Nat} (h : k ∈ addN l b) : k = b ∨ k ∈ l := by
  unfold addN at h
  cases e : hasN l b with
  | true => rw [e] at h; exact .inr h
  | false => rw [e, cond_false, forceN_eq] at h; exact List.mem_cons.1 h
theorem joinN_mem : ∀ {a b : List Nat} {k : Nat}, k ∈ joinN a b → k ∈ a ∨ k ∈ b
  | [], b, k, h => .inr h
  | x :: a, b, k, h => by
    rcases addN_mem (show k ∈ addN (joinN a b) x from h) with rfl | h
    · exact .inl List.mem_cons_self
    · rcases joinN_mem h with h | h
      · exact .inl (List.mem_cons_of_mem _ h)
      · exact .inr h
theorem ancOf_mem {acc : List (List Nat)} : ∀ {es : List Edge} {k : Nat}, k ∈ ancOf acc es → ∃ e ∈ es, Region.binds .any e = true ∧ (k = e.on ∨ k ∈ acc.getD e.on [])
  | [], k, h => by cases h
  | e :: r, k, h => by
    unfold ancOf at h
    cases hb : Region.binds .any e with
    | true =>
      rw [hb] at h
      rw [cond_true] at h
      rcases (addN_mem h).imp_right joinN_mem with h | h | h
      · exact ⟨e, List.mem_cons_self, hb, .inl h⟩
      · exact ⟨e, List.mem_cons_self, hb, .inr h⟩
      · obtain ⟨e', h1, h2⟩ := ancOf_mem h
        exact ⟨e', List.mem_cons_of_mem _ h1, h2⟩
    | false =>
      rw [hb] at h
      obtain ⟨e', h1, h2⟩ := ancOf_mem h
      exact ⟨e', List.mem_cons_of_mem _ h1, h2⟩
theorem ancs_spec : ∀ (r : List Oper) (acc : List (List Nat)), ∃ tl, ancs r acc = acc ++ tl ∧ tl.length = r.length ∧ ∀ j o, r[j]? = some o → ∃ pre, pre = (acc ++ tl).take (acc.length + j) ∧ tl[j]? = some (ancOf pre o.after.toList)
  | [], acc => ⟨[], by simp [ancs], rfl, fun j o h => by simp at h⟩
  | o :: r, acc => by
    obtain ⟨tl, h1, h2, h3⟩ := ancs_spec r (acc ++ [ancOf acc o.after.toList])
    refine ⟨ancOf acc o.after.toList :: tl, by rw [ancs, forceL_eq, h1]; simp, by simp [h2], fun j o' hj => ?_⟩
    cases j with
    | zero =>
      simp at hj; subst hj
      exact ⟨_, rfl, by simp⟩
    | succ j =>
      obtain ⟨pre, g1, g2⟩ := h3 j o' (by simpa using hj)
      refine ⟨pre, ?_, by simpa using g2⟩
      rw [g1]
      simp [Nat.add_assoc, Nat.add_comm 1 j]
/-- Row i of the table: an edge's end, or what is ahead of that. -/
theorem anc_mem {ops : List Oper} {i k : Nat} {o : Oper} (ho : ops[i]? = some o) (he : ∀ e ∈ o.after.toList, Region.binds .any e = true → e.on < i) (hk : k ∈ (ancs ops []).getD i []) :
    ∃ e ∈ o.after.toList, Region.binds .any e = true ∧ (k = e.on ∨ k ∈ (ancs ops []).getD e.on []) := by
  obtain ⟨tl, h1, h2, h3⟩ := ancs_spec ops []
  simp only [List.nil_append] at h1 h3
  obtain ⟨pre, g1, g2⟩ := h3 i o ho
  rw [h1] at hk ⊢
  rw [List.getD_eq_getElem?_getD, g2] at hk
  obtain ⟨e, e1, e2, e3⟩ := ancOf_mem (show k ∈ ancOf pre o.after.toList from hk)
  refine ⟨e, e1, e2, e3.imp id fun h => ?_⟩
  have hlt := he e e1 e2
  rw [g1] at h
  simp only [List.length_nil, Nat.zero_add, List.getD_eq_getElem?_getD] at h ⊢
  rw [List.getElem?_take_of_lt hlt] at h
  exact h

/-- Down-closed: with an operation, all that must come ahead of it. -/
def Closed (ops : List Oper) (D : Nat → Prop) : Prop := ∀ i o, ops[i]? = some o → D i → ∀ e ∈ o.after.toList, Region.binds .any e = true → D e.on
theorem anc_in {ops : List Oper} {D : Nat → Prop} (hc : Closed ops D) (hb : ∀ i o, ops[i]? = some o → ∀ e ∈ o.after.toList, Region.binds .any e = true → e.on < i) :
    ∀ (n i k : Nat) (o : Oper), i < n → ops[i]? = some o → (∀ e ∈ o.after.toList, Region.binds .any e = true → D e.on) → k ∈ (ancs ops []).getD i [] → D k
  | 0, i, k, o, h, _, _, _ => by omega
  | n + 1, i, k, o, h, ho, he, hk => by
    obtain ⟨e, e1, e2, e3⟩ := anc_mem ho (hb i o ho) hk
    rcases e3 with rfl | e3
    · exact he e e1 e2
    · have hlt := hb i o ho e e1 e2
      have hlen : e.on < ops.length := Nat.lt_trans hlt (List.getElem?_eq_some_iff.1 ho).1
      refine anc_in hc hb n e.on k ops[e.on] (by omega) (List.getElem?_eq_getElem hlen) (fun e' h1 h2 => hc e.on _ (List.getElem?_eq_getElem hlen) (he e e1 e2) e' h1 h2) e3

/-! ### the memory along the machine's run -/
theorem backL_get {H0 : Hp AB} : ∀ (l : List Nat) (H : Hp AB), (∀ b ∈ l, b ≤ most) → ∀ id, id ≤ most → Hp.get (backL H0 H l) id = if id ∈ l then Hp.get H0 id else Hp.get H id
  | [], H, _, id, _ => by simp [backL]
  | b :: r, H, hl, id, hid => by
    have hb := hl b List.mem_cons_self
    rw [backL, put_eq, backL_get r _ (fun x hx => hl x (List.mem_cons_of_mem _ hx)) id hid, hp_get_set _ _ _ _ hb hid]
    by_cases h1 : id ∈ r
    · rw [if_pos h1, if_pos (List.mem_cons_of_mem _ h1)]
    · rw [if_neg h1]
      by_cases h2 : id = b
      · subst h2; rw [if_pos rfl, if_pos List.mem_cons_self]
      · rw [if_neg h2, if_neg (by simp [h1, h2])]
theorem hideL_get : ∀ (l : List Nat) (H : Hp AB), (∀ b ∈ l, b ≤ most) → ∀ id, id ≤ most → Hp.get (hideL H l) id = if id ∈ l then none else Hp.get H id
  | [], H, _, id, _ => by simp [hideL]
  | b :: r, H, hl, id, hid => by
    have hb := hl b List.mem_cons_self
    rw [hideL, put_eq, hideL_get r _ (fun x hx => hl x (List.mem_cons_of_mem _ hx)) id hid, hp_get_set _ _ _ _ hb hid]
    by_cases h1 : id ∈ r
    · rw [if_pos h1, if_pos (List.mem_cons_of_mem _ h1)]
    · rw [if_neg h1]
      by_cases h2 : id = b
      · subst h2; rw [if_pos rfl, if_pos List.mem_cons_self]
      · rw [if_neg h2, if_neg (by simp [h1, h2])]
theorem mem_span : ∀ (n lo b : Nat), b ∈ span lo n ↔ lo ≤ b ∧ b < lo + n
  | 0, lo, b => by simp [span]
  | n + 1, lo, b => by
    simp only [span, List.mem_cons, mem_span n (lo + 1) b]; omega

/-- What is put back behind an operation. -/
theorem merge_ok {m m' m2 : Mem} (h : mergeM m m' = some m2) (hn : m.n ≤ m.hi) (hhi : m.hi ≤ m'.hi) : m.n ≤ m2.n ∧ m.hi ≤ m2.hi ∧ m2.n ≤ m2.hi ∧ m2.W = m.W ∧ (m2.n = m'.hi ∨ (m2.n = m.n ∧ m'.hi ≤ m.n)) ∧ m2.hi = m'.hi ∧ m2.lg = m'.lg ∧
    ∀ id, id ≤ most → Hp.get m2.H id = if m.n ≤ id ∧ id < m2.n then Hp.get m'.H id else Hp.get m.H id := by
  unfold mergeM at h
  cases hq : Nat.ble m'.hi m.n with
  | true =>
    have hq := Nat.le_of_ble_eq_true hq
    have hq2 : Nat.ble m'.hi m.n = true := Nat.ble_eq_true_of_le hq
    rw [hq2] at h
    cases h
    refine ⟨Nat.le_refl _, Nat.le_refl _, hn, rfl, .inr ⟨rfl, hq⟩, by show m.hi = m'.hi; omega, rfl, fun id hid => ?_⟩
    rw [if_neg (by show ¬ (m.n ≤ id ∧ id < m.n); omega)]
  | false =>
    have hq' : m.n < m'.hi := by
      rcases Nat.lt_or_ge m.n m'.hi with h1 | h1
      · exact h1
      · rw [show Nat.ble m'.hi m.n = true from Nat.ble_eq_true_of_le h1] at hq; cases hq
    rw [hq] at h
    simp only [cond_false] at h
    obtain ⟨hb, h⟩ := cond_some h
    have hb := Nat.le_of_ble_eq_true hb
    simp only [forceN_eq, force8_eq] at h
    cases h
    refine ⟨Nat.le_of_lt hq', hhi, Nat.le_refl _, rfl, .inl rfl, rfl, rfl, fun id hid => ?_⟩
    show Hp.get (backL m'.H m.H (span m.n (m'.hi - m.n))) id = _
    rw [backL_get _ _ (fun b hb' => by have := (mem_span _ _ _).1 hb'; omega) id hid]
    by_cases h1 : m.n ≤ id ∧ id < m'.hi
    · rw [if_pos ((mem_span _ _ _).2 (by omega)), if_pos h1]
    · rw [if_neg (fun h => h1 (by have := (mem_span _ _ _).1 h; omega)), if_neg h1]

/-- Where operations are left out, the slots hold what the others left. -/
def fval (D : Nat → Bool) (dst : Nat → Option Tmp) (V : Nat → Value) (f0 : Tmp → Value) (t : Tmp) : Nat → Value
  | 0 => f0 t
  | n + 1 => if D n = true ∧ dst n = some t then V n else fval D dst V f0 t n
theorem fval_congr {D D' : Nat → Bool} {dst : Nat → Option Tmp} {V : Nat → Value} {f0 : Tmp → Value} {t : Tmp} : ∀ (n : Nat), (∀ k, k < n → dst k = some t → D k = D' k) → fval D dst V f0 t n = fval D' dst V f0 t n
  | 0, _ => rfl
  | n + 1, h => by
    unfold fval
    have ih := fval_congr (V := V) (f0 := f0) n fun k hk => h k (Nat.lt_succ_of_lt hk)
    by_cases hd : dst n = some t
    · rw [h n (Nat.lt_succ_self n) hd, ih]
    · rw [if_neg (fun hh => hd hh.2), if_neg (fun hh => hd hh.2), ih]
/-- Operation i is added: its slot holds its value, if no later one that is there writes it. -/
theorem fval_add {D D' : Nat → Bool} {dst : Nat → Option Tmp} {V : Nat → Value} {f0 : Tmp → Value} {t : Tmp} {i : Nat} (hD : ∀ k, k ≠ i → D' k = D k) (hi : D' i = true) : ∀ (n : Nat), i < n → dst i = some t → (∀ k, i < k → k < n → dst k = some t → D k = false) → fval D' dst V f0 t n = V i
  | 0, h, _, _ => by omega
  | n + 1, h, hd, hl => by
    unfold fval
    by_cases e : n = i
    · subst e; rw [if_pos ⟨hi, hd⟩]
    · have hlt : i < n := by omega
      rw [if_neg (fun hh => by
        have h1 := hl n hlt (Nat.lt_succ_self n) hh.2
        rw [hD n e, h1] at hh; exact absurd hh.1 (by simp))]
      exact fval_add hD hi n hlt hd fun k hk hkn => hl k hk (Nat.lt_succ_of_lt hkn)
theorem fval_other {D D' : Nat → Bool} {dst : Nat → Option Tmp} {V : Nat → Value} {f0 : Tmp → Value} {t : Tmp} {i : Nat} (hD : ∀ k, k ≠ i → D' k = D k) (hd : dst i ≠ some t) (n : Nat) : fval D' dst V f0 t n = fval D dst V f0 t n :=
  fval_congr n fun k _ hk => hD k fun e => hd (e ▸ hk)

/-- The heap, by what it holds at each number. -/
structure HRf (P : Program) (base : Nat) (ρ : Ren) (G : Nat → Option AB) (w : World) : Prop where
  dom : ∀ b l, ρ b = some l → b ≤ most ∧ l.blk < w.heap.size
  at_ : ∀ id, id ≤ most → ∀ ab, G id = some ab → ∃ l, ρ id = some l ∧ BR P ρ ab l w ∧ (ab.rw = true → base ≤ l.blk ∧ ∀ id2, id2 ≤ most → ∀ ab2 l2, G id2 = some ab2 → ρ id2 = some l2 → l2.blk = l.blk → id2 = id)
theorem HRf.hr {P : Program} {base : Nat} {ρ : Ren} {G : Nat → Option AB} {H : Hp AB} {w : World} (h : HRf P base ρ G w) (hs : ∀ id, id ≤ most → ∀ ab, Hp.get H id = some ab → G id = some ab) : HR P base ρ H w :=
  ⟨h.dom, fun id hid ab hab => let ⟨l, a, b, c⟩ := h.at_ id hid ab (hs id hid ab hab); ⟨l, a, b, fun hr => ⟨(c hr).1, fun id2 hid2 ab2 l2 g => (c hr).2 id2 hid2 ab2 l2 (hs id2 hid2 ab2 g)⟩⟩⟩
theorem HR.f {P : Program} {base : Nat} {ρ : Ren} {H : Hp AB} {w : World} (h : HR P base ρ H w) {G : Nat → Option AB} (hs : ∀ id, id ≤ most → ∀ ab, G id = some ab → Hp.get H id = some ab) : HRf P base ρ G w :=
  ⟨h.dom, fun id hid ab hab => let ⟨l, a, b, c⟩ := h.at_ id hid ab (hs id hid ab hab); ⟨l, a, b, fun hr => ⟨(c hr).1, fun id2 hid2 ab2 l2 g => (c hr).2 id2 hid2 ab2 l2 (hs id2 hid2 ab2 g)⟩⟩⟩
end Go.Sx
