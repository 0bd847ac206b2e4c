/- What the machine's runs come to is what the program comes to: operations in a row, code, calls. -/
import Derived.Test.YtdmdghooamchfaaDoorSxSymOk2
namespace Go.Sx
set_option linter.all false
open Go
set_option linter.unusedVariables false
set_option linter.unusedSimpArgs false
variable [Ora]

section
variable {P : Program} {base gl nt : Nat}

/-- The globals keep their numbers. -/
def GR (gl : Nat) (ρ : Ren) : Prop := ∀ g, g < gl → ρ g = some ⟨g, 0, 0⟩
theorem GR.mono {ρ ρ' : Ren} (h : GR gl ρ) (he : ∀ b l, ρ b = some l → ρ' b = some l) : GR gl ρ' := fun g hg => he _ _ (h g hg)

/-- The state ahead of a step: ρ is free up to hi. -/
structure At (P : Program) (base gl : Nat) (ρ : Ren) (m : Mem) (hi : Nat) (w : World) : Prop where
  hr : HR P base ρ m.H w
  bs : base ≤ w.heap.size
  fr : Free ρ m.n hi
  gr : GR gl ρ
  nh : m.n ≤ m.hi
  wb : ∀ b ∈ m.W, ∀ l, ρ b = some l → base ≤ l.blk
  gf : ∀ k o, Ora.G k = some o → k < base ∧ w.heap[k]? = some o

/-- What is written is not below the base. -/
theorem At.wbs {ρ ρ' : Ren} {m m' : Mem} {hi : Nat} {w w' : World} (h : At P base gl ρ m hi w) (st : St P base ρ ρ' m m' w w') : ∀ b ∈ m'.W, ∀ l, ρ b = some l → base ≤ l.blk := fun b hb l hl => by
  by_cases hm : b ∈ m.W
  · exact h.wb b hm l hl
  · obtain ⟨ab, h1, h2⟩ := st.wrw b hb hm l hl
    obtain ⟨l0, h3, _, h4⟩ := h.hr.at_ b (h.hr.dom b l hl).1 ab h1
    rw [hl] at h3
    have := Option.some.inj h3; subst this
    exact (h4 h2).1
theorem At.below {ρ ρ' : Ren} {m m' : Mem} {hi : Nat} {w w' : World} (h : At P base gl ρ m hi w) (st : St P base ρ ρ' m m' w w') {k : Nat} (hk : k < base) : w'.heap[k]? = w.heap[k]? :=
  st.keep k (Nat.lt_of_lt_of_le hk h.bs) fun b hb l hl e => by have := h.wbs st b hb l hl; omega

theorem At.step {ρ ρ' : Ren} {m m' : Mem} {hi : Nat} {w w' : World} (h : At P base gl ρ m hi w) (st : St P base ρ ρ' m m' w w') : At P base gl ρ' m' hi w' :=
  ⟨st.hr, Nat.le_trans h.bs st.size, fun b h1 h2 => by
    cases hb : ρ' b with
    | none => rfl
    | some l =>
      cases h0 : ρ b with
      | some l0 => rw [h.fr b (Nat.le_trans st.nle h1) h2] at h0; cases h0
      | none => have := (st.new b l hb h0).2; omega, h.gr.mono st.ext, st.nhi h.nh, fun b hb l hl => by
    cases h0 : ρ b with
    | some l0 =>
      have := st.ext b l0 h0
      rw [hl] at this
      have := Option.some.inj this; subst this
      exact h.wbs st b hb l h0
    | none =>
      rcases st.blk b l hl h0 with h1 | ⟨b0, h1, l0, h2, h3⟩
      · have := h.bs; omega
      · rw [← h3]; exact h.wbs st b0 h1 l0 h2, fun k o hk => ⟨(h.gf k o hk).1, (h.below st (h.gf k o hk).1).trans (h.gf k o hk).2⟩⟩
theorem At.less {ρ : Ren} {m : Mem} {hi hi' : Nat} {w : World} (h : At P base gl ρ m hi w) (hl : hi' ≤ hi) : At P base gl ρ m hi' w := ⟨h.hr, h.bs, fun b h1 h2 => h.fr b h1 (Nat.lt_of_lt_of_le h2 hl), h.gr, h.nh, h.wb, h.gf⟩
theorem At.wLg {ρ : Ren} {m : Mem} {hi : Nat} {w : World} (h : At P base gl ρ m hi w) (lg : Lg) : At P base gl ρ (m.wLg lg) hi w := by
  cases m; exact ⟨h.hr, h.bs, h.fr, h.gr, h.nh, h.wb, h.gf⟩

/-- What a call leaves. -/
def Post (P : Program) (base : Nat) (ρ : Ren) (m m' : Mem) (w : World) (v : Value) : Ending → World → Prop := fun e w' => ∃ v' ρ', e = .returned v' ∧ VR ρ' v v' ∧ St P base ρ ρ' m m' w w'

/-- A function that is made ready does what the program's function does. -/
structure FnOk (P : Program) (base gl : Nat) (f : FuncId) (c : FnC) : Prop where
  lg : ∀ (vs : List Value) (m m' : Mem) (v : Value), c.run vs m = some (v, m') → m.lg.le m'.lg
  ok : ∀ (ρ : Ren) (m m' : Mem) (w : World) (vs vs' : List Value) (v : Value), c.run vs m = some (v, m') → Sat m'.lg → At P base gl ρ m m'.hi w → LR ρ vs vs' →
    ((callFunc f ⟨vs'⟩).run P w = .ok (.enter f ⟨vs'⟩) w ∧ Calls P f ⟨vs'⟩ w (Post P base ρ m m' w v)) ∨
    (∃ v' ρ' w', (callFunc f ⟨vs'⟩).run P w = .ok (.value v') w' ∧ VR ρ' v v' ∧ St P base ρ ρ' m m' w w')

/-- The frame. -/
structure FrR (ρ : Ren) (nt : Nat) (fr : Fr) (a : Act) : Prop where
  size : a.tmps.size = nt
  le : nt ≤ 512
  defers : a.defers = []
  get : ∀ t, t < nt → VR ρ (fr.get t) (a.tmps.getD t undef)

theorem FrR.mono {ρ ρ' : Ren} {fr : Fr} {a : Act} (h : FrR ρ nt fr a) (he : ∀ b l, ρ b = some l → ρ' b = some l) : FrR ρ' nt fr a := ⟨h.size, h.le, h.defers, fun t ht => (h.get t ht).mono he⟩
theorem FrR.put {ρ : Ren} {fr : Fr} {a : Act} {d : Nat} {v v' : Value} (h : FrR ρ nt fr a) (hd : d < nt) (hv : VR ρ v v') : FrR ρ nt (fr.set d v) (a.put (some d) v') := by
  refine ⟨by simp [Act.put, h.size], h.le, h.defers, fun t ht => ?_⟩
  rw [fr_get_set _ _ _ _ (Nat.lt_of_lt_of_le hd h.le) (Nat.lt_of_lt_of_le ht h.le)]
  simp only [Act.put, Array.getD_eq_getD_getElem?, Array.getElem?_setIfInBounds]
  by_cases e : t = d
  · subst e
    rw [if_pos rfl, if_pos rfl, if_pos (by rw [h.size]; exact hd)]
    exact hv
  · rw [if_neg e, if_neg (fun h => e h.symm)]
    have := h.get t ht
    simpa [Array.getD_eq_getD_getElem?] using this
theorem FrR.ev {ρ : Ren} {fr : Fr} {a : Act} (h : FrR ρ nt fr a) (hg : GR gl ρ) {x : Operand} (hx : okX nt gl x = true) : VR ρ (ev fr x) (a.eval x) := by
  cases x with
  | tmp t => exact h.get t (Nat.le_of_ble_eq_true hx)
  | const v => exact VR.ofC hx
  | global g =>
    have := VR.ptr (o := 0) (hg g (Nat.le_of_ble_eq_true hx))
    exact this
  | func f => exact .func (a := []) (b := []) (a' := []) (b' := []) rfl rfl (fun i v v' h => by simp at h) (fun i v v' h => by simp at h)
theorem FrR.ops {ρ : Ren} {fr : Fr} {a : Act} (h : FrR ρ nt fr a) (hg : GR gl ρ) {o : Op} (ho : okOp nt gl o = true) : FR ρ fr a.eval o := fun x hx => h.ev hg (List.all_eq_true.1 ho x hx)

theorem callee_ops {o : Op} {c : Callee} {xs : Array Operand} {tys : Array TypeId} (h : o = .call ⟨c, xs, tys⟩) : ∀ x ∈ xs.toList, x ∈ o.operands.toList := fun x hx => by
  subst h
  show x ∈ ((match c with | .value f => #[f] | .invoke r _ => #[r] | .builtin _ => #[]) ++ xs : Array Operand).toList
  simp
  exact .inr (by simpa using hx)

/-- One operation. -/
theorem stepC_ok {ρ : Ren} {m m' : Mem} {w : World} {call : CallT} {o : Oper} {fr : Fr} {a : Act} {v : Value} {K : Act → World → Prop} {Q : Exit → Act → World → Prop} (hc : ∀ f, FnOk P base gl f (call f)) (ho : (stepC P call o.op).run fr m = some (v, m')) (hS : Sat m'.lg)
    (h : At P base gl ρ m m'.hi w) (hg : FR ρ fr a.eval o.op) (hK : ∀ v' ρ' w', VR ρ' v v' → St P base ρ ρ' m m' w w' → K (a.put o.dst v') w') : o.wp P a w K Q := by
  have hfn : ∀ (f : FuncId) (vs vs' : List Value), (call f).run vs m = some (v, m') → LR ρ vs vs' → (execOp a.eval o).run P w = (callFunc f ⟨vs'⟩).run P w → o.wp P a w K Q := fun f vs vs' hr hv he => by
    unfold Oper.wp
    rw [he]
    rcases (hc f).ok ρ m m' w vs vs' v hr hS h hv with ⟨h1, h2⟩ | ⟨v', ρ', w', h1, h2, h3⟩
    · rw [h1, Oper.upon_enter]
      refine h2.mono fun e w' ⟨v', ρ', he, hv, hs⟩ => ?_
      subst he
      exact hK v' ρ' w' hv hs
    · rw [h1, Oper.upon_value]
      exact hK v' ρ' w' h2 h3
  have hop : opM P fr m o.op = some (v, m') ∨ symM P fr m o.op = some (v, m') → o.wp P a w K Q := fun hr => by
    have hn : NOk P base ρ m w (execOp a.eval o) v m' := hr.elim (fun hr => opM_ok h.hr h.bs hr h.fr hg) fun hr => symM_ok h.hr hr hg hS
    obtain ⟨v', ρ', w', h1, h2, h3⟩ := hn
    unfold Oper.wp
    rcases h1 with h1 | ⟨h1, rfl⟩
    · rw [h1, Oper.upon_value]; exact hK v' ρ' w' h2 h3
    · rw [h1, Oper.upon_skip]; exact hK undef ρ' w' h2 h3
  obtain ⟨dst, op, ty, pos, af, gd⟩ := o
  unfold stepC at ho
  simp only at ho hg
  split at ho
  · rename_i f xs tys
    have l1 := evL_LR (ρ := ρ) (fr := fr) (g := a.eval) (xs := xs.toList) fun x hx => hg x (callee_ops rfl x hx)
    have ho : (call f).run ((compL xs.toList).run fr) m = some (v, m') := ho
    rw [compL_run] at ho
    refine hfn f _ _ ho l1 ?_
    have e1 : xs.map a.eval = ⟨xs.toList.map a.eval⟩ := by apply Array.ext'; simp
    simp only [execOp, resolve, Act.eval, Deferred.ofValue, pure_bind, invoke, e1]
    simp
  · rename_i x xs tys hne
    have l1 := evL_LR (ρ := ρ) (fr := fr) (g := a.eval) (xs := xs.toList) fun y hy => hg y (callee_ops rfl y hy)
    have hx : VR ρ (ev fr x) (a.eval x) := hg x (by show x ∈ (#[x] ++ xs : Array Operand).toList; simp)
    have ho : oCall call m ((compX x).run fr) ((compL xs.toList).run fr) = some (v, m') := ho
    rw [compL_run, compX_run] at ho
    unfold oCall at ho
    split at ho
    · rename_i f vs hcal
      unfold calleeM at hcal
      split at hcal
      · rename_i f0 p q hev
        cases hcal
        rw [hev] at hx
        generalize hgx : a.eval x = gx at hx
        cases hx with
        | pure hp => simp [pureV] at hp
        | func ha hb h1 h2 =>
          rename_i p q p' q'
          have lp : LR ρ p p' := ⟨ha, h1⟩
          have lq : LR ρ q q' := ⟨hb, h2⟩
          refine hfn f _ _ ho (lp.append (l1.append lq)) ?_
          have e1 : xs.map a.eval = ⟨xs.toList.map a.eval⟩ := by apply Array.ext'; simp
          simp only [execOp, resolve, hgx, Deferred.ofValue, pure_bind, invoke, e1]
          simp
      · cases hcal
    · cases ho
  · have ho : kTry P (compOp P _) _ fr m = some (v, m') := ho
    unfold kTry at ho
    rw [compOp_run] at ho
    split at ho
    · rename_i r hr; cases ho; exact hop (.inl hr)
    · exact hop (.inr ho)

theorem stepC_lg {m m' : Mem} {call : CallT} {o : Op} {fr : Fr} {v : Value} (hc : ∀ f, FnOk P base gl f (call f)) (ho : (stepC P call o).run fr m = some (v, m')) : m.lg.le m'.lg := by
  unfold stepC at ho
  split at ho
  · exact (hc _).lg _ _ _ _ ho
  · have ho : oCall call m _ _ = some (v, m') := ho
    unfold oCall at ho
    split at ho
    · exact (hc _).lg _ _ _ _ ho
    · cases ho
  · have ho : kTry P (compOp P _) _ fr m = some (v, m') := ho
    unfold kTry at ho
    rw [compOp_run] at ho
    split at ho
    · rename_i r hr; cases ho
      show m.lg.le _
      rw [opM_lg hr]; exact .refl _
    · exact (symM_le ho).1

theorem wantV_le {lg lg' : Lg} {v : Value} {b c : Bool} (h : wantV lg v b = some (c, lg')) : lg.le lg' := by
  unfold wantV at h
  split at h
  · cases h; exact .refl _
  · split at h
    · rename_i hb; cases h; exact brL_le hb
    · cases h
  · obtain ⟨_, h⟩ := cond_some h; cases h; exact .refl _
theorem wantM_le {lg lg' : Lg} {fr : Fr} {all : List Oper} {o : Oper} {b : Bool} (h : wantM nt fr lg all o = some (b, lg')) : lg.le lg' := by
  unfold wantM at h
  split at h
  · cases h; exact .refl _
  · split at h
    · split at h
      · obtain ⟨_, h⟩ := cond_some h; exact wantV_le h
      · cases h
    · cases h
theorem wantV_ok {ρ : Ren} {lg lg' : Lg} {v v' : Value} {b c : Bool} (h : wantV lg v b = some (c, lg')) (hv : VR ρ v v') (hS : Sat lg') : (v' = .bool (c == b) ∨ (c = false ∧ v' = .tuple ⟨[]⟩)) := by
  unfold wantV at h
  split at h
  · rename_i d
    cases h
    left; rw [inv_bool hv]; cases d <;> cases b <;> rfl
  · split at h
    · rename_i d l hb
      cases h
      left
      rw [brL_ok hb hv hS]; cases d <;> cases b <;> rfl
    · cases h
  · rename_i u _ _
    obtain ⟨h3, h4⟩ := cond_some h
    cases h4
    right
    have hu : v = .tuple ⟨[]⟩ := by
      unfold isUndef at h3
      split at h3
      · rfl
      · cases h3
    rw [hu] at hv
    obtain ⟨cs', e, hl⟩ := inv_tuple hv
    cases hl.nil_inv
    exact ⟨rfl, e⟩
theorem wanted_of {all : Array Oper} {o : Oper} {tmps : Array Value} {j : Nat} {want b : Bool} {p : Oper} {t : Tmp} (hg : o.guard = some (j, want)) (hp : all.toList[j]? = some p) (ht : p.dst = some t) (hlt : t < tmps.size)
    (hv : tmps.getD t undef = .bool (b == want) ∨ (b = false ∧ tmps.getD t undef = .tuple ⟨[]⟩)) : Region.wanted o (yielded all tmps) = b := by
  have hget : tmps[t]? = some (tmps.getD t undef) := by simp [Array.getD_eq_getD_getElem?, hlt]
  have hj : (all[j]?).bind (·.dst) = some t := by
    have : all[j]? = some p := by simpa using hp
    simp [this, ht]
  unfold Region.wanted
  simp only [hg]
  rcases hv with e | ⟨rfl, e⟩
  · have : yielded all tmps j = some (b == want) := by simp [yielded, hj, hget, e]
    rw [this]; cases b <;> cases want <;> rfl
  · have : yielded all tmps j = none := by simp [yielded, hj, hget, e]
    rw [this]; rfl
theorem wantM_ok {ρ : Ren} {lg lg' : Lg} {all : Array Oper} {o : Oper} {fr : Fr} {a : Act} {b : Bool} (h : FrR ρ nt fr a) (hw : wantM nt fr lg all.toList o = some (b, lg')) (hS : Sat lg') : Region.wanted o (yielded all a.tmps) = b := by
  unfold wantM at hw
  split at hw
  · rename_i hg
    cases hw; simp [Region.wanted, hg]
  · rename_i j want hg
    split at hw
    · rename_i p hp
      split at hw
      · rename_i t ht
        obtain ⟨h1, h2⟩ := cond_some hw
        have h1 : t < nt := Nat.le_of_ble_eq_true h1
        exact wanted_of hg hp ht (by rw [h.size]; exact h1) (wantV_ok h2 (h.get t h1) hS)
      · cases hw
    · cases hw

theorem setS_set {β : Type} (t : Nat) (v : Value) (fr : Fr) (k : Fr → β) : setS (sel (t / 64 % 8)) (sel (t / 8 % 8)) (sel (t % 8)) v fr k = k (fr.set t v) := setS_eq t v fr k
/-- The frame behind an operation. -/
def dstF (d : Option Tmp) (v : Value) (fr : Fr) : Fr := match d with | some t => fr.set t v | none => fr
theorem dstC_run (d : Option Tmp) (v : Value) (fr : Fr) (k : Fr → Option S) : (dstC d).run v fr k = k (dstF d v fr) := by
  cases d with
  | none => rfl
  | some t => exact setS_set t v fr k
theorem FrR.dst {ρ : Ren} {fr : Fr} {a : Act} {d : Option Tmp} {v v' : Value} (h : FrR ρ nt fr a) (hd : dstOk nt d = true) (hv : VR ρ v v') : FrR ρ nt (dstF d v fr) (a.put d v') := by
  cases d with
  | none => exact h
  | some t => exact h.put (Nat.le_of_ble_eq_true hd) hv

theorem runPlain_eq {c : OpC} {d : Option Tmp} {next : RunC} {s s' : S} (h : runPlain c (dstC d) next s = some s') : ∃ v m', c.run s.fr s.m = some (v, m') ∧ s.m.hi ≤ m'.hi ∧ next.run ⟨dstF d v s.fr, m'⟩ = some s' := by
  unfold runPlain at h
  obtain ⟨fr, m⟩ := s
  simp only at h
  split at h
  · rename_i v m' hr
    obtain ⟨h1, h2⟩ := cond_some h
    rw [dstC_run] at h2
    exact ⟨v, m', hr, Nat.le_of_ble_eq_true h1, h2⟩
  · cases h

theorem ops_hi {call : CallT} {all : List Oper} : ∀ (r : List Oper) (s s' : S), (compOps P nt gl call all r).run s = some s' → s.m.hi ≤ s'.m.hi
  | [], s, s', h => by
    have h : some s = some s' := h
    cases h; exact Nat.le_refl _
  | o :: r, s, s', h => by
    unfold compOps at h
    cases hd : dstOk nt o.dst && okOp nt gl o.op with
    | false => rw [hd] at h; cases h
    | true =>
      rw [hd] at h
      simp only [cond_true] at h
      split at h
      · obtain ⟨v, m', _, h1, h2⟩ := runPlain_eq h
        exact Nat.le_trans h1 (ops_hi r _ _ h2)
      · have h : runGuard nt all o (stepC P call o.op) (dstC o.dst) (compOps P nt gl call all r) s = some s' := h
        unfold runGuard at h
        obtain ⟨fr, ⟨H, n, W, hi, lg⟩⟩ := s
        simp only at h
        split at h
        · obtain ⟨v, m', _, h1, h2⟩ := runPlain_eq h
          exact Nat.le_trans h1 (ops_hi r _ _ h2)
        · rename_i lg' _
          rw [dstC_run] at h
          exact ops_hi r ⟨dstF o.dst undef fr, ⟨H, n, W, hi, lg'⟩⟩ s' h
        · cases h
theorem ops_lg {call : CallT} (hc : ∀ f, FnOk P base gl f (call f)) {all : List Oper} : ∀ (r : List Oper) (s s' : S), (compOps P nt gl call all r).run s = some s' → s.m.lg.le s'.m.lg
  | [], s, s', h => by
    have h : some s = some s' := h
    cases h; exact .refl _
  | o :: r, s, s', h => by
    unfold compOps at h
    cases hd : dstOk nt o.dst && okOp nt gl o.op with
    | false => rw [hd] at h; cases h
    | true =>
      rw [hd] at h
      simp only [cond_true] at h
      split at h
      · obtain ⟨v, m', h0, h1, h2⟩ := runPlain_eq h
        exact (stepC_lg hc h0).trans (ops_lg hc r _ _ h2)
      · have h : runGuard nt all o (stepC P call o.op) (dstC o.dst) (compOps P nt gl call all r) s = some s' := h
        unfold runGuard at h
        obtain ⟨fr, ⟨H, n, W, hi, lg⟩⟩ := s
        simp only at h
        split at h
        · rename_i lg' hw
          obtain ⟨v, m', h0, h1, h2⟩ := runPlain_eq h
          exact (wantM_le hw).trans ((stepC_lg hc h0).trans (ops_lg hc r _ _ h2))
        · rename_i lg' hw
          rw [dstC_run] at h
          exact (wantM_le hw).trans (ops_lg hc r ⟨dstF o.dst undef fr, ⟨H, n, W, hi, lg'⟩⟩ s' h)
        · cases h

theorem ops_ok {call : CallT} {all : Array Oper} {Q : Exit → Act → World → Prop} (hc : ∀ f, FnOk P base gl f (call f)) : ∀ (r : List Oper) (ρ : Ren) (s s' : S) (a : Act) (w : World), (compOps P nt gl call all.toList r).run s = some s' → Sat s'.m.lg → At P base gl ρ s.m s'.m.hi w → FrR ρ nt s.fr a →
    (∀ ρ' a' w', FrR ρ' nt s'.fr a' → St P base ρ ρ' s.m s'.m w w' → Q .normal a' w') → wpList P all Q r a w
  | [], ρ, s, s', a, w, h, hS, hat, hf, hQ => by
    have h : some s = some s' := h
    cases h
    exact hQ ρ a w hf (.refl hat.hr)
  | o :: r, ρ, s, s', a, w, h, hS, hat, hf, hQ => by
    unfold compOps at h
    cases hd : dstOk nt o.dst && okOp nt gl o.op with
    | false => rw [hd] at h; cases h
    | true =>
      rw [hd] at h
      simp only [cond_true] at h
      obtain ⟨hd1, hd2⟩ := boolAnd hd
      have plain : ∀ (s : S), At P base gl ρ s.m s'.m.hi w → FrR ρ nt s.fr a → (∀ ρ' a' w', FrR ρ' nt s'.fr a' → St P base ρ ρ' s.m s'.m w w' → Q .normal a' w') →
          runPlain (stepC P call o.op) (dstC o.dst) (compOps P nt gl call all.toList r) s = some s' → Region.wanted o (yielded all a.tmps) = true → wpList P all Q (o :: r) a w := fun s hat hf hQ hr hw => by
        obtain ⟨v, m', h1, h2, h3⟩ := runPlain_eq hr
        have hh := ops_hi r _ _ h3
        have hS' : Sat m'.lg := SatL.le hS (ops_lg hc r _ _ h3)
        refine wpList_step fun K hK => ?_
        rw [if_pos hw]
        refine stepC_ok hc h1 hS' (hat.less hh) (hf.ops hat.gr hd2) fun v' ρ' w' hv st => hK _ _ ?_
        refine ops_ok hc r ρ' _ s' _ _ h3 hS (hat.step st) ((hf.mono st.ext).dst hd1 hv) fun ρ2 a2 w2 f2 st2 => hQ ρ2 a2 w2 f2 (St.trans hat.fr st st2)
      split at h
      · rename_i hg
        exact plain s hat hf hQ h (by simp [Region.wanted, hg])
      · have h : runGuard nt all.toList o (stepC P call o.op) (dstC o.dst) (compOps P nt gl call all.toList r) s = some s' := h
        unfold runGuard at h
        obtain ⟨fr, m⟩ := s
        obtain ⟨H, n, W, hi, lg⟩ := m
        simp only at h
        split at h
        · rename_i lg' hw
          have hst : St P base ρ ρ ⟨H, n, W, hi, lg⟩ ⟨H, n, W, hi, lg'⟩ w w := St.wLg (m := ⟨H, n, W, hi, lg⟩) hat.hr lg'
          obtain ⟨v, m', h0, h1, h2⟩ := runPlain_eq h
          have hS' : Sat lg' := SatL.le hS ((stepC_lg hc h0).trans (ops_lg hc r _ _ h2))
          exact plain ⟨fr, ⟨H, n, W, hi, lg'⟩⟩ (hat.wLg lg') hf (fun ρ2 a2 w2 f2 st2 => hQ ρ2 a2 w2 f2 (St.trans hat.fr hst st2)) h (wantM_ok hf hw hS')
        · rename_i lg' hw
          have hst : St P base ρ ρ ⟨H, n, W, hi, lg⟩ ⟨H, n, W, hi, lg'⟩ w w := St.wLg (m := ⟨H, n, W, hi, lg⟩) hat.hr lg'
          rw [dstC_run] at h
          have hS' : Sat lg' := SatL.le hS (ops_lg hc r ⟨dstF o.dst undef fr, ⟨H, n, W, hi, lg'⟩⟩ s' h)
          refine wpList_step fun K hK => ?_
          rw [if_neg (by rw [wantM_ok hf hw hS']; simp)]
          exact hK _ _ (ops_ok hc r ρ ⟨dstF o.dst undef fr, ⟨H, n, W, hi, lg'⟩⟩ s' _ _ h hS (hat.wLg lg') (hf.dst hd1 (undef_VR ρ)) fun ρ2 a2 w2 f2 st2 => hQ ρ2 a2 w2 f2 (St.trans hat.fr hst st2))
        · cases h

/-! ### code -/
def Ex.out : Ex → Exit
  | .normal => .normal
  | .exit id => .exit id
  | .ret => .ret

/-- Regions that draw their order. -/
def DrawsOk (P : Program) (base gl : Nat) (call : CallT) : Prop :=
  ∀ (nt : Nat) (ops : Array Oper), drawOk ops = true → ∀ (s s' : S), runDraw P nt gl call ops.toList ops.toList 0 (ancs ops.toList []) [] s = some s' → (s.m.hi ≤ s'.m.hi ∧ s.m.lg.le s'.m.lg) ∧
    ∀ (ρ : Ren) (a : Act) (w : World) (id : Nat) (Q : Exit → Act → World → Prop), Sat s'.m.lg → At P base gl ρ s.m s'.m.hi w → FrR ρ nt s.fr a →
      (∀ ρ' a' w', FrR ρ' nt s'.fr a' → St P base ρ ρ' s.m s'.m w w' → Q .normal a' w') → (Code.region id ops true).wp P Q a w

/-- The code at a place. -/
def codeAt : List Bool → Code → Option Code
  | [], c => some c
  | false :: q, .seq a _ => codeAt q a
  | true :: q, .seq _ b => codeAt q b
  | false :: q, .cond _ a _ => codeAt q a
  | true :: q, .cond _ _ b => codeAt q b
  | false :: q, .block _ c => codeAt q c
  | false :: q, .loop c => codeAt q c
  | _ :: _, _ => none
theorem codeAt_append : ∀ (q r : List Bool) (c : Code), codeAt (q ++ r) c = (codeAt q c).bind (codeAt r)
  | [], r, c => rfl
  | false :: q, r, .seq a b => codeAt_append q r a
  | true :: q, r, .seq a b => codeAt_append q r b
  | false :: q, r, .cond _ a b => codeAt_append q r a
  | true :: q, r, .cond _ a b => codeAt_append q r b
  | false :: q, r, .block _ c => codeAt_append q r c
  | false :: q, r, .loop c => codeAt_append q r c
  | true :: q, r, .block _ c => rfl
  | true :: q, r, .loop c => rfl
  | b :: q, r, .skip => by cases b <;> rfl
  | b :: q, r, .region _ _ _ => by cases b <;> rfl
  | b :: q, r, .rangeFunc _ _ _ _ => by cases b <;> rfl
  | b :: q, r, .exit _ => by cases b <;> rfl
  | b :: q, r, .scope _ => by cases b <;> rfl
  | b :: q, r, .label _ => by cases b <;> rfl
  | b :: q, r, .goto _ => by cases b <;> rfl
  | b :: q, r, .ret => by cases b <;> rfl
  | b :: q, r, .refuse _ => by cases b <;> rfl
theorem codeAt_snoc {q : List Bool} {b : Bool} {body c d : Code} (h : codeAt q body = some c) (hb : codeAt [b] c = some d) : codeAt (q ++ [b]) body = some d := by
  rw [codeAt_append, h]; exact hb

/-- A piece of code that is taken by what is shown of it. -/
structure CodeOk (P : Program) (base gl nt : Nat) (c : Code) (L : S → Option (Ex × S)) : Prop where
  lg : ∀ (s s' : S) (e : Ex), L s = some (e, s') → s.m.hi ≤ s'.m.hi ∧ s.m.lg.le s'.m.lg
  ok : ∀ (ρ : Ren) (s s' : S) (e : Ex) (a : Act) (w : World) (Q : Exit → Act → World → Prop), L s = some (e, s') → Sat s'.m.lg → At P base gl ρ s.m s'.m.hi w → FrR ρ nt s.fr a →
    (∀ ρ' a' w', FrR ρ' nt s'.fr a' → St P base ρ ρ' s.m s'.m w w' → Q e.out a' w') → c.wp P Q a w
/-- The loops that are taken so. -/
def LpOk (P : Program) (base gl nt : Nat) (body : Code) (lp : LpT) : Prop := ∀ q x L, codeAt q body = some (.loop x) → lp q = some L → CodeOk P base gl nt (.loop x) L

theorem loopN_hi {call : CallT} {lp : LpT} {q : List Bool} {x : Code} (hx : ∀ (s s' : S) (e : Ex), (compC P nt gl call lp q x).run s = some (e, s') → s.m.hi ≤ s'.m.hi ∧ s.m.lg.le s'.m.lg) : ∀ (n : Nat) (s s' : S) (e : Ex), loopN (compC P nt gl call lp q x) n s = some (e, s') → s.m.hi ≤ s'.m.hi ∧ s.m.lg.le s'.m.lg
  | 0, s, s', e, h => by cases h
  | n + 1, s, s', e, h => by
    unfold loopN at h
    split at h
    · rename_i s1 h1
      have a := hx _ _ _ h1
      have b := loopN_hi hx n _ _ _ h
      exact ⟨Nat.le_trans a.1 b.1, a.2.trans b.2⟩
    · exact hx _ _ _ h

theorem cCond_eq {c : XC} {a b : CodeC} {s s' : S} {e : Ex} (h : cCond c a b s = some (e, s')) : ∃ t lg, brL s.m.lg (c.run s.fr) = some (t, lg) ∧ (bif t then a.run ⟨s.fr, s.m.wLg lg⟩ else b.run ⟨s.fr, s.m.wLg lg⟩) = some (e, s') := by
  obtain ⟨fr, ⟨H, n, W, hi, lg⟩⟩ := s
  unfold cCond at h
  split at h
  · rename_i hc; exact ⟨true, lg, by rw [hc]; rfl, h⟩
  · rename_i hc; exact ⟨false, lg, by rw [hc]; rfl, h⟩
  · simp only at h
    split at h
    · rename_i lg' hb; exact ⟨true, lg', hb, h⟩
    · rename_i lg' hb; exact ⟨false, lg', hb, h⟩
    · cases h

theorem code_hi {call : CallT} {lp : LpT} {body : Code} (hc : ∀ f, FnOk P base gl f (call f)) (hd : DrawsOk P base gl call) (hlp : LpOk P base gl nt body lp) : ∀ (c : Code) (q : List Bool), codeAt q body = some c → ∀ (s s' : S) (e : Ex), (compC P nt gl call lp q c).run s = some (e, s') → s.m.hi ≤ s'.m.hi ∧ s.m.lg.le s'.m.lg
  | .skip, q, hq, s, s', e, h => by have h : some (Ex.normal, s) = some (e, s') := h; cases h; exact ⟨Nat.le_refl _, .refl _⟩
  | .label _, q, hq, s, s', e, h => by have h : some (Ex.normal, s) = some (e, s') := h; cases h; exact ⟨Nat.le_refl _, .refl _⟩
  | .exit id, q, hq, s, s', e, h => by have h : some (Ex.exit id, s) = some (e, s') := h; cases h; exact ⟨Nat.le_refl _, .refl _⟩
  | .ret, q, hq, s, s', e, h => by have h : some (Ex.ret, s) = some (e, s') := h; cases h; exact ⟨Nat.le_refl _, .refl _⟩
  | .region id ops d, q, hq, s, s', e, h => by
    cases d with
    | false =>
      have h : cRegion (compOps P nt gl call ops.toList ops.toList) s = some (e, s') := h
      unfold cRegion at h
      split at h
      · rename_i s1 h1; cases h; exact ⟨ops_hi _ _ _ h1, ops_lg hc _ _ _ h1⟩
      · cases h
    | true =>
      unfold compC at h
      simp only at h
      cases hq : drawOk ops with
      | false => rw [hq] at h; cases h
      | true =>
        rw [hq] at h
        have h : cRegion ⟨runDraw P nt gl call ops.toList ops.toList 0 (ancs ops.toList []) []⟩ s = some (e, s') := h
        unfold cRegion at h
        split at h
        · rename_i s1 h1; cases h; exact (hd nt ops hq _ _ h1).1
        · cases h
  | .seq x y, q, hq, s, s', e, h => by
    have ha := code_hi hc hd hlp x (q ++ [false]) (codeAt_snoc hq rfl)
    have hb := code_hi hc hd hlp y (q ++ [true]) (codeAt_snoc hq rfl)
    have h : cSeq (compC P nt gl call lp (q ++ [false]) x) (compC P nt gl call lp (q ++ [true]) y) s = some (e, s') := h
    unfold cSeq at h
    split at h
    · rename_i s1 h1
      have a := ha _ _ _ h1
      have b := hb _ _ _ h
      exact ⟨Nat.le_trans a.1 b.1, a.2.trans b.2⟩
    · exact ha _ _ _ h
  | .cond c x y, q, hq, s, s', e, h => by
    have ha := code_hi hc hd hlp x (q ++ [false]) (codeAt_snoc hq rfl)
    have hb := code_hi hc hd hlp y (q ++ [true]) (codeAt_snoc hq rfl)
    unfold compC at h
    cases hq : okX nt gl c with
    | false => rw [hq] at h; cases h
    | true =>
      rw [hq] at h
      have h : cCond (compX c) (compC P nt gl call lp (q ++ [false]) x) (compC P nt gl call lp (q ++ [true]) y) s = some (e, s') := h
      obtain ⟨t, lg, h1, h2⟩ := cCond_eq h
      have hl := brL_le h1
      obtain ⟨fr, ⟨H, n, W, hi, l0⟩⟩ := s
      cases t with
      | true => have a := ha _ _ _ h2; exact ⟨a.1, hl.trans a.2⟩
      | false => have b := hb _ _ _ h2; exact ⟨b.1, hl.trans b.2⟩
  | .block id x, q, hq, s, s', e, h => by
    have ha := code_hi hc hd hlp x (q ++ [false]) (codeAt_snoc hq rfl)
    have h : cBlock id (compC P nt gl call lp (q ++ [false]) x) s = some (e, s') := h
    unfold cBlock at h
    split at h
    · rename_i j s1 h1
      have := ha _ _ _ h1
      cases hq : Nat.beq j id <;> rw [hq] at h <;> cases h <;> exact this
    · exact ha _ _ _ h
  | .loop x, q, hq, s, s', e, h => by
    have h : cLoop (compC P nt gl call lp (q ++ [false]) x) (lp q) s = some (e, s') := h
    unfold cLoop at h
    split at h
    · rename_i L hL; exact (hlp q x L hq hL).lg _ _ _ h
    · exact loopN_hi (code_hi hc hd hlp x (q ++ [false]) (codeAt_snoc hq rfl)) _ _ _ _ h
  | .rangeFunc _ _ _ _, q, hq, s, s', e, h => by cases h
  | .scope _, q, hq, s, s', e, h => by cases h
  | .goto _, q, hq, s, s', e, h => by cases h
  | .refuse _, q, hq, s, s', e, h => by cases h

theorem code_ok {call : CallT} {lp : LpT} {body : Code} (hc : ∀ f, FnOk P base gl f (call f)) (hd : DrawsOk P base gl call) (hlp : LpOk P base gl nt body lp) : ∀ (c : Code) (q : List Bool), codeAt q body = some c → ∀ (ρ : Ren) (s s' : S) (e : Ex) (a : Act) (w : World) (Q : Exit → Act → World → Prop), (compC P nt gl call lp q c).run s = some (e, s') → Sat s'.m.lg → At P base gl ρ s.m s'.m.hi w → FrR ρ nt s.fr a →
    (∀ ρ' a' w', FrR ρ' nt s'.fr a' → St P base ρ ρ' s.m s'.m w w' → Q e.out a' w') → c.wp P Q a w
  | .skip, q, hq, ρ, s, s', e, a, w, Q, h, hS, hat, hf, hQ => by have h : some (Ex.normal, s) = some (e, s') := h; cases h; exact wp_skip (hQ ρ a w hf (.refl hat.hr))
  | .label _, q, hq, ρ, s, s', e, a, w, Q, h, hS, hat, hf, hQ => by have h : some (Ex.normal, s) = some (e, s') := h; cases h; exact wp_label (hQ ρ a w hf (.refl hat.hr))
  | .exit id, q, hq, ρ, s, s', e, a, w, Q, h, hS, hat, hf, hQ => by have h : some (Ex.exit id, s) = some (e, s') := h; cases h; exact wp_exit (hQ ρ a w hf (.refl hat.hr))
  | .ret, q, hq, ρ, s, s', e, a, w, Q, h, hS, hat, hf, hQ => by have h : some (Ex.ret, s) = some (e, s') := h; cases h; exact wp_ret (hQ ρ a w hf (.refl hat.hr))
  | .region id ops d, q, hq, ρ, s, s', e, a, w, Q, h, hS, hat, hf, hQ => by
    cases d with
    | false =>
      have h : cRegion (compOps P nt gl call ops.toList ops.toList) s = some (e, s') := h
      unfold cRegion at h
      split at h
      · rename_i s1 h1; cases h
        exact wp_region_list (ops_ok hc _ ρ s s' a w h1 hS hat hf hQ)
      · cases h
    | true =>
      unfold compC at h
      simp only at h
      cases hq : drawOk ops with
      | false => rw [hq] at h; cases h
      | true =>
        rw [hq] at h
        have h : cRegion ⟨runDraw P nt gl call ops.toList ops.toList 0 (ancs ops.toList []) []⟩ s = some (e, s') := h
        unfold cRegion at h
        split at h
        · rename_i s1 h1; cases h
          exact (hd nt ops hq _ _ h1).2 ρ a w id Q hS hat hf hQ
        · cases h
  | .seq x y, q, hq, ρ, s, s', e, a, w, Q, h, hS, hat, hf, hQ => by
    have hqa : codeAt (q ++ [false]) body = some x := codeAt_snoc hq rfl
    have hqb : codeAt (q ++ [true]) body = some y := codeAt_snoc hq rfl
    have h : cSeq (compC P nt gl call lp (q ++ [false]) x) (compC P nt gl call lp (q ++ [true]) y) s = some (e, s') := h
    unfold cSeq at h
    split at h
    · rename_i s1 h1
      have hh := code_hi hc hd hlp y _ hqb _ _ _ h
      refine wp_seq (code_ok hc hd hlp x _ hqa ρ s s1 .normal a w _ h1 (SatL.le hS hh.2) (hat.less hh.1) hf fun ρ1 a1 w1 f1 st1 => ?_)
      exact code_ok hc hd hlp y _ hqb ρ1 s1 s' e a1 w1 Q h hS (hat.step st1) f1 fun ρ2 a2 w2 f2 st2 => hQ ρ2 a2 w2 f2 (St.trans hat.fr st1 st2)
    · rename_i hne
      refine wp_seq (code_ok hc hd hlp x _ hqa ρ s s' e a w _ h hS hat hf fun ρ1 a1 w1 f1 st1 => ?_)
      have := hQ ρ1 a1 w1 f1 st1
      cases e with
      | normal => exact absurd h (hne s')
      | exit id => exact this
      | ret => exact this
  | .cond c x y, q, hq, ρ, s, s', e, a, w, Q, h, hS, hat, hf, hQ => by
    have hqa : codeAt (q ++ [false]) body = some x := codeAt_snoc hq rfl
    have hqb : codeAt (q ++ [true]) body = some y := codeAt_snoc hq rfl
    unfold compC at h
    cases hqx : okX nt gl c with
    | false => rw [hqx] at h; cases h
    | true =>
      rw [hqx] at h
      have h : cCond (compX c) (compC P nt gl call lp (q ++ [false]) x) (compC P nt gl call lp (q ++ [true]) y) s = some (e, s') := h
      have hv := hf.ev hat.gr hqx
      obtain ⟨t, lg, h1, h2⟩ := cCond_eq h
      rw [compX_run] at h1
      have hst : St P base ρ ρ s.m (s.m.wLg lg) w w := St.wLg hat.hr lg
      cases t with
      | true =>
        have hh := code_hi hc hd hlp x _ hqa _ _ _ h2
        have hl : Sat lg := SatL.le hS (by obtain ⟨fr, ⟨H, n, W, hi, l0⟩⟩ := s; exact hh.2)
        exact wp_cond_true (brL_ok h1 hv hl) (code_ok hc hd hlp x _ hqa ρ ⟨s.fr, s.m.wLg lg⟩ s' e a w Q h2 hS (hat.wLg lg) hf fun ρ2 a2 w2 f2 st2 => hQ ρ2 a2 w2 f2 (St.trans hat.fr hst st2))
      | false =>
        have hh := code_hi hc hd hlp y _ hqb _ _ _ h2
        have hl : Sat lg := SatL.le hS (by obtain ⟨fr, ⟨H, n, W, hi, l0⟩⟩ := s; exact hh.2)
        exact wp_cond_false (brL_ok h1 hv hl) (code_ok hc hd hlp y _ hqb ρ ⟨s.fr, s.m.wLg lg⟩ s' e a w Q h2 hS (hat.wLg lg) hf fun ρ2 a2 w2 f2 st2 => hQ ρ2 a2 w2 f2 (St.trans hat.fr hst st2))
  | .block id x, q, hq, ρ, s, s', e, a, w, Q, h, hS, hat, hf, hQ => by
    have hqa : codeAt (q ++ [false]) body = some x := codeAt_snoc hq rfl
    have h : cBlock id (compC P nt gl call lp (q ++ [false]) x) s = some (e, s') := h
    unfold cBlock at h
    split at h
    · rename_i j s1 h1
      cases hq2 : Nat.beq j id with
      | true =>
        rw [hq2] at h; cases h
        have hj := Nat.eq_of_beq_eq_true hq2
        refine wp_block (code_ok hc hd hlp x _ hqa ρ s s' (.exit j) a w _ h1 hS hat hf fun ρ1 a1 w1 f1 st1 => ?_)
        have := hQ ρ1 a1 w1 f1 st1
        simpa [Exit.inBlock, Ex.out, hj] using this
      | false =>
        rw [hq2] at h; cases h
        have hj : j ≠ id := fun e => by subst e; simp at hq2
        refine wp_block (code_ok hc hd hlp x _ hqa ρ s s' (.exit j) a w _ h1 hS hat hf fun ρ1 a1 w1 f1 st1 => ?_)
        have := hQ ρ1 a1 w1 f1 st1
        simpa [Exit.inBlock, Ex.out, hj] using this
    · rename_i hne
      refine wp_block (code_ok hc hd hlp x _ hqa ρ s s' e a w _ h hS hat hf fun ρ1 a1 w1 f1 st1 => ?_)
      have := hQ ρ1 a1 w1 f1 st1
      cases e with
      | normal => exact this
      | exit j => exact absurd h (hne j s')
      | ret => exact this
  | .loop x, q, hq, ρ, s, s', e, a, w, Q, h, hS, hat, hf, hQ => by
    have hqa : codeAt (q ++ [false]) body = some x := codeAt_snoc hq rfl
    replace h : cLoop (compC P nt gl call lp (q ++ [false]) x) (lp q) s = some (e, s') := h
    unfold cLoop at h
    split at h
    · rename_i L hL; exact (hlp q x L hq hL).ok ρ s s' e a w Q h hS hat hf hQ
    obtain ⟨n, h0⟩ : ∃ n, loopN (compC P nt gl call lp (q ++ [false]) x) n s = some (e, s') := ⟨_, h⟩
    clear h
    have h := h0
    clear h0
    refine wp_loop_rounds n ?_
    induction n generalizing s ρ a w with
    | zero => cases h
    | succ n ih =>
      unfold loopN at h
      show x.wp P (Exit.then (Code.rounds P x Q n) Q) a w
      split at h
      · rename_i s1 h1
        have hh := loopN_hi (code_hi hc hd hlp x _ hqa) _ _ _ _ h
        refine code_ok hc hd hlp x _ hqa ρ s s1 .normal a w _ h1 (SatL.le hS hh.2) (hat.less hh.1) hf fun ρ1 a1 w1 f1 st1 => ?_
        exact ih ρ1 s1 a1 w1 (hat.step st1) f1 (fun ρ2 a2 w2 f2 st2 => hQ ρ2 a2 w2 f2 (St.trans hat.fr st1 st2)) h
      · rename_i hne
        refine code_ok hc hd hlp x _ hqa ρ s s' e a w _ h hS hat hf fun ρ1 a1 w1 f1 st1 => ?_
        have := hQ ρ1 a1 w1 f1 st1
        cases e with
        | normal => exact absurd h (hne s')
        | exit id => exact this
        | ret => exact this
  | .rangeFunc _ _ _ _, q, hq, ρ, s, s', e, a, w, Q, h, hS, hat, hf, hQ => by cases h
  | .scope _, q, hq, ρ, s, s', e, a, w, Q, h, hS, hat, hf, hQ => by cases h
  | .goto _, q, hq, ρ, s, s', e, a, w, Q, h, hS, hat, hf, hQ => by cases h
  | .refuse _, q, hq, ρ, s, s', e, a, w, Q, h, hS, hat, hf, hQ => by cases h
end
end Go.Sx
