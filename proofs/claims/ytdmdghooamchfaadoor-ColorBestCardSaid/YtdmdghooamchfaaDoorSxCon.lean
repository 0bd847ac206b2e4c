/- Contracts without memory: what a function makes of scalars. -/
import Derived.Test.YtdmdghooamchfaaDoorSxCx
namespace Go.Sx
set_option linter.all false
open Go
set_option linter.unusedVariables false
set_option linter.unusedSimpArgs false

/-- The shape of a value: a scalar, or a struct or an array of scalars, by their tags. -/
inductive Sh where
  | s (t : Nat)
  | a (ts : List Nat)

def valS (t : Nat) (u : U) : Option Value := if tagU u = t then toV u else none
/-- Cells of these tags out of pure data; what is left. -/
def valC : List Nat → List U → Option (List Value × List U)
  | [], us => some ([], us)
  | t :: ts, u :: us => match valS t u, valC ts us with
    | some v, some (vs, r) => some (v :: vs, r)
    | _, _ => none
  | _ :: _, [] => none
def valSh : Sh → List U → Option (Value × List U)
  | .s t, u :: us => match valS t u with
    | some v => some (v, us)
    | none => none
  | .s _, [] => none
  | .a ts, us => match valC ts us with
    | some (vs, r) => some (.agg ⟨vs⟩, r)
    | none => none
/-- The values of these shapes that the data stand for: all of them. -/
def valL : List Sh → List U → Option (List Value)
  | [], [] => some []
  | [], _ :: _ => none
  | h :: hs, us => match valSh h us with
    | some (v, r) => match valL hs r with
      | some vs => some (v :: vs)
      | none => none
    | none => none
def tup : List Value → Value
  | [v] => v
  | vs => .tuple ⟨vs⟩

/-- Nothing that was there is touched. -/
structure Grown (w w' : World) : Prop where
  os : w'.os = w.os ∧ w'.tape = w.tape ∧ w'.output = w.output
  size : w.heap.size ≤ w'.heap.size
  keep : ∀ k, k < w.heap.size → w'.heap[k]? = w.heap[k]?
def GOk (G : Nat → Option Obj) (w : World) : Prop := ∀ k o, G k = some o → w.heap[k]? = some o
theorem GOk.lt {G : Nat → Option Obj} {w : World} (h : GOk G w) {k : Nat} {o : Obj} (hk : G k = some o) : k < w.heap.size := by
  have := h k o hk
  rcases Nat.lt_or_ge k w.heap.size with h1 | h1
  · exact h1
  · rw [Array.getElem?_eq_none h1] at this; cases this

abbrev Spec := List U → Option (Nat × List U)
/-- The contract. -/
def ConOk (P : Program) (G : Nat → Option Obj) (f : FuncId) (ps : List Sh) (spec : Spec) (rs : List Sh) : Prop :=
  ∀ (us outs : List U) (w : World) (vs : List Value), valL ps us = some vs → spec us = some (0, outs) → GOk G w →
    (callFunc f ⟨vs⟩).run P w = .ok (.enter f ⟨vs⟩) w ∧ Calls P f ⟨vs⟩ w (fun e w' => ∃ r, valL rs outs = some r ∧ e = .returned (tup r) ∧ Grown w w')

/-! ### the machine takes a contract -/
def takeC : List Nat → List Value → Option (List Value)
  | [], [] => some []
  | t :: ts, v :: vs => bif Nat.beq (tagOf v) t && Nat.blt t 10 then match takeC ts vs with
    | some r => some (v :: r)
    | none => none else none
  | _, _ => none
def takeSh : Sh → Value → Option (List Value)
  | .s t, v => bif Nat.beq (tagOf v) t && Nat.blt t 10 then some [v] else none
  | .a ts, .agg cs => takeC ts cs.toList
  | .a _, _ => none
/-- The scalars of the arguments, in order. -/
def takeL : List Sh → List Value → Option (List Value)
  | [], [] => some []
  | h :: hs, v :: vs => match takeSh h v, takeL hs vs with
    | some a, some b => some (a ++ b)
    | _, _ => none
  | _, _ => none
def holesC : List Nat → Nat → List Value
  | [], _ => []
  | t :: ts, i => hole i t :: holesC ts (i + 1)
def Sh.n : Sh → Nat
  | .s _ => 1
  | .a ts => ts.length
def holesSh : Sh → Nat → Value
  | .s t, i => hole i t
  | .a ts, i => .agg ⟨holesC ts i⟩
def holesL : List Sh → Nat → List Value
  | [], _ => []
  | h :: hs, i => holesSh h i :: holesL hs (i + h.n)
def shN : List Sh → Nat
  | [] => 0
  | h :: hs => h.n + shN hs

def conF (ps : List Sh) (spec : Spec) (rs : List Sh) : FnC := ⟨fun vs m =>
  match takeL ps vs with
  | some xs => match m with
    | ⟨H, n, W, hi, ⟨nx, pi, log⟩⟩ => forceN nx fun nx => forceL xs fun xs => forceN (nx + shN rs) fun nx' => some (tup (holesL rs nx), ⟨H, n, W, hi, ⟨nx', pi, .con spec xs nx 0 (shN rs) :: log⟩⟩)
  | none => none⟩

theorem conF_eq {ps : List Sh} {spec : Spec} {rs : List Sh} {vs : List Value} {m m' : Mem} {v : Value} (h : (conF ps spec rs).run vs m = some (v, m')) :
    ∃ xs, takeL ps vs = some xs ∧ v = tup (holesL rs m.lg.nx) ∧ m' = m.wLg ⟨m.lg.nx + shN rs, m.lg.pi, .con spec xs m.lg.nx 0 (shN rs) :: m.lg.log⟩ := by
  unfold conF at h
  simp only at h
  split at h
  · rename_i xs hx
    obtain ⟨H, n, W, hi, ⟨nx, pi, log⟩⟩ := m
    simp only [forceN_eq, forceL_eq] at h
    cases h
    exact ⟨xs, hx, rfl, rfl⟩
  · cases h

variable [Ora]
theorem takeC_val {ρ : Ren} : ∀ {ts : List Nat} {vs vs' xs : List Value}, takeC ts vs = some xs → LR ρ vs vs' → ∀ r, valC ts (xs.map (argU Ora.env) ++ r) = some (vs', r)
  | [], [], vs', xs, h, hl, r => by cases h; rw [hl.nil_inv]; rfl
  | t :: ts, v :: vs, vs', xs, h, hl, r => by
    obtain ⟨v', r', rfl, h1, h2⟩ := hl.tail
    unfold takeC at h
    obtain ⟨h3, h⟩ := cond_some h
    obtain ⟨h3, h4⟩ := boolAnd h3
    have h3 := Nat.eq_of_beq_eq_true h3
    have h4 : t < 10 := Nat.le_of_ble_eq_true h4
    split at h
    · rename_i r0 hr
      cases h
      have ih := takeC_val hr h2 r
      obtain ⟨e1, e2⟩ := tag_val h1 (by omega)
      simp only [List.map_cons, List.cons_append, valC, valS, e2, h3, if_true, e1, ih]
    · cases h
  | [], _ :: _, _, _, h, _, _ => by cases h
  | _ :: _, [], _, _, h, _, _ => by cases h
theorem takeSh_val {ρ : Ren} {s : Sh} {v v' : Value} {xs : List Value} (h : takeSh s v = some xs) (hv : VR ρ v v') (r : List U) : valSh s (xs.map (argU Ora.env) ++ r) = some (v', r) := by
  cases s with
  | s t =>
    unfold takeSh at h
    obtain ⟨h3, h⟩ := cond_some h
    obtain ⟨h3, h4⟩ := boolAnd h3
    have h3 := Nat.eq_of_beq_eq_true h3
    have h4 : t < 10 := Nat.le_of_ble_eq_true h4
    cases h
    obtain ⟨e1, e2⟩ := tag_val hv (by omega)
    simp only [List.map_cons, List.map_nil, List.cons_append, List.nil_append, valSh, valS, e2, h3, if_true, e1]
  | a ts =>
    cases v with
    | agg cs =>
      obtain ⟨cs', rfl, hl⟩ := inv_agg hv
      have h : takeC ts cs.toList = some xs := h
      simp only [valSh, takeC_val h hl r]
    | _ => cases h
theorem takeL_val {ρ : Ren} : ∀ {ss : List Sh} {vs vs' xs : List Value}, takeL ss vs = some xs → LR ρ vs vs' → valL ss (xs.map (argU Ora.env)) = some vs'
  | [], [], vs', xs, h, hl => by cases h; rw [hl.nil_inv]; rfl
  | s :: ss, v :: vs, vs', xs, h, hl => by
    obtain ⟨v', r', rfl, h1, h2⟩ := hl.tail
    unfold takeL at h
    split at h
    · rename_i a b ha hb
      cases h
      simp only [List.map_append, valL, takeSh_val ha h1, takeL_val hb h2]
    · cases h
  | [], _ :: _, _, _, h, _ => by cases h
  | _ :: _, [], _, _, h, _ => by cases h

theorem valS_VR {ρ : Ren} {t i : Nat} {u : U} {v : Value} (h : valS t u = some v) (he : Ora.env i = u) : VR ρ (hole i t) v := by
  unfold valS at h
  split at h
  · rename_i ht; exact .hole (he ▸ h) (he ▸ ht)
  · cases h
theorem holesC_VR {ρ : Ren} : ∀ {ts : List Nat} {us r : List U} {vs : List Value} {i : Nat}, valC ts us = some (vs, r) → (∀ j u, us[j]? = some u → Ora.env (i + j) = u) → LR ρ (holesC ts i) vs ∧ us.length = ts.length + r.length ∧ ∀ j u, r[j]? = some u → Ora.env (i + ts.length + j) = u
  | [], us, r, vs, i, h, he => by cases h; exact ⟨.nil, by simp, by simpa using he⟩
  | t :: ts, u :: us, r, vs, i, h, he => by
    unfold valC at h
    split at h
    · rename_i v vs0 r0 h1 h2
      cases h
      obtain ⟨g1, g2, g3⟩ := holesC_VR (i := i + 1) h2 fun j u hj => by
        have := he (j + 1) u (by simpa using hj)
        rwa [show i + 1 + j = i + (j + 1) by omega]
      refine ⟨.cons (valS_VR h1 (he 0 u rfl)) g1, by simp [g2]; omega, fun j u hj => ?_⟩
      have := g3 j u hj
      rwa [show i + (t :: ts).length + j = i + 1 + ts.length + j by simp; omega]
    · cases h
  | _ :: _, [], _, _, _, h, _ => by cases h
theorem holesSh_VR {ρ : Ren} {s : Sh} {us r : List U} {v : Value} {i : Nat} (h : valSh s us = some (v, r)) (he : ∀ j u, us[j]? = some u → Ora.env (i + j) = u) : VR ρ (holesSh s i) v ∧ us.length = s.n + r.length ∧ ∀ j u, r[j]? = some u → Ora.env (i + s.n + j) = u := by
  cases s with
  | s t =>
    cases us with
    | nil => cases h
    | cons u us =>
      simp only [valSh] at h
      split at h
      · rename_i v1 hv
        cases h
        refine ⟨valS_VR hv (he 0 u rfl), by simp [Sh.n]; omega, fun j u hj => ?_⟩
        have := he (j + 1) u (by simpa using hj)
        rwa [show i + (Sh.s t).n + j = i + (j + 1) by simp [Sh.n]; omega]
      · cases h
  | a ts =>
    simp only [valSh] at h
    split at h
    · rename_i vs r0 hv
      cases h
      obtain ⟨g1, g2, g3⟩ := holesC_VR (ρ := ρ) hv he
      exact ⟨.agg g1.1 g1.2, g2, g3⟩
    · cases h
theorem holesL_VR {ρ : Ren} : ∀ {ss : List Sh} {us : List U} {vs : List Value} {i : Nat}, valL ss us = some vs → (∀ j u, us[j]? = some u → Ora.env (i + j) = u) → LR ρ (holesL ss i) vs ∧ us.length = shN ss
  | [], [], vs, i, h, he => by cases h; exact ⟨.nil, rfl⟩
  | [], _ :: _, _, _, h, _ => by cases h
  | s :: ss, us, vs, i, h, he => by
    unfold valL at h
    split at h
    · rename_i v r hv
      split at h
      · rename_i vs0 hl
        cases h
        obtain ⟨g1, g2, g3⟩ := holesSh_VR (ρ := ρ) hv he
        obtain ⟨f1, f2⟩ := holesL_VR (ρ := ρ) hl g3
        exact ⟨.cons g1 f1, by simp [shN, g2, f2]⟩
      · cases h
    · cases h
theorem tup_VR {ρ : Ren} {vs vs' : List Value} (h : LR ρ vs vs') : VR ρ (tup vs) (tup vs') := by
  match vs, vs', h with
  | [], vs', h => rw [h.nil_inv]; exact .tuple (a := []) (a' := []) rfl (fun i v v' h1 _ => by simp at h1)
  | [v], vs', h =>
    obtain ⟨v', r', rfl, h1, h2⟩ := h.tail
    cases h2.nil_inv
    exact h1
  | v :: u :: r, vs', h =>
    obtain ⟨v', r', rfl, h1, h2⟩ := h.tail
    obtain ⟨u', r2, rfl, h3, h4⟩ := h2.tail
    exact .tuple h.1 h.2

section
variable {P : Program} {base gl : Nat}
theorem St.grown {ρ : Ren} {m : Mem} {w w' : World} (h : HR P base ρ m.H w) (g : Grown w w') : St P base ρ ρ m m w w' :=
  ⟨fun _ _ h => h, fun b l h1 h2 => (by rw [h1] at h2; cases h2), Nat.le_refl _, Nat.le_refl _, fun h => h,
   ⟨fun b l hb => ⟨(h.dom b l hb).1, Nat.lt_of_lt_of_le (h.dom b l hb).2 g.size⟩, fun id hid ab hab => by
      obtain ⟨l, h1, h2, h3⟩ := h.at_ id hid ab hab
      exact ⟨l, h1, h2.mono (fun _ _ h => h) (g.keep _ (h.dom _ _ h1).2), h3⟩⟩,
   fun _ h => h, fun b h1 h2 => absurd h1 h2, fun k hk _ => g.keep k hk, g.size, g.os, fun b l h1 h2 => (by rw [h1] at h2; cases h2), fun _ _ _ _ => rfl⟩

theorem St.grownLg {ρ : Ren} {m : Mem} {w w' : World} (h : HR P base ρ m.H w) (g : Grown w w') (lg : Lg) : St P base ρ ρ m (m.wLg lg) w w' := by
  obtain ⟨H, n, W, hi, l⟩ := m
  have r := St.grown (m := ⟨H, n, W, hi, l⟩) h g
  exact ⟨r.ext, r.new, r.nle, r.hle, r.nhi, r.hr, r.wsub, r.wrw, r.keep, r.size, r.os, r.blk, r.same⟩
theorem conF_ok {f : FuncId} {ps : List Sh} {spec : Spec} {rs : List Sh} (h : ConOk P Ora.G f ps spec rs) : FnOk P base gl f (conF ps spec rs) := by
  refine ⟨fun vs m m' v hr => ?_, fun ρ m m' w vs vs' v hr hS hat hl => .inl ?_⟩
  · obtain ⟨xs, _, _, rfl⟩ := conF_eq hr
    cases m; exact ⟨[_], rfl⟩
  · obtain ⟨xs, h1, rfl, rfl⟩ := conF_eq hr
    have h2 := takeL_val h1 hl
    obtain ⟨outs, h3, h4, h5⟩ := hS (.con spec xs m.lg.nx 0 (shN rs)) (by cases m; exact List.mem_cons_self)
    obtain ⟨h6, h7⟩ := h _ outs w vs' h2 h3 fun k o hk => (hat.gf k o hk).2
    refine ⟨h6, h7.mono fun e w' ⟨r, g1, g2, g3⟩ => ?_⟩
    exact ⟨_, ρ, g2, tup_VR (holesL_VR g1 h5).1, St.grownLg hat.hr g3 _⟩
end
end Go.Sx
