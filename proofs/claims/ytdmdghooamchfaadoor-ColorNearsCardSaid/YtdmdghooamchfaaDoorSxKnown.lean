/- Closed calls: each is run by itself, and a table of them is a contract. -/
import Derived.Test.YtdmdghooamchfaaDoorSxTab
namespace Go.Sx
set_option linter.all false
open Go
set_option linter.unusedVariables false
set_option linter.unusedSimpArgs false

def litU : Value → Option U
  | .int k n => some (.int k n)
  | .bool b => some (.bool b)
  | .string s => some (.str s.data.toList)
  | _ => none
def litUs : List Value → Option (List U)
  | [] => some []
  | v :: vs => match litU v, litUs vs with
    | some u, some us => some (u :: us)
    | _, _ => none
theorem litU_eq {v : Value} {u : U} (h : litU v = some u) (E : Nat → U) : argU E v = u := by
  unfold litU at h; split at h <;> cases h <;> rfl
theorem litUs_eq : ∀ {vs : List Value} {us : List U}, litUs vs = some us → ∀ E : Nat → U, vs.map (argU E) = us
  | [], us, h, E => by cases h; rfl
  | v :: vs, us, h, E => by
    unfold litUs at h
    split at h
    · rename_i u us0 h1 h2; cases h; rw [List.map_cons, litU_eq h1 E, litUs_eq h2 E]
    · cases h
/-- A closed run: what comes out. -/
def endK (rs : List Sh) (r : Res) : Option (List U) :=
  match r with
  | some (v, ⟨_, _, [], _, ⟨_, [], []⟩⟩) => match takeR rs v with
    | some xs => litUs xs
    | none => none
  | _ => none
def runK (C : Cx) (d : Nat) (f : FuncId) (ps rs : List Sh) (H0 : Hp AB) (n0 : Nat) (us : List U) : Option (List U) :=
  match valL ps us with
  | some vs => endK rs ((callN C d f).run vs (mem0 H0 n0 0 []))
  | none => none
theorem endK_eq {rs : List Sh} {r : Res} {us : List U} (h : endK rs r = some us) : ∃ v m' xs, r = some (v, m') ∧ m'.W = [] ∧ m'.lg.log = [] ∧ takeR rs v = some xs ∧ litUs xs = some us := by
  unfold endK at h
  split at h
  · split at h
    · rename_i ht; exact ⟨_, _, _, rfl, rfl, rfl, ht, h⟩
    · cases h
  · cases h
def sameU : U → U → Bool
  | .int k n, .int j i => Nat.beq (kTag k) (kTag j) && (n == i)
  | .bool a, .bool b => a == b
  | .str s, .str l => eqBy s l
  | _, _ => false
theorem sameU_eq {v u : U} (h : sameU v u = true) : v = u := by
  unfold sameU at h
  split at h
  · rename_i k n j i
    obtain ⟨h1, h2⟩ := band h
    have h1 := Nat.eq_of_beq_eq_true h1
    have h2 : n = i := by simpa using h2
    subst h2
    have : k = j := by cases k <;> cases j <;> first | rfl | (cases h1)
    subst this; rfl
  · rename_i a b; have : a = b := by simpa using h
    subst this; rfl
  · rename_i s l; rw [eqBy_eq h]
  · cases h
def sameUs : List U → List U → Bool
  | [], [] => true
  | a :: x, b :: y => sameU a b && sameUs x y
  | _, _ => false
theorem sameUs_eq : ∀ {x y : List U}, sameUs x y = true → x = y
  | [], [], _ => rfl
  | a :: x, b :: y, h => by
    obtain ⟨h1, h2⟩ := band (show (sameU a b && sameUs x y) = true from h)
    rw [sameU_eq h1, sameUs_eq h2]
  | [], _ :: _, h => by cases h
  | _ :: _, [], h => by cases h
/-- The contract of a table. -/
def tabS : List (List U × List U) → Spec
  | [], _ => none
  | (a, r) :: t, us => bif sameUs us a then some (0, r) else tabS t us
theorem tabS_mem : ∀ {t : List (List U × List U)} {us : List U} {p : Nat × List U}, tabS t us = some p → p.1 = 0 ∧ (us, p.2) ∈ t
  | (a, r) :: t, us, p, h => by
    rw [tabS] at h
    cases e : sameUs us a with
    | true => rw [e] at h; cases h; rw [sameUs_eq e]; exact ⟨rfl, .head _⟩
    | false => rw [e] at h; obtain ⟨h1, h2⟩ := tabS_mem h; exact ⟨h1, .tail _ h2⟩
inductive Rows (p : List U × List U → Prop) : List (List U × List U) → Prop
  | nil : Rows p []
  | cons {a t} (h : p a) (k : Rows p t) : Rows p (a :: t)
theorem Rows.all {p : List U × List U → Prop} : ∀ {t : List (List U × List U)}, Rows p t → ∀ a ∈ t, p a
  | _, .cons h k, a, ha => by
    rcases List.mem_cons.1 ha with rfl | ha
    · exact h
    · exact k.all a ha
  | _, .nil, a, ha => by cases ha
def EndsK (P : Program) (f : FuncId) (vs : List Value) (rs : List Sh) (outs : List U) (w : World) : Prop :=
  (callFunc f ⟨vs⟩).run P w = .ok (.enter f ⟨vs⟩) w ∧ Calls P f ⟨vs⟩ w (fun e w' => ∃ r, valL rs outs = some r ∧ e = .returned (tup r) ∧ Grown w w')
theorem ends_of_run {C : Cx} {G : Nat → Option Obj} {d : Nat} {f : FuncId} {ps rs : List Sh} {H0 : Hp AB} {n0 : Nat} {us outs : List U} {vs : List Value} {w : World}
    (hC : CxG C G) (hst : StartOk C.P G C.gl H0 n0) (hb : ∃ fn c, C.P.funcs[f]? = some fn ∧ fn.body = some c) (hrun : runK C d f ps rs H0 n0 us = some outs) (hv : valL ps us = some vs) (hG : GOk G w) : EndsK C.P f vs rs outs w := by
  letI : Ora := ⟨fun _ => .none, G⟩
  unfold runK at hrun
  rw [hv] at hrun
  obtain ⟨v, m', xs, h1, h2, h3, h4, h5⟩ := endK_eq hrun
  have hcx := hC (fun _ => .none) w.heap.size
  have hfn := callN_ok hcx d f
  obtain ⟨ρ, hsa⟩ := hst w hG
  have hr := hsa.hr (fun _ => .none) w.heap.size
  have hat : At C.P w.heap.size C.gl ρ (mem0 H0 n0 0 []) m'.hi w := ⟨hr, Nat.le_refl _, fun b q1 _ => hsa.out b q1, hsa.gr, Nat.le_refl _, fun b hb => (by cases hb), fun k o hk => ⟨hG.lt hk, hG k o hk⟩⟩
  obtain ⟨fn, c, hf, hbd⟩ := hb
  have hnm : fn.name ≠ "runtime.NumGoroutine" := by simpa using hcx.names f fn hf
  have hent : (callFunc f ⟨vs⟩).run C.P w = .ok (.enter f ⟨vs⟩) w := by simp [callFunc, hf, hnm, hbd]
  refine ⟨hent, ?_⟩
  rcases hfn.ok ρ _ m' w _ vs v h1 (fun e he => by rw [h3] at he; cases he) hat (valL_LR hv) with ⟨_, h6⟩ | ⟨v', ρ', w', h6, _⟩
  · refine h6.mono fun e w' ⟨v', ρ', g1, g2, g3⟩ => ?_
    obtain ⟨r, e1, e2⟩ := takeR_val h4 g2
    rw [litUs_eq h5] at e1
    exact ⟨r, e1, by rw [g1, e2], g3.os, g3.size, fun k hk => g3.keep k hk fun b hb => by rw [h2] at hb; cases hb⟩
  · rw [hent] at h6; cases h6
/-- A table of closed runs is a contract. -/
theorem con_of_rows {C : Cx} {G : Nat → Option Obj} {d : Nat} {f : FuncId} {ps rs : List Sh} {H0 : Hp AB} {n0 : Nat} {tbl : List (List U × List U)}
    (hC : CxG C G) (hst : StartOk C.P G C.gl H0 n0) (hb : ∃ fn c, C.P.funcs[f]? = some fn ∧ fn.body = some c) (ht : Rows (fun p => runK C d f ps rs H0 n0 p.1 = some p.2) tbl) : ConOk C.P G f ps (tabS tbl) rs := by
  intro us outs w vs hv hs hG
  have := ht.all _ (tabS_mem hs).2
  exact ends_of_run hC hst hb this hv hG
end Go.Sx
