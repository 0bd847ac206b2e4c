/- Contexts with loops. -/
import Derived.Test.YtdmdghooamchfaaDoorSxLoop4
import Derived.Test.YtdmdghooamchfaaDoorSxSimp
namespace Go.Sx
set_option linter.all false
open Go
set_option linter.unusedVariables false

def eqQ : List Bool → List Bool → Bool
  | [], [] => true
  | a :: r, b :: s => (a == b) && eqQ r s
  | _, _ => false
theorem eqQ_eq : ∀ {a b : List Bool}, eqQ a b = true → a = b
  | [], [], _ => rfl
  | a :: r, b :: s, h => by
    obtain ⟨h1, h2⟩ := band (show ((a == b) && eqQ r s) = true from h)
    rw [eq_of_beq h1, eqQ_eq h2]
  | [], _ :: _, h => by cases h
  | _ :: _, [], h => by cases h
abbrev LpE := FuncId × (List Bool × (S → Option (Ex × S)))
def lpT : List LpE → FuncId → LpT
  | [], _, _ => none
  | (g, (p, L)) :: r, f, q => bif Nat.beq g f && eqQ p q then some L else lpT r f q
theorem lpT_mem : ∀ {l : List LpE} {f : FuncId} {q : List Bool} {L : S → Option (Ex × S)}, lpT l f q = some L → (f, (q, L)) ∈ l
  | (g, (p, L0)) :: r, f, q, L, h => by
    rw [lpT] at h
    cases e : Nat.beq g f && eqQ p q with
    | true =>
      rw [e] at h; cases h
      obtain ⟨e1, e2⟩ := band e
      rw [Nat.eq_of_beq_eq_true e1, eqQ_eq e2]; exact .head _
    | false => rw [e] at h; exact .tail _ (lpT_mem h)
def LpsOk (P : Program) (G : Nat → Option Obj) (gl : Nat) (l : List LpE) : Prop := ∀ (E : Nat → U) (base : Nat), ∀ e ∈ l, ∀ fn body x, P.funcs[e.1]? = some fn → fn.body = some body → codeAt e.2.1 body = some (.loop x) → @CodeOk ⟨E, G⟩ P base gl fn.ntmps (.loop x) e.2.2
theorem LpsOk.nil {P : Program} {G : Nat → Option Obj} {gl : Nat} : LpsOk P G gl [] := fun _ _ _ h => by cases h
theorem LpsOk.cons {P : Program} {G : Nat → Option Obj} {gl : Nat} {l : List LpE} {f : FuncId} {fn : Func} {body x : Code} {q : List Bool} {L : S → Option (Ex × S)} (hf : P.funcs[f]? = some fn) (hb : fn.body = some body) (hx : codeAt q body = some (.loop x))
    (h : ∀ (E : Nat → U) (base : Nat), @CodeOk ⟨E, G⟩ P base gl fn.ntmps (.loop x) L) (k : LpsOk P G gl l) : LpsOk P G gl ((f, (q, L)) :: l) := fun E base e he fn2 body2 x2 h1 h2 h3 => by
  rcases List.mem_cons.1 he with rfl | he
  · have h1 : P.funcs[f]? = some fn2 := h1
    rw [hf] at h1; cases h1
    rw [hb] at h2; cases h2
    have h3 : codeAt q body = some (.loop x2) := h3
    rw [hx] at h3; cases h3
    exact h E base
  · exact k E base e he fn2 body2 x2 h1 h2 h3
theorem cxG_of2 {P : Program} {ext : List (FuncId × EK)} {gl : Nat} {G : Nat → Option Obj} {l : List (FuncId × FnC)} {lps : List LpE} (hm : P.follows .mixedOrders = true) (hn : NameOk P) (he : ∀ p ∈ ext, ExtRow P p.1 p.2) (h : ConsOk P G gl l) (hl : LpsOk P G gl lps) :
    CxG ⟨P, ext, gl, conT l, lpT lps⟩ G := fun E base =>
  @cxOk_of ⟨E, G⟩ P ext gl base (conT l) (lpT lps) hm hn he (fun f c hc => h E base (f, c) (conT_mem hc)) (fun f fn body h1 h2 q x L h3 hL => hl E base (f, (q, L)) (lpT_mem hL) fn body x h1 h2 h3)

theorem leaf_back {spec : Spec} {μ : List U → Nat} {us r : List U} {k : IntKind} (h : spec r = spec us) (hm : μ r < μ us) : LeafOk spec μ us (.int k (-1) :: r) := ⟨fun _ => ⟨h, hm⟩, fun h => absurd rfl h⟩
theorem leaf_exit {spec : Spec} {μ : List U → Nat} {us r : List U} {k : IntKind} {d : Nat} (h : spec us = some (d, r)) : LeafOk spec μ us (.int k (d : Int) :: r) := ⟨fun h => by omega, fun _ => by simpa using h⟩
theorem sat_lp {L : List U → Prop} {spec : Spec} {xs : List Value} {d n d' : Nat} {k r : Tr} {E outs : List U} (he : spec (xs.map (argU (gE E))) = some (d', outs)) (h1 : d' = d → outs.length = n ∧ k.sat L (E ++ outs)) (h2 : d' ≠ d → r.sat L E) : (Tr.lp spec xs d n k r).sat L E := ⟨d', outs, he, h1, h2⟩
end Go.Sx
