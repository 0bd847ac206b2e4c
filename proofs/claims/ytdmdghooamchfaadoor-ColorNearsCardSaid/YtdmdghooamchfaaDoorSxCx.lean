/- The machine's context at a given program, without contracts of one's own. -/
import Derived.Test.YtdmdghooamchfaaDoorSxExt
namespace Go.Sx
set_option linter.all false
open Go
set_option linter.unusedVariables false
variable [Ora]

/-- What an extern's entry asks of its function's row. -/
structure ExtRow (P : Program) (f : FuncId) (k : EK) : Prop where
  row : ∃ fn, P.funcs[f]? = some fn ∧ (fn.name == "runtime.NumGoroutine") = false ∧ fn.body = none ∧ Extern.findNext fn = none ∧
    ((k = .noEscape ∧ Extern.find fn = some Extern.AbiNoEscape.same) ∨ (k = .indexByteString ∧ Extern.find fn = some Extern.BytealgIndexByte.indexByte) ∨ (k = .countString ∧ Extern.find fn = some Extern.BytealgCount.count))

theorem ExtRow.ok {P : Program} {f : FuncId} {k : EK} {base gl : Nat} (h : ExtRow P f k) : FnOk P base gl f ⟨extM k⟩ := by
  obtain ⟨fn, h1, h2, h3, h4, h5⟩ := h.row
  rcases h5 with ⟨rfl, h5⟩ | ⟨rfl, h5⟩ | ⟨rfl, h5⟩
  · exact noEscape_ok h1 h2 h3 h4 h5
  · exact indexByte_ok h1 h2 h3 h4 h5
  · exact countString_ok h1 h2 h3 h4 h5

theorem findE_mem : ∀ {l : List (FuncId × EK)} {f : FuncId} {k : EK}, findE l f = some k → (f, k) ∈ l
  | (g, j) :: r, f, k, h => by
    rw [findE] at h
    cases e : Nat.beq g f with
    | true =>
      rw [e] at h
      cases h
      rw [Nat.eq_of_beq_eq_true e]; exact .head _
    | false =>
      rw [e] at h
      exact .tail _ (findE_mem h)

/-- A context with contracts. -/
theorem cxOk_of {P : Program} {ext : List (FuncId × EK)} {gl base : Nat} {con : FuncId → Option FnC} {lp : FuncId → LpT} (hm : P.follows .mixedOrders = true) (hn : NameOk P) (he : ∀ p ∈ ext, ExtRow P p.1 p.2)
    (hc : ∀ f c, con f = some c → FnOk P base gl f c) (hl : ∀ f fn body, P.funcs[f]? = some fn → fn.body = some body → LpOk P base gl fn.ntmps body (lp f)) :
    CxOk ⟨P, ext, gl, con, lp⟩ base where
  names := hn
  ext := fun f k fn _ _ h => (he _ (findE_mem h)).ok
  con := hc
  lp := hl
  draws := fun _ h => draws_ok hm h

end Go.Sx
