/- From the machine's word on the memory to the row's. -/
import Derived.Test.YtdmdghooamchfaaDoorSxStart
namespace Go.Sx
set_option linter.all false
open Go
theorem Grown.kept {w w' : World} (h : Grown w w') (may : MemPlace → Prop) : w.keptBut w' may := by
  refine ⟨h.os.1, h.os.2.2, fun i hi => ?_⟩
  rw [h.keep i hi]
  generalize w.heap[i]? = o
  cases o with
  | none => rfl
  | some o =>
    cases o <;> first | exact ⟨rfl, rfl, rfl, fun _ _ => rfl⟩ | exact .inr ⟨rfl, rfl⟩ | rfl
end Go.Sx
