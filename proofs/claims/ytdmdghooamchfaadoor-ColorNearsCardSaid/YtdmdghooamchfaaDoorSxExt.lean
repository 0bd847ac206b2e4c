/- Functions that the model stands in for. -/
import Derived.Test.YtdmdghooamchfaaDoorSxDraw3
import Derived.Lib.Bytealg
namespace Go.Sx
set_option linter.all false
open Go
set_option linter.unusedVariables false
set_option linter.unusedSimpArgs false
variable [Ora]

section
variable {P : Program} {base gl : Nat}

theorem ext_run {f : FuncId} {fn : Func} {e : Array Value → Sem Value} {args : Array Value} {w w' : World} {v : Value} (hf : P.funcs[f]? = some fn) (hnm : (fn.name == "runtime.NumGoroutine") = false) (hb : fn.body = none) (hn : Extern.findNext fn = none) (he : Extern.find fn = some e)
    (hr : (e args).run P w = .ok v w') : (callFunc f args).run P w = .ok (.value v) w' := by
  have hnm' : fn.name ≠ "runtime.NumGoroutine" := by simpa using hnm
  simp [callFunc, Sem.run_bind, run_program, Result.andThen, hf, hnm', hb, hn, he, mark, Sem.run, hr]

theorem extM_inv {k : EK} {vs : List Value} {m m' : Mem} {v : Value} (h : extM k vs m = some (v, m')) :
    (k = .noEscape ∧ vs = [v] ∧ m' = m) ∨
    (k = .indexByteString ∧ ∃ s c, vs = [.string s, .int .u8 (.ofNat c)] ∧ v = .int .i64 (indexB s.data.toList (UInt8.ofNat c) 0) ∧ m' = m) ∨
    (k = .countString ∧ ∃ s c, vs = [.string s, .int .u8 (.ofNat c)] ∧ v = .int .i64 (countB (UInt8.ofNat c) s.data.toList 0) ∧ m' = m) := by
  unfold extM at h
  split at h
  · cases h; exact .inl ⟨rfl, rfl, rfl⟩
  · cases h; exact .inr (.inl ⟨rfl, _, _, rfl, rfl, rfl⟩)
  · cases h; exact .inr (.inr ⟨rfl, _, _, rfl, rfl, rfl⟩)
  · cases h

theorem extM_lg {k : EK} {vs : List Value} {m m' : Mem} {v : Value} (h : (FnC.mk (extM k)).run vs m = some (v, m')) : m.lg.le m'.lg := by
  have h : extM k vs m = some (v, m') := h
  rcases extM_inv h with ⟨_, _, rfl⟩ | ⟨_, _, _, _, _, rfl⟩ | ⟨_, _, _, _, _, rfl⟩ <;> exact .refl _
theorem noEscape_ok {f : FuncId} {fn : Func} (hf : P.funcs[f]? = some fn) (hnm : (fn.name == "runtime.NumGoroutine") = false) (hb : fn.body = none) (hn : Extern.findNext fn = none) (he : Extern.find fn = some Extern.AbiNoEscape.same) : FnOk P base gl f ⟨extM .noEscape⟩ := by
  refine ⟨fun vs m m' v hr => extM_lg hr, ?_⟩
  intro ρ m m' w vs vs' v hr hS hat hl
  have hr : extM .noEscape vs m = some (v, m') := hr
  rcases extM_inv hr with ⟨_, rfl, rfl⟩ | ⟨h, _⟩ | ⟨h, _⟩
  · obtain ⟨v', r', rfl, h1, h2⟩ := hl.tail
    cases h2.nil_inv
    exact .inr ⟨v', ρ, w, ext_run hf hnm hb hn he rfl, h1, .refl hat.hr⟩
  · cases h
  · cases h

theorem indexB_eq (c : UInt8) : ∀ (l : List UInt8) (k : Nat), indexB l c k = if Lib.indexByte l c == -1 then -1 else Lib.indexByte l c + k
  | [], k => rfl
  | x :: r, k => by
    have hg := Lib.indexByte_ge r c
    have ih := indexB_eq c r (k + 1)
    rw [indexB, Lib.indexByte]
    by_cases e : x = c
    · subst e; simp
    · have e1 : (x == c) = false := by simpa using e
      simp only [e1, decide_eq_false e, cond_false]
      rw [ih]
      by_cases h : Lib.indexByte r c = -1
      · simp [h]
      · have h2 : (Lib.indexByte r c == -1) = false := by simpa using h
        have h3 : (Lib.indexByte r c + 1 == -1) = false := by simp; omega
        simp only [h2, h3, Bool.false_eq_true, if_false]
        omega

theorem indexB_lib (c : UInt8) (l : List UInt8) : indexB l c 0 = Lib.indexByte l c := by
  rw [indexB_eq]
  by_cases h : Lib.indexByte l c = -1
  · simp [h]
  · have h2 : (Lib.indexByte l c == -1) = false := by simpa using h
    simp [h2]

theorem countB_lib (c : UInt8) : ∀ (l : List UInt8) (n : Nat), countB c l n = n + l.count c
  | [], n => rfl
  | x :: r, n => by
    rw [countB, List.count_cons]
    by_cases e : x = c
    · subst e
      simp only [decide_true, cond_true, forceN_eq, beq_self_eq_true, if_true]
      rw [countB_lib x r (n + 1)]; omega
    · have e1 : (x == c) = false := by simpa using e
      simp only [decide_eq_false e, cond_false, e1, Bool.false_eq_true, if_false]
      rw [countB_lib c r n]; omega

theorem indexByte_ok {f : FuncId} {fn : Func} (hf : P.funcs[f]? = some fn) (hnm : (fn.name == "runtime.NumGoroutine") = false) (hb : fn.body = none) (hn : Extern.findNext fn = none) (he : Extern.find fn = some Extern.BytealgIndexByte.indexByte) : FnOk P base gl f ⟨extM .indexByteString⟩ := by
  refine ⟨fun vs m m' v hr => extM_lg hr, ?_⟩
  intro ρ m m' w vs vs' v hr hS hat hl
  have hr : extM .indexByteString vs m = some (v, m') := hr
  rcases extM_inv hr with ⟨h, _⟩ | ⟨_, s, c, rfl, rfl, rfl⟩ | ⟨h, _⟩
  · cases h
  · obtain ⟨v1, r1, rfl, h1, h2⟩ := hl.tail
    obtain ⟨v2, r2, rfl, h3, h4⟩ := h2.tail
    cases h4.nil_inv
    cases inv_str h1
    cases inv_int h3
    refine .inr ⟨_, ρ, w, ext_run hf hnm hb hn he (Lib.run_indexByteString s (.ofNat c) w), ?_, .refl hat.hr⟩
    rw [indexB_lib]; exact .pure rfl
  · cases h

theorem countString_ok {f : FuncId} {fn : Func} (hf : P.funcs[f]? = some fn) (hnm : (fn.name == "runtime.NumGoroutine") = false) (hb : fn.body = none) (hn : Extern.findNext fn = none) (he : Extern.find fn = some Extern.BytealgCount.count) : FnOk P base gl f ⟨extM .countString⟩ := by
  refine ⟨fun vs m m' v hr => extM_lg hr, ?_⟩
  intro ρ m m' w vs vs' v hr hS hat hl
  have hr : extM .countString vs m = some (v, m') := hr
  rcases extM_inv hr with ⟨h, _⟩ | ⟨h, _⟩ | ⟨_, s, c, rfl, rfl, rfl⟩
  · cases h
  · cases h
  · obtain ⟨v1, r1, rfl, h1, h2⟩ := hl.tail
    obtain ⟨v2, r2, rfl, h3, h4⟩ := h2.tail
    cases h4.nil_inv
    cases inv_str h1
    cases inv_int h3
    refine .inr ⟨_, ρ, w, ext_run hf hnm hb hn he (Lib.run_countString s (.ofNat c) w), ?_, .refl hat.hr⟩
    rw [countB_lib, Nat.zero_add]; exact .pure rfl
end
end Go.Sx
