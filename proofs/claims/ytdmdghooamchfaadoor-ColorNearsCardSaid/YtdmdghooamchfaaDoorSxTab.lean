/- Calls whose answers are known: the machine takes them by a table. -/
import Derived.Test.YtdmdghooamchfaaDoorSxLoop5
namespace Go.Sx
set_option linter.all false
open Go
set_option linter.unusedVariables false
set_option linter.unusedSimpArgs false

theorem tb_cons {α : Type} {a b : α} {x y : List α} (h : a = b) (k : x = y) : a :: x = b :: y := by rw [h, k]
def eqBy : List UInt8 → List UInt8 → Bool
  | [], [] => true
  | a :: x, b :: y => Nat.beq a.toNat b.toNat && eqBy x y
  | _, _ => false
theorem eqBy_eq : ∀ {x y : List UInt8}, eqBy x y = true → x = y
  | [], [], _ => rfl
  | a :: x, b :: y, h => by
    obtain ⟨h1, h2⟩ := band (show (Nat.beq a.toNat b.toNat && eqBy x y) = true from h)
    rw [eqBy_eq h2, UInt8.toNat_inj.1 (Nat.eq_of_beq_eq_true h1)]
  | [], _ :: _, h => by cases h
  | _ :: _, [], h => by cases h
def eqVU : Value → U → Bool
  | .int k n, .int j i => Nat.beq (kTag k) (kTag j) && (n == i)
  | .bool a, .bool b => a == b
  | .string s, .str l => eqBy s.data.toList l
  | _, _ => false
theorem eqVU_eq {v : Value} {u : U} (h : eqVU v u = true) (E : Nat → U) : argU E v = u := by
  unfold eqVU at h
  split at h
  · rename_i k n j i
    obtain ⟨h1, h2⟩ := band h
    have h1 := Nat.eq_of_beq_eq_true h1
    have h2 : n = i := by simpa using h2
    subst h2
    have : k = j := by cases k <;> cases j <;> first | rfl | (cases h1)
    subst this; rfl
  · rename_i a b; have : a = b := by simpa using h
    subst this; rfl
  · rename_i s l; show U.str _ = _; rw [eqBy_eq h]
  · cases h
def eqVsUs : List Value → List U → Bool
  | [], [] => true
  | v :: vs, u :: us => eqVU v u && eqVsUs vs us
  | _, _ => false
theorem eqVsUs_eq : ∀ {vs : List Value} {us : List U}, eqVsUs vs us = true → ∀ (E : Nat → U), vs.map (argU E) = us
  | [], [], _, E => rfl
  | v :: vs, u :: us, h, E => by
    obtain ⟨h1, h2⟩ := band (show (eqVU v u && eqVsUs vs us) = true from h)
    rw [List.map_cons, eqVU_eq h1 E, eqVsUs_eq h2 E]
  | [], _ :: _, h, _ => by cases h
  | _ :: _, [], h, _ => by cases h
def lookT : List (List U × List U) → List Value → Option (List U)
  | [], _ => none
  | (a, r) :: t, xs => bif eqVsUs xs a then some r else lookT t xs
theorem lookT_mem : ∀ {t : List (List U × List U)} {xs : List Value} {r : List U}, lookT t xs = some r → ∃ a, (a, r) ∈ t ∧ ∀ E, xs.map (argU E) = a
  | (a, r0) :: t, xs, r, h => by
    rw [lookT] at h
    cases e : eqVsUs xs a with
    | true => rw [e] at h; cases h; exact ⟨a, .head _, eqVsUs_eq e⟩
    | false => rw [e] at h; obtain ⟨b, h1, h2⟩ := lookT_mem h; exact ⟨b, .tail _ h1, h2⟩
/-- Every value of the list is worked out. -/
def forceLV {β : Type} : List Value → (List Value → β) → β
  | [], k => k []
  | v :: r, k => forceV v fun v => forceLV r fun r => k (v :: r)
def tabF (ps : List Sh) (spec : Spec) (rs : List Sh) (tbl : List (List U × List U)) : FnC := ⟨fun vs m =>
  match takeL ps vs with
  | some xs => match lookT tbl xs with
    | some us => match valL rs us, m with
      | some r, ⟨H, n, W, hi, ⟨nx, pi, log⟩⟩ => forceLV r fun r => forceV (tup r) fun v => some (v, ⟨H, n, W, hi, ⟨nx, pi, log⟩⟩)
      | none, _ => none
    | none => (conF ps spec rs).run vs m
  | none => none⟩

theorem forceV_eq {β : Type} (v : Value) (k : Value → β) : forceV v k = k v := by
  unfold forceV
  split <;> simp only [forceI_eq, forceL_eq, forceN_eq]
theorem forceLV_eq {β : Type} : ∀ (l : List Value) (k : List Value → β), forceLV l k = k l
  | [], k => rfl
  | v :: r, k => by rw [forceLV, forceV_eq, forceLV_eq]
theorem valS_pure {t : Nat} {u : U} {v : Value} (h : valS t u = some v) : pureV v = true := by
  unfold valS at h
  split at h
  · cases u <;> first | (cases h; rfl) | cases h
  · cases h
variable [Ora]
theorem valC_LR {ρ : Ren} : ∀ {ts : List Nat} {us r : List U} {vs : List Value}, valC ts us = some (vs, r) → LR ρ vs vs
  | [], us, r, vs, h => by cases h; exact .nil
  | t :: ts, u :: us, r, vs, h => by
    unfold valC at h
    split at h
    · rename_i v vs0 r0 h1 h2; cases h; exact .cons (.pure (valS_pure h1)) (valC_LR h2)
    · cases h
  | _ :: _, [], _, _, h => by cases h
theorem valSh_VR {ρ : Ren} {s : Sh} {us r : List U} {v : Value} (h : valSh s us = some (v, r)) : VR ρ v v := by
  cases s with
  | s t =>
    cases us with
    | nil => cases h
    | cons u us =>
      simp only [valSh] at h
      split at h
      · rename_i v1 hv; cases h; exact .pure (valS_pure hv)
      · cases h
  | a ts =>
    simp only [valSh] at h
    split at h
    · rename_i vs r0 hv; cases h; have := valC_LR (ρ := ρ) hv; exact .agg this.1 this.2
    · cases h
theorem valL_LR {ρ : Ren} : ∀ {ss : List Sh} {us : List U} {vs : List Value}, valL ss us = some vs → LR ρ vs vs
  | [], [], vs, h => by cases h; exact .nil
  | [], _ :: _, _, h => by cases h
  | s :: ss, us, vs, h => by
    unfold valL at h
    split at h
    · rename_i v r hv
      split at h
      · rename_i vs0 hl; cases h; exact .cons (valSh_VR hv) (valL_LR hl)
      · cases h
    · cases h
theorem tabF_ok {P : Program} {base gl : Nat} {f : FuncId} {ps : List Sh} {spec : Spec} {rs : List Sh} {tbl : List (List U × List U)} (h : ConOk P Ora.G f ps spec rs) (ht : ∀ p ∈ tbl, spec p.1 = some (0, p.2)) : FnOk P base gl f (tabF ps spec rs tbl) := by
  have hc := conF_ok (base := base) (gl := gl) h
  refine ⟨fun vs m m' v hr => ?_, fun ρ m m' w vs vs' v hr hS hat hl => ?_⟩
  · unfold tabF at hr
    simp only at hr
    split at hr
    · split at hr
      · split at hr
        · rw [forceLV_eq, forceV_eq] at hr; cases hr; exact ⟨[], rfl⟩
        · cases hr
      · exact hc.lg vs m m' v hr
    · cases hr
  · unfold tabF at hr
    simp only at hr
    split at hr
    · rename_i xs hx
      split at hr
      · rename_i us hu
        split at hr
        · rename_i r hv
          rw [forceLV_eq, forceV_eq] at hr
          cases hr
          obtain ⟨a, h1, h2⟩ := lookT_mem hu
          have h3 := takeL_val hx hl
          rw [h2] at h3
          obtain ⟨h6, h7⟩ := h a us w vs' h3 (ht _ h1) fun k o hk => (hat.gf k o hk).2
          refine .inl ⟨h6, h7.mono fun e w' ⟨r', g1, g2, g3⟩ => ?_⟩
          rw [hv] at g1; cases g1
          exact ⟨_, ρ, g2, tup_VR (valL_LR hv), St.grown hat.hr g3⟩
        · cases hr
      · exact hc.ok ρ m m' w vs vs' v hr hS hat hl
    · cases hr
omit [Ora] in
theorem ConsOk.consT {P : Program} {G : Nat → Option Obj} {gl : Nat} {l : List (FuncId × FnC)} {f : FuncId} {ps rs : List Sh} {spec : Spec} (tbl : List (List U × List U)) (h : ConOk P G f ps spec rs) (ht : tbl.map (fun p => spec p.1) = tbl.map (fun p => some (0, p.2))) (k : ConsOk P G gl l) : ConsOk P G gl ((f, tabF ps spec rs tbl) :: l) := fun E base p hp => by
  rcases List.mem_cons.1 hp with rfl | hp
  · exact @tabF_ok ⟨E, G⟩ P base gl f ps spec rs tbl h (List.map_inj_left.1 ht)
  · exact k E base p hp
end Go.Sx
