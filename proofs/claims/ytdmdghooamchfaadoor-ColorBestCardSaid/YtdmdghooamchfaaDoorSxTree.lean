/- A function's ways, written down as a tree, and what the tree says. -/
import Derived.Test.YtdmdghooamchfaaDoorSxCon
namespace Go.Sx
set_option linter.all false
open Go
set_option linter.unusedVariables false
set_option linter.unusedSimpArgs false

inductive Tr where
  | ret (xs : List Value)
  | lt (t : Nat) (op : LOp) (xs : List Value) (k : Tr)
  | br (i : Nat) (a b : Tr)
  | fn (spec : Spec) (xs : List Value) (n : Nat) (k : Tr)
  | lp (spec : Spec) (xs : List Value) (d n : Nat) (k r : Tr)
  | no

theorem band {a b : Bool} (h : (a && b) = true) : a = true ∧ b = true := by simpa using h
def gE (E : List U) (i : Nat) : U := E.getD i .none
/-- What the tree says, where the holes so far stand for E. -/
def Tr.sat (L : List U → Prop) : Tr → List U → Prop
  | .ret xs, E => L (xs.map (argU (gE E)))
  | .lt t op xs k, E => (t < 10 ∧ tagU (evU op (xs.map (argU (gE E)))) = t) ∧ k.sat L (E ++ [evU op (xs.map (argU (gE E)))])
  | .br i a b, E => ∃ c, gE E i = .bool c ∧ (c = true → a.sat L E) ∧ (c = false → b.sat L E)
  | .fn spec xs n k, E => ∃ outs, spec (xs.map (argU (gE E))) = some (0, outs) ∧ outs.length = n ∧ k.sat L (E ++ outs)
  | .lp spec xs d n k r, E => ∃ d' outs, spec (xs.map (argU (gE E))) = some (d', outs) ∧ (d' = d → outs.length = n ∧ k.sat L (E ++ outs)) ∧ (d' ≠ d → r.sat L E)
  | .no, _ => False

abbrev Path := List Nat × (List Value × List LogE)
def Tr.paths : Tr → List Nat → List LogE → Nat → List Path
  | .ret xs, π, l, _ => [(π.reverse, (xs, l))]
  | .lt t op xs k, π, l, nx => k.paths π (.lt nx t op xs :: l) (nx + 1)
  | .br i a b, π, l, nx => a.paths (1 :: π) (.br i true :: l) nx ++ b.paths (0 :: π) (.br i false :: l) nx
  | .fn spec xs n k, π, l, nx => k.paths π (.con spec xs nx 0 n :: l) (nx + n)
  | .lp spec xs d n k r, π, l, nx => k.paths (d :: π) (.con spec xs nx d n :: l) (nx + n) ++ r.paths π l nx
  | .no, _, _, _ => []

def wfV (n : Nat) : Value → Bool
  | .complex .f64 i _ => Nat.blt i n
  | _ => true
def Tr.wf : Tr → Nat → Bool
  | .ret xs, n => xs.all (wfV n)
  | .lt _ _ xs k, n => xs.all (wfV n) && k.wf (n + 1)
  | .br i a b, n => Nat.blt i n && (a.wf n && b.wf n)
  | .fn _ xs m k, n => xs.all (wfV n) && k.wf (n + m)
  | .lp _ xs _ m k r, n => xs.all (wfV n) && (k.wf (n + m) && r.wf n)
  | .no, _ => true

def Agree (E : List U) (F : Nat → U) : Prop := ∀ (j : Nat) (u : U), E[j]? = some u → F j = u
theorem Agree.get {E : List U} {F : Nat → U} (h : Agree E F) {i : Nat} (hi : i < E.length) : F i = gE E i := by
  rw [h i _ (List.getElem?_eq_getElem hi)]
  simp [gE, hi]
theorem Agree.front {E E2 : List U} {F : Nat → U} (h : Agree (E ++ E2) F) : Agree E F := fun j u hj => h j u (by
  rw [List.getElem?_append_left (List.getElem?_eq_some_iff.1 hj).1]; exact hj)
theorem Agree.back {E E2 : List U} {F : Nat → U} (h : Agree (E ++ E2) F) : ∀ j u, E2[j]? = some u → F (E.length + j) = u := fun j u hj => h _ u (by
  rw [List.getElem?_append_right (by omega), Nat.add_sub_cancel_left]; exact hj)
theorem wf_arg {E : List U} {F : Nat → U} (h : Agree E F) {v : Value} (hw : wfV E.length v = true) : argU F v = argU (gE E) v := by
  unfold wfV at hw
  split at hw
  · have hw : _ < E.length := Nat.le_of_ble_eq_true hw
    exact h.get hw
  · rename_i hne
    unfold argU
    split
    · exact absurd rfl (hne _ _)
    all_goals rfl
theorem wf_args {E : List U} {F : Nat → U} (h : Agree E F) {xs : List Value} (hw : xs.all (wfV E.length) = true) : xs.map (argU F) = xs.map (argU (gE E)) :=
  List.map_congr_left fun x hx => wf_arg h (List.all_eq_true.1 hw x hx)

theorem SatL.cons {F : Nat → U} {e : LogE} {l : List LogE} (h : e.ok F) (k : SatL F l) : SatL F (e :: l) := fun x hx => by
  rcases List.mem_cons.1 hx with rfl | hx
  · exact h
  · exact k x hx

theorem sat_path {L : List U → Prop} : ∀ (t : Tr) (E : List U) (π : List Nat) (l : List LogE), t.wf E.length = true → t.sat L E → (∀ F, Agree E F → SatL F l) →
    ∃ p ∈ t.paths π l E.length, ∃ F, Agree E F ∧ SatL F p.2.2 ∧ L (p.2.1.map (argU F))
  | .ret xs, E, π, l, hw, h, hl => by
    have ha : Agree E (gE E) := fun j u hj => by simp [gE, List.getD_eq_getElem?_getD, hj]
    exact ⟨_, List.mem_cons_self, gE E, ha, hl _ ha, h⟩
  | .lt t op xs k, E, π, l, hw, ⟨⟨h1, h2⟩, h3⟩, hl => by
    obtain ⟨w1, w2⟩ := band (show (xs.all (wfV E.length) && k.wf (E.length + 1)) = true from hw)
    have hw' : k.wf (E ++ [evU op (xs.map (argU (gE E)))]).length = true := by simpa using w2
    obtain ⟨p, hp, F, f1, f2, f3⟩ := sat_path k (E ++ [evU op (xs.map (argU (gE E)))]) π (.lt E.length t op xs :: l) hw' h3 fun F hF => by
      have hF1 := hF.front
      have e := hF.back 0 _ rfl
      refine SatL.cons ?_ (hl F hF1)
      have e : F E.length = evU op (xs.map (argU F)) := by rw [wf_args hF1 w1]; exact e
      refine ⟨e, ?_, h1⟩
      rw [e, wf_args hF1 w1]; exact h2
    exact ⟨p, by simpa [Tr.paths] using hp, F, f1.front, f2, f3⟩
  | .br i a b, E, π, l, hw, ⟨c, h1, h2, h3⟩, hl => by
    obtain ⟨w1, w2⟩ := band (show (Nat.blt i E.length && (a.wf E.length && b.wf E.length)) = true from hw)
    obtain ⟨w2, w3⟩ := band w2
    have w1 : i < E.length := Nat.le_of_ble_eq_true w1
    cases c with
    | true =>
      obtain ⟨p, hp, F, f1, f2, f3⟩ := sat_path a E (1 :: π) (.br i true :: l) w2 (h2 rfl) fun F hF => SatL.cons (by show F i = _; rw [hF.get w1, h1]) (hl F hF)
      exact ⟨p, List.mem_append.2 (.inl hp), F, f1, f2, f3⟩
    | false =>
      obtain ⟨p, hp, F, f1, f2, f3⟩ := sat_path b E (0 :: π) (.br i false :: l) w3 (h3 rfl) fun F hF => SatL.cons (by show F i = _; rw [hF.get w1, h1]) (hl F hF)
      exact ⟨p, List.mem_append.2 (.inr hp), F, f1, f2, f3⟩
  | .fn spec xs n k, E, π, l, hw, ⟨outs, h1, h2, h3⟩, hl => by
    obtain ⟨w1, w2⟩ := band (show (xs.all (wfV E.length) && k.wf (E.length + n)) = true from hw)
    have hlen : (E ++ outs).length = E.length + n := by simp [h2]
    obtain ⟨p, hp, F, f1, f2, f3⟩ := sat_path k (E ++ outs) π (.con spec xs E.length 0 n :: l) (by rw [hlen]; exact w2) h3 fun F hF => by
      refine SatL.cons ⟨outs, ?_, h2, hF.back⟩ (hl F hF.front)
      rw [wf_args hF.front w1]; exact h1
    exact ⟨p, by rw [hlen] at hp; exact hp, F, f1.front, f2, f3⟩
  | .lp spec xs d n k r, E, π, l, hw, ⟨d', outs, h1, h2, h3⟩, hl => by
    obtain ⟨w1, w2⟩ := band (show (xs.all (wfV E.length) && (k.wf (E.length + n) && r.wf E.length)) = true from hw)
    obtain ⟨w2, w3⟩ := band w2
    by_cases e : d' = d
    · subst e
      obtain ⟨h2, h4⟩ := h2 rfl
      have hlen : (E ++ outs).length = E.length + n := by simp [h2]
      obtain ⟨p, hp, F, f1, f2, f3⟩ := sat_path k (E ++ outs) (d' :: π) (.con spec xs E.length d' n :: l) (by rw [hlen]; exact w2) h4 fun F hF => by
        refine SatL.cons ⟨outs, ?_, h2, hF.back⟩ (hl F hF.front)
        rw [wf_args hF.front w1]; exact h1
      exact ⟨p, List.mem_append.2 (.inl (by rw [hlen] at hp; exact hp)), F, f1.front, f2, f3⟩
    · obtain ⟨p, hp, F, f1, f2, f3⟩ := sat_path r E π l w3 (h3 e) hl
      exact ⟨p, List.mem_append.2 (.inr hp), F, f1, f2, f3⟩
  | .no, E, π, l, hw, h, hl => h.elim

/-! ### a run from the start -/
def mem0 (H0 : Hp AB) (n0 k : Nat) (pi : List Nat) : Mem := ⟨H0, n0, [], n0, ⟨k, pi, []⟩⟩
def takeR (rs : List Sh) (v : Value) : Option (List Value) :=
  match rs with
  | [s] => takeSh s v
  | rs => match v with
    | .tuple vs => takeL rs vs.toList
    | _ => none
def endF (rs : List Sh) (r : Res) : Option (List Value × List LogE) :=
  match r with
  | some (v, ⟨_, _, [], _, ⟨_, [], log⟩⟩) => match takeR rs v with
    | some xs => some (xs, log)
    | none => none
  | _ => none
def runF (C : Cx) (d : Nat) (f : FuncId) (ps rs : List Sh) (H0 : Hp AB) (n0 : Nat) (pi : List Nat) : Option (List Value × List LogE) :=
  endF rs ((callN C d f).run (holesL ps 0) (mem0 H0 n0 (shN ps) pi))

theorem endF_eq {rs : List Sh} {r : Res} {xs : List Value} {log : List LogE} (h : endF rs r = some (xs, log)) : ∃ v m', r = some (v, m') ∧ m'.W = [] ∧ m'.lg.log = log ∧ takeR rs v = some xs := by
  unfold endF at h
  split at h
  · split at h
    · rename_i ht; cases h; exact ⟨_, _, rfl, rfl, rfl, ht⟩
    · cases h
  · cases h

theorem takeR_val [Ora] {ρ : Ren} {rs : List Sh} {v v' : Value} {xs : List Value} (h : takeR rs v = some xs) (hv : VR ρ v v') : ∃ r, valL rs (xs.map (argU Ora.env)) = some r ∧ v' = tup r := by
  unfold takeR at h
  split at h
  · rename_i s
    have := takeSh_val h hv []
    rw [List.append_nil] at this
    exact ⟨[v'], by simp [valL, this], rfl⟩
  · rename_i hne
    split at h
    · rename_i vs
      obtain ⟨vs', rfl, hl⟩ := inv_tuple hv
      refine ⟨vs', takeL_val h hl, ?_⟩
      match vs', rs, hne, vs, h, hl with
      | [], _, _, _, _, _ => rfl
      | _ :: _ :: _, _, _, _, _, _ => rfl
      | [x], [], _, vs, h, hl =>
        have h1 := hl.1
        cases hv2 : vs.toList with
        | nil => rw [hv2] at h1; simp at h1
        | cons _ _ => rw [hv2] at h; cases h
      | [x], [s], hne, _, _, _ => exact absurd rfl (hne s)
      | [x], s :: s2 :: ss, _, vs, h, hl =>
        have h1 := hl.1
        cases hv2 : vs.toList with
        | nil => rw [hv2] at h1; simp at h1
        | cons a r =>
          rw [hv2] at h h1
          cases r with
          | nil =>
            simp only [takeL] at h
            split at h
            · rename_i q1 q2; cases q2
            · cases h
          | cons _ _ => simp at h1
    · cases h

/-- The start: the heap that the runs begin with stands in every world that holds G. -/
structure StartAt (P : Program) (G : Nat → Option Obj) (gl : Nat) (H0 : Hp AB) (n0 : Nat) (w : World) (ρ : Ren) : Prop where
  hr : ∀ (E : Nat → U) (base : Nat), @HR ⟨E, G⟩ P base ρ H0 w
  gr : ∀ g, g < gl → ρ g = some ⟨g, 0, 0⟩
  out : ∀ b, n0 ≤ b → ρ b = none
  inG : ∀ b l, ρ b = some l → ∃ o, G l.blk = some o
  ro : ∀ id ab, id ≤ most → Hp.get H0 id = some ab → ab.rw = false
  gln : gl ≤ n0
def StartOk (P : Program) (G : Nat → Option Obj) (gl : Nat) (H0 : Hp AB) (n0 : Nat) : Prop := ∀ w : World, GOk G w → ∃ ρ : Ren, StartAt P G gl H0 n0 w ρ

def mkH : List (Nat × List Value) → Hp AB
  | [] => hp0
  | (b, cs) :: r => Hp.set (mkH r) b (some (.cells cs 0 true))
/-- Contracts by their functions' numbers. -/
def conT : List (FuncId × FnC) → FuncId → Option FnC
  | [], _ => none
  | (g, c) :: r, f => bif Nat.beq g f then some c else conT r f
theorem conT_mem : ∀ {l : List (FuncId × FnC)} {f : FuncId} {c : FnC}, conT l f = some c → (f, c) ∈ l
  | (g, j) :: r, f, c, h => by
    rw [conT] at h
    cases e : Nat.beq g f with
    | true => rw [e] at h; cases h; rw [Nat.eq_of_beq_eq_true e]; exact .head _
    | false => rw [e] at h; exact .tail _ (conT_mem h)
def ConsOk (P : Program) (G : Nat → Option Obj) (gl : Nat) (l : List (FuncId × FnC)) : Prop := ∀ (E : Nat → U) (base : Nat), ∀ p ∈ l, @FnOk ⟨E, G⟩ P base gl p.1 p.2
theorem ConsOk.nil {P : Program} {G : Nat → Option Obj} {gl : Nat} : ConsOk P G gl [] := fun _ _ _ h => by cases h
theorem ConsOk.cons {P : Program} {G : Nat → Option Obj} {gl : Nat} {l : List (FuncId × FnC)} {f : FuncId} {ps rs : List Sh} {spec : Spec} (h : ConOk P G f ps spec rs) (k : ConsOk P G gl l) : ConsOk P G gl ((f, conF ps spec rs) :: l) := fun E base p hp => by
  rcases List.mem_cons.1 hp with rfl | hp
  · exact @conF_ok ⟨E, G⟩ P base gl f ps spec rs h
  · exact k E base p hp
/-- What a context is good for: for whatever holes stand for. -/
def CxG (C : Cx) (G : Nat → Option Obj) : Prop := ∀ (E : Nat → U) (base : Nat), @CxOk ⟨E, G⟩ C base

theorem cxG_of {P : Program} {ext : List (FuncId × EK)} {gl : Nat} {G : Nat → Option Obj} {l : List (FuncId × FnC)} (hm : P.follows .mixedOrders = true) (hn : NameOk P) (he : ∀ p ∈ ext, ExtRow P p.1 p.2) (h : ConsOk P G gl l) : CxG ⟨P, ext, gl, conT l, fun _ _ => none⟩ G := fun E base =>
  @cxOk_of ⟨E, G⟩ P ext gl base (conT l) (fun _ _ => none) hm hn he (fun f c hc => h E base (f, c) (conT_mem hc)) (fun f fn body _ _ q x L _ hL => by cases hL)

theorem con_of_run {C : Cx} {G : Nat → Option Obj} {d : Nat} {f : FuncId} {ps rs : List Sh} {H0 : Hp AB} {n0 : Nat} {pi : List Nat} {xs : List Value} {log : List LogE} {us : List U} {vs : List Value} {F : Nat → U} {w : World}
    (hC : CxG C G) (hst : StartOk C.P G C.gl H0 n0) (hb : ∃ fn c, C.P.funcs[f]? = some fn ∧ fn.body = some c) (hrun : runF C d f ps rs H0 n0 pi = some (xs, log)) (hv : valL ps us = some vs) (hF : Agree us F) (hS : SatL F log) (hG : GOk G w) :
    (callFunc f ⟨vs⟩).run C.P w = .ok (.enter f ⟨vs⟩) w ∧ Calls C.P f ⟨vs⟩ w (fun e w' => ∃ r, valL rs (xs.map (argU F)) = some r ∧ e = .returned (tup r) ∧ Grown w w') := by
  letI : Ora := ⟨F, G⟩
  obtain ⟨v, m', h1, h2, h3, h4⟩ := endF_eq hrun
  have hcx := hC F w.heap.size
  have hfn := callN_ok hcx d f
  obtain ⟨ρ, hsa⟩ := hst w hG
  have hr := hsa.hr F w.heap.size
  have hg := hsa.gr
  have hn := hsa.out
  have hat : At C.P w.heap.size C.gl ρ (mem0 H0 n0 (shN ps) pi) m'.hi w := ⟨hr, Nat.le_refl _, fun b q1 _ => hn b q1, hg, Nat.le_refl _, fun b hb => (by cases hb), fun k o hk => ⟨hG.lt hk, hG k o hk⟩⟩
  have hl := (holesL_VR (ρ := ρ) (i := 0) hv fun j u hj => by rw [Nat.zero_add]; exact hF j u hj).1
  obtain ⟨fn, c, hf, hbd⟩ := hb
  have hnm : fn.name ≠ "runtime.NumGoroutine" := by simpa using hcx.names f fn hf
  have hent : (callFunc f ⟨vs⟩).run C.P w = .ok (.enter f ⟨vs⟩) w := by simp [callFunc, hf, hnm, hbd]
  refine ⟨hent, ?_⟩
  rcases hfn.ok ρ _ m' w _ vs v h1 (by show SatL F m'.lg.log; rw [h3]; exact hS) hat hl with ⟨_, h5⟩ | ⟨v', ρ', w', h5, _⟩
  · refine h5.mono fun e w' ⟨v', ρ', g1, g2, g3⟩ => ?_
    obtain ⟨r, e1, e2⟩ := takeR_val h4 g2
    exact ⟨r, e1, by rw [g1, e2], g3.os, g3.size, fun k hk => g3.keep k hk fun b hb => by rw [h2] at hb; cases hb⟩
  · rw [hent] at h5; cases h5

/-- The contract, by the tree of the function's ways. -/
theorem con_of_tree {C : Cx} {G : Nat → Option Obj} {d : Nat} {f : FuncId} {ps rs : List Sh} {H0 : Hp AB} {n0 : Nat} {spec : Spec} (t : Tr)
    (hC : CxG C G) (hst : StartOk C.P G C.gl H0 n0) (hb : ∃ fn c, C.P.funcs[f]? = some fn ∧ fn.body = some c)
    (hwf : t.wf (shN ps) = true) (hchk : (t.paths [] [] (shN ps)).map (fun p => runF C d f ps rs H0 n0 p.1) = (t.paths [] [] (shN ps)).map (fun p => some p.2))
    (hsat : ∀ us outs, spec us = some (0, outs) → t.sat (fun r => r = outs) us) : ConOk C.P G f ps spec rs := by
  intro us outs w vs hv hs hG
  have hlen : us.length = shN ps := (@holesL_VR ⟨gE us, G⟩ (fun _ => none) ps us vs 0 hv fun j u hj => by simp [gE, List.getD_eq_getElem?_getD, hj]).2
  rw [← hlen] at hwf hchk
  obtain ⟨p, hp, F, f1, f2, f3⟩ := sat_path t us [] [] hwf (hsat us outs hs) (fun F _ e he => by cases he)
  have hrun : runF C d f ps rs H0 n0 p.1 = some p.2 := List.map_inj_left.1 hchk p hp
  obtain ⟨h1, h2⟩ := con_of_run (us := us) hC hst hb (by rw [hrun]) hv f1 f2 hG
  exact ⟨h1, h2.mono fun e w' ⟨r, g1, g2⟩ => ⟨r, by rw [← f3]; exact g1, g2⟩⟩
end Go.Sx
