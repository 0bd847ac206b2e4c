/- Loops taken by what is shown of their round, part 3: the round's ways, and the loop. -/
import Derived.Test.YtdmdghooamchfaaDoorSxLoop2
import Derived.LoopN
namespace Go.Sx
set_option linter.all false
open Go
set_option linter.unusedVariables false
set_option linter.unusedSimpArgs false

def nms (bl : Blks) : List Nat := bl.map (·.1)
def tys (bl : Blks) : List TypeId := bl.map fun x => x.2.1
def sortB (gl : Nat) (nm : List Nat) (b : Nat) : Bool := Nat.blt b gl || hasN nm b
def patOk (gl nt : Nat) (nm : List Nat) (sl : Slots) (bl : Blks) : Bool :=
  sl.all (fun x => Nat.blt x.1 nt && namesV (sortB gl nm) DEP x.2) && bl.all (fun x => namesL (sortB gl nm) DEP x.2.2)
/-- What is asked of a loop's patterns. -/
def LoopD.ok (gl n0 nB nt : Nat) (L : LoopD) : Bool :=
  (Nat.ble nt 512 && Nat.ble n0 nB) && (Nat.ble nB most && (nms L.hb).all (fun b => Nat.ble n0 b && Nat.blt b nB)) && (patOk gl nt (nms L.hb) L.hs L.hb && L.xs.all (fun X => patOk gl nt (nms L.hb) X.sl X.bl && decide (nms X.bl = nms L.hb)))

def exEq : Ex → Ex → Bool
  | .normal, .normal => true
  | .exit i, .exit j => Nat.beq i j
  | .ret, .ret => true
  | _, _ => false
theorem exEq_eq {a b : Ex} (h : exEq a b = true) : a = b := by
  cases a <;> cases b <;> first | rfl | cases h | (rw [Nat.eq_of_beq_eq_true h])
def findX (fr : Fr) (H : Hp AB) (e : Ex) : Nat → List LoopX → Option (Nat × List Value)
  | _, [] => none
  | d, X :: r => match exEq X.ex e, bindH fr H X.sl X.bl with
    | true, some xs => bif Nat.beq xs.length X.n then some (d, xs) else findX fr H e (d + 1) r
    | _, _ => findX fr H e (d + 1) r
theorem findX_eq {fr : Fr} {H : Hp AB} {e : Ex} : ∀ {l : List LoopX} {d0 d : Nat} {xs : List Value}, findX fr H e d0 l = some (d, xs) → ∃ j X, d = d0 + j ∧ l[j]? = some X ∧ X.ex = e ∧ bindH fr H X.sl X.bl = some xs
  | [], _, _, _, h => by cases h
  | X :: r, d0, d, xs, h => by
    have tl : findX fr H e (d0 + 1) r = some (d, xs) → ∃ j X', d = d0 + j ∧ (X :: r)[j]? = some X' ∧ X'.ex = e ∧ bindH fr H X'.sl X'.bl = some xs := fun h => by
      obtain ⟨j, X', h1, h2, h3⟩ := findX_eq h
      exact ⟨j + 1, X', by omega, by simpa using h2, h3⟩
    unfold findX at h
    split at h
    · rename_i ys hx hb
      cases hq : Nat.beq ys.length X.n with
      | true => rw [hq] at h; cases h; exact ⟨0, X, rfl, rfl, exEq_eq hx, hb⟩
      | false => rw [hq] at h; exact tl h
    · exact tl h
def endB (L : LoopD) (nB : Nat) (r : Option (Ex × S)) : Option (List Value × List LogE) :=
  match r with
  | some (e, ⟨fr, ⟨H, _, W, _, ⟨_, [], log⟩⟩⟩) => bif W.all (fun b => hasN (nms L.hb) b || Nat.ble nB b) then match e with
      | .normal => match bindH fr H L.hs L.hb with
        | some xs => some (.int .i64 (-1) :: xs, log)
        | none => none
      | e => match findX fr H e 0 L.xs with
        | some (d, xs) => some (.int .i64 (.ofNat d) :: xs, log)
        | none => none
    else none
  | _ => none
theorem endB_eq {L : LoopD} {nB : Nat} {r : Option (Ex × S)} {ys : List Value} {log : List LogE} (h : endB L nB r = some (ys, log)) : ∃ e s, r = some (e, s) ∧ s.m.lg.log = log ∧ (∀ b ∈ s.m.W, b ∈ nms L.hb ∨ nB ≤ b) ∧
    ((e = .normal ∧ ∃ xs, ys = .int .i64 (-1) :: xs ∧ bindH s.fr s.m.H L.hs L.hb = some xs) ∨ (e ≠ .normal ∧ ∃ d xs X, ys = .int .i64 (.ofNat d) :: xs ∧ L.xs[d]? = some X ∧ X.ex = e ∧ bindH s.fr s.m.H X.sl X.bl = some xs)) := by
  unfold endB at h
  split at h
  · rename_i e fr H n W hi nx log0
    cases hq : W.all (fun b => hasN (nms L.hb) b || Nat.ble nB b) with
    | false => rw [hq] at h; cases h
    | true =>
      rw [hq] at h
      simp only [cond_true] at h
      have hW : ∀ b ∈ W, b ∈ nms L.hb ∨ nB ≤ b := fun b hb => by
        have := List.all_eq_true.1 hq b hb
        rcases (Bool.or_eq_true _ _).mp this with h1 | h1
        · unfold hasN at h1
          rw [List.any_eq_true] at h1
          obtain ⟨y, hy, h1⟩ := h1
          rw [Nat.eq_of_beq_eq_true h1]; exact .inl hy
        · exact .inr (Nat.le_of_ble_eq_true h1)
      split at h
      · split at h
        · rename_i xs hb; cases h; exact ⟨_, _, rfl, rfl, hW, .inl ⟨rfl, xs, rfl, hb⟩⟩
        · cases h
      · rename_i hne
        split at h
        · rename_i d xs hf
          cases h
          obtain ⟨j, X, h1, h2, h3, h4⟩ := findX_eq hf
          rw [Nat.zero_add] at h1
          subst h1
          exact ⟨_, _, rfl, rfl, hW, .inr ⟨hne, d, xs, X, rfl, h2, h3, h4⟩⟩
        · cases h
  · cases h
def memB (L : LoopD) (H0 : Hp AB) (nB : Nat) (pi : List Nat) : Mem := ⟨putB 0 L.hb H0, nB, [], nB, ⟨L.k, pi, []⟩⟩
def runB (C : Cx) (dep : Nat) (f : FuncId) (nt : Nat) (q : List Bool) (x : Code) (L : LoopD) (H0 : Hp AB) (nB : Nat) (pi : List Nat) : Option (List Value × List LogE) :=
  endB L nB ((compC C.P nt C.gl (callN C dep) (C.lp f) (q ++ [false]) x).run ⟨frOf 0 L.hs, memB L H0 nB pi⟩)

/-- What the ways of the round must come to. -/
def LeafOk (spec : Spec) (μ : List U → Nat) (us : List U) : List U → Prop
  | .int _ c :: r => (c = -1 → spec r = spec us ∧ μ r < μ us) ∧ (c ≠ -1 → spec us = some (c.toNat, r))
  | _ => False

section
variable {P : Program} {G : Nat → Option Obj}
theorem BR_match {E F : Nat → U} {ρ ρ2 : Ren} {S : Nat → Bool} (hS : ∀ b l, S b = true → ρ b = some l → ρ2 b = some l) {d : Nat} {cs vs : List Value} {T : TypeId} {l : Loc} {w : World} {bs : List (Nat × Value)} (h : @BR ⟨E, G⟩ P ρ (.cells vs T false) l w)
    (hm : matchL d cs vs = some bs) (hn : namesL S d cs = true) (hb : ∀ x ∈ bs, F x.1 = argU E x.2) : @BR ⟨F, G⟩ P ρ2 (.cells cs T false) l w := by
  obtain ⟨C, fz, T', h1, h2, h3⟩ := h
  obtain ⟨vs', h4, h5⟩ := @pick_list ⟨E, G⟩ ρ C vs l.sh h2
  have h6 := matchL_LR (G := G) hS d cs vs vs' bs hm hn h4 hb
  exact ⟨C, fz, T', h1, fun i v hi => by
    obtain ⟨v', g1, g2⟩ := @LR.get ⟨F, G⟩ _ _ _ h6 _ _ hi
    exact ⟨v', h5 i v' g1, g2⟩, h3⟩
theorem BR_shift {E F : Nat → U} {ρ ρ2 : Ren} {S : Nat → Bool} {nx : Nat} (hS : ∀ b l, S b = true → ρ b = some l → ρ2 b = some l) (hF : ∀ i, F i = E (nx + i)) {d : Nat} {cs : List Value} {T : TypeId} {l : Loc} {w : World} (h : @BR ⟨F, G⟩ P ρ (.cells cs T false) l w)
    (hn : namesL S d cs = true) : @BR ⟨E, G⟩ P ρ2 (.cells (shiftL nx d cs) T false) l w := by
  obtain ⟨C, fz, T', h1, h2, h3⟩ := h
  obtain ⟨vs', h4, h5⟩ := @pick_list ⟨F, G⟩ ρ C cs l.sh h2
  have h6 := shiftL_LR (G := G) hS hF d cs vs' hn h4
  exact ⟨C, fz, T', h1, fun i v hi => by
    obtain ⟨v', g1, g2⟩ := @LR.get ⟨E, G⟩ _ _ _ h6 _ _ hi
    exact ⟨v', h5 i v' g1, g2⟩, h3⟩

/-- The state that patterns say. -/
structure HeadAt (P : Program) (G : Nat → Option Obj) (nt : Nat) (ρ : Ren) (sl : Slots) (bl : Blks) (us : List U) (a : Act) (w : World) : Prop where
  size : a.tmps.size = nt
  defers : a.defers = []
  fr : ∀ F, Agree us F → ∀ x ∈ sl, @VR ⟨F, G⟩ ρ x.2 (a.tmps.getD x.1 undef)
  bl : ∀ F, Agree us F → ∀ x ∈ bl, ∃ l, ρ x.1 = some l ∧ @BR ⟨F, G⟩ P ρ (.cells x.2.2 x.2.1 false) l w

theorem patOk_sl {gl nt : Nat} {nm : List Nat} {sl : Slots} {bl : Blks} (h : patOk gl nt nm sl bl = true) : ∀ x ∈ sl, x.1 < nt ∧ namesV (sortB gl nm) DEP x.2 = true := fun x hx => by
  obtain ⟨h1, _⟩ := band h
  obtain ⟨h1, h2⟩ := band (List.all_eq_true.1 h1 x hx)
  exact ⟨Nat.le_of_ble_eq_true h1, h2⟩
theorem patOk_bl {gl nt : Nat} {nm : List Nat} {sl : Slots} {bl : Blks} (h : patOk gl nt nm sl bl = true) : ∀ x ∈ bl, namesL (sortB gl nm) DEP x.2.2 = true := fun x hx => by
  obtain ⟨_, h1⟩ := band h
  exact List.all_eq_true.1 h1 x hx

/-- From a machine's state to the patterns that it meets. -/
theorem head_of {E : Nat → U} {ρ ρ2 : Ren} {gl nt base : Nat} {nm : List Nat} {sl : Slots} {bl : Blks} {fr : Fr} {H : Hp AB} {xs : List Value} {a : Act} {w : World} (hS : ∀ b l, sortB gl nm b = true → ρ b = some l → ρ2 b = some l) (hp : patOk gl nt nm sl bl = true) (hnm : nms bl = nm)
    (hfr : @FrR ⟨E, G⟩ ρ nt fr a) (hr : @HR ⟨E, G⟩ P base ρ H w) (hmost : ∀ b ∈ nm, b ≤ most) (hb : bindH fr H sl bl = some xs) : HeadAt P G nt ρ2 sl bl (xs.map (argU E)) a w := by
  letI O : Ora := ⟨E, G⟩
  obtain ⟨bs, h1, h2, h3⟩ := bindH_eq hb
  have hag : ∀ F, Agree (xs.map (argU E)) F → ∀ x ∈ bs, F x.1 = argU E x.2 := fun F hF x hx => hF _ _ (by rw [List.getElem?_map, h1 x hx]; rfl)
  refine ⟨hfr.size, hfr.defers, fun F hF x hx => ?_, fun F hF x hx => ?_⟩
  · obtain ⟨q1, q2⟩ := patOk_sl hp x hx
    obtain ⟨c, g1, g2⟩ := h2 x hx
    exact matchV_VR (G := G) hS DEP x.2 _ _ c g1 q2 (hfr.get x.1 q1) fun y hy => hag F hF y (g2 y hy)
  · obtain ⟨vs, c, g1, g2, g3⟩ := h3 x hx
    have hx1 : x.1 ∈ nm := by rw [← hnm]; exact List.mem_map.2 ⟨x, hx, rfl⟩
    obtain ⟨l, e1, e2, _⟩ := hr.at_ x.1 (hmost _ hx1) _ g1
    refine ⟨l, hS _ _ ?_ e1, BR_match hS e2 g2 (patOk_bl hp x hx) fun y hy => hag F hF y (g3 y hy)⟩
    unfold sortB
    have : hasN nm x.1 = true := by unfold hasN; rw [List.any_eq_true]; exact ⟨x.1, hx1, by simp⟩
    rw [this]; simp

theorem pickX_eq {xs : List LoopX} {pi pi' : List Nat} {d : Nat} {X : LoopX} (h : pickX xs pi = some (d, (X, pi'))) : xs[d]? = some X := by
  unfold pickX at h
  split at h
  · cases h; rfl
  · split at h
    · split at h
      · rename_i hx; cases h; exact hx
      · cases h
    · cases h

theorem loopF_eq {L : LoopD} {spec : Spec} {s s' : S} {e : Ex} (h : loopF L spec s = some (e, s')) : ∃ xs d X pi, bindH s.fr s.m.H L.hs L.hb = some xs ∧ L.xs[d]? = some X ∧ e = X.ex ∧
    s' = ⟨frOf s.m.lg.nx X.sl, ⟨putB s.m.lg.nx X.bl s.m.H, s.m.n, nms X.bl ++ s.m.W, s.m.hi, ⟨s.m.lg.nx + X.n, pi, .con spec xs s.m.lg.nx d X.n :: s.m.lg.log⟩⟩⟩ := by
  obtain ⟨fr, ⟨H, n, W, hi, ⟨nx, pi, log⟩⟩⟩ := s
  unfold loopF at h
  simp only [forceN_eq, forceL_eq] at h
  split at h
  · rename_i xs d X pi' hb hp
    cases h
    exact ⟨xs, d, X, pi', hb, pickX_eq hp, rfl, rfl⟩
  · cases h
end
end Go.Sx
