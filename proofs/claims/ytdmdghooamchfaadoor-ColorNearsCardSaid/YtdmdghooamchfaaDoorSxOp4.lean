/- The operations, part 4: slice expressions, lengths, new blocks, conversions, append and copy. -/
import Derived.Test.YtdmdghooamchfaaDoorSxOp3
namespace Go.Sx
set_option linter.all false
open Go
set_option linter.unusedVariables false
set_option linter.unusedSimpArgs false
variable [Ora]

/-- Bounds, given or not. -/
def OR (ρ : Ren) : Option Value → Option Value → Prop
  | none, none => True
  | some v, some v' => VR ρ v v'
  | _, _ => False
def Bd (o : Option Value) (top dflt k : Nat) : Prop := (o = none ∧ k = dflt) ∨ ∃ j, o = some (.int j (.ofNat k)) ∧ k ≤ top

section
variable {P : Program} {base : Nat} {ρ : Ren} {m m' : Mem} {w : World}

theorem boundM_ok {o o' : Option Value} {top dflt k : Nat} (h : boundM o top dflt = some k) (ho : OR ρ o o') : Bd o' top dflt k := by
  unfold boundM at h
  split at h
  · cases h
    cases o' with
    | none => exact .inl ⟨rfl, rfl⟩
    | some _ => exact ho.elim
  · obtain ⟨h1, h2⟩ := cond_some h
    cases h2
    cases o' with
    | none => exact ho.elim
    | some v' =>
      have ho : VR ρ _ v' := ho
      cases inv_int ho
      exact .inr ⟨_, rfl, Nat.le_of_ble_eq_true h1⟩
  · cases h

theorem run_bound {v : Value} {j : IntKind} {k y : Nat} {c : BoundsCode} (hv : v = .int j (.ofNat k)) (h : k ≤ y) (w : World) : (Instr.sliceBound v y c).run P w = .ok k w := by
  subst hv
  simp [Instr.sliceBound, Sem.run_bind, asIntOf, Result.andThen, h]

theorem run_bounds {b : Bool} {len cap l h mm : Nat} {lo hi mx : Option Value} (h1 : Bd mx cap cap mm) (h0 : hi = none → mx = none) (h2 : Bd hi mm len h) (h3 : Bd lo h 0 l) (w : World) :
    (Instr.sliceBounds b len cap lo hi mx).run P w = .ok (l, h, mm) w := by
  unfold Instr.sliceBounds
  rcases h1 with ⟨rfl, rfl⟩ | ⟨j, rfl, h1⟩ <;> rcases h2 with ⟨rfl, rfl⟩ | ⟨j2, rfl, h2⟩ <;> rcases h3 with ⟨rfl, rfl⟩ | ⟨j3, rfl, h3⟩
  all_goals first
    | (exfalso; have := h0 rfl; cases this; done)
    | (simp only [Sem.run_bind, Sem.run_pure, Result.andThen]; repeat (first | rw [run_bound rfl (by assumption)] | simp only [Result.andThen, Sem.run_bind, Sem.run_pure])); done

theorem VR.slice {a a' : Addr} {n c c' : Nat} (h : VR ρ (.slice (some a) n c) (.slice (some a') n c')) : True := trivial

theorem inv_slice {a : Addr} {n c : Nat} {x' : Value} (h : VR ρ (.slice (some a) n c) x') :
    (∃ l, ρ a.block = some l ∧ a.spot = none ∧ c < OPEN ∧ x' = .slice (some ⟨l.blk, a.off + l.sh, none⟩) n c) ∨
    (∃ l c', ρ a.block = some l ∧ a.spot = none ∧ OPEN ≤ c ∧ n ≤ c' ∧ (c = OPEN → a.off = 0 → c' = l.cap) ∧ x' = .slice (some ⟨l.blk, a.off + l.sh, none⟩) n c') ∨
    (∃ a' c', a'.spot = none ∧ n = 0 ∧ c = OPEN + 2 ∧ x' = .slice (some a') 0 c') := by
  cases h with
  | pure hp => simp [pureV] at hp
  | sl hl hm => exact .inl ⟨_, hl, rfl, hm, rfl⟩
  | op hl hm hn hc => exact .inr (.inl ⟨_, _, hl, rfl, hm, hn, hc, rfl⟩)
  | opE hs => exact .inr (.inr ⟨_, _, hs, rfl, rfl, rfl⟩)
theorem inv_sliceN {n c : Nat} {x' : Value} (h : VR ρ (.slice none n c) x') : x' = .slice none n c := by cases h; rfl

theorem OR.none_iff {o o' : Option Value} (h : OR ρ o o') : o = none ↔ o' = none := by
  cases o <;> cases o' <;> simp_all [OR]

theorem run_sliceSl {t e : TypeId} {s n c l h mm : Nat} {a : Option Addr} {lo hi mx : Option Value} (hu : P.underlying t = some (.slice e)) (hs : sizeM P e = some s) (h1 : Bd mx c c mm) (h0 : hi = none → mx = none) (h2 : Bd hi mm n h) (h3 : Bd lo h 0 l) (w : World) :
    (Instr.sliceAt t (.slice a n c) lo hi mx).run P w = .ok (.slice (if mm = l then a else a.map (·.add (l * s))) (h - l) (mm - l)) w := by
  have := run_bounds (P := P) (b := true) h1 h0 h2 h3 w
  simp [Instr.sliceAt, Instr.slice, Sem.run_bind, run_und hu, Result.andThen, this, run_size hs]

theorem bytes_extract (s : ByteArray) (l h : Nat) : s.extract l h = ⟨⟨(s.data.toList.drop l).take (h - l)⟩⟩ := by
  have h1 : (s.extract l h).data = ⟨(s.data.toList.drop l).take (h - l)⟩ := by
    rw [ByteArray.data_extract]
    apply Array.ext'
    simp [List.extract]
  cases hab : s.extract l h with
  | mk d => rw [hab] at h1; simp only at h1; rw [h1]

theorem sliceM_ok {t : TypeId} {x x' v : Value} {lo hi mx lo' hi' mx' : Option Value} (h : sliceM P t x lo hi mx = some v) (hx : VR ρ x x') (hlo : OR ρ lo lo') (hhi : OR ρ hi hi') (hmx : OR ρ mx mx') (w : World) :
    ∃ v', (Instr.sliceAt t x' lo' hi' mx').run P w = .ok v' w ∧ VR ρ v v' := by
  unfold sliceM at h
  split at h
  · -- a string
    rename_i s hu
    cases inv_str hx
    split at h
    · rename_i hh h2
      split at h
      · rename_i l h3
        cases h
        refine ⟨_, ?_, .pure rfl⟩
        have hm : mx' = none := hmx.none_iff.1 rfl
        subst hm
        have := run_bounds (P := P) (b := false) (len := s.size) (cap := s.size) (mx := none) (.inl ⟨rfl, rfl⟩) (fun _ => rfl) (boundM_ok h2 hhi) (boundM_ok h3 hlo) w
        simp [Instr.sliceAt, Instr.slice, Sem.run_bind, run_und hu, Result.andThen, this, bytes_extract]
      · cases h
    · cases h
  · -- nil
    rename_i e n c hu
    cases inv_sliceN hx
    split at h
    · rename_i h1 h2 h3
      obtain ⟨h4, h5⟩ := (by
        cases hq : (mx.isSome && hi.isNone) || (sizeM P e).isNone with
        | true => rw [hq] at h; cases h
        | false => rw [hq] at h; exact ⟨rfl, h⟩ : ((mx.isSome && hi.isNone) || (sizeM P e).isNone) = false ∧ some (Value.slice none 0 0) = some v)
      cases h5
      simp only [Bool.or_eq_false_iff] at h4
      obtain ⟨h4, h6⟩ := h4
      refine ⟨.slice none 0 0, ?_, .pure rfl⟩
      have hk1 := boundM_ok h1 hmx
      have hk2 := boundM_ok h2 hhi
      have hk3 := boundM_ok h3 hlo
      have z : ∀ {o : Option Value} {k : Nat}, Bd o 0 0 k → k = 0 := fun hb => by rcases hb with ⟨_, rfl⟩ | ⟨_, _, hb⟩ <;> omega
      have z1 := z hk1; have z2 := z hk2; have z3 := z hk3
      subst z1; subst z2; subst z3
      have h0 : hi' = none → mx' = none := fun hn => by
        have e1 := (hhi.none_iff).2 hn
        subst e1
        cases mx with
        | none => exact hmx.none_iff.1 rfl
        | some _ => simp at h4
      obtain ⟨s, hs⟩ : ∃ s, sizeM P e = some s := by cases hq : sizeM P e with | none => rw [hq] at h6; cases h6 | some s => exact ⟨s, rfl⟩
      have := run_bounds (P := P) (b := true) hk1 h0 hk2 hk3 w
      simp [Instr.sliceAt, Instr.slice, Sem.run_bind, run_und hu, Result.andThen, this, run_size hs]
    · cases h
  · -- a slice
    rename_i e a n c hu
    split at h
    · rename_i s hs hspot
      have hfin : ∀ (c' l hh mm : Nat) (a' : Addr), Bd mx' c' c' mm → (hi' = none → mx' = none) → Bd hi' mm n hh → Bd lo' hh 0 l → (Instr.sliceAt t (.slice (some a') n c') lo' hi' mx').run P w = .ok (.slice (if mm = l then some a' else (some a').map (·.add (l * s))) (hh - l) (mm - l)) w :=
        fun c' l hh mm a' h1 h0 h2 h3 => run_sliceSl hu hs h1 h0 h2 h3 w
      have hmove : ∀ (l mm : Nat) (lc : Loc), ρ a.block = some lc → (if mm = l then some (Addr.mk lc.blk (a.off + lc.sh) none) else (some (Addr.mk lc.blk (a.off + lc.sh) none)).map (·.add (l * s))) = some ⟨lc.blk, (bif Nat.beq mm l then a else plus a (l * s)).off + lc.sh, none⟩ ∧ (bif Nat.beq mm l then a else plus a (l * s)).block = a.block ∧ ((bif Nat.beq mm l then a else plus a (l * s)).spot = none) := fun l mm lc hlc => by
        by_cases e1 : mm = l
        · subst e1; simp [hspot]
        · have : Nat.beq mm l = false := by cases hb : Nat.beq mm l with | false => rfl | true => exact absurd (Nat.eq_of_beq_eq_true hb) e1
          simp [this, e1, plus_eq, add_none]
      cases hc : Nat.blt c OPEN with
      | true =>
        have hc' : c < OPEN := Nat.le_of_ble_eq_true hc
        rw [hc] at h
        simp only [cond_true] at h
        rcases inv_slice hx with ⟨lc, hl, _, _, rfl⟩ | ⟨lc, c', _, _, ho, _⟩ | ⟨a', c', _, _, rfl, _⟩
        · split at h
          · rename_i mm h1
            split at h
            · rename_i hh h2
              split at h
              · rename_i l h3
                cases h
                have hb1 := boundM_ok h1 hmx
                have h0 : hi' = none → mx' = none := fun hn => by
                  have e1 := (hhi.none_iff).2 hn
                  subst e1
                  cases mx with
                  | none => exact hmx.none_iff.1 rfl
                  | some _ => cases h2
                have hb2 : Bd hi' mm n hh := by
                  cases hi with
                  | none => cases mx with
                    | none => exact boundM_ok h2 hhi
                    | some _ => cases h2
                  | some _ => cases mx <;> exact boundM_ok h2 hhi
                refine ⟨_, hfin c l hh mm _ hb1 h0 hb2 (boundM_ok h3 hlo), ?_⟩
                obtain ⟨g1, g2, g3⟩ := hmove l mm lc hl
                rw [g1]
                have hmc : mm ≤ c := by rcases hb1 with ⟨_, rfl⟩ | ⟨_, _, hb⟩ <;> omega
                generalize hA : (bif Nat.beq mm l then a else plus a (l * s)) = A at g2 g3 ⊢
                obtain ⟨ab, ao, asp⟩ := A
                simp only at g2 g3
                subst g3
                exact .sl (by rw [g2]; exact hl) (by omega)
              · cases h
            · cases h
          · cases h
        · omega
        · omega
      | false =>
        have hc' : OPEN ≤ c := by
          rcases Nat.lt_or_ge c OPEN with hlt | hge
          · rw [show Nat.blt c OPEN = true from Nat.ble_eq_true_of_le hlt] at hc; cases hc
          · exact hge
        rw [hc] at h
        simp only [cond_false] at h
        split at h
        · rename_i mv
          split at h
          · rename_i hv mm h1
            obtain ⟨g0, h⟩ := cond_some h
            obtain ⟨g01, g02⟩ := boolAnd g0
            have g01 : mm < OPEN := Nat.le_of_ble_eq_true g01
            have g02 := Nat.le_of_ble_eq_true g02
            split at h
            · rename_i hh h2
              split at h
              · rename_i l h3
                cases h
                rcases inv_slice hx with ⟨_, _, _, hlt, _⟩ | ⟨lc, c', hl, _, _, hn, _, rfl⟩ | ⟨a', c', _, _, he, _⟩
                · omega
                · have hb1 := boundM_ok h1 hmx
                  have hb1' : Bd mx' c' c' mm := by
                    rcases hb1 with ⟨hh1, _⟩ | ⟨j, hj, hb⟩
                    · have := (hmx.none_iff).2 hh1; cases this
                    · exact .inr ⟨j, hj, by omega⟩
                  refine ⟨_, hfin c' l hh mm _ hb1' (fun hn => by have := (hhi.none_iff).2 hn; cases this) (boundM_ok h2 hhi) (boundM_ok h3 hlo), ?_⟩
                  obtain ⟨g1, g2, g3⟩ := hmove l mm lc hl
                  rw [g1]
                  generalize hA : (bif Nat.beq mm l then a else plus a (l * s)) = A at g2 g3 ⊢
                  obtain ⟨ab, ao, asp⟩ := A
                  simp only at g2 g3
                  subst g3
                  exact .sl (by rw [g2]; exact hl) (by omega)
                · omega
              · cases h
            · cases h
          · cases h
        · have hm : mx' = none := hmx.none_iff.1 rfl
          subst hm
          split at h
          · rename_i hh h1
            have hb2 := boundM_ok h1 hhi
            have hhn : hh ≤ n := by rcases hb2 with ⟨_, rfl⟩ | ⟨_, _, hb⟩ <;> omega
            have up : ∀ c', n ≤ c' → Bd hi' c' n hh := fun c' hc => by
              rcases hb2 with hb | ⟨j, hj, hb⟩
              · exact .inl hb
              · exact .inr ⟨j, hj, by omega⟩
            split at h
            · rename_i h3
              cases h
              have hb3 := boundM_ok h3 hlo
              rcases inv_slice hx with ⟨_, _, _, hlt, _⟩ | ⟨lc, c', hl, _, _, hn, hcap, rfl⟩ | ⟨a', c', ha', rfl, rfl, rfl⟩
              · omega
              · refine ⟨_, hfin c' 0 hh c' _ (.inl ⟨rfl, rfl⟩) (fun _ => rfl) (up c' hn) hb3, ?_⟩
                have : (if c' = 0 then some (Addr.mk lc.blk (a.off + lc.sh) none) else (some (Addr.mk lc.blk (a.off + lc.sh) none)).map (·.add (0 * s))) = some (Addr.mk lc.blk (a.off + lc.sh) none) := by
                  simp [add_none]
                rw [this]
                obtain ⟨ab, ao, asp⟩ := a
                simp only at hspot
                subst hspot
                exact .op hl hc' (by omega) hcap
              · have hh0 : hh = 0 := by omega
                subst hh0
                refine ⟨_, hfin c' 0 0 c' _ (.inl ⟨rfl, rfl⟩) (fun _ => rfl) (up c' (Nat.zero_le _)) hb3, ?_⟩
                have : (if c' = 0 then some a' else (some a').map (·.add (0 * s))) = some a' := by simp [Addr.add]
                rw [this]
                exact .opE ha'
            · rename_i l h3
              have hb3 := boundM_ok h3 hlo
              have hlh : l + 1 ≤ hh := by rcases hb3 with ⟨_, hb⟩ | ⟨_, _, hb⟩ <;> omega
              rcases inv_slice hx with ⟨_, _, _, hlt, _⟩ | ⟨lc, c', hl, _, _, hn, hcap, rfl⟩ | ⟨a', c', ha', rfl, rfl, rfl⟩
              · omega
              · have hf := hfin c' (l + 1) hh c' ⟨lc.blk, a.off + lc.sh, none⟩ (.inl ⟨rfl, rfl⟩) (fun _ => rfl) (up c' hn) hb3
                cases hq : Nat.blt (l + 1) n with
                | true =>
                  have hq' : l + 1 < n := Nat.le_of_ble_eq_true hq
                  simp only [hq, cond_true] at h
                  cases h
                  refine ⟨_, hf, ?_⟩
                  rw [if_neg (by omega), plus_eq]
                  simp only [Option.map_some, add_none]
                  rw [show a.off + lc.sh + (l + 1) * s = a.off + (l + 1) * s + lc.sh by omega]
                  exact .op hl (by unfold OPEN; omega) (by omega) (fun e => by unfold OPEN at e; omega)
                | false =>
                  have hq' : ¬ l + 1 < n := fun hlt => by rw [show Nat.blt (l + 1) n = true from Nat.ble_eq_true_of_le hlt] at hq; cases hq
                  simp only [hq, cond_false] at h
                  cases h
                  refine ⟨_, hf, ?_⟩
                  have e1 : hh - (l + 1) = 0 := by omega
                  rw [e1]
                  by_cases e2 : c' = l + 1
                  · rw [if_pos e2]; exact .opE rfl
                  · rw [if_neg e2]; simp only [Option.map_some, add_none]; exact .opE rfl
              · omega
            · cases h
          · cases h
    · cases h
  · -- an array
    rename_i n e a hu
    obtain ⟨lc, hl, hsp, rfl⟩ := inv_ptr hx
    split at h
    · rename_i s hs hspot
      split at h
      · rename_i hh h2
        split at h
        · rename_i l h3
          obtain ⟨hn0, h⟩ := cond_some h
          have hn0 : n < OPEN := Nat.le_of_ble_eq_true hn0
          cases h
          have hm : mx' = none := hmx.none_iff.1 rfl
          subst hm
          have hr := run_bounds (P := P) (b := false) (len := n) (cap := n) (mx := none) (.inl ⟨rfl, rfl⟩) (fun _ => rfl) (boundM_ok h2 hhi) (boundM_ok h3 hlo) w
          refine ⟨.slice (some ⟨lc.blk, (bif Nat.beq n l then a else plus a (l * s)).off + lc.sh, none⟩) (hh - l) (n - l), ?_, ?_⟩
          · by_cases e1 : n = l
            · subst e1; simp [Instr.sliceAt, Sem.run_bind, run_und hu, Result.andThen, hr, run_size hs, Instr.sureAddr]
            · have hq : Nat.beq n l = false := by cases hb : Nat.beq n l with | false => rfl | true => exact absurd (Nat.eq_of_beq_eq_true hb) e1
              simp [Instr.sliceAt, Sem.run_bind, run_und hu, Result.andThen, hr, run_size hs, Instr.sureAddr, e1, hq, plus_eq, add_none]
          · have hn : n - l < OPEN := by omega
            have g2 : (bif Nat.beq n l then a else plus a (l * s)).block = a.block := by cases Nat.beq n l <;> simp [plus_eq]
            have g3 : (bif Nat.beq n l then a else plus a (l * s)).spot = none := by cases Nat.beq n l <;> simp [plus_eq, hsp]
            generalize hA : (bif Nat.beq n l then a else plus a (l * s)) = A at g2 g3 ⊢
            obtain ⟨ab, ao, asp⟩ := A
            simp only at g2 g3
            subst g3
            exact .sl (by rw [g2]; exact hl) hn
        · cases h
      · cases h
    · cases h
  · cases h
end
end Go.Sx
