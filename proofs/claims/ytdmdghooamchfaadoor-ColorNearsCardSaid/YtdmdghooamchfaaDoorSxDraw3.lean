/- Regions that draw their order, part 3: the whole region. -/
import Derived.Test.YtdmdghooamchfaaDoorSxDraw2
namespace Go.Sx
set_option linter.all false
open Go
set_option linter.unusedVariables false
set_option linter.unusedSimpArgs false
variable [Ora]

theorem count_set : ∀ (l : List Bool) (i : Nat), l[i]? = some false → (l.set i true).countP (fun b => !b) + 1 = l.countP (fun b => !b)
  | [], i, h => by simp at h
  | b :: r, 0, h => by simp at h; subst h; simp
  | b :: r, i + 1, h => by
    have := count_set r i (by simpa using h)
    rw [List.set_cons_succ, List.countP_cons, List.countP_cons]
    omega
theorem count_zero {l : List Bool} (h : l.countP (fun b => !b) = 0) : ∀ i, i < l.length → l[i]? = some true := fun i hi => by
  rw [List.countP_eq_zero] at h
  have := h l[i] (List.getElem_mem hi)
  rw [List.getElem?_eq_getElem hi]
  cases hb : l[i] with
  | true => rfl
  | false => rw [hb] at this; exact absurd rfl this

section
variable {P : Program} {base gl : Nat} {call : CallT}

theorem merge_hi {m m' m2 : Mem} (h : mergeM m m' = some m2) (hhi : m.hi ≤ m'.hi) : m.hi ≤ m2.hi := by
  unfold mergeM at h
  cases hq : Nat.ble m'.hi m.n with
  | true => rw [hq] at h; cases h; exact Nat.le_refl _
  | false =>
    rw [hq] at h
    obtain ⟨_, h⟩ := cond_some h
    simp only [forceN_eq, force8_eq] at h
    cases h
    exact hhi

theorem draws_ok (hm : P.follows .mixedOrders = true) (hcall : ∀ f, FnOk P base gl f (call f)) : DrawsOk P base gl call := by
  intro nt ops hok s s' hrun
  obtain ⟨F, M, V, R, f1, f2, f3, f4, f5, f6⟩ := trace ops.toList 0 _ _ s s' hrun
  simp only [Nat.zero_add, Array.length_toList] at f4 f5 f6
  constructor
  · have : ∀ i, i ≤ ops.size → s.m.hi ≤ (M i).hi ∧ s.m.lg.le (M i).lg := by
      intro i
      induction i with
      | zero => intro _; rw [f2]; exact ⟨Nat.le_refl _, .refl _⟩
      | succ i ih =>
        intro h
        have h1 := ih (by omega)
        obtain ⟨o, ho⟩ := get_of_lt (ops := ops) (i := i) (by omega)
        obtain ⟨hst, _⟩ := f6 i o (ops_list ho)
        refine ⟨?_, h1.2.trans (stepAt_lg hcall hst)⟩
        obtain ⟨_, _, _, h2⟩ := hst
        rcases h2 with ⟨_, _, _, h2⟩ | ⟨_, _, mv, m', _, _, _, hhi, h2⟩
        · rw [h2]; exact h1.1
        · exact Nat.le_trans h1.1 (merge_hi h2 hhi)
    rw [← f5]; exact this _ (Nat.le_refl _)
  · intro ρ0 a0 w id Q hSat hat hfr hQ
    have g : Rg P base gl nt call ops F M V R := ⟨fun i o ho => (f6 i o (ops_list ho)).1, fun i o ho => (f6 i o (ops_list ho)).2, hok, by rw [f2]; exact hat.nh⟩
    have hsub : ∀ i o, ops[i]? = some o → ∀ e ∈ o.after.toList, Region.binds .any e = true → e.on < i := fun i o ho => by
      have := (opsOk_at _ 0 g.ok i o (ops_list ho)).1
      rw [Nat.zero_add] at this
      exact edgesOk_at this
    refine wp_region_any hm ?_
    generalize hw1 : ({ w with drawn := w.drawn + 1 } : World) = w1
    have hh1 : w1.heap = w.heap := by rw [← hw1]
    have ho1 : w1.os = w.os ∧ w1.tape = w.tape ∧ w1.output = w.output := by rw [← hw1]; exact ⟨rfl, rfl, rfl⟩
    have hat1 : At P base gl ρ0 (M 0) (M ops.size).hi w1 := by
      rw [f2, f5]
      exact ⟨⟨fun b l h => by rw [hh1]; exact hat.hr.dom b l h, fun id hid ab hab => by
        obtain ⟨l, e1, e2, e3⟩ := hat.hr.at_ id hid ab hab
        exact ⟨l, e1, e2.mono (fun _ _ h => h) (by rw [hh1]), e3⟩⟩, by rw [hh1]; exact hat.bs, hat.fr, hat.gr, hat.nh, hat.wb, fun k o hk => by rw [hh1]; exact hat.gf k o hk⟩
    -- all have come up
    have done : ∀ (D : Nat → Bool) (ρ : Ren) (a : Act) (w' : World), (∀ i, i < ops.size → D i = true) → Inv P base gl nt ops F M V ρ0 w1 D ρ a w' → Q .normal a w' := fun D ρ a w' hD inv => by
      have hG : ∀ id, id ≤ most → GD M ops.size D id = Hp.get (M ops.size).H id := fun id hid => by
        unfold GD
        cases hu : used M D id ops.size with
        | true => rfl
        | false =>
          simp only [cond_false]
          refine ((g.all ops.size (Nat.le_refl _)).2.2.2.2 id hid ?_).symm
          rcases Nat.lt_or_ge id (M 0).n with h1 | h1
          · exact .inl h1
          · rcases Nat.lt_or_ge id (M ops.size).n with h2 | h2
            · exfalso
              obtain ⟨k, k1, k2, k3⟩ := g.who ops.size (Nat.le_refl _) id h1 h2
              rw [(used_iff (M := M) (D := D) ops.size).2 ⟨k, k1, hD k k1, k2, k3⟩] at hu
              cases hu
            · exact .inr h2
      have hall := g.all ops.size (Nat.le_refl _)
      refine hQ ρ a w' ⟨inv.tsz, hfr.le, inv.dfr, fun t ht => ?_⟩ ?_
      · have h1 := inv.frm t ht
        have h2 := g.frame hfr.le ht ops.size (Nat.le_refl _)
        rw [f4] at h2
        rw [h2]
        rw [fval_congr (D' := fun k => Nat.blt k ops.size) ops.size (fun k hk _ => by rw [hD k hk]; exact (Nat.ble_eq_true_of_le hk).symm)] at h1
        exact h1
      · rw [← f2, ← f5]
        refine ⟨inv.ext, fun b l h1 h2 => ?_, hall.1, hall.2.1, fun _ => hall.2.2.1, inv.hr.hr fun id hid ab hab => by rw [hG id hid]; exact hab, fun b hb => by rw [hall.2.2.2.1]; exact hb, fun b h1 h2 => by rw [hall.2.2.2.1] at h1; exact absurd h1 h2,
          fun k hk _ => by rw [inv.keep k (by rw [hh1]; exact hk), hh1], by rw [← hh1]; exact inv.size, ⟨inv.os.1.trans ho1.1, inv.os.2.1.trans ho1.2.1, inv.os.2.2.trans ho1.2.2⟩, fun b l h1 h2 => .inl (by rw [← hh1]; exact (inv.new b l h1 h2).2), fun id hid h1 h2 => ?_⟩
        · obtain ⟨k, k1, _, k2, k3⟩ := (used_iff _).1 (inv.new b l h1 h2).1
          have e1 := (g.le (i := 0) (j := k) (by omega) (by omega)).1
          have e2 := (g.le (i := k + 1) (j := ops.size) (by omega) (by omega)).1
          omega
        · refine hall.2.2.2.2 id hid ?_
          rcases h2 with h2 | h2
          · exact .inl h2
          · exact .inr (by have := hall.2.2.1; omega)
    -- whatever comes up
    have main : ∀ (fuel : Nat) (listed : Array Bool) (ρ : Ren) (a : Act) (w' : World), listed.size = ops.size → listed.toList.countP (fun b => !b) = fuel → Closed ops.toList (fun k => listed.getD k false = true) →
        Inv P base gl nt ops F M V ρ0 w1 (fun k => listed.getD k false) ρ a w' → wpAny P .any ops Q fuel listed a w' := by
      intro fuel
      induction fuel with
      | zero =>
        intro listed ρ a w' hsz hcnt hcl inv
        have hall : ∀ i, i < ops.size → listed.getD i false = true := fun i hi => by
          have := count_zero hcnt i (by simpa [hsz] using hi)
          have h2 : listed[i]? = some true := by simpa using this
          simp [Array.getD_eq_getD_getElem?, h2]
        refine ⟨?_, done _ ρ a w' hall inv⟩
        rw [List.eq_nil_iff_forall_not_mem]
        intro j hj
        obtain ⟨h1, o, h2, _⟩ := mem_ready.1 hj
        have hlt : j < ops.size := (Array.getElem?_eq_some_iff.1 h2).1
        have h3 := hall j hlt
        have hj2 : j < listed.size := by omega
        simp [Array.getD_eq_getD_getElem?, hj2] at h1 h3
        rw [h1] at h3; cases h3
      | succ fuel ih =>
        intro listed ρ a w' hsz hcnt hcl inv
        refine ⟨fun hre => ?_, fun i hi => ?_⟩
        · -- none is left
          refine done _ ρ a w' (fun i hi => ?_) inv
          have key : ∀ n i, i < n → i < ops.size → listed.getD i false = true := by
            intro n
            induction n with
            | zero => intro i h; omega
            | succ n ihn =>
              intro i hin hil
              by_cases h : i < n
              · exact ihn i h hil
              · cases hq : listed.getD i false with
                | true => rfl
                | false =>
                  exfalso
                  obtain ⟨o, ho⟩ := get_of_lt (ops := ops) hil
                  have hmem : i ∈ Region.ready .any ops listed := mem_ready.2 ⟨by
                    have hj2 : i < listed.size := by omega
                    simp [Array.getD_eq_getD_getElem?, hj2] at hq ⊢
                    exact hq, o, ho, fun e he hb => by
                    have hlt := hsub i o ho e (by simpa using he) hb
                    exact ihn e.on (by omega) (by omega)⟩
                  rw [hre] at hmem; cases hmem
          exact key (i + 1) i (Nat.lt_succ_self i) hi
        · obtain ⟨h1, o, ho, h2⟩ := mem_ready.1 hi
          have hil : i < ops.size := (Array.getElem?_eq_some_iff.1 ho).1
          have hil2 : i < listed.size := by omega
          have h1' : listed.getD i false = false := by
            simp [Array.getD_eq_getD_getElem?, hil2] at h1 ⊢
            exact h1
          have hother : ∀ k, k ≠ i → (listed.setIfInBounds i true).getD k false = listed.getD k false := fun k hk => by
            simp only [Array.getD_eq_getD_getElem?, Array.getElem?_setIfInBounds]
            rw [if_neg (fun e => hk e.symm)]
          have hself : (listed.setIfInBounds i true).getD i false = true := by
            simp [Array.getD_eq_getD_getElem?, Array.getElem?_setIfInBounds, hil2]
          have hr : ∀ e ∈ o.after.toList, Region.binds .any e = true → listed.getD e.on false = true := fun e he hb => h2 e (by simpa using he) hb
          refine g.step hcall hat1 (by rw [f5]; exact hSat) hfr.le inv hcl (fun k hk => ?_) ho h1' hr hother hself fun ρ' a' w'' inv' => ih (listed.setIfInBounds i true) ρ' a' w'' (by simpa using hsz) ?_ ?_ inv'
          · rcases Nat.lt_or_ge k listed.size with h | h
            · omega
            · simp [Array.getD_eq_getD_getElem?, Array.getElem?_eq_none h] at hk
          · have hg : listed.toList[i]? = some false := by
              simp [Array.getD_eq_getD_getElem?, hil2] at h1'
              simp [hil2, h1']
            have := count_set listed.toList i hg
            rw [Array.toList_setIfInBounds]
            omega
          · intro k o' ho' hk e he hb
            by_cases e1 : e.on = i
            · rw [e1]; exact hself
            · show (listed.setIfInBounds i true).getD e.on false = true
              rw [hother e.on e1]
              by_cases e2 : k = i
              · subst e2
                have : ops.toList[k]? = some o := ops_list ho
                rw [this] at ho'
                cases ho'
                exact hr e he hb
              · have hk : (listed.setIfInBounds i true).getD k false = true := hk
                rw [hother k e2] at hk
                exact hcl k o' ho' hk e he hb
    refine main ops.size _ ρ0 a0 w1 (by simp) (by simp [List.countP_replicate]) (fun k o ho hk => ?_) ?_
    · exfalso
      simp only [Array.getD_eq_getD_getElem?, Array.getElem?_replicate] at hk
      split at hk <;> cases hk
    · have hu : ∀ b n, used M (fun k => (Array.replicate ops.size false).getD k false) b n = false := fun b n => by
        cases hq : used M (fun k => (Array.replicate ops.size false).getD k false) b n with
        | false => rfl
        | true =>
          obtain ⟨k, _, h, _⟩ := (used_iff _).1 hq
          simp only [Array.getD_eq_getD_getElem?, Array.getElem?_replicate] at h
          split at h <;> cases h
      refine ⟨fun _ _ h => h, fun b l h1 h2 => (by rw [h1] at h2; cases h2), hat1.hr.f fun id hid ab hab => ?_, fun _ _ => rfl, Nat.le_refl _, ⟨rfl, rfl, rfl⟩, hfr.size, hfr.defers, fun t ht => ?_⟩
      · unfold GD at hab
        rw [hu] at hab
        exact hab
      · have : ∀ n, fval (fun k => (Array.replicate ops.size false).getD k false) (fun k => (ops[k]?).bind (·.dst)) V (F 0).get t n = (F 0).get t := fun n => by
          induction n with
          | zero => rfl
          | succ n ih =>
            rw [fval, if_neg, ih]
            rintro ⟨h, _⟩
            simp only [Array.getD_eq_getD_getElem?, Array.getElem?_replicate] at h
            split at h <;> cases h
        rw [this, f1]
        exact hfr.get t ht
end
end Go.Sx
