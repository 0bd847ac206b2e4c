/- What the functions of the program and of the reference come to: one theorem a function (part 14). -/
import Derived.Test.YthmigjicibhheaaW13
namespace Go.Proofs.Ythmigjicibhheaa
open Go Go.RowKit Go.Eng
set_option maxRecDepth 100000
set_option linter.unusedVariables false
set_option linter.unusedSimpArgs false
def stepM (m : Md) (a : Ac) : Md := if a.kind = 14 then { m with keypad := decide (a.n = 1) } else lput m (decide (a.kind = 37)) a.n (decide (a.m = 1))
def Leads : Md → List Ac → Md → Prop
  | m, [], t => m = t
  | m, a :: r, t => (a.kind = 14 ∨ a.kind = 36 ∨ a.kind = 37) ∧ MdEq (stepM m a) m = false ∧ Leads (stepM m a) r t
theorem Leads.append : ∀ {m : Md} {l r : List Ac} {t u : Md}, Leads m l t → Leads t r u → Leads m (l ++ r) u
  | _, [], _, _, _, h, h2 => by cases h; exact h2
  | _, _ :: _, _, _, _, h, h2 => ⟨h.1, h.2.1, Leads.append h.2.2 h2⟩
theorem leads1 (m : Md) (a : Ac) (t : Md) (hk : a.kind = 14 ∨ a.kind = 36 ∨ a.kind = 37) (hs : stepM m a = t) (hn : MdEq t m = false) : Leads m [a] t := ⟨hk, by rw [hs]; exact hn, hs⟩
theorem lead_ins (w : Md) : Leads (⟨newS.ins, newS.nl, newS.ck, newS.inv, newS.org, newS.aut, newS.vis, newS.paste, newS.focus, newS.sync, newS.keypad, newS.mouse, newS.sgr⟩ : Md) (stepAct w 0) (⟨w.ins, newS.nl, newS.ck, newS.inv, newS.org, newS.aut, newS.vis, newS.paste, newS.focus, newS.sync, newS.keypad, newS.mouse, newS.sgr⟩ : Md) := by
  by_cases e : w.ins = newS.ins
  · simp only [stepAct, e, beq_self_eq_true, if_true]; rfl
  · simp only [stepAct, beq_eq_false_iff_ne.mpr e, if_neg (show ¬ (false = true) from by decide)]
    refine leads1 _ _ _ (by simp) ?_ (by simp [MdEq, e])
    have e' : w.ins = !newS.ins := by cases h : w.ins <;> cases h2 : newS.ins <;> simp_all
    simp [stepM, lput, putS, rputS, checkS, rightS, newS, toldS, e']
theorem lead_nl (w : Md) : Leads (⟨w.ins, newS.nl, newS.ck, newS.inv, newS.org, newS.aut, newS.vis, newS.paste, newS.focus, newS.sync, newS.keypad, newS.mouse, newS.sgr⟩ : Md) (stepAct w 1) (⟨w.ins, w.nl, newS.ck, newS.inv, newS.org, newS.aut, newS.vis, newS.paste, newS.focus, newS.sync, newS.keypad, newS.mouse, newS.sgr⟩ : Md) := by
  by_cases e : w.nl = newS.nl
  · simp only [stepAct, e, beq_self_eq_true, if_true]; rfl
  · simp only [stepAct, beq_eq_false_iff_ne.mpr e, if_neg (show ¬ (false = true) from by decide)]
    refine leads1 _ _ _ (by simp) ?_ (by simp [MdEq, e])
    have e' : w.nl = !newS.nl := by cases h : w.nl <;> cases h2 : newS.nl <;> simp_all
    simp [stepM, lput, putS, rputS, checkS, rightS, newS, toldS, e']
theorem lead_ck (w : Md) : Leads (⟨w.ins, w.nl, newS.ck, newS.inv, newS.org, newS.aut, newS.vis, newS.paste, newS.focus, newS.sync, newS.keypad, newS.mouse, newS.sgr⟩ : Md) (stepAct w 2) (⟨w.ins, w.nl, w.ck, newS.inv, newS.org, newS.aut, newS.vis, newS.paste, newS.focus, newS.sync, newS.keypad, newS.mouse, newS.sgr⟩ : Md) := by
  by_cases e : w.ck = newS.ck
  · simp only [stepAct, e, beq_self_eq_true, if_true]; rfl
  · simp only [stepAct, beq_eq_false_iff_ne.mpr e, if_neg (show ¬ (false = true) from by decide)]
    refine leads1 _ _ _ (by simp) ?_ (by simp [MdEq, e])
    have e' : w.ck = !newS.ck := by cases h : w.ck <;> cases h2 : newS.ck <;> simp_all
    simp [stepM, lput, putS, rputS, checkS, rightS, newS, toldS, e']
theorem lead_inv (w : Md) : Leads (⟨w.ins, w.nl, w.ck, newS.inv, newS.org, newS.aut, newS.vis, newS.paste, newS.focus, newS.sync, newS.keypad, newS.mouse, newS.sgr⟩ : Md) (stepAct w 3) (⟨w.ins, w.nl, w.ck, w.inv, newS.org, newS.aut, newS.vis, newS.paste, newS.focus, newS.sync, newS.keypad, newS.mouse, newS.sgr⟩ : Md) := by
  by_cases e : w.inv = newS.inv
  · simp only [stepAct, e, beq_self_eq_true, if_true]; rfl
  · simp only [stepAct, beq_eq_false_iff_ne.mpr e, if_neg (show ¬ (false = true) from by decide)]
    refine leads1 _ _ _ (by simp) ?_ (by simp [MdEq, e])
    have e' : w.inv = !newS.inv := by cases h : w.inv <;> cases h2 : newS.inv <;> simp_all
    simp [stepM, lput, putS, rputS, checkS, rightS, newS, toldS, e']
theorem lead_org (w : Md) : Leads (⟨w.ins, w.nl, w.ck, w.inv, newS.org, newS.aut, newS.vis, newS.paste, newS.focus, newS.sync, newS.keypad, newS.mouse, newS.sgr⟩ : Md) (stepAct w 4) (⟨w.ins, w.nl, w.ck, w.inv, w.org, newS.aut, newS.vis, newS.paste, newS.focus, newS.sync, newS.keypad, newS.mouse, newS.sgr⟩ : Md) := by
  by_cases e : w.org = newS.org
  · simp only [stepAct, e, beq_self_eq_true, if_true]; rfl
  · simp only [stepAct, beq_eq_false_iff_ne.mpr e, if_neg (show ¬ (false = true) from by decide)]
    refine leads1 _ _ _ (by simp) ?_ (by simp [MdEq, e])
    have e' : w.org = !newS.org := by cases h : w.org <;> cases h2 : newS.org <;> simp_all
    simp [stepM, lput, putS, rputS, checkS, rightS, newS, toldS, e']
theorem lead_aut (w : Md) : Leads (⟨w.ins, w.nl, w.ck, w.inv, w.org, newS.aut, newS.vis, newS.paste, newS.focus, newS.sync, newS.keypad, newS.mouse, newS.sgr⟩ : Md) (stepAct w 5) (⟨w.ins, w.nl, w.ck, w.inv, w.org, w.aut, newS.vis, newS.paste, newS.focus, newS.sync, newS.keypad, newS.mouse, newS.sgr⟩ : Md) := by
  by_cases e : w.aut = newS.aut
  · simp only [stepAct, e, beq_self_eq_true, if_true]; rfl
  · simp only [stepAct, beq_eq_false_iff_ne.mpr e, if_neg (show ¬ (false = true) from by decide)]
    refine leads1 _ _ _ (by simp) ?_ (by simp [MdEq, e])
    have e' : w.aut = !newS.aut := by cases h : w.aut <;> cases h2 : newS.aut <;> simp_all
    simp [stepM, lput, putS, rputS, checkS, rightS, newS, toldS, e']
theorem lead_vis (w : Md) : Leads (⟨w.ins, w.nl, w.ck, w.inv, w.org, w.aut, newS.vis, newS.paste, newS.focus, newS.sync, newS.keypad, newS.mouse, newS.sgr⟩ : Md) (stepAct w 6) (⟨w.ins, w.nl, w.ck, w.inv, w.org, w.aut, w.vis, newS.paste, newS.focus, newS.sync, newS.keypad, newS.mouse, newS.sgr⟩ : Md) := by
  by_cases e : w.vis = newS.vis
  · simp only [stepAct, e, beq_self_eq_true, if_true]; rfl
  · simp only [stepAct, beq_eq_false_iff_ne.mpr e, if_neg (show ¬ (false = true) from by decide)]
    refine leads1 _ _ _ (by simp) ?_ (by simp [MdEq, e])
    have e' : w.vis = !newS.vis := by cases h : w.vis <;> cases h2 : newS.vis <;> simp_all
    simp [stepM, lput, putS, rputS, checkS, rightS, newS, toldS, e']
theorem lead_focus (w : Md) : Leads (⟨w.ins, w.nl, w.ck, w.inv, w.org, w.aut, w.vis, newS.paste, newS.focus, newS.sync, newS.keypad, newS.mouse, newS.sgr⟩ : Md) (stepAct w 7) (⟨w.ins, w.nl, w.ck, w.inv, w.org, w.aut, w.vis, newS.paste, w.focus, newS.sync, newS.keypad, newS.mouse, newS.sgr⟩ : Md) := by
  by_cases e : w.focus = newS.focus
  · simp only [stepAct, e, beq_self_eq_true, if_true]; rfl
  · simp only [stepAct, beq_eq_false_iff_ne.mpr e, if_neg (show ¬ (false = true) from by decide)]
    refine leads1 _ _ _ (by simp) ?_ (by simp [MdEq, e])
    have e' : w.focus = !newS.focus := by cases h : w.focus <;> cases h2 : newS.focus <;> simp_all
    simp [stepM, lput, putS, rputS, checkS, rightS, newS, toldS, e']
theorem lead_sgr (w : Md) : Leads (⟨w.ins, w.nl, w.ck, w.inv, w.org, w.aut, w.vis, newS.paste, w.focus, newS.sync, newS.keypad, newS.mouse, newS.sgr⟩ : Md) (stepAct w 8) (⟨w.ins, w.nl, w.ck, w.inv, w.org, w.aut, w.vis, newS.paste, w.focus, newS.sync, newS.keypad, newS.mouse, w.sgr⟩ : Md) := by
  by_cases e : w.sgr = newS.sgr
  · simp only [stepAct, e, beq_self_eq_true, if_true]; rfl
  · simp only [stepAct, beq_eq_false_iff_ne.mpr e, if_neg (show ¬ (false = true) from by decide)]
    refine leads1 _ _ _ (by simp) ?_ (by simp [MdEq, e])
    have e' : w.sgr = !newS.sgr := by cases h : w.sgr <;> cases h2 : newS.sgr <;> simp_all
    simp [stepM, lput, putS, rputS, checkS, rightS, newS, toldS, e']
theorem lead_paste (w : Md) : Leads (⟨w.ins, w.nl, w.ck, w.inv, w.org, w.aut, w.vis, newS.paste, w.focus, newS.sync, newS.keypad, newS.mouse, w.sgr⟩ : Md) (stepAct w 9) (⟨w.ins, w.nl, w.ck, w.inv, w.org, w.aut, w.vis, w.paste, w.focus, newS.sync, newS.keypad, newS.mouse, w.sgr⟩ : Md) := by
  by_cases e : w.paste = newS.paste
  · simp only [stepAct, e, beq_self_eq_true, if_true]; rfl
  · simp only [stepAct, beq_eq_false_iff_ne.mpr e, if_neg (show ¬ (false = true) from by decide)]
    refine leads1 _ _ _ (by simp) ?_ (by simp [MdEq, e])
    have e' : w.paste = !newS.paste := by cases h : w.paste <;> cases h2 : newS.paste <;> simp_all
    simp [stepM, lput, putS, rputS, checkS, rightS, newS, toldS, e']
theorem lead_sync (w : Md) : Leads (⟨w.ins, w.nl, w.ck, w.inv, w.org, w.aut, w.vis, w.paste, w.focus, newS.sync, newS.keypad, newS.mouse, w.sgr⟩ : Md) (stepAct w 10) (⟨w.ins, w.nl, w.ck, w.inv, w.org, w.aut, w.vis, w.paste, w.focus, w.sync, newS.keypad, newS.mouse, w.sgr⟩ : Md) := by
  by_cases e : w.sync = newS.sync
  · simp only [stepAct, e, beq_self_eq_true, if_true]; rfl
  · simp only [stepAct, beq_eq_false_iff_ne.mpr e, if_neg (show ¬ (false = true) from by decide)]
    refine leads1 _ _ _ (by simp) ?_ (by simp [MdEq, e])
    have e' : w.sync = !newS.sync := by cases h : w.sync <;> cases h2 : newS.sync <;> simp_all
    simp [stepM, lput, putS, rputS, checkS, rightS, newS, toldS, e']
theorem lead_mouse (w : Md) (h : w.mouse = 0 ∨ w.mouse = 9 ∨ w.mouse = 1000 ∨ w.mouse = 1002 ∨ w.mouse = 1003) : Leads (⟨w.ins, w.nl, w.ck, w.inv, w.org, w.aut, w.vis, w.paste, w.focus, w.sync, newS.keypad, newS.mouse, w.sgr⟩ : Md) (if w.mouse ≠ 0 then [⟨37, w.mouse, 1, ⟨0, 0⟩, ByteArray.empty⟩] else []) (⟨w.ins, w.nl, w.ck, w.inv, w.org, w.aut, w.vis, w.paste, w.focus, w.sync, newS.keypad, w.mouse, w.sgr⟩ : Md) := by
  rcases h with e | e | e | e | e
  · simp only [e]; rfl
  all_goals
    rw [if_pos (by rw [e]; decide)]
    refine leads1 _ _ _ (by simp) ?_ (by simp [MdEq, e, newS])
    simp [stepM, lput, putS, rputS, checkS, rightS, newS, mouseS, e]
theorem lead_keypad (w : Md) (h : w.mouse = 0 ∨ w.mouse = 9 ∨ w.mouse = 1000 ∨ w.mouse = 1002 ∨ w.mouse = 1003) : Leads (⟨w.ins, w.nl, w.ck, w.inv, w.org, w.aut, w.vis, w.paste, w.focus, w.sync, newS.keypad, w.mouse, w.sgr⟩ : Md) (if w.keypad then [⟨14, 1, 0, ⟨0, 0⟩, ByteArray.empty⟩] else []) w := by
  cases e : w.keypad
  · cases w; simp only at e; subst e; rfl
  · rw [if_pos rfl]
    refine leads1 _ _ _ (by simp) ?_ (by simp [MdEq, e, newS])
    cases w; simp only at e; subst e; simp [stepM]
theorem leads_all (w : Md) (h : checkS w = 0) : Leads newS (actionsS w).1 w := by
  have hr : w.mouse = 0 ∨ w.mouse = 9 ∨ w.mouse = 1000 ∨ w.mouse = 1002 ∨ w.mouse = 1003 := by
    cases hq : rightS w
    · rw [checkS, hq] at h; exact absurd h (by decide)
    · simp [rightS, mouseS] at hq; omega
  rw [actionsS, if_pos h]
  have h0 : Leads newS (actsTo w 0) (⟨newS.ins, newS.nl, newS.ck, newS.inv, newS.org, newS.aut, newS.vis, newS.paste, newS.focus, newS.sync, newS.keypad, newS.mouse, newS.sgr⟩ : Md) := rfl
  have h1 : Leads newS (actsTo w 1) (⟨w.ins, newS.nl, newS.ck, newS.inv, newS.org, newS.aut, newS.vis, newS.paste, newS.focus, newS.sync, newS.keypad, newS.mouse, newS.sgr⟩ : Md) := h0.append (lead_ins w)
  have h2 : Leads newS (actsTo w 2) (⟨w.ins, w.nl, newS.ck, newS.inv, newS.org, newS.aut, newS.vis, newS.paste, newS.focus, newS.sync, newS.keypad, newS.mouse, newS.sgr⟩ : Md) := h1.append (lead_nl w)
  have h3 : Leads newS (actsTo w 3) (⟨w.ins, w.nl, w.ck, newS.inv, newS.org, newS.aut, newS.vis, newS.paste, newS.focus, newS.sync, newS.keypad, newS.mouse, newS.sgr⟩ : Md) := h2.append (lead_ck w)
  have h4 : Leads newS (actsTo w 4) (⟨w.ins, w.nl, w.ck, w.inv, newS.org, newS.aut, newS.vis, newS.paste, newS.focus, newS.sync, newS.keypad, newS.mouse, newS.sgr⟩ : Md) := h3.append (lead_inv w)
  have h5 : Leads newS (actsTo w 5) (⟨w.ins, w.nl, w.ck, w.inv, w.org, newS.aut, newS.vis, newS.paste, newS.focus, newS.sync, newS.keypad, newS.mouse, newS.sgr⟩ : Md) := h4.append (lead_org w)
  have h6 : Leads newS (actsTo w 6) (⟨w.ins, w.nl, w.ck, w.inv, w.org, w.aut, newS.vis, newS.paste, newS.focus, newS.sync, newS.keypad, newS.mouse, newS.sgr⟩ : Md) := h5.append (lead_aut w)
  have h7 : Leads newS (actsTo w 7) (⟨w.ins, w.nl, w.ck, w.inv, w.org, w.aut, w.vis, newS.paste, newS.focus, newS.sync, newS.keypad, newS.mouse, newS.sgr⟩ : Md) := h6.append (lead_vis w)
  have h8 : Leads newS (actsTo w 8) (⟨w.ins, w.nl, w.ck, w.inv, w.org, w.aut, w.vis, newS.paste, w.focus, newS.sync, newS.keypad, newS.mouse, newS.sgr⟩ : Md) := h7.append (lead_focus w)
  have h9 : Leads newS (actsTo w 9) (⟨w.ins, w.nl, w.ck, w.inv, w.org, w.aut, w.vis, newS.paste, w.focus, newS.sync, newS.keypad, newS.mouse, w.sgr⟩ : Md) := h8.append (lead_sgr w)
  have h10 : Leads newS (actsTo w 10) (⟨w.ins, w.nl, w.ck, w.inv, w.org, w.aut, w.vis, w.paste, w.focus, newS.sync, newS.keypad, newS.mouse, w.sgr⟩ : Md) := h9.append (lead_paste w)
  have h11 : Leads newS (actsTo w 11) (⟨w.ins, w.nl, w.ck, w.inv, w.org, w.aut, w.vis, w.paste, w.focus, w.sync, newS.keypad, newS.mouse, w.sgr⟩ : Md) := h10.append (lead_sync w)
  exact (h11.append (lead_mouse w hr)).append (lead_keypad w hr)
theorem of_check (b : Int) : checkS (ofS b) = 0 := by
  have h : ∀ i : Nat, rightS { ofS b with mouse := ([0, 0, 0, 0, 9, 1000, 1002, 1003] : List Int).getD i 0 } = true := by
    intro i
    match i with
    | 0 | 1 | 2 | 3 | 4 | 5 | 6 | 7 => rfl
    | n + 8 => rfl
  have h2 := h (Int.tmod (Int.fdiv b (2 ^ min (12 : Int).toNat 16)) 8).toNat
  rw [checkS, show rightS (ofS b) = true from h2]; rfl
theorem leads_step (w c : Md) (k : Nat) (l : List Ac) (h : k < l.length) (hj : Leads c (l.drop k) w) : ((l.getD k Ac.zero).kind = 14 ∨ (l.getD k Ac.zero).kind = 36 ∨ (l.getD k Ac.zero).kind = 37) ∧ MdEq (stepM c (l.getD k Ac.zero)) c = false ∧ Leads (stepM c (l.getD k Ac.zero)) (l.drop (k + 1)) w := by
  rw [dropA l k h] at hj; exact hj
theorem leads_end (w c : Md) (k : Nat) (l : List Ac) (h : l.length ≤ k) (hj : Leads c (l.drop k) w) : c = w := by
  rw [List.drop_eq_nil_of_le h] at hj; exact hj
theorem new_acts : (actionsS newS).1.length = 0 ∧ (actionsS newS).2 = 0 := by decide +kernel

set_option maxHeartbeats 4000000 in
theorem modeLeads_c (b : Int) (w : World) (hb0 : 0 ≤ b ∧ b ≤ 65535) :
    Calls Try.prog 6 #[.int .u16 b] w (RetV w (.bool true)) := by
  refine enter (F := fun w => True) [] Try.func6 rfl Try.ntmps6 (by simp) Fut.triv rfl ?_
  refine Sc.seq ?_
  refine Sc.region ?_
  refine Seg.y rfl rfl (Want.none rfl) (Y.assign rfl) ?_
  refine Seg.nil ?_
  refine Sx.next ?_
  refine Sc.seq ?_
  refine Sc.seq ?_
  refine Sc.region ?_
  refine Seg.callV (v := .bool true) rfl rfl (Want.none rfl) (K.func rfl co16) (fun w hs => works_c  w ) ?_
  refine Seg.y rfl rfl (Want.none rfl) (Y.unOp rfl (U.not _)) ?_
  refine Seg.nil ?_
  refine Sx.next ?_
  refine Sc.condF rfl rfl ?_
  refine Sc.skip ?_
  refine Sx.next ?_
  refine Sc.seq ?_
  refine Sc.region ?_
  refine Seg.y rfl rfl (Want.none rfl) (Y.move rfl) ?_
  obtain ⟨r1, hr1⟩ : ∃ x, x = ofS b := ⟨_, rfl⟩
  refine Seg.callV (v := .agg (List.toArray [.bool r1.ins, .bool r1.nl, .bool r1.ck, .bool r1.inv, .bool r1.org, .bool r1.aut, .bool r1.vis, .bool r1.paste, .bool r1.focus, .bool r1.sync, .bool r1.keypad, .int .i64 r1.mouse, .bool r1.sgr])) rfl rfl (Want.none rfl) (K.func rfl co10) (fun w hs => by rw [hr1]; exact of_c b w (by first | assumption | omega)) ?_
  refine Seg.chg rfl rfl (Want.none rfl) (C.alloc zv23 rfl) (fun b2 hb2 => ?_)
  refine Seg.chs rfl (Want.none rfl) (C.store (cs' := [.bool r1.ins, .bool r1.nl, .bool r1.ck, .bool r1.inv, .bool r1.org, .bool r1.aut, .bool r1.vis, .bool r1.paste, .bool r1.focus, .bool r1.sync, .bool r1.keypad, .int .i64 r1.mouse, .bool r1.sgr]) (vs := [.bool r1.ins, .bool r1.nl, .bool r1.ck, .bool r1.inv, .bool r1.org, .bool r1.aut, .bool r1.vis, .bool r1.paste, .bool r1.focus, .bool r1.sync, .bool r1.keypad, .int .i64 r1.mouse, .bool r1.sgr]) 0 rfl rfl rfl rfl rfl rfl rfl sz23) (fun _ _ => ?_)
  refine Seg.nil ?_
  refine Sx.next ?_
  refine Sc.seq ?_
  refine Sc.region ?_
  refine Seg.y rfl rfl (Want.none rfl) (Y.loadN (vs := [.bool r1.ins, .bool r1.nl, .bool r1.ck, .bool r1.inv, .bool r1.org, .bool r1.aut, .bool r1.vis, .bool r1.paste, .bool r1.focus, .bool r1.sync, .bool r1.keypad, .int .i64 r1.mouse, .bool r1.sgr]) 0 rfl rfl rfl rfl ag23 sz23) ?_
  refine Seg.callR (val := fun ((a3, c4) : Option Addr × Nat) => .tuple (List.toArray [.slice a3 ((actionsS r1).1.length) c4, .int .i64 ((actionsS r1).2)])) (Φ := fun ((a3, c4) : Option Addr × Nat) => fun w => RowV 6 encAc a3 (actionsS r1).1 w) rfl rfl (Want.none rfl) (K.func rfl co21) (fun w hs => actions_c r1 _ w hs.dc_lt   ) (fun ⟨a3, c4⟩ => ?_)
  refine Seg.y rfl rfl (Want.none rfl) (Y.move rfl) ?_
  refine Seg.y rfl rfl (Want.none rfl) (Y.extract rfl rfl) ?_
  refine Seg.y rfl rfl (Want.none rfl) (Y.extract rfl rfl) ?_
  refine Seg.y rfl rfl (Want.none rfl) (Y.assign rfl) ?_
  refine Seg.y rfl rfl (Want.none rfl) (Y.assign rfl) ?_
  refine Seg.nil ?_
  refine Sx.next ?_
  refine Sc.seq ?_
  refine Sc.seq ?_
  refine Sc.region ?_
  refine Seg.y rfl rfl (Want.none rfl) (Y.move rfl) ?_
  refine Seg.y rfl rfl (Want.none rfl) (Y.binOp rfl rfl (B.ne _ _ _)) ?_
  refine Seg.nil ?_
  refine Sx.next ?_
  refine Sc.cond rfl (fun h5 => ?_) (fun h5 => ?_)
  · skip
    have h5p := of_decide_eq_true h5
    refine Sc.seq ?_
    refine Sc.region ?_
    refine Seg.y rfl rfl (Want.none rfl) (Y.assign rfl) ?_
    refine Seg.nil ?_
    refine Sx.next ?_
    refine Sc.ret ?_
    refine Sx.next_ret ?_
    refine Sx.body (.inl rfl) (res1 rfl (Rv.tmp rfl)) (fun w hs => ?_)
    refine RetV.eq ?_ hs
    exfalso; simp_all [actions_snd, of_check]; done
  · skip
    have h5p : (actionsS r1).2 = 0 := by simpa using h5
    refine Sc.skip ?_
    refine Sx.next ?_
    refine Sc.seq ?_
    refine Sc.region ?_
    refine Seg.callV (v := .agg (List.toArray [.bool newS.ins, .bool newS.nl, .bool newS.ck, .bool newS.inv, .bool newS.org, .bool newS.aut, .bool newS.vis, .bool newS.paste, .bool newS.focus, .bool newS.sync, .bool newS.keypad, .int .i64 newS.mouse, .bool newS.sgr])) rfl rfl (Want.none rfl) (K.func rfl co17) (fun w hs => new_c  w ) ?_
    refine Seg.chg rfl rfl (Want.none rfl) (C.alloc zv23 rfl) (fun b6 hb6 => ?_)
    refine Seg.chs rfl (Want.none rfl) (C.store (cs' := [.bool newS.ins, .bool newS.nl, .bool newS.ck, .bool newS.inv, .bool newS.org, .bool newS.aut, .bool newS.vis, .bool newS.paste, .bool newS.focus, .bool newS.sync, .bool newS.keypad, .int .i64 newS.mouse, .bool newS.sgr]) (vs := [.bool newS.ins, .bool newS.nl, .bool newS.ck, .bool newS.inv, .bool newS.org, .bool newS.aut, .bool newS.vis, .bool newS.paste, .bool newS.focus, .bool newS.sync, .bool newS.keypad, .int .i64 newS.mouse, .bool newS.sgr]) 0 rfl rfl rfl rfl rfl rfl rfl sz23) (fun _ _ => ?_)
    refine Seg.nil ?_
    refine Sx.next ?_
    refine Sc.seq ?_
    refine Sc.seq ?_
    refine Sc.region ?_
    refine Seg.y rfl rfl (Want.none rfl) (Y.assign rfl) ?_
    refine Seg.nil ?_
    refine Sx.next ?_
    refine Sc.block ?_
    refine Sc.loop (fun ((k, c) : Nat × Md) => k ≤ (actionsS r1).1.length ∧ Leads c ((actionsS r1).1.drop k) r1) (fun ((k, c) : Nat × Md) => (actionsS r1).1.length - k) (fun ((k, c) : Nat × Md) => [(3, .pointer (some ⟨b2, 0, none⟩)), (4, .slice a3 ((actionsS r1).1.length) c4), (6, .pointer (some ⟨b6, 0, none⟩)), (7, .int .i64 (k : Int))]) (fun ((k, c) : Nat × Md) => [(some b6, .cells (List.toArray [.bool c.ins, .bool c.nl, .bool c.ck, .bool c.inv, .bool c.org, .bool c.aut, .bool c.vis, .bool c.paste, .bool c.focus, .bool c.sync, .bool c.keypad, .int .i64 c.mouse, .bool c.sgr]) 23 (0, 0)), (some b2, .cells (List.toArray [.bool r1.ins, .bool r1.nl, .bool r1.ck, .bool r1.inv, .bool r1.org, .bool r1.aut, .bool r1.vis, .bool r1.paste, .bool r1.focus, .bool r1.sync, .bool r1.keypad, .int .i64 r1.mouse, .bool r1.sgr]) 23 (0, 0))]) (fun ((k, c) : Nat × Md) => fun w => (True) ∧ RowV 6 encAc a3 (actionsS r1).1 w) (0, newS) ⟨Nat.zero_le _, by rw [List.drop_zero]; exact leads_all _ (by rw [hr1]; exact of_check _)⟩ (by exact ⟨rfl, rfl, rfl, rfl, trivial⟩) [0, 1] (by decide) rfl (fun _ h => h) ?_
    rintro ⟨k, c⟩ hJ0
    obtain ⟨hk, hj⟩ := hJ0
    have hlen := actions_len r1
    show Sc _ _ _ _ [(3, .pointer (some ⟨b2, 0, none⟩)), (4, .slice a3 ((actionsS r1).1.length) c4), (6, .pointer (some ⟨b6, 0, none⟩)), (7, .int .i64 (k : Int))] [(some b6, .cells (List.toArray [.bool c.ins, .bool c.nl, .bool c.ck, .bool c.inv, .bool c.org, .bool c.aut, .bool c.vis, .bool c.paste, .bool c.focus, .bool c.sync, .bool c.keypad, .int .i64 c.mouse, .bool c.sgr]) 23 (0, 0)), (some b2, .cells (List.toArray [.bool r1.ins, .bool r1.nl, .bool r1.ck, .bool r1.inv, .bool r1.org, .bool r1.aut, .bool r1.vis, .bool r1.paste, .bool r1.focus, .bool r1.sync, .bool r1.keypad, .int .i64 r1.mouse, .bool r1.sgr]) 23 (0, 0))] (fun w => (True) ∧ RowV 6 encAc a3 (actionsS r1).1 w)
    refine Sc.seq ?_
    refine Sc.seq ?_
    refine Sc.region ?_
    refine Seg.y rfl rfl (Want.none rfl) (Y.move rfl) ?_
    refine Seg.y rfl rfl (Want.none rfl) (Y.move rfl) ?_
    refine Seg.y rfl rfl (Want.none rfl) (Y.bi rfl (fun w _ => run_len rfl Try.underlying44 w)) ?_
    refine Seg.y rfl rfl (Want.none rfl) (Y.binOp rfl rfl (B.lt _ _ _)) ?_
    refine Seg.nil ?_
    refine Sx.next ?_
    refine Sc.cond rfl (fun h7 => ?_) (fun h7 => ?_)
    · skip
      have h7p := of_decide_eq_true h7
      refine Sc.skip ?_
      refine Sx.next ?_
      refine Sc.seq ?_
      refine Sc.block ?_
      refine Sc.seq ?_
      refine Sc.region ?_
      refine Seg.y rfl rfl (Want.none rfl) (Y.loadN (vs := [.bool c.ins, .bool c.nl, .bool c.ck, .bool c.inv, .bool c.org, .bool c.aut, .bool c.vis, .bool c.paste, .bool c.focus, .bool c.sync, .bool c.keypad, .int .i64 c.mouse, .bool c.sgr]) 0 rfl rfl rfl rfl ag23 sz23) ?_
      refine Seg.chg rfl rfl (Want.none rfl) (C.alloc zv23 rfl) (fun b8 hb8 => ?_)
      refine Seg.chs rfl (Want.none rfl) (C.store (cs' := [.bool c.ins, .bool c.nl, .bool c.ck, .bool c.inv, .bool c.org, .bool c.aut, .bool c.vis, .bool c.paste, .bool c.focus, .bool c.sync, .bool c.keypad, .int .i64 c.mouse, .bool c.sgr]) (vs := [.bool c.ins, .bool c.nl, .bool c.ck, .bool c.inv, .bool c.org, .bool c.aut, .bool c.vis, .bool c.paste, .bool c.focus, .bool c.sync, .bool c.keypad, .int .i64 c.mouse, .bool c.sgr]) 0 rfl rfl rfl rfl rfl rfl rfl sz23) (fun _ _ => ?_)
      refine Seg.nil ?_
      refine Sx.next ?_
      refine Sc.seq ?_
      refine Sc.seq ?_
      refine Sc.region ?_
      refine Seg.y rfl rfl (Want.none rfl) (Y.move rfl) ?_
      refine Seg.y rfl rfl (Want.none rfl) (Y.move rfl) ?_
      refine Seg.y rfl rfl (Want.none rfl) (Y.elemAddr rfl rfl Try.underlying44 sz53 (fun w h => ((h.2) k _ (getD_some Ac.zero (by omega))).1) (by omega) (by omega) (by simp : (sadr a3).off + ((k : Int)).toNat * 6 = (sadr a3).off + k * 6)) ?_
      refine Seg.y rfl rfl (Want.none rfl) (Y.fieldAddr rfl (A.field Try.underlying53 rfl sz3 rfl rfl)) ?_
      refine Seg.y rfl rfl (Want.none rfl) (Y.loadF1 rfl ag3 (fun w h => ((h.2) k _ (getD_some Ac.zero (by omega))).2 0 _ rfl)) ?_
      refine Seg.nil ?_
      refine Sx.next ?_
      refine Sc.block ?_
      refine Sc.seq ?_
      refine Sc.region ?_
      refine Seg.y rfl rfl (Want.none rfl) (Y.binOp rfl rfl (B.eq _ _ _)) ?_
      refine Seg.y rfl rfl (Want.none rfl) (Y.assign rfl) ?_
      refine Seg.nil ?_
      refine Sx.next ?_
      refine Sc.cond rfl (fun h9 => ?_) (fun h9 => ?_)
      · skip
        have h9p := of_decide_eq_true h9
        refine Sc.region ?_
        refine Seg.y rfl rfl (Want.none rfl) (Y.move rfl) ?_
        refine Seg.y rfl rfl (Want.none rfl) (Y.move rfl) ?_
        refine Seg.y rfl rfl (Want.none rfl) (Y.elemAddr rfl rfl Try.underlying44 sz53 (fun w h => ((h.2) k _ (getD_some Ac.zero (by omega))).1) (by omega) (by omega) (by simp : (sadr a3).off + ((k : Int)).toNat * 6 = (sadr a3).off + k * 6)) ?_
        refine Seg.y rfl rfl (Want.none rfl) (Y.fieldAddr rfl (A.field Try.underlying53 rfl sz3 rfl rfl)) ?_
        refine Seg.y rfl rfl (Want.none rfl) (Y.loadF1 rfl ag3 (fun w h => ((h.2) k _ (getD_some Ac.zero (by omega))).2 1 _ rfl)) ?_
        refine Seg.y rfl rfl (Want.none rfl) (Y.binOp rfl rfl (B.eq _ _ _)) ?_
        refine Seg.y rfl rfl (Want.none rfl) (Y.fieldAddr rfl (A.field Try.underlying23 rfl sz4 rfl rfl)) ?_
        refine Seg.chs rfl (Want.none rfl) (C.store (cs' := [.bool c.ins, .bool c.nl, .bool c.ck, .bool c.inv, .bool c.org, .bool c.aut, .bool c.vis, .bool c.paste, .bool c.focus, .bool c.sync, .bool (decide ((((actionsS r1).1).getD k Ac.zero).n = 1)), .int .i64 c.mouse, .bool c.sgr]) (vs := [.bool (decide ((((actionsS r1).1).getD k Ac.zero).n = 1))]) 1 rfl rfl rfl rfl rfl rfl rfl sz4) (fun _ _ => ?_)
        refine Seg.nil ?_
        refine Sx.block_normal ?_
        refine Sx.next ?_
        refine Sc.seq ?_
        refine Sc.region ?_
        refine Seg.y rfl rfl (Want.none rfl) (Y.loadN (vs := [.bool c.ins, .bool c.nl, .bool c.ck, .bool c.inv, .bool c.org, .bool c.aut, .bool c.vis, .bool c.paste, .bool c.focus, .bool c.sync, .bool (decide ((((actionsS r1).1).getD k Ac.zero).n = 1)), .int .i64 c.mouse, .bool c.sgr]) 1 rfl rfl rfl rfl ag23 sz23) ?_
        refine Seg.y rfl rfl (Want.none rfl) (Y.loadN (vs := [.bool c.ins, .bool c.nl, .bool c.ck, .bool c.inv, .bool c.org, .bool c.aut, .bool c.vis, .bool c.paste, .bool c.focus, .bool c.sync, .bool c.keypad, .int .i64 c.mouse, .bool c.sgr]) 0 rfl rfl rfl rfl ag23 sz23) ?_
        refine Seg.y rfl rfl (Want.none rfl) (Y.binOp rfl rfl (B.eqS gq23 (Eqs.struct (n := 1) (b := MdEq (⟨c.ins, c.nl, c.ck, c.inv, c.org, c.aut, c.vis, c.paste, c.focus, c.sync, decide ((((actionsS r1).1).getD k Ac.zero).n = 1), c.mouse, c.sgr⟩ : Md) c) Try.underlying23 sd23 (EqF.cons (b := c.ins == c.ins) rfl ag4 rfl rfl (Eqs.mono (m := 1) (Eqs.bool Try.underlying4) (by decide)) (EqF.cons (b := c.nl == c.nl) rfl ag4 rfl rfl (Eqs.mono (m := 1) (Eqs.bool Try.underlying4) (by decide)) (EqF.cons (b := c.ck == c.ck) rfl ag4 rfl rfl (Eqs.mono (m := 1) (Eqs.bool Try.underlying4) (by decide)) (EqF.cons (b := c.inv == c.inv) rfl ag4 rfl rfl (Eqs.mono (m := 1) (Eqs.bool Try.underlying4) (by decide)) (EqF.cons (b := c.org == c.org) rfl ag4 rfl rfl (Eqs.mono (m := 1) (Eqs.bool Try.underlying4) (by decide)) (EqF.cons (b := c.aut == c.aut) rfl ag4 rfl rfl (Eqs.mono (m := 1) (Eqs.bool Try.underlying4) (by decide)) (EqF.cons (b := c.vis == c.vis) rfl ag4 rfl rfl (Eqs.mono (m := 1) (Eqs.bool Try.underlying4) (by decide)) (EqF.cons (b := c.paste == c.paste) rfl ag4 rfl rfl (Eqs.mono (m := 1) (Eqs.bool Try.underlying4) (by decide)) (EqF.cons (b := c.focus == c.focus) rfl ag4 rfl rfl (Eqs.mono (m := 1) (Eqs.bool Try.underlying4) (by decide)) (EqF.cons (b := c.sync == c.sync) rfl ag4 rfl rfl (Eqs.mono (m := 1) (Eqs.bool Try.underlying4) (by decide)) (EqF.cons (b := (decide ((((actionsS r1).1).getD k Ac.zero).n = 1)) == c.keypad) rfl ag4 rfl rfl (Eqs.mono (m := 1) (Eqs.bool Try.underlying4) (by decide)) (EqF.cons (b := decide (c.mouse = c.mouse)) rfl ag3 rfl rfl (Eqs.mono (m := 1) (Eqs.int Try.underlying3) (by decide)) (EqF.cons (b := c.sgr == c.sgr) rfl ag4 rfl rfl (Eqs.mono (m := 1) (Eqs.bool Try.underlying4) (by decide)) (EqF.nil))))))))))))))) rfl)) ?_
        refine Seg.nil ?_
        refine Sx.next ?_
        refine Sc.cond rfl (fun h10 => ?_) (fun h10 => ?_)
        · skip
          refine Sc.seq ?_
          refine Sc.region ?_
          refine Seg.y rfl rfl (Want.none rfl) (Y.assign rfl) ?_
          refine Seg.nil ?_
          refine Sx.next ?_
          refine Sc.ret ?_
          refine Sx.block_ret ?_
          refine Sx.next_ret ?_
          refine Sx.loop_ret ?_
          refine Sx.block_ret ?_
          refine Sx.next_ret ?_
          refine Sx.body (.inl rfl) (res1 rfl (Rv.tmp rfl)) (fun w hs => ?_)
          refine RetV.eq ?_ hs
          have hs := leads_step r1 c k (actionsS r1).1 (by omega) hj
          have e : stepM c ((actionsS r1).1.getD k Ac.zero) = (⟨c.ins, c.nl, c.ck, c.inv, c.org, c.aut, c.vis, c.paste, c.focus, c.sync, decide ((((actionsS r1).1).getD k Ac.zero).n = 1), c.mouse, c.sgr⟩ : Md) := by rw [stepM, if_pos h9p]
          rw [e] at hs
          exfalso; simp_all; done
        · skip
          refine Sc.skip ?_
          refine Sx.block_normal ?_
          refine Sx.next ?_
          refine Sc.region ?_
          refine Seg.y rfl rfl (Want.none rfl) (Y.move rfl) ?_
          refine Seg.y rfl rfl (Want.none rfl) (Y.binOp rfl rfl (B.add _ _ _ ((k : Int) + 1) (wr_i64 (by omega)))) ?_
          refine Seg.y rfl rfl (Want.none rfl) (Y.assign rfl) ?_
          refine Seg.nil ?_
          have hs := leads_step r1 c k (actionsS r1).1 (by omega) hj
          have e : stepM c ((actionsS r1).1.getD k Ac.zero) = (⟨c.ins, c.nl, c.ck, c.inv, c.org, c.aut, c.vis, c.paste, c.focus, c.sync, decide ((((actionsS r1).1).getD k Ac.zero).n = 1), c.mouse, c.sgr⟩ : Md) := by rw [stepM, if_pos h9p]
          exact Sx.head (k + 1, (⟨c.ins, c.nl, c.ck, c.inv, c.org, c.aut, c.vis, c.paste, c.focus, c.sync, decide ((((actionsS r1).1).getD k Ac.zero).n = 1), c.mouse, c.sgr⟩ : Md)) ⟨by omega, e ▸ hs.2.2⟩ (by first | omega | (dsimp only; omega)) ⟨rfl, rfl, rfl, rfl, trivial⟩ [1, 2] (by decide) rfl (fun _ h => h)
      · skip
        have h9p := of_decide_eq_false h9
        refine Sc.seq ?_
        refine Sc.seq ?_
        refine Sc.region ?_
        refine Seg.y rfl rfl (Want.none rfl) (Y.binOp rfl rfl (B.eq _ _ _)) ?_
        refine Seg.y rfl rfl (Want.none rfl) (Y.assign rfl) ?_
        refine Seg.nil ?_
        refine Sx.next ?_
        refine Sc.cond rfl (fun h11 => ?_) (fun h11 => ?_)
        · skip
          have h11p := of_decide_eq_true h11
          refine Sc.skip ?_
          refine Sx.next ?_
          refine Sc.condT rfl h11 ?_
          obtain ⟨r12, hr12⟩ : ∃ x, x = lput c (decide ((((actionsS r1).1).getD k Ac.zero).kind = 37)) ((((actionsS r1).1).getD k Ac.zero).n) (decide ((((actionsS r1).1).getD k Ac.zero).m = 1)) := ⟨_, rfl⟩
          refine Sc.cut (fun (_ : Unit) => True) (fun (_ : Unit) => [(3, .pointer (some ⟨b2, 0, none⟩)), (4, .slice a3 ((actionsS r1).1.length) c4), (6, .pointer (some ⟨b6, 0, none⟩)), (7, .int .i64 (k : Int)), (8, .pointer (some ⟨b8, 0, none⟩))]) (fun (_ : Unit) => [(some b8, .cells (List.toArray [.bool c.ins, .bool c.nl, .bool c.ck, .bool c.inv, .bool c.org, .bool c.aut, .bool c.vis, .bool c.paste, .bool c.focus, .bool c.sync, .bool c.keypad, .int .i64 c.mouse, .bool c.sgr]) 23 (0, 0)), (some b6, .cells (List.toArray [.bool r12.ins, .bool r12.nl, .bool r12.ck, .bool r12.inv, .bool r12.org, .bool r12.aut, .bool r12.vis, .bool r12.paste, .bool r12.focus, .bool r12.sync, .bool r12.keypad, .int .i64 r12.mouse, .bool r12.sgr]) 23 (0, 0)), (some b2, .cells (List.toArray [.bool r1.ins, .bool r1.nl, .bool r1.ck, .bool r1.inv, .bool r1.org, .bool r1.aut, .bool r1.vis, .bool r1.paste, .bool r1.focus, .bool r1.sync, .bool r1.keypad, .int .i64 r1.mouse, .bool r1.sgr]) 23 (0, 0))]) (fun _ => fun w => (True) ∧ RowV 6 encAc a3 (actionsS r1).1 w) ?_ ?_
          · skip
            refine Sc.draw (by kernel_rfl) (fun _ h => St.lean [0, 2] (by decide) (fun _ h => h) h rfl) ?_
            refine Sd.take 1 rfl rfl rfl (by kernel_rfl) (by kernel_rfl) (by kernel_rfl) Cut.panic (Want.none rfl) (Y.move rfl) ?_
            refine Sd.take 2 rfl rfl rfl (by kernel_rfl) (by kernel_rfl) (by kernel_rfl) Cut.panic (Want.none rfl) (Y.move rfl) ?_
            refine Sd.take 3 rfl rfl rfl (by kernel_rfl) (by kernel_rfl) (by kernel_rfl) Cut.panic (Want.none rfl) (Y.elemAddr rfl rfl Try.underlying44 sz53 (fun w h => ((h.2) k _ (getD_some Ac.zero (by omega))).1) (by omega) (by omega) (by simp : (sadr a3).off + ((k : Int)).toNat * 6 = (sadr a3).off + k * 6)) ?_
            refine Sd.take 4 rfl rfl rfl (by kernel_rfl) (by kernel_rfl) (by kernel_rfl) Cut.panic (Want.none rfl) (Y.fieldAddr rfl (A.field Try.underlying53 rfl sz3 rfl rfl)) ?_
            refine Sd.take 5 rfl rfl rfl (by kernel_rfl) (by kernel_rfl) (by kernel_rfl) Cut.panic (Want.none rfl) (Y.loadF1 rfl ag3 (fun w h => ((h.2) k _ (getD_some Ac.zero (by omega))).2 0 _ rfl)) ?_
            refine Sd.take 6 rfl rfl rfl (by kernel_rfl) (by kernel_rfl) (by kernel_rfl) Cut.panic (Want.none rfl) (Y.binOp rfl rfl (B.eq _ _ _)) ?_
            refine Sd.take 7 rfl rfl rfl (by kernel_rfl) (by kernel_rfl) (by kernel_rfl) Cut.panic (Want.none rfl) (Y.move rfl) ?_
            refine Sd.take 8 rfl rfl rfl (by kernel_rfl) (by kernel_rfl) (by kernel_rfl) Cut.panic (Want.none rfl) (Y.move rfl) ?_
            refine Sd.take 9 rfl rfl rfl (by kernel_rfl) (by kernel_rfl) (by kernel_rfl) Cut.panic (Want.none rfl) (Y.elemAddr rfl rfl Try.underlying44 sz53 (fun w h => ((h.2) k _ (getD_some Ac.zero (by omega))).1) (by omega) (by omega) (by simp : (sadr a3).off + ((k : Int)).toNat * 6 = (sadr a3).off + k * 6)) ?_
            refine Sd.take 10 rfl rfl rfl (by kernel_rfl) (by kernel_rfl) (by kernel_rfl) Cut.panic (Want.none rfl) (Y.fieldAddr rfl (A.field Try.underlying53 rfl sz3 rfl rfl)) ?_
            refine Sd.take 11 rfl rfl rfl (by kernel_rfl) (by kernel_rfl) (by kernel_rfl) Cut.panic (Want.none rfl) (Y.loadF1 rfl ag3 (fun w h => ((h.2) k _ (getD_some Ac.zero (by omega))).2 1 _ rfl)) ?_
            refine Sd.take 12 rfl rfl rfl (by kernel_rfl) (by kernel_rfl) (by kernel_rfl) Cut.panic (Want.none rfl) (Y.move rfl) ?_
            refine Sd.take 13 rfl rfl rfl (by kernel_rfl) (by kernel_rfl) (by kernel_rfl) Cut.panic (Want.none rfl) (Y.move rfl) ?_
            refine Sd.take 14 rfl rfl rfl (by kernel_rfl) (by kernel_rfl) (by kernel_rfl) Cut.panic (Want.none rfl) (Y.elemAddr rfl rfl Try.underlying44 sz53 (fun w h => ((h.2) k _ (getD_some Ac.zero (by omega))).1) (by omega) (by omega) (by simp : (sadr a3).off + ((k : Int)).toNat * 6 = (sadr a3).off + k * 6)) ?_
            refine Sd.take 15 rfl rfl rfl (by kernel_rfl) (by kernel_rfl) (by kernel_rfl) Cut.panic (Want.none rfl) (Y.fieldAddr rfl (A.field Try.underlying53 rfl sz3 rfl rfl)) ?_
            refine Sd.take 16 rfl rfl rfl (by kernel_rfl) (by kernel_rfl) (by kernel_rfl) Cut.panic (Want.none rfl) (Y.loadF1 rfl ag3 (fun w h => ((h.2) k _ (getD_some Ac.zero (by omega))).2 2 _ rfl)) ?_
            refine Sd.take 17 rfl rfl rfl (by kernel_rfl) (by kernel_rfl) (by kernel_rfl) Cut.panic (Want.none rfl) (Y.binOp rfl rfl (B.eq _ _ _)) ?_
            refine Sd.all [0] (by kernel_rfl) (by decide) (all_cons ?_ all_nil)
            refine Sp.y rfl rfl rfl (Want.none rfl) (Y.loadN (vs := [.bool c.ins, .bool c.nl, .bool c.ck, .bool c.inv, .bool c.org, .bool c.aut, .bool c.vis, .bool c.paste, .bool c.focus, .bool c.sync, .bool c.keypad, .int .i64 c.mouse, .bool c.sgr]) 1 rfl rfl rfl rfl ag23 sz23) ?_
            refine Sd.all [18] (by kernel_rfl) (by decide) (all_cons ?_ all_nil)
            refine Sp.callV (v := .agg (List.toArray [.bool r12.ins, .bool r12.nl, .bool r12.ck, .bool r12.inv, .bool r12.org, .bool r12.aut, .bool r12.vis, .bool r12.paste, .bool r12.focus, .bool r12.sync, .bool r12.keypad, .int .i64 r12.mouse, .bool r12.sgr])) rfl rfl rfl (Want.none rfl) (K.func rfl co24) (fun w hs => by rw [hr12]; exact lput_c c (decide ((((actionsS r1).1).getD k Ac.zero).kind = 37)) ((((actionsS r1).1).getD k Ac.zero).n) (decide ((((actionsS r1).1).getD k Ac.zero).m = 1)) w ) ?_
            refine Sd.all [19] (by kernel_rfl) (by decide) (all_cons ?_ all_nil)
            refine Sp.chgs rfl rfl (Want.none rfl) (C.store (cs' := [.bool r12.ins, .bool r12.nl, .bool r12.ck, .bool r12.inv, .bool r12.org, .bool r12.aut, .bool r12.vis, .bool r12.paste, .bool r12.focus, .bool r12.sync, .bool r12.keypad, .int .i64 r12.mouse, .bool r12.sgr]) (vs := [.bool r12.ins, .bool r12.nl, .bool r12.ck, .bool r12.inv, .bool r12.org, .bool r12.aut, .bool r12.vis, .bool r12.paste, .bool r12.focus, .bool r12.sync, .bool r12.keypad, .int .i64 r12.mouse, .bool r12.sgr]) 1 rfl rfl rfl rfl rfl rfl rfl sz23) (fun _ _ _ h => St.lean [0, 2] (by decide) (fun _ h => h) h rfl) (fun _ _ => ?_)
            refine Sd.done (by kernel_rfl) ?_
            exact Sx.cut () trivial ⟨rfl, rfl, rfl, rfl, rfl, trivial⟩ [0, 1, 2] (by decide) rfl (fun _ h => h)
          · intro _ _
            show Sx _ _ _ [(3, .pointer (some ⟨b2, 0, none⟩)), (4, .slice a3 ((actionsS r1).1.length) c4), (6, .pointer (some ⟨b6, 0, none⟩)), (7, .int .i64 (k : Int)), (8, .pointer (some ⟨b8, 0, none⟩))] [(some b8, .cells (List.toArray [.bool c.ins, .bool c.nl, .bool c.ck, .bool c.inv, .bool c.org, .bool c.aut, .bool c.vis, .bool c.paste, .bool c.focus, .bool c.sync, .bool c.keypad, .int .i64 c.mouse, .bool c.sgr]) 23 (0, 0)), (some b6, .cells (List.toArray [.bool r12.ins, .bool r12.nl, .bool r12.ck, .bool r12.inv, .bool r12.org, .bool r12.aut, .bool r12.vis, .bool r12.paste, .bool r12.focus, .bool r12.sync, .bool r12.keypad, .int .i64 r12.mouse, .bool r12.sgr]) 23 (0, 0)), (some b2, .cells (List.toArray [.bool r1.ins, .bool r1.nl, .bool r1.ck, .bool r1.inv, .bool r1.org, .bool r1.aut, .bool r1.vis, .bool r1.paste, .bool r1.focus, .bool r1.sync, .bool r1.keypad, .int .i64 r1.mouse, .bool r1.sgr]) 23 (0, 0))] _
            refine Sx.block_normal ?_
            refine Sx.next ?_
            refine Sc.seq ?_
            refine Sc.region ?_
            refine Seg.y rfl rfl (Want.none rfl) (Y.loadN (vs := [.bool r12.ins, .bool r12.nl, .bool r12.ck, .bool r12.inv, .bool r12.org, .bool r12.aut, .bool r12.vis, .bool r12.paste, .bool r12.focus, .bool r12.sync, .bool r12.keypad, .int .i64 r12.mouse, .bool r12.sgr]) 1 rfl rfl rfl rfl ag23 sz23) ?_
            refine Seg.y rfl rfl (Want.none rfl) (Y.loadN (vs := [.bool c.ins, .bool c.nl, .bool c.ck, .bool c.inv, .bool c.org, .bool c.aut, .bool c.vis, .bool c.paste, .bool c.focus, .bool c.sync, .bool c.keypad, .int .i64 c.mouse, .bool c.sgr]) 0 rfl rfl rfl rfl ag23 sz23) ?_
            refine Seg.y rfl rfl (Want.none rfl) (Y.binOp rfl rfl (B.eqS gq23 (Eqs.struct (n := 1) (b := MdEq r12 c) Try.underlying23 sd23 (EqF.cons (b := r12.ins == c.ins) rfl ag4 rfl rfl (Eqs.mono (m := 1) (Eqs.bool Try.underlying4) (by decide)) (EqF.cons (b := r12.nl == c.nl) rfl ag4 rfl rfl (Eqs.mono (m := 1) (Eqs.bool Try.underlying4) (by decide)) (EqF.cons (b := r12.ck == c.ck) rfl ag4 rfl rfl (Eqs.mono (m := 1) (Eqs.bool Try.underlying4) (by decide)) (EqF.cons (b := r12.inv == c.inv) rfl ag4 rfl rfl (Eqs.mono (m := 1) (Eqs.bool Try.underlying4) (by decide)) (EqF.cons (b := r12.org == c.org) rfl ag4 rfl rfl (Eqs.mono (m := 1) (Eqs.bool Try.underlying4) (by decide)) (EqF.cons (b := r12.aut == c.aut) rfl ag4 rfl rfl (Eqs.mono (m := 1) (Eqs.bool Try.underlying4) (by decide)) (EqF.cons (b := r12.vis == c.vis) rfl ag4 rfl rfl (Eqs.mono (m := 1) (Eqs.bool Try.underlying4) (by decide)) (EqF.cons (b := r12.paste == c.paste) rfl ag4 rfl rfl (Eqs.mono (m := 1) (Eqs.bool Try.underlying4) (by decide)) (EqF.cons (b := r12.focus == c.focus) rfl ag4 rfl rfl (Eqs.mono (m := 1) (Eqs.bool Try.underlying4) (by decide)) (EqF.cons (b := r12.sync == c.sync) rfl ag4 rfl rfl (Eqs.mono (m := 1) (Eqs.bool Try.underlying4) (by decide)) (EqF.cons (b := r12.keypad == c.keypad) rfl ag4 rfl rfl (Eqs.mono (m := 1) (Eqs.bool Try.underlying4) (by decide)) (EqF.cons (b := decide (r12.mouse = c.mouse)) rfl ag3 rfl rfl (Eqs.mono (m := 1) (Eqs.int Try.underlying3) (by decide)) (EqF.cons (b := r12.sgr == c.sgr) rfl ag4 rfl rfl (Eqs.mono (m := 1) (Eqs.bool Try.underlying4) (by decide)) (EqF.nil))))))))))))))) rfl)) ?_
            refine Seg.nil ?_
            refine Sx.next ?_
            refine Sc.cond rfl (fun h13 => ?_) (fun h13 => ?_)
            · skip
              refine Sc.seq ?_
              refine Sc.region ?_
              refine Seg.y rfl rfl (Want.none rfl) (Y.assign rfl) ?_
              refine Seg.nil ?_
              refine Sx.next ?_
              refine Sc.ret ?_
              refine Sx.block_ret ?_
              refine Sx.next_ret ?_
              refine Sx.loop_ret ?_
              refine Sx.block_ret ?_
              refine Sx.next_ret ?_
              refine Sx.body (.inl rfl) (res1 rfl (Rv.tmp rfl)) (fun w hs => ?_)
              refine RetV.eq ?_ hs
              have hs := leads_step r1 c k (actionsS r1).1 (by omega) hj
              have e : stepM c ((actionsS r1).1.getD k Ac.zero) = r12 := by rw [stepM, if_neg h9p]; exact hr12.symm
              rw [e] at hs
              exfalso; simp_all; done
            · skip
              refine Sc.skip ?_
              refine Sx.block_normal ?_
              refine Sx.next ?_
              refine Sc.region ?_
              refine Seg.y rfl rfl (Want.none rfl) (Y.move rfl) ?_
              refine Seg.y rfl rfl (Want.none rfl) (Y.binOp rfl rfl (B.add _ _ _ ((k : Int) + 1) (wr_i64 (by omega)))) ?_
              refine Seg.y rfl rfl (Want.none rfl) (Y.assign rfl) ?_
              refine Seg.nil ?_
              have hs := leads_step r1 c k (actionsS r1).1 (by omega) hj
              have e : stepM c ((actionsS r1).1.getD k Ac.zero) = r12 := by rw [stepM, if_neg h9p]; exact hr12.symm
              exact Sx.head (k + 1, r12) ⟨by omega, e ▸ hs.2.2⟩ (by first | omega | (dsimp only; omega)) ⟨rfl, rfl, rfl, rfl, trivial⟩ [1, 2] (by decide) rfl (fun _ h => h)
        · skip
          have h11p := of_decide_eq_false h11
          refine Sc.region ?_
          refine Seg.y rfl rfl (Want.none rfl) (Y.binOp rfl rfl (B.eq _ _ _)) ?_
          refine Seg.y rfl rfl (Want.none rfl) (Y.assign rfl) ?_
          refine Seg.nil ?_
          refine Sx.next ?_
          refine Sc.cond rfl (fun h14 => ?_) (fun h14 => ?_)
          · skip
            have h14p := of_decide_eq_true h14
            obtain ⟨r15, hr15⟩ : ∃ x, x = lput c (decide ((((actionsS r1).1).getD k Ac.zero).kind = 37)) ((((actionsS r1).1).getD k Ac.zero).n) (decide ((((actionsS r1).1).getD k Ac.zero).m = 1)) := ⟨_, rfl⟩
            refine Sc.cut (fun (_ : Unit) => True) (fun (_ : Unit) => [(3, .pointer (some ⟨b2, 0, none⟩)), (4, .slice a3 ((actionsS r1).1.length) c4), (6, .pointer (some ⟨b6, 0, none⟩)), (7, .int .i64 (k : Int)), (8, .pointer (some ⟨b8, 0, none⟩))]) (fun (_ : Unit) => [(some b8, .cells (List.toArray [.bool c.ins, .bool c.nl, .bool c.ck, .bool c.inv, .bool c.org, .bool c.aut, .bool c.vis, .bool c.paste, .bool c.focus, .bool c.sync, .bool c.keypad, .int .i64 c.mouse, .bool c.sgr]) 23 (0, 0)), (some b6, .cells (List.toArray [.bool r15.ins, .bool r15.nl, .bool r15.ck, .bool r15.inv, .bool r15.org, .bool r15.aut, .bool r15.vis, .bool r15.paste, .bool r15.focus, .bool r15.sync, .bool r15.keypad, .int .i64 r15.mouse, .bool r15.sgr]) 23 (0, 0)), (some b2, .cells (List.toArray [.bool r1.ins, .bool r1.nl, .bool r1.ck, .bool r1.inv, .bool r1.org, .bool r1.aut, .bool r1.vis, .bool r1.paste, .bool r1.focus, .bool r1.sync, .bool r1.keypad, .int .i64 r1.mouse, .bool r1.sgr]) 23 (0, 0))]) (fun _ => fun w => (True) ∧ RowV 6 encAc a3 (actionsS r1).1 w) ?_ ?_
            · skip
              refine Sc.draw (by kernel_rfl) (fun _ h => St.lean [0, 2] (by decide) (fun _ h => h) h rfl) ?_
              refine Sd.take 1 rfl rfl rfl (by kernel_rfl) (by kernel_rfl) (by kernel_rfl) Cut.panic (Want.none rfl) (Y.move rfl) ?_
              refine Sd.take 2 rfl rfl rfl (by kernel_rfl) (by kernel_rfl) (by kernel_rfl) Cut.panic (Want.none rfl) (Y.move rfl) ?_
              refine Sd.take 3 rfl rfl rfl (by kernel_rfl) (by kernel_rfl) (by kernel_rfl) Cut.panic (Want.none rfl) (Y.elemAddr rfl rfl Try.underlying44 sz53 (fun w h => ((h.2) k _ (getD_some Ac.zero (by omega))).1) (by omega) (by omega) (by simp : (sadr a3).off + ((k : Int)).toNat * 6 = (sadr a3).off + k * 6)) ?_
              refine Sd.take 4 rfl rfl rfl (by kernel_rfl) (by kernel_rfl) (by kernel_rfl) Cut.panic (Want.none rfl) (Y.fieldAddr rfl (A.field Try.underlying53 rfl sz3 rfl rfl)) ?_
              refine Sd.take 5 rfl rfl rfl (by kernel_rfl) (by kernel_rfl) (by kernel_rfl) Cut.panic (Want.none rfl) (Y.loadF1 rfl ag3 (fun w h => ((h.2) k _ (getD_some Ac.zero (by omega))).2 0 _ rfl)) ?_
              refine Sd.take 6 rfl rfl rfl (by kernel_rfl) (by kernel_rfl) (by kernel_rfl) Cut.panic (Want.none rfl) (Y.binOp rfl rfl (B.eq _ _ _)) ?_
              refine Sd.take 7 rfl rfl rfl (by kernel_rfl) (by kernel_rfl) (by kernel_rfl) Cut.panic (Want.none rfl) (Y.move rfl) ?_
              refine Sd.take 8 rfl rfl rfl (by kernel_rfl) (by kernel_rfl) (by kernel_rfl) Cut.panic (Want.none rfl) (Y.move rfl) ?_
              refine Sd.take 9 rfl rfl rfl (by kernel_rfl) (by kernel_rfl) (by kernel_rfl) Cut.panic (Want.none rfl) (Y.elemAddr rfl rfl Try.underlying44 sz53 (fun w h => ((h.2) k _ (getD_some Ac.zero (by omega))).1) (by omega) (by omega) (by simp : (sadr a3).off + ((k : Int)).toNat * 6 = (sadr a3).off + k * 6)) ?_
              refine Sd.take 10 rfl rfl rfl (by kernel_rfl) (by kernel_rfl) (by kernel_rfl) Cut.panic (Want.none rfl) (Y.fieldAddr rfl (A.field Try.underlying53 rfl sz3 rfl rfl)) ?_
              refine Sd.take 11 rfl rfl rfl (by kernel_rfl) (by kernel_rfl) (by kernel_rfl) Cut.panic (Want.none rfl) (Y.loadF1 rfl ag3 (fun w h => ((h.2) k _ (getD_some Ac.zero (by omega))).2 1 _ rfl)) ?_
              refine Sd.take 12 rfl rfl rfl (by kernel_rfl) (by kernel_rfl) (by kernel_rfl) Cut.panic (Want.none rfl) (Y.move rfl) ?_
              refine Sd.take 13 rfl rfl rfl (by kernel_rfl) (by kernel_rfl) (by kernel_rfl) Cut.panic (Want.none rfl) (Y.move rfl) ?_
              refine Sd.take 14 rfl rfl rfl (by kernel_rfl) (by kernel_rfl) (by kernel_rfl) Cut.panic (Want.none rfl) (Y.elemAddr rfl rfl Try.underlying44 sz53 (fun w h => ((h.2) k _ (getD_some Ac.zero (by omega))).1) (by omega) (by omega) (by simp : (sadr a3).off + ((k : Int)).toNat * 6 = (sadr a3).off + k * 6)) ?_
              refine Sd.take 15 rfl rfl rfl (by kernel_rfl) (by kernel_rfl) (by kernel_rfl) Cut.panic (Want.none rfl) (Y.fieldAddr rfl (A.field Try.underlying53 rfl sz3 rfl rfl)) ?_
              refine Sd.take 16 rfl rfl rfl (by kernel_rfl) (by kernel_rfl) (by kernel_rfl) Cut.panic (Want.none rfl) (Y.loadF1 rfl ag3 (fun w h => ((h.2) k _ (getD_some Ac.zero (by omega))).2 2 _ rfl)) ?_
              refine Sd.take 17 rfl rfl rfl (by kernel_rfl) (by kernel_rfl) (by kernel_rfl) Cut.panic (Want.none rfl) (Y.binOp rfl rfl (B.eq _ _ _)) ?_
              refine Sd.all [0] (by kernel_rfl) (by decide) (all_cons ?_ all_nil)
              refine Sp.y rfl rfl rfl (Want.none rfl) (Y.loadN (vs := [.bool c.ins, .bool c.nl, .bool c.ck, .bool c.inv, .bool c.org, .bool c.aut, .bool c.vis, .bool c.paste, .bool c.focus, .bool c.sync, .bool c.keypad, .int .i64 c.mouse, .bool c.sgr]) 1 rfl rfl rfl rfl ag23 sz23) ?_
              refine Sd.all [18] (by kernel_rfl) (by decide) (all_cons ?_ all_nil)
              refine Sp.callV (v := .agg (List.toArray [.bool r15.ins, .bool r15.nl, .bool r15.ck, .bool r15.inv, .bool r15.org, .bool r15.aut, .bool r15.vis, .bool r15.paste, .bool r15.focus, .bool r15.sync, .bool r15.keypad, .int .i64 r15.mouse, .bool r15.sgr])) rfl rfl rfl (Want.none rfl) (K.func rfl co24) (fun w hs => by rw [hr15]; exact lput_c c (decide ((((actionsS r1).1).getD k Ac.zero).kind = 37)) ((((actionsS r1).1).getD k Ac.zero).n) (decide ((((actionsS r1).1).getD k Ac.zero).m = 1)) w ) ?_
              refine Sd.all [19] (by kernel_rfl) (by decide) (all_cons ?_ all_nil)
              refine Sp.chgs rfl rfl (Want.none rfl) (C.store (cs' := [.bool r15.ins, .bool r15.nl, .bool r15.ck, .bool r15.inv, .bool r15.org, .bool r15.aut, .bool r15.vis, .bool r15.paste, .bool r15.focus, .bool r15.sync, .bool r15.keypad, .int .i64 r15.mouse, .bool r15.sgr]) (vs := [.bool r15.ins, .bool r15.nl, .bool r15.ck, .bool r15.inv, .bool r15.org, .bool r15.aut, .bool r15.vis, .bool r15.paste, .bool r15.focus, .bool r15.sync, .bool r15.keypad, .int .i64 r15.mouse, .bool r15.sgr]) 1 rfl rfl rfl rfl rfl rfl rfl sz23) (fun _ _ _ h => St.lean [0, 2] (by decide) (fun _ h => h) h rfl) (fun _ _ => ?_)
              refine Sd.done (by kernel_rfl) ?_
              exact Sx.cut () trivial ⟨rfl, rfl, rfl, rfl, rfl, trivial⟩ [0, 1, 2] (by decide) rfl (fun _ h => h)
            · intro _ _
              show Sx _ _ _ [(3, .pointer (some ⟨b2, 0, none⟩)), (4, .slice a3 ((actionsS r1).1.length) c4), (6, .pointer (some ⟨b6, 0, none⟩)), (7, .int .i64 (k : Int)), (8, .pointer (some ⟨b8, 0, none⟩))] [(some b8, .cells (List.toArray [.bool c.ins, .bool c.nl, .bool c.ck, .bool c.inv, .bool c.org, .bool c.aut, .bool c.vis, .bool c.paste, .bool c.focus, .bool c.sync, .bool c.keypad, .int .i64 c.mouse, .bool c.sgr]) 23 (0, 0)), (some b6, .cells (List.toArray [.bool r15.ins, .bool r15.nl, .bool r15.ck, .bool r15.inv, .bool r15.org, .bool r15.aut, .bool r15.vis, .bool r15.paste, .bool r15.focus, .bool r15.sync, .bool r15.keypad, .int .i64 r15.mouse, .bool r15.sgr]) 23 (0, 0)), (some b2, .cells (List.toArray [.bool r1.ins, .bool r1.nl, .bool r1.ck, .bool r1.inv, .bool r1.org, .bool r1.aut, .bool r1.vis, .bool r1.paste, .bool r1.focus, .bool r1.sync, .bool r1.keypad, .int .i64 r1.mouse, .bool r1.sgr]) 23 (0, 0))] _
              refine Sx.block_normal ?_
              refine Sx.next ?_
              refine Sc.seq ?_
              refine Sc.region ?_
              refine Seg.y rfl rfl (Want.none rfl) (Y.loadN (vs := [.bool r15.ins, .bool r15.nl, .bool r15.ck, .bool r15.inv, .bool r15.org, .bool r15.aut, .bool r15.vis, .bool r15.paste, .bool r15.focus, .bool r15.sync, .bool r15.keypad, .int .i64 r15.mouse, .bool r15.sgr]) 1 rfl rfl rfl rfl ag23 sz23) ?_
              refine Seg.y rfl rfl (Want.none rfl) (Y.loadN (vs := [.bool c.ins, .bool c.nl, .bool c.ck, .bool c.inv, .bool c.org, .bool c.aut, .bool c.vis, .bool c.paste, .bool c.focus, .bool c.sync, .bool c.keypad, .int .i64 c.mouse, .bool c.sgr]) 0 rfl rfl rfl rfl ag23 sz23) ?_
              refine Seg.y rfl rfl (Want.none rfl) (Y.binOp rfl rfl (B.eqS gq23 (Eqs.struct (n := 1) (b := MdEq r15 c) Try.underlying23 sd23 (EqF.cons (b := r15.ins == c.ins) rfl ag4 rfl rfl (Eqs.mono (m := 1) (Eqs.bool Try.underlying4) (by decide)) (EqF.cons (b := r15.nl == c.nl) rfl ag4 rfl rfl (Eqs.mono (m := 1) (Eqs.bool Try.underlying4) (by decide)) (EqF.cons (b := r15.ck == c.ck) rfl ag4 rfl rfl (Eqs.mono (m := 1) (Eqs.bool Try.underlying4) (by decide)) (EqF.cons (b := r15.inv == c.inv) rfl ag4 rfl rfl (Eqs.mono (m := 1) (Eqs.bool Try.underlying4) (by decide)) (EqF.cons (b := r15.org == c.org) rfl ag4 rfl rfl (Eqs.mono (m := 1) (Eqs.bool Try.underlying4) (by decide)) (EqF.cons (b := r15.aut == c.aut) rfl ag4 rfl rfl (Eqs.mono (m := 1) (Eqs.bool Try.underlying4) (by decide)) (EqF.cons (b := r15.vis == c.vis) rfl ag4 rfl rfl (Eqs.mono (m := 1) (Eqs.bool Try.underlying4) (by decide)) (EqF.cons (b := r15.paste == c.paste) rfl ag4 rfl rfl (Eqs.mono (m := 1) (Eqs.bool Try.underlying4) (by decide)) (EqF.cons (b := r15.focus == c.focus) rfl ag4 rfl rfl (Eqs.mono (m := 1) (Eqs.bool Try.underlying4) (by decide)) (EqF.cons (b := r15.sync == c.sync) rfl ag4 rfl rfl (Eqs.mono (m := 1) (Eqs.bool Try.underlying4) (by decide)) (EqF.cons (b := r15.keypad == c.keypad) rfl ag4 rfl rfl (Eqs.mono (m := 1) (Eqs.bool Try.underlying4) (by decide)) (EqF.cons (b := decide (r15.mouse = c.mouse)) rfl ag3 rfl rfl (Eqs.mono (m := 1) (Eqs.int Try.underlying3) (by decide)) (EqF.cons (b := r15.sgr == c.sgr) rfl ag4 rfl rfl (Eqs.mono (m := 1) (Eqs.bool Try.underlying4) (by decide)) (EqF.nil))))))))))))))) rfl)) ?_
              refine Seg.nil ?_
              refine Sx.next ?_
              refine Sc.cond rfl (fun h16 => ?_) (fun h16 => ?_)
              · skip
                refine Sc.seq ?_
                refine Sc.region ?_
                refine Seg.y rfl rfl (Want.none rfl) (Y.assign rfl) ?_
                refine Seg.nil ?_
                refine Sx.next ?_
                refine Sc.ret ?_
                refine Sx.block_ret ?_
                refine Sx.next_ret ?_
                refine Sx.loop_ret ?_
                refine Sx.block_ret ?_
                refine Sx.next_ret ?_
                refine Sx.body (.inl rfl) (res1 rfl (Rv.tmp rfl)) (fun w hs => ?_)
                refine RetV.eq ?_ hs
                have hs := leads_step r1 c k (actionsS r1).1 (by omega) hj
                have e : stepM c ((actionsS r1).1.getD k Ac.zero) = r15 := by rw [stepM, if_neg h9p]; exact hr15.symm
                rw [e] at hs
                exfalso; simp_all; done
              · skip
                refine Sc.skip ?_
                refine Sx.block_normal ?_
                refine Sx.next ?_
                refine Sc.region ?_
                refine Seg.y rfl rfl (Want.none rfl) (Y.move rfl) ?_
                refine Seg.y rfl rfl (Want.none rfl) (Y.binOp rfl rfl (B.add _ _ _ ((k : Int) + 1) (wr_i64 (by omega)))) ?_
                refine Seg.y rfl rfl (Want.none rfl) (Y.assign rfl) ?_
                refine Seg.nil ?_
                have hs := leads_step r1 c k (actionsS r1).1 (by omega) hj
                have e : stepM c ((actionsS r1).1.getD k Ac.zero) = r15 := by rw [stepM, if_neg h9p]; exact hr15.symm
                exact Sx.head (k + 1, r15) ⟨by omega, e ▸ hs.2.2⟩ (by first | omega | (dsimp only; omega)) ⟨rfl, rfl, rfl, rfl, trivial⟩ [1, 2] (by decide) rfl (fun _ h => h)
          · skip
            have h14p := of_decide_eq_false h14
            refine Sc.seq ?_
            refine Sc.region ?_
            refine Seg.y rfl rfl (Want.none rfl) (Y.assign rfl) ?_
            refine Seg.nil ?_
            refine Sx.next ?_
            refine Sc.ret ?_
            refine Sx.block_ret ?_
            refine Sx.next_ret ?_
            refine Sx.block_ret ?_
            refine Sx.next_ret ?_
            refine Sx.loop_ret ?_
            refine Sx.block_ret ?_
            refine Sx.next_ret ?_
            refine Sx.body (.inl rfl) (res1 rfl (Rv.tmp rfl)) (fun w hs => ?_)
            refine RetV.eq ?_ hs
            have hs := leads_step r1 c k (actionsS r1).1 (by omega) hj
            exfalso; rcases hs.1 with q | q | q <;> simp_all
    · skip
      have h7p := of_decide_eq_false h7
      refine Sc.exit ?_
      refine Sx.next_exit ?_
      refine Sx.loop_exit ?_
      refine Sx.block_exit ?_
      refine Sx.next ?_
      refine Sc.seq ?_
      refine Sc.region ?_
      refine Seg.callV (v := .agg (List.toArray [.bool newS.ins, .bool newS.nl, .bool newS.ck, .bool newS.inv, .bool newS.org, .bool newS.aut, .bool newS.vis, .bool newS.paste, .bool newS.focus, .bool newS.sync, .bool newS.keypad, .int .i64 newS.mouse, .bool newS.sgr])) rfl rfl (Want.none rfl) (K.func rfl co17) (fun w hs => new_c  w ) ?_
      refine Seg.callR (val := fun ((a17, c18) : Option Addr × Nat) => .tuple (List.toArray [.slice a17 ((actionsS newS).1.length) c18, .int .i64 ((actionsS newS).2)])) (Φ := fun ((a17, c18) : Option Addr × Nat) => fun w => RowV 6 encAc a17 (actionsS newS).1 w) rfl rfl (Want.none rfl) (K.func rfl co21) (fun w hs => actions_c newS _ w hs.dc_lt   ) (fun ⟨a17, c18⟩ => ?_)
      refine Seg.y rfl rfl (Want.none rfl) (Y.move rfl) ?_
      refine Seg.y rfl rfl (Want.none rfl) (Y.extract rfl rfl) ?_
      refine Seg.y rfl rfl (Want.none rfl) (Y.extract rfl rfl) ?_
      refine Seg.y rfl rfl (Want.none rfl) (Y.assign rfl) ?_
      refine Seg.y rfl rfl (Want.none rfl) (Y.assign rfl) ?_
      refine Seg.nil ?_
      refine Sx.next ?_
      refine Sc.seq ?_
      refine Sc.cut (fun (_ : Unit) => True) (fun (_ : Unit) => [(2, .bool (((MdEq c r1) && (decide ((actionsS newS).2 = 0))) && (decide (((actionsS newS).1.length : Int) = 0))))]) (fun (_ : Unit) => []) (fun _ => fun w => ((True) ∧ RowV 6 encAc a3 (actionsS r1).1 w) ∧ RowV 6 encAc a17 (actionsS newS).1 w) ?_ ?_
      · skip
        refine Sc.region ?_
        refine Seg.y rfl rfl (Want.none rfl) (Y.loadN (vs := [.bool c.ins, .bool c.nl, .bool c.ck, .bool c.inv, .bool c.org, .bool c.aut, .bool c.vis, .bool c.paste, .bool c.focus, .bool c.sync, .bool c.keypad, .int .i64 c.mouse, .bool c.sgr]) 0 rfl rfl rfl rfl ag23 sz23) ?_
        refine Seg.y rfl rfl (Want.none rfl) (Y.loadN (vs := [.bool r1.ins, .bool r1.nl, .bool r1.ck, .bool r1.inv, .bool r1.org, .bool r1.aut, .bool r1.vis, .bool r1.paste, .bool r1.focus, .bool r1.sync, .bool r1.keypad, .int .i64 r1.mouse, .bool r1.sgr]) 1 rfl rfl rfl rfl ag23 sz23) ?_
        refine Seg.y rfl rfl (Want.none rfl) (Y.binOp rfl rfl (B.eqS gq23 (Eqs.struct (n := 1) (b := MdEq c r1) Try.underlying23 sd23 (EqF.cons (b := c.ins == r1.ins) rfl ag4 rfl rfl (Eqs.mono (m := 1) (Eqs.bool Try.underlying4) (by decide)) (EqF.cons (b := c.nl == r1.nl) rfl ag4 rfl rfl (Eqs.mono (m := 1) (Eqs.bool Try.underlying4) (by decide)) (EqF.cons (b := c.ck == r1.ck) rfl ag4 rfl rfl (Eqs.mono (m := 1) (Eqs.bool Try.underlying4) (by decide)) (EqF.cons (b := c.inv == r1.inv) rfl ag4 rfl rfl (Eqs.mono (m := 1) (Eqs.bool Try.underlying4) (by decide)) (EqF.cons (b := c.org == r1.org) rfl ag4 rfl rfl (Eqs.mono (m := 1) (Eqs.bool Try.underlying4) (by decide)) (EqF.cons (b := c.aut == r1.aut) rfl ag4 rfl rfl (Eqs.mono (m := 1) (Eqs.bool Try.underlying4) (by decide)) (EqF.cons (b := c.vis == r1.vis) rfl ag4 rfl rfl (Eqs.mono (m := 1) (Eqs.bool Try.underlying4) (by decide)) (EqF.cons (b := c.paste == r1.paste) rfl ag4 rfl rfl (Eqs.mono (m := 1) (Eqs.bool Try.underlying4) (by decide)) (EqF.cons (b := c.focus == r1.focus) rfl ag4 rfl rfl (Eqs.mono (m := 1) (Eqs.bool Try.underlying4) (by decide)) (EqF.cons (b := c.sync == r1.sync) rfl ag4 rfl rfl (Eqs.mono (m := 1) (Eqs.bool Try.underlying4) (by decide)) (EqF.cons (b := c.keypad == r1.keypad) rfl ag4 rfl rfl (Eqs.mono (m := 1) (Eqs.bool Try.underlying4) (by decide)) (EqF.cons (b := decide (c.mouse = r1.mouse)) rfl ag3 rfl rfl (Eqs.mono (m := 1) (Eqs.int Try.underlying3) (by decide)) (EqF.cons (b := c.sgr == r1.sgr) rfl ag4 rfl rfl (Eqs.mono (m := 1) (Eqs.bool Try.underlying4) (by decide)) (EqF.nil))))))))))))))) rfl)) ?_
        refine Seg.y rfl rfl (Want.none rfl) (Y.move rfl) ?_
        rcases Bool.eq_false_or_eq_true (MdEq c r1) with g19 | g19
        · skip
          refine Seg.y rfl rfl (Want.some 3 77 true rfl rfl rfl g19) (Y.move rfl) ?_
          refine Seg.y rfl rfl (Want.some 3 77 true rfl rfl rfl g19) (Y.binOp rfl rfl (B.eq _ _ _)) ?_
          refine Seg.y rfl rfl (Want.none rfl) (Y.pickT rfl g19 rfl) ?_
          refine Seg.y rfl rfl (Want.none rfl) (Y.move rfl) ?_
          rcases Bool.eq_false_or_eq_true (decide ((actionsS newS).2 = 0)) with g20 | g20
          · skip
            have g20p := of_decide_eq_true g20
            refine Seg.y rfl rfl (Want.some 7 81 true rfl rfl rfl g20) (Y.move rfl) ?_
            refine Seg.y rfl rfl (Want.some 7 81 true rfl rfl rfl g20) (Y.bi rfl (fun w _ => run_len rfl Try.underlying44 w)) ?_
            refine Seg.y rfl rfl (Want.some 7 81 true rfl rfl rfl g20) (Y.binOp rfl rfl (B.eq _ _ _)) ?_
            refine Seg.y rfl rfl (Want.none rfl) (Y.pickT rfl g20 rfl) ?_
            refine Seg.y rfl rfl (Want.none rfl) (Y.assign rfl) ?_
            refine Seg.nil ?_
            exact Sx.cut () trivial ⟨(someB (by first | (simp [h5, h5p, h7, h7p, g19, g20, g20p]; done) | (simp_all; done) | ((simp [h5, h5p, h7, h7p, g19, g20, g20p]) <;> grind))), trivial⟩ [] (by decide) rfl (fun _ h => h)
          · skip
            have g20p := of_decide_eq_false g20
            refine Seg.skip rfl rfl (Skip.some 7 81 true rfl rfl rfl g20) ?_
            refine Seg.skip rfl rfl (Skip.some 7 81 true rfl rfl rfl g20) ?_
            refine Seg.skip rfl rfl (Skip.some 7 81 true rfl rfl rfl g20) ?_
            refine Seg.y rfl rfl (Want.none rfl) (Y.pickF rfl g20 rfl) ?_
            refine Seg.y rfl rfl (Want.none rfl) (Y.assign rfl) ?_
            refine Seg.nil ?_
            exact Sx.cut () trivial ⟨(someB (by first | (simp [h5, h5p, h7, h7p, g19, g20, g20p]; done) | (simp_all; done) | ((simp [h5, h5p, h7, h7p, g19, g20, g20p]) <;> grind))), trivial⟩ [] (by decide) rfl (fun _ h => h)
        · skip
          refine Seg.skip rfl rfl (Skip.some 3 77 true rfl rfl rfl g19) ?_
          refine Seg.skip rfl rfl (Skip.some 3 77 true rfl rfl rfl g19) ?_
          refine Seg.y rfl rfl (Want.none rfl) (Y.pickF rfl g19 rfl) ?_
          refine Seg.y rfl rfl (Want.none rfl) (Y.move rfl) ?_
          refine Seg.skip rfl rfl (Skip.some 7 81 true rfl rfl rfl rfl) ?_
          refine Seg.skip rfl rfl (Skip.some 7 81 true rfl rfl rfl rfl) ?_
          refine Seg.skip rfl rfl (Skip.some 7 81 true rfl rfl rfl rfl) ?_
          refine Seg.y rfl rfl (Want.none rfl) (Y.pickF rfl rfl rfl) ?_
          refine Seg.y rfl rfl (Want.none rfl) (Y.assign rfl) ?_
          refine Seg.nil ?_
          exact Sx.cut () trivial ⟨(someB (by first | (simp [h5, h5p, h7, h7p, g19]; done) | (simp_all; done) | ((simp [h5, h5p, h7, h7p, g19]) <;> grind))), trivial⟩ [] (by decide) rfl (fun _ h => h)
      · intro _ _
        show Sx _ _ _ [(2, .bool (((MdEq c r1) && (decide ((actionsS newS).2 = 0))) && (decide (((actionsS newS).1.length : Int) = 0))))] [] _
        refine Sx.next ?_
        refine Sc.ret ?_
        refine Sx.body (.inl rfl) (res1 rfl (Rv.tmp rfl)) (fun w hs => ?_)
        refine RetV.eq ?_ hs
        have ec := leads_end r1 c k (actionsS r1).1 (by omega) hj
        exact congrArg Value.bool (by simp [ec, MdEq_self, new_acts.1, new_acts.2, hr1] <;> simp_all [new_acts.1, new_acts.2])
end Go.Proofs.Ythmigjicibhheaa
