/- What the functions of the program and of the reference come to: one theorem a function (part 13). -/
import Derived.Test.YthmigjicibhheaaW12
namespace Go.Proofs.Ythmigjicibhheaa
open Go Go.RowKit Go.Eng
set_option maxRecDepth 100000
set_option linter.unusedVariables false
set_option linter.unusedSimpArgs false
theorem rst_ins (m : Md) : rstateS m false 4 false = toldS m.ins := by cases h : m.ins <;> simp [rstateS, rputS, MdEq, toldS, h]
theorem rst_nl (m : Md) : rstateS m false 20 false = toldS m.nl := by cases h : m.nl <;> simp [rstateS, rputS, MdEq, toldS, h]
theorem rst_ck (m : Md) : rstateS m true 1 false = toldS m.ck := by cases h : m.ck <;> simp [rstateS, rputS, MdEq, toldS, h]
theorem rst_inv (m : Md) : rstateS m true 5 false = toldS m.inv := by cases h : m.inv <;> simp [rstateS, rputS, MdEq, toldS, h]
theorem rst_org (m : Md) : rstateS m true 6 false = toldS m.org := by cases h : m.org <;> simp [rstateS, rputS, MdEq, toldS, h]
theorem rst_aut (m : Md) : rstateS m true 7 false = toldS m.aut := by cases h : m.aut <;> simp [rstateS, rputS, MdEq, toldS, h]
theorem rst_vis (m : Md) : rstateS m true 25 false = toldS m.vis := by cases h : m.vis <;> simp [rstateS, rputS, MdEq, toldS, h]
theorem rst_focus (m : Md) : rstateS m true 1004 false = toldS m.focus := by cases h : m.focus <;> simp [rstateS, rputS, MdEq, toldS, h]
theorem rst_sgr (m : Md) : rstateS m true 1006 false = toldS m.sgr := by cases h : m.sgr <;> simp [rstateS, rputS, MdEq, toldS, h]
theorem rst_paste (m : Md) : rstateS m true 2004 false = toldS m.paste := by cases h : m.paste <;> simp [rstateS, rputS, MdEq, toldS, h]
theorem rst_sync (m : Md) : rstateS m true 2026 false = toldS m.sync := by cases h : m.sync <;> simp [rstateS, rputS, MdEq, toldS, h]
theorem ract_ins (m : Md) : ractG m false 4 = stepAct m 0 := by simp only [ractG, rst_ins, stepAct]; cases m.ins <;> simp [toldS, newS]
theorem ract_nl (m : Md) : ractG m false 20 = stepAct m 1 := by simp only [ractG, rst_nl, stepAct]; cases m.nl <;> simp [toldS, newS]
theorem ract_ck (m : Md) : ractG m true 1 = stepAct m 2 := by simp only [ractG, rst_ck, stepAct]; cases m.ck <;> simp [toldS, newS]
theorem ract_inv (m : Md) : ractG m true 5 = stepAct m 3 := by simp only [ractG, rst_inv, stepAct]; cases m.inv <;> simp [toldS, newS]
theorem ract_org (m : Md) : ractG m true 6 = stepAct m 4 := by simp only [ractG, rst_org, stepAct]; cases m.org <;> simp [toldS, newS]
theorem ract_aut (m : Md) : ractG m true 7 = stepAct m 5 := by simp only [ractG, rst_aut, stepAct]; cases m.aut <;> simp [toldS, newS]
theorem ract_vis (m : Md) : ractG m true 25 = stepAct m 6 := by simp only [ractG, rst_vis, stepAct]; cases m.vis <;> simp [toldS, newS]
theorem ract_focus (m : Md) : ractG m true 1004 = stepAct m 7 := by simp only [ractG, rst_focus, stepAct]; cases m.focus <;> simp [toldS, newS]
theorem ract_sgr (m : Md) : ractG m true 1006 = stepAct m 8 := by simp only [ractG, rst_sgr, stepAct]; cases m.sgr <;> simp [toldS, newS]
theorem ract_paste (m : Md) : ractG m true 2004 = stepAct m 9 := by simp only [ractG, rst_paste, stepAct]; cases m.paste <;> simp [toldS, newS]
theorem ract_sync (m : Md) : ractG m true 2026 = stepAct m 10 := by simp only [ractG, rst_sync, stepAct]; cases m.sync <;> simp [toldS, newS]
theorem rst_mouse (m : Md) (n : Int) (h : n = 9 ∨ n = 1000 ∨ n = 1002 ∨ n = 1003) : rstateS m true n false = toldS (decide (m.mouse = n)) := by
  rw [rstate_d1 m n false (by omega), if_pos (by simp [mouseS]; omega)]
theorem ract_mouse (m : Md) (n : Int) (h : n = 9 ∨ n = 1000 ∨ n = 1002 ∨ n = 1003) : ractG m true n = if m.mouse = n then [⟨37, n, 1, ⟨0, 0⟩, ByteArray.empty⟩] else [] := by
  have hn : newS.mouse ≠ n := by rcases h with rfl | rfl | rfl | rfl <;> decide
  by_cases e : m.mouse = n
  · simp [ractG, rst_mouse m n h, rst_mouse newS n h, e, hn, toldS]
  · simp [ractG, rst_mouse m n h, rst_mouse newS n h, e, hn, toldS]
theorem acts_eq (m : Md) (h : checkS m = 0) : (actionsS m).1 = ractionsS m := by
  have e2 : ractsTo m false 2 = ractG m false 4 ++ (ractG m false 20 ++ []) := rfl
  have e13 : ractsTo m true 13 = ractG m true 1 ++ (ractG m true 5 ++ (ractG m true 6 ++ (ractG m true 7 ++ (ractG m true 25 ++ (ractG m true 1004 ++ (ractG m true 1006 ++ (ractG m true 2004 ++ (ractG m true 2026 ++ (ractG m true 9 ++ (ractG m true 1000 ++ (ractG m true 1002 ++ (ractG m true 1003 ++ [])))))))))))) := rfl
  have hr : m.mouse = 0 ∨ m.mouse = 9 ∨ m.mouse = 1000 ∨ m.mouse = 1002 ∨ m.mouse = 1003 := by
    cases hq : rightS m
    · rw [checkS, hq] at h; exact absurd h (by decide)
    · simp [rightS, mouseS] at hq; omega
  rw [ractionsS, e2, e13, actionsS, if_pos h]
  simp only [actsTo, ract_ins, ract_nl, ract_ck, ract_inv, ract_org, ract_aut, ract_vis, ract_focus, ract_sgr, ract_paste, ract_sync, ract_mouse m 9 (.inl rfl), ract_mouse m 1000 (.inr (.inl rfl)), ract_mouse m 1002 (.inr (.inr (.inl rfl))), ract_mouse m 1003 (.inr (.inr (.inr rfl)))]
  rcases hr with e | e | e | e | e <;> simp [e]
theorem actions_snd (m : Md) : (actionsS m).2 = checkS m := by
  unfold actionsS; split
  · next h => exact h.symm
  · rfl
theorem acts_nil (m : Md) (h : ¬ checkS m = 0) : (actionsS m).1 = [] := by unfold actionsS; rw [if_neg h]
theorem AcEq_self (x : Ac) : AcEq x x = true := by simp [AcEq, CoEq]
theorem sameS_self : ∀ l, sameS l l = true
  | [] => rfl
  | x :: r => by simp [sameS, AcEq_self, sameS_self r]
theorem acts_same (m : Md) (h : checkS m = 0) : sameS (actionsS m).1 (ractionsS m) = true := by rw [acts_eq m h]; exact sameS_self _

set_option maxHeartbeats 4000000 in
theorem modeActs_c (m : Md) (b : Int) (w : World) (hb0 : 0 ≤ b ∧ b ≤ 65535) :
    Calls Try.prog 5 #[.agg (List.toArray [.bool m.ins, .bool m.nl, .bool m.ck, .bool m.inv, .bool m.org, .bool m.aut, .bool m.vis, .bool m.paste, .bool m.focus, .bool m.sync, .bool m.keypad, .int .i64 m.mouse, .bool m.sgr]), .int .u16 b] w (RetV w (.bool true)) := by
  refine enter (F := fun w => True) [] Try.func5 rfl Try.ntmps5 (by simp) Fut.triv rfl ?_
  refine Sc.seq ?_
  refine Sc.region ?_
  refine Seg.chg rfl rfl (Want.none rfl) (C.box rfl) (fun b1 hb1 => ?_)
  refine Seg.y rfl rfl (Want.none rfl) (Y.assign rfl) ?_
  refine Seg.nil ?_
  refine Sx.next ?_
  refine Sc.seq ?_
  refine Sc.seq ?_
  obtain ⟨r2, hr2⟩ : ∃ x, x = ofS b := ⟨_, rfl⟩
  refine Sc.cut (fun (_ : Unit) => True) (fun (_ : Unit) => [(13, .agg (List.toArray [.bool m.ins, .bool m.nl, .bool m.ck, .bool m.inv, .bool m.org, .bool m.aut, .bool m.vis, .bool m.paste, .bool m.focus, .bool m.sync, .bool m.keypad, .int .i64 m.mouse, .bool m.sgr, .bool r2.ins, .bool r2.nl, .bool r2.ck, .bool r2.inv, .bool r2.org, .bool r2.aut, .bool r2.vis, .bool r2.paste, .bool r2.focus, .bool r2.sync, .bool r2.keypad, .int .i64 r2.mouse, .bool r2.sgr])), (14, .int .i64 0)]) (fun (_ : Unit) => []) (fun _ => fun w => True) ?_ ?_
  · skip
    refine Sc.draw (by kernel_rfl) (fun _ h => St.lean [0] (by decide) (fun _ h => h) h rfl) ?_
    refine Sd.take 0 rfl rfl rfl (by kernel_rfl) (by kernel_rfl) (by kernel_rfl) Cut.panic (Want.none rfl) (Y.loadN (vs := [.bool m.ins, .bool m.nl, .bool m.ck, .bool m.inv, .bool m.org, .bool m.aut, .bool m.vis, .bool m.paste, .bool m.focus, .bool m.sync, .bool m.keypad, .int .i64 m.mouse, .bool m.sgr]) 0 rfl rfl rfl rfl ag23 sz23) ?_
    refine Sd.take 1 rfl rfl rfl (by kernel_rfl) (by kernel_rfl) (by kernel_rfl) Cut.panic (Want.none rfl) (Y.move rfl) ?_
    refine Sd.take 4 rfl rfl rfl (by kernel_rfl) (by kernel_rfl) (by kernel_rfl) Cut.panic (Want.none rfl) (Y.move rfl) ?_
    refine Sd.all [2] (by kernel_rfl) (by decide) (all_cons ?_ all_nil)
    refine Sp.callV (v := .agg (List.toArray [.bool r2.ins, .bool r2.nl, .bool r2.ck, .bool r2.inv, .bool r2.org, .bool r2.aut, .bool r2.vis, .bool r2.paste, .bool r2.focus, .bool r2.sync, .bool r2.keypad, .int .i64 r2.mouse, .bool r2.sgr])) rfl rfl rfl (Want.none rfl) (K.func rfl co10) (fun w hs => by rw [hr2]; exact of_c b w (by first | assumption | omega)) ?_
    refine Sd.take 3 rfl rfl rfl (by kernel_rfl) (by kernel_rfl) (by kernel_rfl) Cut.panic (Want.none rfl) (Y.build (v := .agg (List.toArray [.bool m.ins, .bool m.nl, .bool m.ck, .bool m.inv, .bool m.org, .bool m.aut, .bool m.vis, .bool m.paste, .bool m.focus, .bool m.sync, .bool m.keypad, .int .i64 m.mouse, .bool m.sgr, .bool r2.ins, .bool r2.nl, .bool r2.ck, .bool r2.inv, .bool r2.org, .bool r2.aut, .bool r2.vis, .bool r2.paste, .bool r2.focus, .bool r2.sync, .bool r2.keypad, .int .i64 r2.mouse, .bool r2.sgr])) rfl (fun w => by kernel_rfl)) ?_
    refine Sd.done (by kernel_rfl) ?_
    exact Sx.cut () trivial ⟨rfl, rfl, trivial⟩ [] (by decide) rfl (fun _ h => h)
  · intro _ _
    show Sx _ _ _ [(13, .agg (List.toArray [.bool m.ins, .bool m.nl, .bool m.ck, .bool m.inv, .bool m.org, .bool m.aut, .bool m.vis, .bool m.paste, .bool m.focus, .bool m.sync, .bool m.keypad, .int .i64 m.mouse, .bool m.sgr, .bool r2.ins, .bool r2.nl, .bool r2.ck, .bool r2.inv, .bool r2.org, .bool r2.aut, .bool r2.vis, .bool r2.paste, .bool r2.focus, .bool r2.sync, .bool r2.keypad, .int .i64 r2.mouse, .bool r2.sgr])), (14, .int .i64 0)] [] _
    refine Sx.next ?_
    refine Sc.block ?_
    refine Sc.rounds 3 ?_
    refine Sr.succ ?_
    refine Sc.seq ?_
    refine Sc.region ?_
    refine Seg.y rfl rfl (Want.none rfl) (Y.binOp (v := .bool true) rfl rfl (B.lt _ _ _)) ?_
    refine Seg.nil ?_
    refine Sx.next ?_
    refine Sc.seq ?_
    refine Sc.condT rfl rfl ?_
    refine Sc.skip ?_
    refine Sx.next ?_
    refine Sc.seq ?_
    refine Sc.block ?_
    refine Sc.seq ?_
    refine Sc.region ?_
    refine Seg.y rfl rfl (Want.none rfl) (Y.index (v := .agg (List.toArray [.bool m.ins, .bool m.nl, .bool m.ck, .bool m.inv, .bool m.org, .bool m.aut, .bool m.vis, .bool m.paste, .bool m.focus, .bool m.sync, .bool m.keypad, .int .i64 m.mouse, .bool m.sgr])) rfl rfl (fun w => by kernel_rfl)) ?_
    refine Seg.chg rfl rfl (Want.none rfl) (C.alloc zv23 rfl) (fun b3 hb3 => ?_)
    refine Seg.chs rfl (Want.none rfl) (C.store (cs' := [.bool m.ins, .bool m.nl, .bool m.ck, .bool m.inv, .bool m.org, .bool m.aut, .bool m.vis, .bool m.paste, .bool m.focus, .bool m.sync, .bool m.keypad, .int .i64 m.mouse, .bool m.sgr]) (vs := [.bool m.ins, .bool m.nl, .bool m.ck, .bool m.inv, .bool m.org, .bool m.aut, .bool m.vis, .bool m.paste, .bool m.focus, .bool m.sync, .bool m.keypad, .int .i64 m.mouse, .bool m.sgr]) 0 rfl rfl rfl rfl rfl rfl rfl sz23) (fun _ _ => ?_)
    refine Seg.nil ?_
    refine Sx.next ?_
    refine Sc.seq ?_
    refine Sc.region ?_
    refine Seg.y rfl rfl (Want.none rfl) (Y.loadN (vs := [.bool m.ins, .bool m.nl, .bool m.ck, .bool m.inv, .bool m.org, .bool m.aut, .bool m.vis, .bool m.paste, .bool m.focus, .bool m.sync, .bool m.keypad, .int .i64 m.mouse, .bool m.sgr]) 0 rfl rfl rfl rfl ag23 sz23) ?_
    refine Seg.callR (val := fun ((a4, c5) : Option Addr × Nat) => .tuple (List.toArray [.slice a4 ((actionsS m).1.length) c5, .int .i64 ((actionsS m).2)])) (Φ := fun ((a4, c5) : Option Addr × Nat) => fun w => RowV 6 encAc a4 (actionsS m).1 w) rfl rfl (Want.none rfl) (K.func rfl co21) (fun w hs => actions_c m _ w hs.dc_lt   ) (fun ⟨a4, c5⟩ => ?_)
    refine Seg.y rfl rfl (Want.none rfl) (Y.move rfl) ?_
    refine Seg.y rfl rfl (Want.none rfl) (Y.extract rfl rfl) ?_
    refine Seg.y rfl rfl (Want.none rfl) (Y.extract rfl rfl) ?_
    refine Seg.y rfl rfl (Want.none rfl) (Y.assign rfl) ?_
    refine Seg.y rfl rfl (Want.none rfl) (Y.assign rfl) ?_
    refine Seg.nil ?_
    refine Sx.next ?_
    refine Sc.seq ?_
    refine Sc.region ?_
    refine Seg.y rfl rfl (Want.none rfl) (Y.loadN (vs := [.bool m.ins, .bool m.nl, .bool m.ck, .bool m.inv, .bool m.org, .bool m.aut, .bool m.vis, .bool m.paste, .bool m.focus, .bool m.sync, .bool m.keypad, .int .i64 m.mouse, .bool m.sgr]) 0 rfl rfl rfl rfl ag23 sz23) ?_
    obtain ⟨r6, hr6⟩ : ∃ x, x = checkS m := ⟨_, rfl⟩
    refine Seg.callV (v := .int .i64 r6) rfl rfl (Want.none rfl) (K.func rfl co12) (fun w hs => by rw [hr6]; exact rcheck_c m w ) ?_
    refine Seg.y rfl rfl (Want.none rfl) (Y.assign rfl) ?_
    refine Seg.nil ?_
    refine Sx.next ?_
    refine Sc.seq ?_
    obtain ⟨r9, hr9⟩ : ∃ x, x = sameS ((actionsS m).1) (ractionsS m) := ⟨_, rfl⟩
    refine Sc.cut (fun (_ : Unit) => True) (fun (_ : Unit) => [(13, .agg (List.toArray [.bool m.ins, .bool m.nl, .bool m.ck, .bool m.inv, .bool m.org, .bool m.aut, .bool m.vis, .bool m.paste, .bool m.focus, .bool m.sync, .bool m.keypad, .int .i64 m.mouse, .bool m.sgr, .bool r2.ins, .bool r2.nl, .bool r2.ck, .bool r2.inv, .bool r2.org, .bool r2.aut, .bool r2.vis, .bool r2.paste, .bool r2.focus, .bool r2.sync, .bool r2.keypad, .int .i64 r2.mouse, .bool r2.sgr])), (14, .int .i64 0), (46, .bool (((decide ((actionsS m).2 ≠ r6)) || ((decide (r6 ≠ 0)) && (decide ((0 : Int) < ((actionsS m).1.length : Int))))) || ((decide (r6 = 0)) && (!r9))))]) (fun (_ : Unit) => []) (fun _ => fun w => (True) ∧ RowV 6 encAc a4 (actionsS m).1 w) ?_ ?_
    · skip
      refine Sc.region ?_
      refine Seg.y rfl rfl (Want.none rfl) (Y.move rfl) ?_
      refine Seg.y rfl rfl (Want.none rfl) (Y.move rfl) ?_
      refine Seg.y rfl rfl (Want.none rfl) (Y.binOp rfl rfl (B.ne _ _ _)) ?_
      refine Seg.y rfl rfl (Want.none rfl) (Y.move rfl) ?_
      rcases Bool.eq_false_or_eq_true (decide ((actionsS m).2 ≠ r6)) with g10 | g10
      · skip
        have g10p := of_decide_eq_true g10
        refine Seg.skip rfl rfl (Skip.some 3 27 false rfl rfl rfl g10) ?_
        refine Seg.skip rfl rfl (Skip.some 3 27 false rfl rfl rfl g10) ?_
        refine Seg.skip rfl rfl (Skip.some 3 27 false rfl rfl rfl g10) ?_
        refine Seg.skip rfl rfl (Skip.undef 6 30 true rfl rfl rfl) ?_
        refine Seg.skip rfl rfl (Skip.undef 6 30 true rfl rfl rfl) ?_
        refine Seg.skip rfl rfl (Skip.undef 6 30 true rfl rfl rfl) ?_
        refine Seg.skip rfl rfl (Skip.some 3 27 false rfl rfl rfl g10) ?_
        refine Seg.y rfl rfl (Want.none rfl) (Y.pickT rfl g10 rfl) ?_
        refine Seg.y rfl rfl (Want.none rfl) (Y.move rfl) ?_
        refine Seg.skip rfl rfl (Skip.some 12 36 false rfl rfl rfl rfl) ?_
        refine Seg.skip rfl rfl (Skip.some 12 36 false rfl rfl rfl rfl) ?_
        refine Seg.skip rfl rfl (Skip.some 12 36 false rfl rfl rfl rfl) ?_
        refine Seg.skip rfl rfl (Skip.undef 15 39 true rfl rfl rfl) ?_
        refine Seg.skip rfl rfl (Skip.undef 15 39 true rfl rfl rfl) ?_
        refine Seg.skip rfl rfl (Skip.undef 15 39 true rfl rfl rfl) ?_
        refine Seg.skip rfl rfl (Skip.undef 15 39 true rfl rfl rfl) ?_
        refine Seg.skip rfl rfl (Skip.undef 15 39 true rfl rfl rfl) ?_
        refine Seg.skip rfl rfl (Skip.some 12 36 false rfl rfl rfl rfl) ?_
        refine Seg.y rfl rfl (Want.none rfl) (Y.pickT rfl rfl rfl) ?_
        refine Seg.nil ?_
        exact Sx.cut () trivial ⟨rfl, rfl, (someB (by first | (simp [g10, g10p]; done) | (simp_all; done) | ((simp [g10, g10p]) <;> grind))), trivial⟩ [] (by decide) rfl (fun _ h => h)
      · skip
        have g10p : (actionsS m).2 = r6 := by simpa using g10
        refine Seg.y rfl rfl (Want.some 3 27 false rfl rfl rfl g10) (Y.move rfl) ?_
        refine Seg.y rfl rfl (Want.some 3 27 false rfl rfl rfl g10) (Y.binOp rfl rfl (B.ne _ _ _)) ?_
        refine Seg.y rfl rfl (Want.some 3 27 false rfl rfl rfl g10) (Y.move rfl) ?_
        rcases Bool.eq_false_or_eq_true (decide (r6 ≠ 0)) with g11 | g11
        · skip
          have g11p := of_decide_eq_true g11
          refine Seg.y rfl rfl (Want.some 6 30 true rfl rfl rfl g11) (Y.move rfl) ?_
          refine Seg.y rfl rfl (Want.some 6 30 true rfl rfl rfl g11) (Y.bi rfl (fun w _ => run_len rfl Try.underlying44 w)) ?_
          refine Seg.y rfl rfl (Want.some 6 30 true rfl rfl rfl g11) (Y.binOp rfl rfl (B.gt _ _ _)) ?_
          refine Seg.y rfl rfl (Want.some 3 27 false rfl rfl rfl g10) (Y.pickT rfl g11 rfl) ?_
          refine Seg.y rfl rfl (Want.none rfl) (Y.pickF rfl g10 rfl) ?_
          refine Seg.y rfl rfl (Want.none rfl) (Y.move rfl) ?_
          rcases Bool.eq_false_or_eq_true (decide ((0 : Int) < ((actionsS m).1.length : Int))) with g12 | g12
          · skip
            have g12p := of_decide_eq_true g12
            refine Seg.skip rfl rfl (Skip.some 12 36 false rfl rfl rfl g12) ?_
            refine Seg.skip rfl rfl (Skip.some 12 36 false rfl rfl rfl g12) ?_
            refine Seg.skip rfl rfl (Skip.some 12 36 false rfl rfl rfl g12) ?_
            refine Seg.skip rfl rfl (Skip.undef 15 39 true rfl rfl rfl) ?_
            refine Seg.skip rfl rfl (Skip.undef 15 39 true rfl rfl rfl) ?_
            refine Seg.skip rfl rfl (Skip.undef 15 39 true rfl rfl rfl) ?_
            refine Seg.skip rfl rfl (Skip.undef 15 39 true rfl rfl rfl) ?_
            refine Seg.skip rfl rfl (Skip.undef 15 39 true rfl rfl rfl) ?_
            refine Seg.skip rfl rfl (Skip.some 12 36 false rfl rfl rfl g12) ?_
            refine Seg.y rfl rfl (Want.none rfl) (Y.pickT rfl g12 rfl) ?_
            refine Seg.nil ?_
            exact Sx.cut () trivial ⟨rfl, rfl, (someB (by first | (simp [g10, g10p, g11, g11p, g12, g12p]; done) | (simp_all; done) | ((simp [g10, g10p, g11, g11p, g12, g12p]) <;> grind))), trivial⟩ [] (by decide) rfl (fun _ h => h)
          · skip
            have g12p := of_decide_eq_false g12
            refine Seg.y rfl rfl (Want.some 12 36 false rfl rfl rfl g12) (Y.move rfl) ?_
            refine Seg.y rfl rfl (Want.some 12 36 false rfl rfl rfl g12) (Y.binOp rfl rfl (B.eq _ _ _)) ?_
            refine Seg.y rfl rfl (Want.some 12 36 false rfl rfl rfl g12) (Y.move rfl) ?_
            rcases Bool.eq_false_or_eq_true (decide (r6 = 0)) with g13 | g13
            · skip
              have g13p := of_decide_eq_true g13
              refine Seg.y rfl rfl (Want.some 15 39 true rfl rfl rfl g13) (Y.move rfl) ?_
              refine Seg.y rfl rfl (Want.some 15 39 true rfl rfl rfl g13) (Y.loadN (vs := [.bool m.ins, .bool m.nl, .bool m.ck, .bool m.inv, .bool m.org, .bool m.aut, .bool m.vis, .bool m.paste, .bool m.focus, .bool m.sync, .bool m.keypad, .int .i64 m.mouse, .bool m.sgr]) 0 rfl rfl rfl rfl ag23 sz23) ?_
              refine Seg.callR (val := fun ((a14, c15) : Option Addr × Nat) => .slice a14 ((ractionsS m).length) c15) (Φ := fun ((a14, c15) : Option Addr × Nat) => fun w => RowV 6 encAc a14 (ractionsS m) w) rfl rfl (Want.some 15 39 true rfl rfl rfl g13) (K.func rfl co23) (fun w hs => ractions_c m _ w hs.dc_lt   ) (fun ⟨a14, c15⟩ => ?_)
              refine Seg.callV (v := .bool r9) rfl rfl (Want.some 15 39 true rfl rfl rfl g13) (K.func rfl co22) (fun w hs => by rw [hr9]; exact same_c a4 c5 ((actionsS m).1) a14 c15 (ractionsS m) _ w hs.dc_lt (hs.fut.mono fun w h => ⟨h.1.2, h.2⟩) (by first | omega | exact actions_len _ | exact ractions_len _ | (simp; done) | (simp; omega)) (by first | omega | exact actions_len _ | exact ractions_len _ | (simp; done) | (simp; omega)) ) ?_
              refine Seg.y rfl rfl (Want.some 15 39 true rfl rfl rfl g13) (Y.unOp rfl (U.not _)) ?_
              refine Seg.y rfl rfl (Want.some 12 36 false rfl rfl rfl g12) (Y.pickT rfl g13 rfl) ?_
              refine Seg.y rfl rfl (Want.none rfl) (Y.pickF rfl g12 rfl) ?_
              refine Seg.nil ?_
              exact Sx.cut () trivial ⟨rfl, rfl, (someB (by first | (simp [g10, g10p, g11, g11p, g12, g12p, g13, g13p]; done) | (simp_all; done) | ((simp [g10, g10p, g11, g11p, g12, g12p, g13, g13p]) <;> grind))), trivial⟩ [] (by decide) rfl (fun _ h => h.1)
            · skip
              have g13p := of_decide_eq_false g13
              refine Seg.skip rfl rfl (Skip.some 15 39 true rfl rfl rfl g13) ?_
              refine Seg.skip rfl rfl (Skip.some 15 39 true rfl rfl rfl g13) ?_
              refine Seg.skip rfl rfl (Skip.some 15 39 true rfl rfl rfl g13) ?_
              refine Seg.skip rfl rfl (Skip.some 15 39 true rfl rfl rfl g13) ?_
              refine Seg.skip rfl rfl (Skip.some 15 39 true rfl rfl rfl g13) ?_
              refine Seg.y rfl rfl (Want.some 12 36 false rfl rfl rfl g12) (Y.pickF rfl g13 rfl) ?_
              refine Seg.y rfl rfl (Want.none rfl) (Y.pickF rfl g12 rfl) ?_
              refine Seg.nil ?_
              exact Sx.cut () trivial ⟨rfl, rfl, (someB (by first | (simp [g10, g10p, g11, g11p, g12, g12p, g13, g13p]; done) | (simp_all; done) | ((simp [g10, g10p, g11, g11p, g12, g12p, g13, g13p]) <;> grind))), trivial⟩ [] (by decide) rfl (fun _ h => h)
        · skip
          have g11p : r6 = 0 := by simpa using g11
          refine Seg.skip rfl rfl (Skip.some 6 30 true rfl rfl rfl g11) ?_
          refine Seg.skip rfl rfl (Skip.some 6 30 true rfl rfl rfl g11) ?_
          refine Seg.skip rfl rfl (Skip.some 6 30 true rfl rfl rfl g11) ?_
          refine Seg.y rfl rfl (Want.some 3 27 false rfl rfl rfl g10) (Y.pickF rfl g11 rfl) ?_
          refine Seg.y rfl rfl (Want.none rfl) (Y.pickF rfl g10 rfl) ?_
          refine Seg.y rfl rfl (Want.none rfl) (Y.move rfl) ?_
          refine Seg.y rfl rfl (Want.some 12 36 false rfl rfl rfl rfl) (Y.move rfl) ?_
          refine Seg.y rfl rfl (Want.some 12 36 false rfl rfl rfl rfl) (Y.binOp rfl rfl (B.eq _ _ _)) ?_
          refine Seg.y rfl rfl (Want.some 12 36 false rfl rfl rfl rfl) (Y.move rfl) ?_
          rcases Bool.eq_false_or_eq_true (decide (r6 = 0)) with g16 | g16
          · skip
            have g16p := of_decide_eq_true g16
            refine Seg.y rfl rfl (Want.some 15 39 true rfl rfl rfl g16) (Y.move rfl) ?_
            refine Seg.y rfl rfl (Want.some 15 39 true rfl rfl rfl g16) (Y.loadN (vs := [.bool m.ins, .bool m.nl, .bool m.ck, .bool m.inv, .bool m.org, .bool m.aut, .bool m.vis, .bool m.paste, .bool m.focus, .bool m.sync, .bool m.keypad, .int .i64 m.mouse, .bool m.sgr]) 0 rfl rfl rfl rfl ag23 sz23) ?_
            refine Seg.callR (val := fun ((a17, c18) : Option Addr × Nat) => .slice a17 ((ractionsS m).length) c18) (Φ := fun ((a17, c18) : Option Addr × Nat) => fun w => RowV 6 encAc a17 (ractionsS m) w) rfl rfl (Want.some 15 39 true rfl rfl rfl g16) (K.func rfl co23) (fun w hs => ractions_c m _ w hs.dc_lt   ) (fun ⟨a17, c18⟩ => ?_)
            refine Seg.callV (v := .bool r9) rfl rfl (Want.some 15 39 true rfl rfl rfl g16) (K.func rfl co22) (fun w hs => by rw [hr9]; exact same_c a4 c5 ((actionsS m).1) a17 c18 (ractionsS m) _ w hs.dc_lt (hs.fut.mono fun w h => ⟨h.1.2, h.2⟩) (by first | omega | exact actions_len _ | exact ractions_len _ | (simp; done) | (simp; omega)) (by first | omega | exact actions_len _ | exact ractions_len _ | (simp; done) | (simp; omega)) ) ?_
            refine Seg.y rfl rfl (Want.some 15 39 true rfl rfl rfl g16) (Y.unOp rfl (U.not _)) ?_
            refine Seg.y rfl rfl (Want.some 12 36 false rfl rfl rfl rfl) (Y.pickT rfl g16 rfl) ?_
            refine Seg.y rfl rfl (Want.none rfl) (Y.pickF rfl rfl rfl) ?_
            refine Seg.nil ?_
            exact Sx.cut () trivial ⟨rfl, rfl, (someB (by first | (simp [g10, g10p, g11, g11p, g16, g16p]; done) | (simp_all; done) | ((simp [g10, g10p, g11, g11p, g16, g16p]) <;> grind))), trivial⟩ [] (by decide) rfl (fun _ h => h.1)
          · skip
            have g16p := of_decide_eq_false g16
            refine Seg.skip rfl rfl (Skip.some 15 39 true rfl rfl rfl g16) ?_
            refine Seg.skip rfl rfl (Skip.some 15 39 true rfl rfl rfl g16) ?_
            refine Seg.skip rfl rfl (Skip.some 15 39 true rfl rfl rfl g16) ?_
            refine Seg.skip rfl rfl (Skip.some 15 39 true rfl rfl rfl g16) ?_
            refine Seg.skip rfl rfl (Skip.some 15 39 true rfl rfl rfl g16) ?_
            refine Seg.y rfl rfl (Want.some 12 36 false rfl rfl rfl rfl) (Y.pickF rfl g16 rfl) ?_
            refine Seg.y rfl rfl (Want.none rfl) (Y.pickF rfl rfl rfl) ?_
            refine Seg.nil ?_
            exact Sx.cut () trivial ⟨rfl, rfl, (someB (by first | (simp [g10, g10p, g11, g11p, g16, g16p]; done) | (simp_all; done) | ((simp [g10, g10p, g11, g11p, g16, g16p]) <;> grind))), trivial⟩ [] (by decide) rfl (fun _ h => h)
    · intro _ _
      show Sx _ _ _ [(13, .agg (List.toArray [.bool m.ins, .bool m.nl, .bool m.ck, .bool m.inv, .bool m.org, .bool m.aut, .bool m.vis, .bool m.paste, .bool m.focus, .bool m.sync, .bool m.keypad, .int .i64 m.mouse, .bool m.sgr, .bool r2.ins, .bool r2.nl, .bool r2.ck, .bool r2.inv, .bool r2.org, .bool r2.aut, .bool r2.vis, .bool r2.paste, .bool r2.focus, .bool r2.sync, .bool r2.keypad, .int .i64 r2.mouse, .bool r2.sgr])), (14, .int .i64 0), (46, .bool (((decide ((actionsS m).2 ≠ r6)) || ((decide (r6 ≠ 0)) && (decide ((0 : Int) < ((actionsS m).1.length : Int))))) || ((decide (r6 = 0)) && (!r9))))] [] _
      refine Sx.next ?_
      refine Sc.cond rfl (fun h19 => ?_) (fun h19 => ?_)
      · skip
        refine Sc.seq ?_
        refine Sc.region ?_
        refine Seg.y rfl rfl (Want.none rfl) (Y.assign rfl) ?_
        refine Seg.nil ?_
        refine Sx.next ?_
        refine Sc.ret ?_
        refine Sx.block_ret ?_
        refine Sx.next_ret ?_
        refine Sx.loop_ret ?_
        refine Sx.block_ret ?_
        refine Sx.next_ret ?_
        refine Sx.body (.inl rfl) (res1 rfl (Rv.tmp rfl)) (fun w hs => ?_)
        refine RetV.eq ?_ hs
        subst hr2
        subst hr6
        subst hr9
        exfalso; simp_all [actions_snd, acts_same, acts_nil, MdEq_self, MdEq_zero] <;> grind [acts_nil, acts_same]
      · skip
        refine Sc.skip ?_
        refine Sx.block_normal ?_
        refine Sx.next ?_
        refine Sc.region ?_
        refine Seg.y rfl rfl (Want.none rfl) (Y.binOp rfl rfl (B.add _ _ _ 1 (by decide))) ?_
        refine Seg.y rfl rfl (Want.none rfl) (Y.move rfl) ?_
        refine Seg.nil ?_
        refine Sx.round ?_
        refine Sr.succ ?_
        refine Sc.seq ?_
        refine Sc.region ?_
        refine Seg.y rfl rfl (Want.none rfl) (Y.binOp (v := .bool true) rfl rfl (B.lt _ _ _)) ?_
        refine Seg.nil ?_
        refine Sx.next ?_
        refine Sc.seq ?_
        refine Sc.condT rfl rfl ?_
        refine Sc.skip ?_
        refine Sx.next ?_
        refine Sc.seq ?_
        refine Sc.block ?_
        refine Sc.seq ?_
        refine Sc.region ?_
        refine Seg.y rfl rfl (Want.none rfl) (Y.index (v := .agg (List.toArray [.bool r2.ins, .bool r2.nl, .bool r2.ck, .bool r2.inv, .bool r2.org, .bool r2.aut, .bool r2.vis, .bool r2.paste, .bool r2.focus, .bool r2.sync, .bool r2.keypad, .int .i64 r2.mouse, .bool r2.sgr])) rfl rfl (fun w => by kernel_rfl)) ?_
        refine Seg.chg rfl rfl (Want.none rfl) (C.alloc zv23 rfl) (fun b20 hb20 => ?_)
        refine Seg.chs rfl (Want.none rfl) (C.store (cs' := [.bool r2.ins, .bool r2.nl, .bool r2.ck, .bool r2.inv, .bool r2.org, .bool r2.aut, .bool r2.vis, .bool r2.paste, .bool r2.focus, .bool r2.sync, .bool r2.keypad, .int .i64 r2.mouse, .bool r2.sgr]) (vs := [.bool r2.ins, .bool r2.nl, .bool r2.ck, .bool r2.inv, .bool r2.org, .bool r2.aut, .bool r2.vis, .bool r2.paste, .bool r2.focus, .bool r2.sync, .bool r2.keypad, .int .i64 r2.mouse, .bool r2.sgr]) 0 rfl rfl rfl rfl rfl rfl rfl sz23) (fun _ _ => ?_)
        refine Seg.nil ?_
        refine Sx.next ?_
        refine Sc.seq ?_
        refine Sc.region ?_
        refine Seg.y rfl rfl (Want.none rfl) (Y.loadN (vs := [.bool r2.ins, .bool r2.nl, .bool r2.ck, .bool r2.inv, .bool r2.org, .bool r2.aut, .bool r2.vis, .bool r2.paste, .bool r2.focus, .bool r2.sync, .bool r2.keypad, .int .i64 r2.mouse, .bool r2.sgr]) 0 rfl rfl rfl rfl ag23 sz23) ?_
        refine Seg.callR (val := fun ((a21, c22) : Option Addr × Nat) => .tuple (List.toArray [.slice a21 ((actionsS r2).1.length) c22, .int .i64 ((actionsS r2).2)])) (Φ := fun ((a21, c22) : Option Addr × Nat) => fun w => RowV 6 encAc a21 (actionsS r2).1 w) rfl rfl (Want.none rfl) (K.func rfl co21) (fun w hs => actions_c r2 _ w hs.dc_lt   ) (fun ⟨a21, c22⟩ => ?_)
        refine Seg.y rfl rfl (Want.none rfl) (Y.move rfl) ?_
        refine Seg.y rfl rfl (Want.none rfl) (Y.extract rfl rfl) ?_
        refine Seg.y rfl rfl (Want.none rfl) (Y.extract rfl rfl) ?_
        refine Seg.y rfl rfl (Want.none rfl) (Y.assign rfl) ?_
        refine Seg.y rfl rfl (Want.none rfl) (Y.assign rfl) ?_
        refine Seg.nil ?_
        refine Sx.next ?_
        refine Sc.seq ?_
        refine Sc.region ?_
        refine Seg.y rfl rfl (Want.none rfl) (Y.loadN (vs := [.bool r2.ins, .bool r2.nl, .bool r2.ck, .bool r2.inv, .bool r2.org, .bool r2.aut, .bool r2.vis, .bool r2.paste, .bool r2.focus, .bool r2.sync, .bool r2.keypad, .int .i64 r2.mouse, .bool r2.sgr]) 0 rfl rfl rfl rfl ag23 sz23) ?_
        obtain ⟨r23, hr23⟩ : ∃ x, x = checkS r2 := ⟨_, rfl⟩
        refine Seg.callV (v := .int .i64 r23) rfl rfl (Want.none rfl) (K.func rfl co12) (fun w hs => by rw [hr23]; exact rcheck_c r2 w ) ?_
        refine Seg.y rfl rfl (Want.none rfl) (Y.assign rfl) ?_
        refine Seg.nil ?_
        refine Sx.next ?_
        refine Sc.seq ?_
        obtain ⟨r26, hr26⟩ : ∃ x, x = sameS ((actionsS r2).1) (ractionsS r2) := ⟨_, rfl⟩
        refine Sc.cut (fun (_ : Unit) => True) (fun (_ : Unit) => [(13, .agg (List.toArray [.bool m.ins, .bool m.nl, .bool m.ck, .bool m.inv, .bool m.org, .bool m.aut, .bool m.vis, .bool m.paste, .bool m.focus, .bool m.sync, .bool m.keypad, .int .i64 m.mouse, .bool m.sgr, .bool r2.ins, .bool r2.nl, .bool r2.ck, .bool r2.inv, .bool r2.org, .bool r2.aut, .bool r2.vis, .bool r2.paste, .bool r2.focus, .bool r2.sync, .bool r2.keypad, .int .i64 r2.mouse, .bool r2.sgr])), (14, .int .i64 1), (46, .bool (((decide ((actionsS r2).2 ≠ r23)) || ((decide (r23 ≠ 0)) && (decide ((0 : Int) < ((actionsS r2).1.length : Int))))) || ((decide (r23 = 0)) && (!r26))))]) (fun (_ : Unit) => []) (fun _ => fun w => ((True) ∧ RowV 6 encAc a4 (actionsS m).1 w) ∧ RowV 6 encAc a21 (actionsS r2).1 w) ?_ ?_
        · skip
          refine Sc.region ?_
          refine Seg.y rfl rfl (Want.none rfl) (Y.move rfl) ?_
          refine Seg.y rfl rfl (Want.none rfl) (Y.move rfl) ?_
          refine Seg.y rfl rfl (Want.none rfl) (Y.binOp rfl rfl (B.ne _ _ _)) ?_
          refine Seg.y rfl rfl (Want.none rfl) (Y.move rfl) ?_
          rcases Bool.eq_false_or_eq_true (decide ((actionsS r2).2 ≠ r23)) with g27 | g27
          · skip
            have g27p := of_decide_eq_true g27
            refine Seg.skip rfl rfl (Skip.some 3 27 false rfl rfl rfl g27) ?_
            refine Seg.skip rfl rfl (Skip.some 3 27 false rfl rfl rfl g27) ?_
            refine Seg.skip rfl rfl (Skip.some 3 27 false rfl rfl rfl g27) ?_
            refine Seg.skip rfl rfl (Skip.undef 6 30 true rfl rfl rfl) ?_
            refine Seg.skip rfl rfl (Skip.undef 6 30 true rfl rfl rfl) ?_
            refine Seg.skip rfl rfl (Skip.undef 6 30 true rfl rfl rfl) ?_
            refine Seg.skip rfl rfl (Skip.some 3 27 false rfl rfl rfl g27) ?_
            refine Seg.y rfl rfl (Want.none rfl) (Y.pickT rfl g27 rfl) ?_
            refine Seg.y rfl rfl (Want.none rfl) (Y.move rfl) ?_
            refine Seg.skip rfl rfl (Skip.some 12 36 false rfl rfl rfl rfl) ?_
            refine Seg.skip rfl rfl (Skip.some 12 36 false rfl rfl rfl rfl) ?_
            refine Seg.skip rfl rfl (Skip.some 12 36 false rfl rfl rfl rfl) ?_
            refine Seg.skip rfl rfl (Skip.undef 15 39 true rfl rfl rfl) ?_
            refine Seg.skip rfl rfl (Skip.undef 15 39 true rfl rfl rfl) ?_
            refine Seg.skip rfl rfl (Skip.undef 15 39 true rfl rfl rfl) ?_
            refine Seg.skip rfl rfl (Skip.undef 15 39 true rfl rfl rfl) ?_
            refine Seg.skip rfl rfl (Skip.undef 15 39 true rfl rfl rfl) ?_
            refine Seg.skip rfl rfl (Skip.some 12 36 false rfl rfl rfl rfl) ?_
            refine Seg.y rfl rfl (Want.none rfl) (Y.pickT rfl rfl rfl) ?_
            refine Seg.nil ?_
            exact Sx.cut () trivial ⟨rfl, rfl, (someB (by first | (simp [h19, g27, g27p]; done) | (simp_all; done) | ((simp [h19, g27, g27p]) <;> grind))), trivial⟩ [] (by decide) rfl (fun _ h => h)
          · skip
            have g27p : (actionsS r2).2 = r23 := by simpa using g27
            refine Seg.y rfl rfl (Want.some 3 27 false rfl rfl rfl g27) (Y.move rfl) ?_
            refine Seg.y rfl rfl (Want.some 3 27 false rfl rfl rfl g27) (Y.binOp rfl rfl (B.ne _ _ _)) ?_
            refine Seg.y rfl rfl (Want.some 3 27 false rfl rfl rfl g27) (Y.move rfl) ?_
            rcases Bool.eq_false_or_eq_true (decide (r23 ≠ 0)) with g28 | g28
            · skip
              have g28p := of_decide_eq_true g28
              refine Seg.y rfl rfl (Want.some 6 30 true rfl rfl rfl g28) (Y.move rfl) ?_
              refine Seg.y rfl rfl (Want.some 6 30 true rfl rfl rfl g28) (Y.bi rfl (fun w _ => run_len rfl Try.underlying44 w)) ?_
              refine Seg.y rfl rfl (Want.some 6 30 true rfl rfl rfl g28) (Y.binOp rfl rfl (B.gt _ _ _)) ?_
              refine Seg.y rfl rfl (Want.some 3 27 false rfl rfl rfl g27) (Y.pickT rfl g28 rfl) ?_
              refine Seg.y rfl rfl (Want.none rfl) (Y.pickF rfl g27 rfl) ?_
              refine Seg.y rfl rfl (Want.none rfl) (Y.move rfl) ?_
              rcases Bool.eq_false_or_eq_true (decide ((0 : Int) < ((actionsS r2).1.length : Int))) with g29 | g29
              · skip
                have g29p := of_decide_eq_true g29
                refine Seg.skip rfl rfl (Skip.some 12 36 false rfl rfl rfl g29) ?_
                refine Seg.skip rfl rfl (Skip.some 12 36 false rfl rfl rfl g29) ?_
                refine Seg.skip rfl rfl (Skip.some 12 36 false rfl rfl rfl g29) ?_
                refine Seg.skip rfl rfl (Skip.undef 15 39 true rfl rfl rfl) ?_
                refine Seg.skip rfl rfl (Skip.undef 15 39 true rfl rfl rfl) ?_
                refine Seg.skip rfl rfl (Skip.undef 15 39 true rfl rfl rfl) ?_
                refine Seg.skip rfl rfl (Skip.undef 15 39 true rfl rfl rfl) ?_
                refine Seg.skip rfl rfl (Skip.undef 15 39 true rfl rfl rfl) ?_
                refine Seg.skip rfl rfl (Skip.some 12 36 false rfl rfl rfl g29) ?_
                refine Seg.y rfl rfl (Want.none rfl) (Y.pickT rfl g29 rfl) ?_
                refine Seg.nil ?_
                exact Sx.cut () trivial ⟨rfl, rfl, (someB (by first | (simp [h19, g27, g27p, g28, g28p, g29, g29p]; done) | (simp_all; done) | ((simp [h19, g27, g27p, g28, g28p, g29, g29p]) <;> grind))), trivial⟩ [] (by decide) rfl (fun _ h => h)
              · skip
                have g29p := of_decide_eq_false g29
                refine Seg.y rfl rfl (Want.some 12 36 false rfl rfl rfl g29) (Y.move rfl) ?_
                refine Seg.y rfl rfl (Want.some 12 36 false rfl rfl rfl g29) (Y.binOp rfl rfl (B.eq _ _ _)) ?_
                refine Seg.y rfl rfl (Want.some 12 36 false rfl rfl rfl g29) (Y.move rfl) ?_
                rcases Bool.eq_false_or_eq_true (decide (r23 = 0)) with g30 | g30
                · skip
                  have g30p := of_decide_eq_true g30
                  refine Seg.y rfl rfl (Want.some 15 39 true rfl rfl rfl g30) (Y.move rfl) ?_
                  refine Seg.y rfl rfl (Want.some 15 39 true rfl rfl rfl g30) (Y.loadN (vs := [.bool r2.ins, .bool r2.nl, .bool r2.ck, .bool r2.inv, .bool r2.org, .bool r2.aut, .bool r2.vis, .bool r2.paste, .bool r2.focus, .bool r2.sync, .bool r2.keypad, .int .i64 r2.mouse, .bool r2.sgr]) 0 rfl rfl rfl rfl ag23 sz23) ?_
                  refine Seg.callR (val := fun ((a31, c32) : Option Addr × Nat) => .slice a31 ((ractionsS r2).length) c32) (Φ := fun ((a31, c32) : Option Addr × Nat) => fun w => RowV 6 encAc a31 (ractionsS r2) w) rfl rfl (Want.some 15 39 true rfl rfl rfl g30) (K.func rfl co23) (fun w hs => ractions_c r2 _ w hs.dc_lt   ) (fun ⟨a31, c32⟩ => ?_)
                  refine Seg.callV (v := .bool r26) rfl rfl (Want.some 15 39 true rfl rfl rfl g30) (K.func rfl co22) (fun w hs => by rw [hr26]; exact same_c a21 c22 ((actionsS r2).1) a31 c32 (ractionsS r2) _ w hs.dc_lt (hs.fut.mono fun w h => ⟨h.1.2, h.2⟩) (by first | omega | exact actions_len _ | exact ractions_len _ | (simp; done) | (simp; omega)) (by first | omega | exact actions_len _ | exact ractions_len _ | (simp; done) | (simp; omega)) ) ?_
                  refine Seg.y rfl rfl (Want.some 15 39 true rfl rfl rfl g30) (Y.unOp rfl (U.not _)) ?_
                  refine Seg.y rfl rfl (Want.some 12 36 false rfl rfl rfl g29) (Y.pickT rfl g30 rfl) ?_
                  refine Seg.y rfl rfl (Want.none rfl) (Y.pickF rfl g29 rfl) ?_
                  refine Seg.nil ?_
                  exact Sx.cut () trivial ⟨rfl, rfl, (someB (by first | (simp [h19, g27, g27p, g28, g28p, g29, g29p, g30, g30p]; done) | (simp_all; done) | ((simp [h19, g27, g27p, g28, g28p, g29, g29p, g30, g30p]) <;> grind))), trivial⟩ [] (by decide) rfl (fun _ h => h.1)
                · skip
                  have g30p := of_decide_eq_false g30
                  refine Seg.skip rfl rfl (Skip.some 15 39 true rfl rfl rfl g30) ?_
                  refine Seg.skip rfl rfl (Skip.some 15 39 true rfl rfl rfl g30) ?_
                  refine Seg.skip rfl rfl (Skip.some 15 39 true rfl rfl rfl g30) ?_
                  refine Seg.skip rfl rfl (Skip.some 15 39 true rfl rfl rfl g30) ?_
                  refine Seg.skip rfl rfl (Skip.some 15 39 true rfl rfl rfl g30) ?_
                  refine Seg.y rfl rfl (Want.some 12 36 false rfl rfl rfl g29) (Y.pickF rfl g30 rfl) ?_
                  refine Seg.y rfl rfl (Want.none rfl) (Y.pickF rfl g29 rfl) ?_
                  refine Seg.nil ?_
                  exact Sx.cut () trivial ⟨rfl, rfl, (someB (by first | (simp [h19, g27, g27p, g28, g28p, g29, g29p, g30, g30p]; done) | (simp_all; done) | ((simp [h19, g27, g27p, g28, g28p, g29, g29p, g30, g30p]) <;> grind))), trivial⟩ [] (by decide) rfl (fun _ h => h)
            · skip
              have g28p : r23 = 0 := by simpa using g28
              refine Seg.skip rfl rfl (Skip.some 6 30 true rfl rfl rfl g28) ?_
              refine Seg.skip rfl rfl (Skip.some 6 30 true rfl rfl rfl g28) ?_
              refine Seg.skip rfl rfl (Skip.some 6 30 true rfl rfl rfl g28) ?_
              refine Seg.y rfl rfl (Want.some 3 27 false rfl rfl rfl g27) (Y.pickF rfl g28 rfl) ?_
              refine Seg.y rfl rfl (Want.none rfl) (Y.pickF rfl g27 rfl) ?_
              refine Seg.y rfl rfl (Want.none rfl) (Y.move rfl) ?_
              refine Seg.y rfl rfl (Want.some 12 36 false rfl rfl rfl rfl) (Y.move rfl) ?_
              refine Seg.y rfl rfl (Want.some 12 36 false rfl rfl rfl rfl) (Y.binOp rfl rfl (B.eq _ _ _)) ?_
              refine Seg.y rfl rfl (Want.some 12 36 false rfl rfl rfl rfl) (Y.move rfl) ?_
              rcases Bool.eq_false_or_eq_true (decide (r23 = 0)) with g33 | g33
              · skip
                have g33p := of_decide_eq_true g33
                refine Seg.y rfl rfl (Want.some 15 39 true rfl rfl rfl g33) (Y.move rfl) ?_
                refine Seg.y rfl rfl (Want.some 15 39 true rfl rfl rfl g33) (Y.loadN (vs := [.bool r2.ins, .bool r2.nl, .bool r2.ck, .bool r2.inv, .bool r2.org, .bool r2.aut, .bool r2.vis, .bool r2.paste, .bool r2.focus, .bool r2.sync, .bool r2.keypad, .int .i64 r2.mouse, .bool r2.sgr]) 0 rfl rfl rfl rfl ag23 sz23) ?_
                refine Seg.callR (val := fun ((a34, c35) : Option Addr × Nat) => .slice a34 ((ractionsS r2).length) c35) (Φ := fun ((a34, c35) : Option Addr × Nat) => fun w => RowV 6 encAc a34 (ractionsS r2) w) rfl rfl (Want.some 15 39 true rfl rfl rfl g33) (K.func rfl co23) (fun w hs => ractions_c r2 _ w hs.dc_lt   ) (fun ⟨a34, c35⟩ => ?_)
                refine Seg.callV (v := .bool r26) rfl rfl (Want.some 15 39 true rfl rfl rfl g33) (K.func rfl co22) (fun w hs => by rw [hr26]; exact same_c a21 c22 ((actionsS r2).1) a34 c35 (ractionsS r2) _ w hs.dc_lt (hs.fut.mono fun w h => ⟨h.1.2, h.2⟩) (by first | omega | exact actions_len _ | exact ractions_len _ | (simp; done) | (simp; omega)) (by first | omega | exact actions_len _ | exact ractions_len _ | (simp; done) | (simp; omega)) ) ?_
                refine Seg.y rfl rfl (Want.some 15 39 true rfl rfl rfl g33) (Y.unOp rfl (U.not _)) ?_
                refine Seg.y rfl rfl (Want.some 12 36 false rfl rfl rfl rfl) (Y.pickT rfl g33 rfl) ?_
                refine Seg.y rfl rfl (Want.none rfl) (Y.pickF rfl rfl rfl) ?_
                refine Seg.nil ?_
                exact Sx.cut () trivial ⟨rfl, rfl, (someB (by first | (simp [h19, g27, g27p, g28, g28p, g33, g33p]; done) | (simp_all; done) | ((simp [h19, g27, g27p, g28, g28p, g33, g33p]) <;> grind))), trivial⟩ [] (by decide) rfl (fun _ h => h.1)
              · skip
                have g33p := of_decide_eq_false g33
                refine Seg.skip rfl rfl (Skip.some 15 39 true rfl rfl rfl g33) ?_
                refine Seg.skip rfl rfl (Skip.some 15 39 true rfl rfl rfl g33) ?_
                refine Seg.skip rfl rfl (Skip.some 15 39 true rfl rfl rfl g33) ?_
                refine Seg.skip rfl rfl (Skip.some 15 39 true rfl rfl rfl g33) ?_
                refine Seg.skip rfl rfl (Skip.some 15 39 true rfl rfl rfl g33) ?_
                refine Seg.y rfl rfl (Want.some 12 36 false rfl rfl rfl rfl) (Y.pickF rfl g33 rfl) ?_
                refine Seg.y rfl rfl (Want.none rfl) (Y.pickF rfl rfl rfl) ?_
                refine Seg.nil ?_
                exact Sx.cut () trivial ⟨rfl, rfl, (someB (by first | (simp [h19, g27, g27p, g28, g28p, g33, g33p]; done) | (simp_all; done) | ((simp [h19, g27, g27p, g28, g28p, g33, g33p]) <;> grind))), trivial⟩ [] (by decide) rfl (fun _ h => h)
        · intro _ _
          show Sx _ _ _ [(13, .agg (List.toArray [.bool m.ins, .bool m.nl, .bool m.ck, .bool m.inv, .bool m.org, .bool m.aut, .bool m.vis, .bool m.paste, .bool m.focus, .bool m.sync, .bool m.keypad, .int .i64 m.mouse, .bool m.sgr, .bool r2.ins, .bool r2.nl, .bool r2.ck, .bool r2.inv, .bool r2.org, .bool r2.aut, .bool r2.vis, .bool r2.paste, .bool r2.focus, .bool r2.sync, .bool r2.keypad, .int .i64 r2.mouse, .bool r2.sgr])), (14, .int .i64 1), (46, .bool (((decide ((actionsS r2).2 ≠ r23)) || ((decide (r23 ≠ 0)) && (decide ((0 : Int) < ((actionsS r2).1.length : Int))))) || ((decide (r23 = 0)) && (!r26))))] [] _
          refine Sx.next ?_
          refine Sc.cond rfl (fun h36 => ?_) (fun h36 => ?_)
          · skip
            refine Sc.seq ?_
            refine Sc.region ?_
            refine Seg.y rfl rfl (Want.none rfl) (Y.assign rfl) ?_
            refine Seg.nil ?_
            refine Sx.next ?_
            refine Sc.ret ?_
            refine Sx.block_ret ?_
            refine Sx.next_ret ?_
            refine Sx.loop_ret ?_
            refine Sx.block_ret ?_
            refine Sx.next_ret ?_
            refine Sx.body (.inl rfl) (res1 rfl (Rv.tmp rfl)) (fun w hs => ?_)
            refine RetV.eq ?_ hs
            subst hr2
            subst hr6
            subst hr9
            subst hr23
            subst hr26
            exfalso; simp_all [actions_snd, acts_same, acts_nil, MdEq_self, MdEq_zero] <;> grind [acts_nil, acts_same]
          · skip
            refine Sc.skip ?_
            refine Sx.block_normal ?_
            refine Sx.next ?_
            refine Sc.region ?_
            refine Seg.y rfl rfl (Want.none rfl) (Y.binOp rfl rfl (B.add _ _ _ 2 (by decide))) ?_
            refine Seg.y rfl rfl (Want.none rfl) (Y.move rfl) ?_
            refine Seg.nil ?_
            refine Sx.round ?_
            refine Sr.succ ?_
            refine Sc.seq ?_
            refine Sc.region ?_
            refine Seg.y rfl rfl (Want.none rfl) (Y.binOp (v := .bool false) rfl rfl (B.lt _ _ _)) ?_
            refine Seg.nil ?_
            refine Sx.next ?_
            refine Sc.seq ?_
            refine Sc.condF rfl rfl ?_
            refine Sc.exit ?_
            refine Sx.next_exit ?_
            refine Sx.loop_exit ?_
            refine Sx.block_exit ?_
            refine Sx.next ?_
            refine Sc.seq ?_
            refine Sc.region ?_
            refine Seg.callV (v := .bool true) rfl rfl (Want.none rfl) (K.func rfl co16) (fun w hs => works_c  w ) ?_
            refine Seg.y rfl rfl (Want.none rfl) (Y.assign rfl) ?_
            refine Seg.nil ?_
            refine Sx.next ?_
            refine Sc.ret ?_
            refine Sx.body (.inl rfl) (res1 rfl (Rv.tmp rfl)) (fun w hs => ?_)
            refine RetV.eq ?_ hs
            subst hr2
            subst hr6
            subst hr9
            subst hr23
            subst hr26
            rfl
end Go.Proofs.Ythmigjicibhheaa
