/- What the functions of the program and of the reference come to: one theorem a function (part 9). -/
import Derived.Test.YthmigjicibhheaaW8
namespace Go.Proofs.Ythmigjicibhheaa
open Go Go.RowKit Go.Eng
set_option maxRecDepth 100000
set_option linter.unusedVariables false
set_option linter.unusedSimpArgs false
theorem stepAct_len (m : Md) (k : Nat) : (stepAct m k).length ≤ 1 := by
  unfold stepAct; split <;> first | (split <;> simp) | simp
theorem actsTo_len (m : Md) : ∀ k, (actsTo m k).length ≤ k
  | 0 => by simp [actsTo]
  | k + 1 => by have := actsTo_len m k; have := stepAct_len m k; simp only [actsTo, List.length_append]; omega
theorem actions_len (m : Md) : (actionsS m).1.length ≤ 4611686018427387904 := by
  have := actsTo_len m 11
  unfold actionsS
  split
  · simp only [List.length_append]; split <;> split <;> simp <;> omega
  · simp
theorem ract_len (m : Md) (d : Bool) (n : Int) : (ractG m d n).length ≤ 1 := by unfold ractG; split <;> simp
theorem racts_len (m : Md) (d : Bool) (l : List Int) : (l.flatMap (ractG m d)).length ≤ l.length := by
  induction l with
  | nil => simp
  | cons x r ih => have := ract_len m d x; simp only [List.flatMap_cons, List.length_append, List.length_cons]; omega
theorem ractions_len (m : Md) : (ractionsS m).length ≤ 4611686018427387904 := by
  have h1 := racts_len m false ((numbersS false).take 2)
  have h2 := racts_len m true ((numbersS true).take 13)
  have h3 : ((numbersS false).take 2).length = 2 := rfl
  have h4 : ((numbersS true).take 13).length = 13 := rfl
  unfold ractionsS ractsTo
  have h5 : (if m.keypad = true then [(⟨14, 1, 0, ⟨0, 0⟩, ByteArray.empty⟩ : Ac)] else []).length ≤ 1 := by split <;> simp
  simp only [List.length_append]; omega

set_option maxHeartbeats 4000000 in
theorem works_c (w : World)  :
    Calls Try.prog 16 #[] w (RetV w (.bool true)) := by
  refine enter (F := fun w => True) [] Try.func16 rfl Try.ntmps16 (by simp) Fut.triv rfl ?_
  refine Sc.seq ?_
  refine Sc.region ?_
  refine Seg.y rfl rfl (Want.none rfl) (Y.assign rfl) ?_
  refine Seg.nil ?_
  refine Sx.next ?_
  refine Sc.seq ?_
  refine Sc.region ?_
  refine Seg.callV (v := .agg (List.toArray [.bool newS.ins, .bool newS.nl, .bool newS.ck, .bool newS.inv, .bool newS.org, .bool newS.aut, .bool newS.vis, .bool newS.paste, .bool newS.focus, .bool newS.sync, .bool newS.keypad, .int .i64 newS.mouse, .bool newS.sgr])) rfl rfl (Want.none rfl) (K.func rfl co17) (fun w hs => new_c  w ) ?_
  refine Seg.chg rfl rfl (Want.none rfl) (C.alloc zv23 rfl) (fun b1 hb1 => ?_)
  refine Seg.chs rfl (Want.none rfl) (C.store (cs' := [.bool newS.ins, .bool newS.nl, .bool newS.ck, .bool newS.inv, .bool newS.org, .bool newS.aut, .bool newS.vis, .bool newS.paste, .bool newS.focus, .bool newS.sync, .bool newS.keypad, .int .i64 newS.mouse, .bool newS.sgr]) (vs := [.bool newS.ins, .bool newS.nl, .bool newS.ck, .bool newS.inv, .bool newS.org, .bool newS.aut, .bool newS.vis, .bool newS.paste, .bool newS.focus, .bool newS.sync, .bool newS.keypad, .int .i64 newS.mouse, .bool newS.sgr]) 0 rfl rfl rfl rfl rfl rfl rfl sz23) (fun _ _ => ?_)
  refine Seg.nil ?_
  refine Sx.next ?_
  refine Sc.seq ?_
  refine Sc.cut (fun ((b2, b3) : Nat × Nat) => w.heap.size ≤ b2 ∧ w.heap.size ≤ b3) (fun ((b2, b3) : Nat × Nat) => [(1, .pointer (some ⟨b1, 0, none⟩)), (2, .pointer (some ⟨b2, 0, none⟩)), (3, .pointer (some ⟨b3, 0, none⟩))]) (fun ((b2, b3) : Nat × Nat) => [(some b3, .cells (List.toArray [.bool newS.ins, .bool newS.nl, .bool newS.ck, .bool newS.inv, .bool newS.org, .bool newS.aut, .bool newS.vis, .bool newS.paste, .bool newS.focus, .bool newS.sync, .bool newS.keypad, .int .i64 newS.mouse, .bool newS.sgr]) 23 (0, 0)), (some b2, .cells (List.toArray [.bool newS.ins, .bool newS.nl, .bool newS.ck, .bool newS.inv, .bool newS.org, .bool newS.aut, .bool newS.vis, .bool newS.paste, .bool newS.focus, .bool newS.sync, .bool newS.keypad, .int .i64 newS.mouse, .bool newS.sgr]) 23 (0, 0)), (some b1, .cells (List.toArray [.bool newS.ins, .bool newS.nl, .bool newS.ck, .bool newS.inv, .bool newS.org, .bool newS.aut, .bool newS.vis, .bool newS.paste, .bool newS.focus, .bool newS.sync, .bool newS.keypad, .int .i64 newS.mouse, .bool newS.sgr]) 23 (0, 0))]) (fun _ => fun w => True) ?_ ?_
  · skip
    refine Sc.draw (by kernel_rfl) (fun _ h => St.lean [0] (by decide) (fun _ h => h) h rfl) ?_
    refine Sd.take 0 rfl rfl rfl (by kernel_rfl) (by kernel_rfl) (by kernel_rfl) Cut.panic (Want.none rfl) (Y.loadN (vs := [.bool newS.ins, .bool newS.nl, .bool newS.ck, .bool newS.inv, .bool newS.org, .bool newS.aut, .bool newS.vis, .bool newS.paste, .bool newS.focus, .bool newS.sync, .bool newS.keypad, .int .i64 newS.mouse, .bool newS.sgr]) 0 rfl rfl rfl rfl ag23 sz23) ?_
    refine Sd.take 1 rfl rfl rfl (by kernel_rfl) (by kernel_rfl) (by kernel_rfl) Cut.panic (Want.none rfl) (Y.loadN (vs := [.bool newS.ins, .bool newS.nl, .bool newS.ck, .bool newS.inv, .bool newS.org, .bool newS.aut, .bool newS.vis, .bool newS.paste, .bool newS.focus, .bool newS.sync, .bool newS.keypad, .int .i64 newS.mouse, .bool newS.sgr]) 0 rfl rfl rfl rfl ag23 sz23) ?_
    refine Sd.all [2, 3] (by kernel_rfl) (by decide) (all_cons ?_ (all_cons ?_ all_nil))
    · skip
      refine Sp.chg rfl rfl rfl (Want.none rfl) (C.alloc zv23 rfl) (fun _ _ _ h => St.lean [1] (by decide) (fun _ h => h) h rfl) (fun b2 hb2 => ?_)
      refine Sd.all [3] (by kernel_rfl) (by decide) (all_cons ?_ all_nil)
      refine Sp.chg rfl rfl rfl (Want.none rfl) (C.alloc zv23 rfl) (fun _ _ _ h => St.lean [2] (by decide) (fun _ h => h) h rfl) (fun b3 hb3 => ?_)
      refine Sd.all [4] (by kernel_rfl) (by decide) (all_cons ?_ all_nil)
      refine Sp.chgs rfl rfl (Want.none rfl) (C.store (cs' := [.bool newS.ins, .bool newS.nl, .bool newS.ck, .bool newS.inv, .bool newS.org, .bool newS.aut, .bool newS.vis, .bool newS.paste, .bool newS.focus, .bool newS.sync, .bool newS.keypad, .int .i64 newS.mouse, .bool newS.sgr]) (vs := [.bool newS.ins, .bool newS.nl, .bool newS.ck, .bool newS.inv, .bool newS.org, .bool newS.aut, .bool newS.vis, .bool newS.paste, .bool newS.focus, .bool newS.sync, .bool newS.keypad, .int .i64 newS.mouse, .bool newS.sgr]) 1 rfl rfl rfl rfl rfl rfl rfl sz23) (fun _ _ _ h => St.lean [2] (by decide) (fun _ h => h) h rfl) (fun _ _ => ?_)
      refine Sd.all [5] (by kernel_rfl) (by decide) (all_cons ?_ all_nil)
      refine Sp.chgs rfl rfl (Want.none rfl) (C.store (cs' := [.bool newS.ins, .bool newS.nl, .bool newS.ck, .bool newS.inv, .bool newS.org, .bool newS.aut, .bool newS.vis, .bool newS.paste, .bool newS.focus, .bool newS.sync, .bool newS.keypad, .int .i64 newS.mouse, .bool newS.sgr]) (vs := [.bool newS.ins, .bool newS.nl, .bool newS.ck, .bool newS.inv, .bool newS.org, .bool newS.aut, .bool newS.vis, .bool newS.paste, .bool newS.focus, .bool newS.sync, .bool newS.keypad, .int .i64 newS.mouse, .bool newS.sgr]) 0 rfl rfl rfl rfl rfl rfl rfl sz23) (fun _ _ _ h => St.lean [2] (by decide) (fun _ h => h) h rfl) (fun _ _ => ?_)
      refine Sd.done (by kernel_rfl) ?_
      exact Sx.cut (b2, b3) ⟨hb2, hb3⟩ ⟨rfl, rfl, rfl, trivial⟩ [0, 1, 2] (by decide) rfl (fun _ h => h)
    refine Sp.chg rfl rfl rfl (Want.none rfl) (C.alloc zv23 rfl) (fun _ _ _ h => St.lean [1] (by decide) (fun _ h => h) h rfl) (fun b3 hb3 => ?_)
    refine Sd.all [2] (by kernel_rfl) (by decide) (all_cons ?_ all_nil)
    refine Sp.chg rfl rfl rfl (Want.none rfl) (C.alloc zv23 rfl) (fun _ _ _ h => St.lean [2] (by decide) (fun _ h => h) h rfl) (fun b2 hb2 => ?_)
    refine Sd.all [4] (by kernel_rfl) (by decide) (all_cons ?_ all_nil)
    refine Sp.chgs rfl rfl (Want.none rfl) (C.store (cs' := [.bool newS.ins, .bool newS.nl, .bool newS.ck, .bool newS.inv, .bool newS.org, .bool newS.aut, .bool newS.vis, .bool newS.paste, .bool newS.focus, .bool newS.sync, .bool newS.keypad, .int .i64 newS.mouse, .bool newS.sgr]) (vs := [.bool newS.ins, .bool newS.nl, .bool newS.ck, .bool newS.inv, .bool newS.org, .bool newS.aut, .bool newS.vis, .bool newS.paste, .bool newS.focus, .bool newS.sync, .bool newS.keypad, .int .i64 newS.mouse, .bool newS.sgr]) 0 rfl rfl rfl rfl rfl rfl rfl sz23) (fun _ _ _ h => St.lean [2] (by decide) (fun _ h => h) h rfl) (fun _ _ => ?_)
    refine Sd.all [5] (by kernel_rfl) (by decide) (all_cons ?_ all_nil)
    refine Sp.chgs rfl rfl (Want.none rfl) (C.store (cs' := [.bool newS.ins, .bool newS.nl, .bool newS.ck, .bool newS.inv, .bool newS.org, .bool newS.aut, .bool newS.vis, .bool newS.paste, .bool newS.focus, .bool newS.sync, .bool newS.keypad, .int .i64 newS.mouse, .bool newS.sgr]) (vs := [.bool newS.ins, .bool newS.nl, .bool newS.ck, .bool newS.inv, .bool newS.org, .bool newS.aut, .bool newS.vis, .bool newS.paste, .bool newS.focus, .bool newS.sync, .bool newS.keypad, .int .i64 newS.mouse, .bool newS.sgr]) 1 rfl rfl rfl rfl rfl rfl rfl sz23) (fun _ _ _ h => St.lean [2] (by decide) (fun _ h => h) h rfl) (fun _ _ => ?_)
    refine Sd.done (by kernel_rfl) ?_
    exact Sx.cut (b2, b3) ⟨hb2, hb3⟩ ⟨rfl, rfl, rfl, trivial⟩ [1, 0, 2] (by decide) rfl (fun _ h => h)
  · rintro ⟨b2, b3⟩ ⟨hb2, hb3⟩
    show Sx _ _ _ [(1, .pointer (some ⟨b1, 0, none⟩)), (2, .pointer (some ⟨b2, 0, none⟩)), (3, .pointer (some ⟨b3, 0, none⟩))] [(some b3, .cells (List.toArray [.bool newS.ins, .bool newS.nl, .bool newS.ck, .bool newS.inv, .bool newS.org, .bool newS.aut, .bool newS.vis, .bool newS.paste, .bool newS.focus, .bool newS.sync, .bool newS.keypad, .int .i64 newS.mouse, .bool newS.sgr]) 23 (0, 0)), (some b2, .cells (List.toArray [.bool newS.ins, .bool newS.nl, .bool newS.ck, .bool newS.inv, .bool newS.org, .bool newS.aut, .bool newS.vis, .bool newS.paste, .bool newS.focus, .bool newS.sync, .bool newS.keypad, .int .i64 newS.mouse, .bool newS.sgr]) 23 (0, 0)), (some b1, .cells (List.toArray [.bool newS.ins, .bool newS.nl, .bool newS.ck, .bool newS.inv, .bool newS.org, .bool newS.aut, .bool newS.vis, .bool newS.paste, .bool newS.focus, .bool newS.sync, .bool newS.keypad, .int .i64 newS.mouse, .bool newS.sgr]) 23 (0, 0))] _
    refine Sx.next ?_
    refine Sc.seq ?_
    refine Sc.region ?_
    refine Seg.y rfl rfl (Want.none rfl) (Y.fieldAddr rfl (A.field Try.underlying23 rfl sz4 rfl rfl)) ?_
    refine Seg.chs rfl (Want.none rfl) (C.store (cs' := [.bool true, .bool newS.nl, .bool newS.ck, .bool newS.inv, .bool newS.org, .bool newS.aut, .bool newS.vis, .bool newS.paste, .bool newS.focus, .bool newS.sync, .bool newS.keypad, .int .i64 newS.mouse, .bool newS.sgr]) (vs := [.bool true]) 1 rfl rfl rfl rfl rfl rfl rfl sz4) (fun _ _ => ?_)
    refine Seg.nil ?_
    refine Sx.next ?_
    refine Sc.seq ?_
    refine Sc.region ?_
    refine Seg.y rfl rfl (Want.none rfl) (Y.fieldAddr rfl (A.field Try.underlying23 rfl sz3 rfl rfl)) ?_
    refine Seg.chs rfl (Want.none rfl) (C.store (cs' := [.bool newS.ins, .bool newS.nl, .bool newS.ck, .bool newS.inv, .bool newS.org, .bool newS.aut, .bool newS.vis, .bool newS.paste, .bool newS.focus, .bool newS.sync, .bool newS.keypad, .int .i64 1000, .bool newS.sgr]) (vs := [.int .i64 1000]) 0 rfl rfl rfl rfl rfl rfl rfl sz3) (fun _ _ => ?_)
    refine Seg.nil ?_
    refine Sx.next ?_
    refine Sc.seq ?_
    refine Sc.region ?_
    refine Seg.y rfl rfl (Want.none rfl) (Y.loadN (vs := [.bool newS.ins, .bool newS.nl, .bool newS.ck, .bool newS.inv, .bool newS.org, .bool newS.aut, .bool newS.vis, .bool newS.paste, .bool newS.focus, .bool newS.sync, .bool newS.keypad, .int .i64 newS.mouse, .bool newS.sgr]) 2 rfl rfl rfl rfl ag23 sz23) ?_
    obtain ⟨r4, hr4⟩ : ∃ x, x = putS newS true 3 true := ⟨_, rfl⟩
    refine Seg.callV (v := .tuple (List.toArray [.agg (List.toArray [.bool r4.1.ins, .bool r4.1.nl, .bool r4.1.ck, .bool r4.1.inv, .bool r4.1.org, .bool r4.1.aut, .bool r4.1.vis, .bool r4.1.paste, .bool r4.1.focus, .bool r4.1.sync, .bool r4.1.keypad, .int .i64 r4.1.mouse, .bool r4.1.sgr]), .bool r4.2.1, .int .i64 r4.2.2])) rfl rfl (Want.none rfl) (K.func rfl co13) (fun w hs => by rw [hr4]; exact put_c newS true 3 true w ) ?_
    refine Seg.y rfl rfl (Want.none rfl) (Y.move rfl) ?_
    refine Seg.y rfl rfl (Want.none rfl) (Y.extract rfl rfl) ?_
    refine Seg.y rfl rfl (Want.none rfl) (Y.extract rfl rfl) ?_
    refine Seg.y rfl rfl (Want.none rfl) (Y.extract rfl rfl) ?_
    refine Seg.chg rfl rfl (Want.none rfl) (C.alloc zv23 rfl) (fun b5 hb5 => ?_)
    refine Seg.chs rfl (Want.none rfl) (C.store (cs' := [.bool r4.1.ins, .bool r4.1.nl, .bool r4.1.ck, .bool r4.1.inv, .bool r4.1.org, .bool r4.1.aut, .bool r4.1.vis, .bool r4.1.paste, .bool r4.1.focus, .bool r4.1.sync, .bool r4.1.keypad, .int .i64 r4.1.mouse, .bool r4.1.sgr]) (vs := [.bool r4.1.ins, .bool r4.1.nl, .bool r4.1.ck, .bool r4.1.inv, .bool r4.1.org, .bool r4.1.aut, .bool r4.1.vis, .bool r4.1.paste, .bool r4.1.focus, .bool r4.1.sync, .bool r4.1.keypad, .int .i64 r4.1.mouse, .bool r4.1.sgr]) 0 rfl rfl rfl rfl rfl rfl rfl sz23) (fun _ _ => ?_)
    refine Seg.y rfl rfl (Want.none rfl) (Y.assign rfl) ?_
    refine Seg.y rfl rfl (Want.none rfl) (Y.assign rfl) ?_
    refine Seg.nil ?_
    refine Sx.next ?_
    refine Sc.seq ?_
    have g6 : (MdEq newS (⟨false, false, false, false, false, true, true, false, false, false, false, 0, false⟩ : Md)) = true := by decide +kernel
    obtain ⟨r7, hr7⟩ : ∃ x, x = lput newS false 4 true := ⟨_, rfl⟩
    have g8 : (MdEq r7 (⟨true, newS.nl, newS.ck, newS.inv, newS.org, newS.aut, newS.vis, newS.paste, newS.focus, newS.sync, newS.keypad, newS.mouse, newS.sgr⟩ : Md)) = true := by simp only [hr7]; decide +kernel
    obtain ⟨r9, hr9⟩ : ∃ x, x = lput newS true 1000 true := ⟨_, rfl⟩
    have g10 : (MdEq r9 (⟨newS.ins, newS.nl, newS.ck, newS.inv, newS.org, newS.aut, newS.vis, newS.paste, newS.focus, newS.sync, newS.keypad, 1000, newS.sgr⟩ : Md)) = true := by simp only [hr9]; decide +kernel
    obtain ⟨r11, hr11⟩ : ∃ x, x = lput newS true 9 false := ⟨_, rfl⟩
    have g12 : (MdEq r11 newS) = true := by simp only [hr11]; decide +kernel
    have g13 : (!r4.2.1) = true := by simp only [hr4]; decide +kernel
    refine Sc.cut (fun (_ : Unit) => True) (fun (_ : Unit) => [(1, .pointer (some ⟨b1, 0, none⟩)), (7, .bool (decide (r4.2.2 = 0)))]) (fun (_ : Unit) => [(some b1, .cells (List.toArray [.bool newS.ins, .bool newS.nl, .bool newS.ck, .bool newS.inv, .bool newS.org, .bool newS.aut, .bool newS.vis, .bool newS.paste, .bool newS.focus, .bool newS.sync, .bool newS.keypad, .int .i64 newS.mouse, .bool newS.sgr]) 23 (0, 0))]) (fun _ => fun w => True) ?_ ?_
    · skip
      refine Sc.draw (by kernel_rfl) (fun _ h => St.lean [0, 1, 2, 3] (by decide) (fun _ h => h) h rfl) ?_
      refine Sd.take 0 rfl rfl rfl (by kernel_rfl) (by kernel_rfl) (by kernel_rfl) Cut.panic (Want.none rfl) (Y.loadN (vs := [.bool newS.ins, .bool newS.nl, .bool newS.ck, .bool newS.inv, .bool newS.org, .bool newS.aut, .bool newS.vis, .bool newS.paste, .bool newS.focus, .bool newS.sync, .bool newS.keypad, .int .i64 newS.mouse, .bool newS.sgr]) 3 rfl rfl rfl rfl ag23 sz23) ?_
      refine Sd.take 1 rfl rfl rfl (by kernel_rfl) (by kernel_rfl) (by kernel_rfl) Cut.panic (Want.none rfl) (Y.build (v := .agg (List.toArray [.bool false, .bool false, .bool false, .bool false, .bool false, .bool true, .bool true, .bool false, .bool false, .bool false, .bool false, .int .i64 0, .bool false])) rfl (fun w => by kernel_rfl)) ?_
      refine Sd.take 2 rfl rfl rfl (by kernel_rfl) (by kernel_rfl) (by kernel_rfl) Cut.panic (Want.none rfl) (Y.binOp rfl rfl (B.eqS gq23 (Eqs.struct (n := 1) (b := MdEq newS (⟨false, false, false, false, false, true, true, false, false, false, false, 0, false⟩ : Md)) Try.underlying23 sd23 (EqF.cons (b := newS.ins == false) rfl ag4 rfl rfl (Eqs.mono (m := 1) (Eqs.bool Try.underlying4) (by decide)) (EqF.cons (b := newS.nl == false) rfl ag4 rfl rfl (Eqs.mono (m := 1) (Eqs.bool Try.underlying4) (by decide)) (EqF.cons (b := newS.ck == false) rfl ag4 rfl rfl (Eqs.mono (m := 1) (Eqs.bool Try.underlying4) (by decide)) (EqF.cons (b := newS.inv == false) rfl ag4 rfl rfl (Eqs.mono (m := 1) (Eqs.bool Try.underlying4) (by decide)) (EqF.cons (b := newS.org == false) rfl ag4 rfl rfl (Eqs.mono (m := 1) (Eqs.bool Try.underlying4) (by decide)) (EqF.cons (b := newS.aut == true) rfl ag4 rfl rfl (Eqs.mono (m := 1) (Eqs.bool Try.underlying4) (by decide)) (EqF.cons (b := newS.vis == true) rfl ag4 rfl rfl (Eqs.mono (m := 1) (Eqs.bool Try.underlying4) (by decide)) (EqF.cons (b := newS.paste == false) rfl ag4 rfl rfl (Eqs.mono (m := 1) (Eqs.bool Try.underlying4) (by decide)) (EqF.cons (b := newS.focus == false) rfl ag4 rfl rfl (Eqs.mono (m := 1) (Eqs.bool Try.underlying4) (by decide)) (EqF.cons (b := newS.sync == false) rfl ag4 rfl rfl (Eqs.mono (m := 1) (Eqs.bool Try.underlying4) (by decide)) (EqF.cons (b := newS.keypad == false) rfl ag4 rfl rfl (Eqs.mono (m := 1) (Eqs.bool Try.underlying4) (by decide)) (EqF.cons (b := decide (newS.mouse = 0)) rfl ag3 rfl rfl (Eqs.mono (m := 1) (Eqs.int Try.underlying3) (by decide)) (EqF.cons (b := newS.sgr == false) rfl ag4 rfl rfl (Eqs.mono (m := 1) (Eqs.bool Try.underlying4) (by decide)) (EqF.nil))))))))))))))) rfl)) ?_
      refine Sd.take 3 rfl rfl rfl (by kernel_rfl) (by kernel_rfl) (by kernel_rfl) Cut.panic (Want.none rfl) (Y.move rfl) ?_
      have g14 : (MdEq newS (⟨false, false, false, false, false, true, true, false, false, false, false, 0, false⟩ : Md)) = true := by decide +kernel
      refine Sd.take 4 rfl rfl rfl (by kernel_rfl) (by kernel_rfl) (by kernel_rfl) Cut.panic (Want.some 3 26 true rfl rfl rfl g14) (Y.loadN (vs := [.bool newS.ins, .bool newS.nl, .bool newS.ck, .bool newS.inv, .bool newS.org, .bool newS.aut, .bool newS.vis, .bool newS.paste, .bool newS.focus, .bool newS.sync, .bool newS.keypad, .int .i64 newS.mouse, .bool newS.sgr]) 3 rfl rfl rfl rfl ag23 sz23) ?_
      refine Sd.take 6 rfl rfl rfl (by kernel_rfl) (by kernel_rfl) (by kernel_rfl) Cut.panic (Want.some 3 26 true rfl rfl rfl g14) (Y.loadN (vs := [.bool true, .bool newS.nl, .bool newS.ck, .bool newS.inv, .bool newS.org, .bool newS.aut, .bool newS.vis, .bool newS.paste, .bool newS.focus, .bool newS.sync, .bool newS.keypad, .int .i64 newS.mouse, .bool newS.sgr]) 2 rfl rfl rfl rfl ag23 sz23) ?_
      refine Sd.all [5] (by kernel_rfl) (by decide) (all_cons ?_ all_nil)
      refine Sp.callV (v := .agg (List.toArray [.bool r7.ins, .bool r7.nl, .bool r7.ck, .bool r7.inv, .bool r7.org, .bool r7.aut, .bool r7.vis, .bool r7.paste, .bool r7.focus, .bool r7.sync, .bool r7.keypad, .int .i64 r7.mouse, .bool r7.sgr])) rfl rfl rfl (Want.some 3 26 true rfl rfl rfl g14) (K.func rfl co24) (fun w hs => by rw [hr7]; exact lput_c newS false 4 true w ) ?_
      refine Sd.take 7 rfl rfl rfl (by kernel_rfl) (by kernel_rfl) (by kernel_rfl) Cut.panic (Want.some 3 26 true rfl rfl rfl g14) (Y.binOp rfl rfl (B.eqS gq23 (Eqs.struct (n := 1) (b := MdEq r7 (⟨true, newS.nl, newS.ck, newS.inv, newS.org, newS.aut, newS.vis, newS.paste, newS.focus, newS.sync, newS.keypad, newS.mouse, newS.sgr⟩ : Md)) Try.underlying23 sd23 (EqF.cons (b := r7.ins == true) rfl ag4 rfl rfl (Eqs.mono (m := 1) (Eqs.bool Try.underlying4) (by decide)) (EqF.cons (b := r7.nl == newS.nl) rfl ag4 rfl rfl (Eqs.mono (m := 1) (Eqs.bool Try.underlying4) (by decide)) (EqF.cons (b := r7.ck == newS.ck) rfl ag4 rfl rfl (Eqs.mono (m := 1) (Eqs.bool Try.underlying4) (by decide)) (EqF.cons (b := r7.inv == newS.inv) rfl ag4 rfl rfl (Eqs.mono (m := 1) (Eqs.bool Try.underlying4) (by decide)) (EqF.cons (b := r7.org == newS.org) rfl ag4 rfl rfl (Eqs.mono (m := 1) (Eqs.bool Try.underlying4) (by decide)) (EqF.cons (b := r7.aut == newS.aut) rfl ag4 rfl rfl (Eqs.mono (m := 1) (Eqs.bool Try.underlying4) (by decide)) (EqF.cons (b := r7.vis == newS.vis) rfl ag4 rfl rfl (Eqs.mono (m := 1) (Eqs.bool Try.underlying4) (by decide)) (EqF.cons (b := r7.paste == newS.paste) rfl ag4 rfl rfl (Eqs.mono (m := 1) (Eqs.bool Try.underlying4) (by decide)) (EqF.cons (b := r7.focus == newS.focus) rfl ag4 rfl rfl (Eqs.mono (m := 1) (Eqs.bool Try.underlying4) (by decide)) (EqF.cons (b := r7.sync == newS.sync) rfl ag4 rfl rfl (Eqs.mono (m := 1) (Eqs.bool Try.underlying4) (by decide)) (EqF.cons (b := r7.keypad == newS.keypad) rfl ag4 rfl rfl (Eqs.mono (m := 1) (Eqs.bool Try.underlying4) (by decide)) (EqF.cons (b := decide (r7.mouse = newS.mouse)) rfl ag3 rfl rfl (Eqs.mono (m := 1) (Eqs.int Try.underlying3) (by decide)) (EqF.cons (b := r7.sgr == newS.sgr) rfl ag4 rfl rfl (Eqs.mono (m := 1) (Eqs.bool Try.underlying4) (by decide)) (EqF.nil))))))))))))))) rfl)) ?_
      refine Sd.take 8 rfl rfl rfl (by kernel_rfl) (by kernel_rfl) (by kernel_rfl) Cut.panic (Want.none rfl) (Y.pickT rfl g14 rfl) ?_
      refine Sd.take 9 rfl rfl rfl (by kernel_rfl) (by kernel_rfl) (by kernel_rfl) Cut.panic (Want.none rfl) (Y.move rfl) ?_
      have g15 : (MdEq r7 (⟨true, newS.nl, newS.ck, newS.inv, newS.org, newS.aut, newS.vis, newS.paste, newS.focus, newS.sync, newS.keypad, newS.mouse, newS.sgr⟩ : Md)) = true := by simp only [hr7]; decide +kernel
      refine Sd.take 10 rfl rfl rfl (by kernel_rfl) (by kernel_rfl) (by kernel_rfl) Cut.panic (Want.some 9 32 true rfl rfl rfl g15) (Y.loadN (vs := [.bool newS.ins, .bool newS.nl, .bool newS.ck, .bool newS.inv, .bool newS.org, .bool newS.aut, .bool newS.vis, .bool newS.paste, .bool newS.focus, .bool newS.sync, .bool newS.keypad, .int .i64 newS.mouse, .bool newS.sgr]) 3 rfl rfl rfl rfl ag23 sz23) ?_
      refine Sd.take 12 rfl rfl rfl (by kernel_rfl) (by kernel_rfl) (by kernel_rfl) Cut.panic (Want.some 9 32 true rfl rfl rfl g15) (Y.loadN (vs := [.bool newS.ins, .bool newS.nl, .bool newS.ck, .bool newS.inv, .bool newS.org, .bool newS.aut, .bool newS.vis, .bool newS.paste, .bool newS.focus, .bool newS.sync, .bool newS.keypad, .int .i64 1000, .bool newS.sgr]) 1 rfl rfl rfl rfl ag23 sz23) ?_
      refine Sd.all [11] (by kernel_rfl) (by decide) (all_cons ?_ all_nil)
      refine Sp.callV (v := .agg (List.toArray [.bool r9.ins, .bool r9.nl, .bool r9.ck, .bool r9.inv, .bool r9.org, .bool r9.aut, .bool r9.vis, .bool r9.paste, .bool r9.focus, .bool r9.sync, .bool r9.keypad, .int .i64 r9.mouse, .bool r9.sgr])) rfl rfl rfl (Want.some 9 32 true rfl rfl rfl g15) (K.func rfl co24) (fun w hs => by rw [hr9]; exact lput_c newS true 1000 true w ) ?_
      refine Sd.take 13 rfl rfl rfl (by kernel_rfl) (by kernel_rfl) (by kernel_rfl) Cut.panic (Want.some 9 32 true rfl rfl rfl g15) (Y.binOp rfl rfl (B.eqS gq23 (Eqs.struct (n := 1) (b := MdEq r9 (⟨newS.ins, newS.nl, newS.ck, newS.inv, newS.org, newS.aut, newS.vis, newS.paste, newS.focus, newS.sync, newS.keypad, 1000, newS.sgr⟩ : Md)) Try.underlying23 sd23 (EqF.cons (b := r9.ins == newS.ins) rfl ag4 rfl rfl (Eqs.mono (m := 1) (Eqs.bool Try.underlying4) (by decide)) (EqF.cons (b := r9.nl == newS.nl) rfl ag4 rfl rfl (Eqs.mono (m := 1) (Eqs.bool Try.underlying4) (by decide)) (EqF.cons (b := r9.ck == newS.ck) rfl ag4 rfl rfl (Eqs.mono (m := 1) (Eqs.bool Try.underlying4) (by decide)) (EqF.cons (b := r9.inv == newS.inv) rfl ag4 rfl rfl (Eqs.mono (m := 1) (Eqs.bool Try.underlying4) (by decide)) (EqF.cons (b := r9.org == newS.org) rfl ag4 rfl rfl (Eqs.mono (m := 1) (Eqs.bool Try.underlying4) (by decide)) (EqF.cons (b := r9.aut == newS.aut) rfl ag4 rfl rfl (Eqs.mono (m := 1) (Eqs.bool Try.underlying4) (by decide)) (EqF.cons (b := r9.vis == newS.vis) rfl ag4 rfl rfl (Eqs.mono (m := 1) (Eqs.bool Try.underlying4) (by decide)) (EqF.cons (b := r9.paste == newS.paste) rfl ag4 rfl rfl (Eqs.mono (m := 1) (Eqs.bool Try.underlying4) (by decide)) (EqF.cons (b := r9.focus == newS.focus) rfl ag4 rfl rfl (Eqs.mono (m := 1) (Eqs.bool Try.underlying4) (by decide)) (EqF.cons (b := r9.sync == newS.sync) rfl ag4 rfl rfl (Eqs.mono (m := 1) (Eqs.bool Try.underlying4) (by decide)) (EqF.cons (b := r9.keypad == newS.keypad) rfl ag4 rfl rfl (Eqs.mono (m := 1) (Eqs.bool Try.underlying4) (by decide)) (EqF.cons (b := decide (r9.mouse = 1000)) rfl ag3 rfl rfl (Eqs.mono (m := 1) (Eqs.int Try.underlying3) (by decide)) (EqF.cons (b := r9.sgr == newS.sgr) rfl ag4 rfl rfl (Eqs.mono (m := 1) (Eqs.bool Try.underlying4) (by decide)) (EqF.nil))))))))))))))) rfl)) ?_
      refine Sd.take 14 rfl rfl rfl (by kernel_rfl) (by kernel_rfl) (by kernel_rfl) Cut.panic (Want.none rfl) (Y.pickT rfl g15 rfl) ?_
      refine Sd.take 15 rfl rfl rfl (by kernel_rfl) (by kernel_rfl) (by kernel_rfl) Cut.panic (Want.none rfl) (Y.move rfl) ?_
      have g16 : (MdEq r9 (⟨newS.ins, newS.nl, newS.ck, newS.inv, newS.org, newS.aut, newS.vis, newS.paste, newS.focus, newS.sync, newS.keypad, 1000, newS.sgr⟩ : Md)) = true := by simp only [hr9]; decide +kernel
      refine Sd.take 16 rfl rfl rfl (by kernel_rfl) (by kernel_rfl) (by kernel_rfl) Cut.panic (Want.some 15 38 true rfl rfl rfl g16) (Y.loadN (vs := [.bool newS.ins, .bool newS.nl, .bool newS.ck, .bool newS.inv, .bool newS.org, .bool newS.aut, .bool newS.vis, .bool newS.paste, .bool newS.focus, .bool newS.sync, .bool newS.keypad, .int .i64 newS.mouse, .bool newS.sgr]) 3 rfl rfl rfl rfl ag23 sz23) ?_
      refine Sd.take 18 rfl rfl rfl (by kernel_rfl) (by kernel_rfl) (by kernel_rfl) Cut.panic (Want.some 15 38 true rfl rfl rfl g16) (Y.loadN (vs := [.bool newS.ins, .bool newS.nl, .bool newS.ck, .bool newS.inv, .bool newS.org, .bool newS.aut, .bool newS.vis, .bool newS.paste, .bool newS.focus, .bool newS.sync, .bool newS.keypad, .int .i64 newS.mouse, .bool newS.sgr]) 3 rfl rfl rfl rfl ag23 sz23) ?_
      refine Sd.all [17] (by kernel_rfl) (by decide) (all_cons ?_ all_nil)
      refine Sp.callV (v := .agg (List.toArray [.bool r11.ins, .bool r11.nl, .bool r11.ck, .bool r11.inv, .bool r11.org, .bool r11.aut, .bool r11.vis, .bool r11.paste, .bool r11.focus, .bool r11.sync, .bool r11.keypad, .int .i64 r11.mouse, .bool r11.sgr])) rfl rfl rfl (Want.some 15 38 true rfl rfl rfl g16) (K.func rfl co24) (fun w hs => by rw [hr11]; exact lput_c newS true 9 false w ) ?_
      refine Sd.take 19 rfl rfl rfl (by kernel_rfl) (by kernel_rfl) (by kernel_rfl) Cut.panic (Want.some 15 38 true rfl rfl rfl g16) (Y.binOp rfl rfl (B.eqS gq23 (Eqs.struct (n := 1) (b := MdEq r11 newS) Try.underlying23 sd23 (EqF.cons (b := r11.ins == newS.ins) rfl ag4 rfl rfl (Eqs.mono (m := 1) (Eqs.bool Try.underlying4) (by decide)) (EqF.cons (b := r11.nl == newS.nl) rfl ag4 rfl rfl (Eqs.mono (m := 1) (Eqs.bool Try.underlying4) (by decide)) (EqF.cons (b := r11.ck == newS.ck) rfl ag4 rfl rfl (Eqs.mono (m := 1) (Eqs.bool Try.underlying4) (by decide)) (EqF.cons (b := r11.inv == newS.inv) rfl ag4 rfl rfl (Eqs.mono (m := 1) (Eqs.bool Try.underlying4) (by decide)) (EqF.cons (b := r11.org == newS.org) rfl ag4 rfl rfl (Eqs.mono (m := 1) (Eqs.bool Try.underlying4) (by decide)) (EqF.cons (b := r11.aut == newS.aut) rfl ag4 rfl rfl (Eqs.mono (m := 1) (Eqs.bool Try.underlying4) (by decide)) (EqF.cons (b := r11.vis == newS.vis) rfl ag4 rfl rfl (Eqs.mono (m := 1) (Eqs.bool Try.underlying4) (by decide)) (EqF.cons (b := r11.paste == newS.paste) rfl ag4 rfl rfl (Eqs.mono (m := 1) (Eqs.bool Try.underlying4) (by decide)) (EqF.cons (b := r11.focus == newS.focus) rfl ag4 rfl rfl (Eqs.mono (m := 1) (Eqs.bool Try.underlying4) (by decide)) (EqF.cons (b := r11.sync == newS.sync) rfl ag4 rfl rfl (Eqs.mono (m := 1) (Eqs.bool Try.underlying4) (by decide)) (EqF.cons (b := r11.keypad == newS.keypad) rfl ag4 rfl rfl (Eqs.mono (m := 1) (Eqs.bool Try.underlying4) (by decide)) (EqF.cons (b := decide (r11.mouse = newS.mouse)) rfl ag3 rfl rfl (Eqs.mono (m := 1) (Eqs.int Try.underlying3) (by decide)) (EqF.cons (b := r11.sgr == newS.sgr) rfl ag4 rfl rfl (Eqs.mono (m := 1) (Eqs.bool Try.underlying4) (by decide)) (EqF.nil))))))))))))))) rfl)) ?_
      refine Sd.take 20 rfl rfl rfl (by kernel_rfl) (by kernel_rfl) (by kernel_rfl) Cut.panic (Want.none rfl) (Y.pickT rfl g16 rfl) ?_
      refine Sd.take 21 rfl rfl rfl (by kernel_rfl) (by kernel_rfl) (by kernel_rfl) Cut.panic (Want.none rfl) (Y.move rfl) ?_
      have g17 : (MdEq r11 newS) = true := by simp only [hr11]; decide +kernel
      refine Sd.take 22 rfl rfl rfl (by kernel_rfl) (by kernel_rfl) (by kernel_rfl) Cut.panic (Want.some 21 44 true rfl rfl rfl g17) (Y.move rfl) ?_
      refine Sd.take 23 rfl rfl rfl (by kernel_rfl) (by kernel_rfl) (by kernel_rfl) Cut.panic (Want.some 21 44 true rfl rfl rfl g17) (Y.unOp rfl (U.not _)) ?_
      refine Sd.take 24 rfl rfl rfl (by kernel_rfl) (by kernel_rfl) (by kernel_rfl) Cut.panic (Want.none rfl) (Y.pickT rfl g17 rfl) ?_
      refine Sd.take 25 rfl rfl rfl (by kernel_rfl) (by kernel_rfl) (by kernel_rfl) Cut.panic (Want.none rfl) (Y.move rfl) ?_
      have g18 : (!r4.2.1) = true := by simp only [hr4]; decide +kernel
      refine Sd.take 26 rfl rfl rfl (by kernel_rfl) (by kernel_rfl) (by kernel_rfl) Cut.panic (Want.some 25 48 true rfl rfl rfl g18) (Y.move rfl) ?_
      refine Sd.take 27 rfl rfl rfl (by kernel_rfl) (by kernel_rfl) (by kernel_rfl) Cut.panic (Want.some 25 48 true rfl rfl rfl g18) (Y.binOp rfl rfl (B.eq _ _ _)) ?_
      refine Sd.take 28 rfl rfl rfl (by kernel_rfl) (by kernel_rfl) (by kernel_rfl) Cut.panic (Want.none rfl) (Y.pickT rfl g18 rfl) ?_
      refine Sd.take 29 rfl rfl rfl (by kernel_rfl) (by kernel_rfl) (by kernel_rfl) Cut.panic (Want.none rfl) (Y.assign rfl) ?_
      refine Sd.done (by kernel_rfl) ?_
      exact Sx.cut () trivial ⟨rfl, rfl, trivial⟩ [3] (by decide) rfl (fun _ h => h)
    · intro _ _
      show Sx _ _ _ [(1, .pointer (some ⟨b1, 0, none⟩)), (7, .bool (decide (r4.2.2 = 0)))] [(some b1, .cells (List.toArray [.bool newS.ins, .bool newS.nl, .bool newS.ck, .bool newS.inv, .bool newS.org, .bool newS.aut, .bool newS.vis, .bool newS.paste, .bool newS.focus, .bool newS.sync, .bool newS.keypad, .int .i64 newS.mouse, .bool newS.sgr]) 23 (0, 0))] _
      refine Sx.next ?_
      refine Sc.seq ?_
      refine Sc.region ?_
      refine Seg.y rfl rfl (Want.none rfl) (Y.loadN (vs := [.bool newS.ins, .bool newS.nl, .bool newS.ck, .bool newS.inv, .bool newS.org, .bool newS.aut, .bool newS.vis, .bool newS.paste, .bool newS.focus, .bool newS.sync, .bool newS.keypad, .int .i64 newS.mouse, .bool newS.sgr]) 0 rfl rfl rfl rfl ag23 sz23) ?_
      obtain ⟨r19, hr19⟩ : ∃ x, x = lstate newS true 7 false := ⟨_, rfl⟩
      refine Seg.callV (v := .int .i64 r19) rfl rfl (Want.none rfl) (K.func rfl co26) (fun w hs => by rw [hr19]; exact lstate_c newS true 7 false w ) ?_
      refine Seg.y rfl rfl (Want.none rfl) (Y.binOp rfl rfl (B.eq _ _ _)) ?_
      refine Seg.y rfl rfl (Want.none rfl) (Y.move rfl) ?_
      have g20 : (decide (r19 = 1)) = true := by simp only [hr19]; decide +kernel
      refine Seg.y rfl rfl (Want.some 3 55 true rfl rfl rfl g20) (Y.loadN (vs := [.bool newS.ins, .bool newS.nl, .bool newS.ck, .bool newS.inv, .bool newS.org, .bool newS.aut, .bool newS.vis, .bool newS.paste, .bool newS.focus, .bool newS.sync, .bool newS.keypad, .int .i64 newS.mouse, .bool newS.sgr]) 0 rfl rfl rfl rfl ag23 sz23) ?_
      obtain ⟨r21, hr21⟩ : ∃ x, x = lstate newS true 6 false := ⟨_, rfl⟩
      refine Seg.callV (v := .int .i64 r21) rfl rfl (Want.some 3 55 true rfl rfl rfl g20) (K.func rfl co26) (fun w hs => by rw [hr21]; exact lstate_c newS true 6 false w ) ?_
      refine Seg.y rfl rfl (Want.some 3 55 true rfl rfl rfl g20) (Y.binOp rfl rfl (B.eq _ _ _)) ?_
      refine Seg.y rfl rfl (Want.none rfl) (Y.pickT rfl g20 rfl) ?_
      refine Seg.y rfl rfl (Want.none rfl) (Y.move rfl) ?_
      have g22 : (decide (r21 = 2)) = true := by simp only [hr21]; decide +kernel
      refine Seg.y rfl rfl (Want.some 8 60 true rfl rfl rfl g22) (Y.loadN (vs := [.bool newS.ins, .bool newS.nl, .bool newS.ck, .bool newS.inv, .bool newS.org, .bool newS.aut, .bool newS.vis, .bool newS.paste, .bool newS.focus, .bool newS.sync, .bool newS.keypad, .int .i64 newS.mouse, .bool newS.sgr]) 0 rfl rfl rfl rfl ag23 sz23) ?_
      obtain ⟨r23, hr23⟩ : ∃ x, x = lstate newS true 3 false := ⟨_, rfl⟩
      refine Seg.callV (v := .int .i64 r23) rfl rfl (Want.some 8 60 true rfl rfl rfl g22) (K.func rfl co26) (fun w hs => by rw [hr23]; exact lstate_c newS true 3 false w ) ?_
      refine Seg.y rfl rfl (Want.some 8 60 true rfl rfl rfl g22) (Y.binOp rfl rfl (B.eq _ _ _)) ?_
      refine Seg.y rfl rfl (Want.none rfl) (Y.pickT rfl g22 rfl) ?_
      refine Seg.y rfl rfl (Want.none rfl) (Y.move rfl) ?_
      have g24 : (decide (r23 = 0)) = true := by simp only [hr23]; decide +kernel
      refine Seg.y rfl rfl (Want.some 13 65 true rfl rfl rfl g24) (Y.loadN (vs := [.bool newS.ins, .bool newS.nl, .bool newS.ck, .bool newS.inv, .bool newS.org, .bool newS.aut, .bool newS.vis, .bool newS.paste, .bool newS.focus, .bool newS.sync, .bool newS.keypad, .int .i64 newS.mouse, .bool newS.sgr]) 0 rfl rfl rfl rfl ag23 sz23) ?_
      obtain ⟨r25, hr25⟩ : ∃ x, x = lstate newS false 20 false := ⟨_, rfl⟩
      refine Seg.callV (v := .int .i64 r25) rfl rfl (Want.some 13 65 true rfl rfl rfl g24) (K.func rfl co26) (fun w hs => by rw [hr25]; exact lstate_c newS false 20 false w ) ?_
      refine Seg.y rfl rfl (Want.some 13 65 true rfl rfl rfl g24) (Y.binOp rfl rfl (B.eq _ _ _)) ?_
      refine Seg.y rfl rfl (Want.none rfl) (Y.pickT rfl g24 rfl) ?_
      refine Seg.y rfl rfl (Want.none rfl) (Y.move rfl) ?_
      have g26 : (decide (r25 = 2)) = true := by simp only [hr25]; decide +kernel
      refine Seg.y rfl rfl (Want.some 18 70 true rfl rfl rfl g26) (Y.loadN (vs := [.bool newS.ins, .bool newS.nl, .bool newS.ck, .bool newS.inv, .bool newS.org, .bool newS.aut, .bool newS.vis, .bool newS.paste, .bool newS.focus, .bool newS.sync, .bool newS.keypad, .int .i64 newS.mouse, .bool newS.sgr]) 0 rfl rfl rfl rfl ag23 sz23) ?_
      obtain ⟨r27, hr27⟩ : ∃ x, x = lstate newS false 7 false := ⟨_, rfl⟩
      refine Seg.callV (v := .int .i64 r27) rfl rfl (Want.some 18 70 true rfl rfl rfl g26) (K.func rfl co26) (fun w hs => by rw [hr27]; exact lstate_c newS false 7 false w ) ?_
      refine Seg.y rfl rfl (Want.some 18 70 true rfl rfl rfl g26) (Y.binOp rfl rfl (B.eq _ _ _)) ?_
      refine Seg.y rfl rfl (Want.none rfl) (Y.pickT rfl g26 rfl) ?_
      refine Seg.y rfl rfl (Want.none rfl) (Y.move rfl) ?_
      have g28 : (decide (r27 = 0)) = true := by simp only [hr27]; decide +kernel
      refine Seg.y rfl rfl (Want.some 23 75 true rfl rfl rfl g28) (Y.loadN (vs := [.bool newS.ins, .bool newS.nl, .bool newS.ck, .bool newS.inv, .bool newS.org, .bool newS.aut, .bool newS.vis, .bool newS.paste, .bool newS.focus, .bool newS.sync, .bool newS.keypad, .int .i64 newS.mouse, .bool newS.sgr]) 0 rfl rfl rfl rfl ag23 sz23) ?_
      obtain ⟨r29, hr29⟩ : ∃ x, x = lstate newS true 1049 true := ⟨_, rfl⟩
      refine Seg.callV (v := .int .i64 r29) rfl rfl (Want.some 23 75 true rfl rfl rfl g28) (K.func rfl co26) (fun w hs => by rw [hr29]; exact lstate_c newS true 1049 true w ) ?_
      refine Seg.y rfl rfl (Want.some 23 75 true rfl rfl rfl g28) (Y.binOp rfl rfl (B.eq _ _ _)) ?_
      refine Seg.y rfl rfl (Want.none rfl) (Y.pickT rfl g28 rfl) ?_
      refine Seg.y rfl rfl (Want.none rfl) (Y.move rfl) ?_
      have g30 : (decide (r29 = 1)) = true := by simp only [hr29]; decide +kernel
      refine Seg.y rfl rfl (Want.some 28 80 true rfl rfl rfl g30) (Y.loadN (vs := [.bool newS.ins, .bool newS.nl, .bool newS.ck, .bool newS.inv, .bool newS.org, .bool newS.aut, .bool newS.vis, .bool newS.paste, .bool newS.focus, .bool newS.sync, .bool newS.keypad, .int .i64 newS.mouse, .bool newS.sgr]) 0 rfl rfl rfl rfl ag23 sz23) ?_
      obtain ⟨r31, hr31⟩ : ∃ x, x = lstate newS true 47 false := ⟨_, rfl⟩
      refine Seg.callV (v := .int .i64 r31) rfl rfl (Want.some 28 80 true rfl rfl rfl g30) (K.func rfl co26) (fun w hs => by rw [hr31]; exact lstate_c newS true 47 false w ) ?_
      refine Seg.y rfl rfl (Want.some 28 80 true rfl rfl rfl g30) (Y.binOp rfl rfl (B.eq _ _ _)) ?_
      refine Seg.y rfl rfl (Want.none rfl) (Y.pickT rfl g30 rfl) ?_
      refine Seg.y rfl rfl (Want.none rfl) (Y.move rfl) ?_
      have g32 : (decide (r31 = 2)) = true := by simp only [hr31]; decide +kernel
      refine Seg.y rfl rfl (Want.some 33 85 true rfl rfl rfl g32) (Y.loadN (vs := [.bool newS.ins, .bool newS.nl, .bool newS.ck, .bool newS.inv, .bool newS.org, .bool newS.aut, .bool newS.vis, .bool newS.paste, .bool newS.focus, .bool newS.sync, .bool newS.keypad, .int .i64 newS.mouse, .bool newS.sgr]) 0 rfl rfl rfl rfl ag23 sz23) ?_
      obtain ⟨r33, hr33⟩ : ∃ x, x = lstate newS true 1048 true := ⟨_, rfl⟩
      refine Seg.callV (v := .int .i64 r33) rfl rfl (Want.some 33 85 true rfl rfl rfl g32) (K.func rfl co26) (fun w hs => by rw [hr33]; exact lstate_c newS true 1048 true w ) ?_
      refine Seg.y rfl rfl (Want.some 33 85 true rfl rfl rfl g32) (Y.binOp rfl rfl (B.eq _ _ _)) ?_
      refine Seg.y rfl rfl (Want.none rfl) (Y.pickT rfl g32 rfl) ?_
      refine Seg.y rfl rfl (Want.none rfl) (Y.assign rfl) ?_
      refine Seg.nil ?_
      refine Sx.next ?_
      refine Sc.seq ?_
      refine Sc.region ?_
      refine Seg.y rfl rfl (Want.none rfl) (Y.build (v := .agg (List.toArray [.bool true, .bool false, .bool false, .bool false, .bool false, .bool false, .bool true, .bool false, .bool false, .bool false, .bool true, .int .i64 1002, .bool false])) rfl (fun w => by kernel_rfl)) ?_
      refine Seg.chg rfl rfl (Want.none rfl) (C.alloc zv23 rfl) (fun b34 hb34 => ?_)
      refine Seg.chs rfl (Want.none rfl) (C.store (cs' := [.bool true, .bool false, .bool false, .bool false, .bool false, .bool false, .bool true, .bool false, .bool false, .bool false, .bool true, .int .i64 1002, .bool false]) (vs := [.bool true, .bool false, .bool false, .bool false, .bool false, .bool false, .bool true, .bool false, .bool false, .bool false, .bool true, .int .i64 1002, .bool false]) 0 rfl rfl rfl rfl rfl rfl rfl sz23) (fun _ _ => ?_)
      refine Seg.nil ?_
      refine Sx.next ?_
      refine Sc.seq ?_
      refine Sc.region ?_
      refine Seg.y rfl rfl (Want.none rfl) (Y.loadN (vs := [.bool true, .bool false, .bool false, .bool false, .bool false, .bool false, .bool true, .bool false, .bool false, .bool false, .bool true, .int .i64 1002, .bool false]) 0 rfl rfl rfl rfl ag23 sz23) ?_
      refine Seg.callR (val := fun ((a35, c36) : Option Addr × Nat) => .tuple (List.toArray [.slice a35 ((actionsS (⟨true, false, false, false, false, false, true, false, false, false, true, 1002, false⟩ : Md)).1.length) c36, .int .i64 ((actionsS (⟨true, false, false, false, false, false, true, false, false, false, true, 1002, false⟩ : Md)).2)])) (Φ := fun ((a35, c36) : Option Addr × Nat) => fun w => RowV 6 encAc a35 (actionsS (⟨true, false, false, false, false, false, true, false, false, false, true, 1002, false⟩ : Md)).1 w) rfl rfl (Want.none rfl) (K.func rfl co21) (fun w hs => actions_c (⟨true, false, false, false, false, false, true, false, false, false, true, 1002, false⟩ : Md) _ w hs.dc_lt   ) (fun ⟨a35, c36⟩ => ?_)
      refine Seg.y rfl rfl (Want.none rfl) (Y.move rfl) ?_
      refine Seg.y rfl rfl (Want.none rfl) (Y.extract rfl rfl) ?_
      refine Seg.y rfl rfl (Want.none rfl) (Y.extract rfl rfl) ?_
      refine Seg.y rfl rfl (Want.none rfl) (Y.assign rfl) ?_
      refine Seg.y rfl rfl (Want.none rfl) (Y.assign rfl) ?_
      refine Seg.nil ?_
      refine Sx.next ?_
      refine Sc.seq ?_
      refine Sc.region ?_
      refine Seg.y rfl rfl (Want.none rfl) (Y.move rfl) ?_
      refine Seg.y rfl rfl (Want.none rfl) (Y.move rfl) ?_
      have g37 : (decide (r4.2.2 = 0)) = true := by simp only [hr4]; decide +kernel
      refine Seg.y rfl rfl (Want.some 1 97 true rfl rfl rfl g37) (Y.move rfl) ?_
      refine Seg.y rfl rfl (Want.none rfl) (Y.pickT rfl g37 rfl) ?_
      refine Seg.y rfl rfl (Want.none rfl) (Y.move rfl) ?_
      have g38 : (decide (r33 = 0)) = true := by simp only [hr33]; decide +kernel
      refine Seg.y rfl rfl (Want.some 4 100 true rfl rfl rfl g38) (Y.move rfl) ?_
      refine Seg.y rfl rfl (Want.some 4 100 true rfl rfl rfl g38) (Y.binOp rfl rfl (B.eq _ _ _)) ?_
      refine Seg.y rfl rfl (Want.none rfl) (Y.pickT rfl g38 rfl) ?_
      refine Seg.y rfl rfl (Want.none rfl) (Y.move rfl) ?_
      have g39 : (decide ((actionsS (⟨true, false, false, false, false, false, true, false, false, false, true, 1002, false⟩ : Md)).2 = 0)) = true := by decide +kernel
      refine Seg.y rfl rfl (Want.some 8 104 true rfl rfl rfl g39) (Y.move rfl) ?_
      refine Seg.y rfl rfl (Want.some 8 104 true rfl rfl rfl g39) (Y.build (v := .agg (List.toArray [.int .i64 36, .int .i64 4, .int .i64 1, .int .i64 0, .int .i64 0, .string ByteArray.empty])) rfl (fun w => by kernel_rfl)) ?_
      refine Seg.y rfl rfl (Want.some 8 104 true rfl rfl rfl g39) (Y.build (v := .agg (List.toArray [.int .i64 37, .int .i64 7, .int .i64 0, .int .i64 0, .int .i64 0, .string ByteArray.empty])) rfl (fun w => by kernel_rfl)) ?_
      refine Seg.y rfl rfl (Want.some 8 104 true rfl rfl rfl g39) (Y.build (v := .agg (List.toArray [.int .i64 37, .int .i64 1002, .int .i64 1, .int .i64 0, .int .i64 0, .string ByteArray.empty])) rfl (fun w => by kernel_rfl)) ?_
      refine Seg.y rfl rfl (Want.some 8 104 true rfl rfl rfl g39) (Y.build (v := .agg (List.toArray [.int .i64 14, .int .i64 1, .int .i64 0, .int .i64 0, .int .i64 0, .string ByteArray.empty])) rfl (fun w => by kernel_rfl)) ?_
      refine Seg.chg rfl rfl (Want.some 8 104 true rfl rfl rfl g39) (C.buildSlice (e := 53) (cs := [.int .i64 36, .int .i64 4, .int .i64 1, .int .i64 0, .int .i64 0, .string ByteArray.empty, .int .i64 37, .int .i64 7, .int .i64 0, .int .i64 0, .int .i64 0, .string ByteArray.empty, .int .i64 37, .int .i64 1002, .int .i64 1, .int .i64 0, .int .i64 0, .string ByteArray.empty, .int .i64 14, .int .i64 1, .int .i64 0, .int .i64 0, .int .i64 0, .string ByteArray.empty]) rfl (fun w => by kernel_rfl)) (fun b40 hb40 => ?_)
      refine Seg.freeze 0 rfl hb40 ?_
      obtain ⟨r41, hr41⟩ : ∃ x, x = sameS ((actionsS (⟨true, false, false, false, false, false, true, false, false, false, true, 1002, false⟩ : Md)).1) [(⟨36, 4, 1, (⟨0, 0⟩ : Co), ByteArray.empty⟩ : Ac), (⟨37, 7, 0, (⟨0, 0⟩ : Co), ByteArray.empty⟩ : Ac), (⟨37, 1002, 1, (⟨0, 0⟩ : Co), ByteArray.empty⟩ : Ac), (⟨14, 1, 0, (⟨0, 0⟩ : Co), ByteArray.empty⟩ : Ac)] := ⟨_, rfl⟩
      refine Seg.callV (v := .bool r41) rfl rfl (Want.some 8 104 true rfl rfl rfl g39) (K.func rfl co22) (fun w hs => by rw [hr41]; exact same_c a35 c36 ((actionsS (⟨true, false, false, false, false, false, true, false, false, false, true, 1002, false⟩ : Md)).1) (some ⟨b40, 0, none⟩) 4 [(⟨36, 4, 1, (⟨0, 0⟩ : Co), ByteArray.empty⟩ : Ac), (⟨37, 7, 0, (⟨0, 0⟩ : Co), ByteArray.empty⟩ : Ac), (⟨37, 1002, 1, (⟨0, 0⟩ : Co), ByteArray.empty⟩ : Ac), (⟨14, 1, 0, (⟨0, 0⟩ : Co), ByteArray.empty⟩ : Ac)] _ w hs.dc_lt (hs.fut.mono fun w h => ⟨h.1.2, (RowV.block (fun _ => rfl) (h.2) [] rfl)⟩) (by first | omega | exact actions_len _ | exact ractions_len _ | (simp; done) | (simp; omega)) (by first | omega | exact actions_len _ | exact ractions_len _ | (simp; done) | (simp; omega)) ) ?_
      refine Seg.y rfl rfl (Want.none rfl) (Y.pickT rfl g39 rfl) ?_
      refine Seg.y rfl rfl (Want.none rfl) (Y.assign rfl) ?_
      refine Seg.nil ?_
      refine Sx.next ?_
      refine Sc.ret ?_
      refine Sx.body (.inl rfl) (res1 rfl (Rv.tmp rfl)) (fun w hs => ?_)
      refine RetV.eq ?_ hs
      exact congrArg Value.bool (by simp only [hr41]; decide +kernel)
end Go.Proofs.Ythmigjicibhheaa
