/- What the functions of the program and of the reference come to: one theorem a function (part 10). -/
import Derived.Test.YthmigjicibhheaaW9
namespace Go.Proofs.Ythmigjicibhheaa
open Go Go.RowKit Go.Eng
set_option maxRecDepth 100000
set_option linter.unusedVariables false
set_option linter.unusedSimpArgs false
set_option maxHeartbeats 4000000 in
theorem modeKnown_c (w : World)  :
    Calls Try.prog 8 #[] w (RetV w (.bool true)) := by
  refine enter (F := fun w => True) [] Try.func8 rfl Try.ntmps8 (by simp) Fut.triv rfl ?_
  refine Sc.seq ?_
  refine Sc.region ?_
  refine Seg.y rfl rfl (Want.none rfl) (Y.assign rfl) ?_
  refine Seg.nil ?_
  refine Sx.next ?_
  refine Sc.seq ?_
  refine Sc.region ?_
  refine Seg.y rfl rfl (Want.none rfl) (Y.build (v := .agg (List.toArray [.bool false, .bool false, .bool false, .bool false, .bool false, .bool false, .bool false, .bool false, .bool false, .bool false, .bool false, .int .i64 0, .bool false])) rfl (fun w => by kernel_rfl)) ?_
  refine Seg.chg rfl rfl (Want.none rfl) (C.alloc zv23 rfl) (fun b1 hb1 => ?_)
  refine Seg.chs rfl (Want.none rfl) (C.store (cs' := [.bool false, .bool false, .bool false, .bool false, .bool false, .bool false, .bool false, .bool false, .bool false, .bool false, .bool false, .int .i64 0, .bool false]) (vs := [.bool false, .bool false, .bool false, .bool false, .bool false, .bool false, .bool false, .bool false, .bool false, .bool false, .bool false, .int .i64 0, .bool false]) 0 rfl rfl rfl rfl rfl rfl rfl sz23) (fun _ _ => ?_)
  refine Seg.nil ?_
  refine Sx.next ?_
  refine Sc.seq ?_
  refine Sc.region ?_
  refine Seg.y rfl rfl (Want.none rfl) (Y.loadN (vs := [.bool false, .bool false, .bool false, .bool false, .bool false, .bool false, .bool false, .bool false, .bool false, .bool false, .bool false, .int .i64 0, .bool false]) 0 rfl rfl rfl rfl ag23 sz23) ?_
  obtain ⟨r2, hr2⟩ : ∃ x, x = lput (⟨false, false, false, false, false, false, false, false, false, false, false, 0, false⟩ : Md) false 4 true := ⟨_, rfl⟩
  refine Seg.callV (v := .agg (List.toArray [.bool r2.ins, .bool r2.nl, .bool r2.ck, .bool r2.inv, .bool r2.org, .bool r2.aut, .bool r2.vis, .bool r2.paste, .bool r2.focus, .bool r2.sync, .bool r2.keypad, .int .i64 r2.mouse, .bool r2.sgr])) rfl rfl (Want.none rfl) (K.func rfl co24) (fun w hs => by rw [hr2]; exact lput_c (⟨false, false, false, false, false, false, false, false, false, false, false, 0, false⟩ : Md) false 4 true w ) ?_
  refine Seg.y rfl rfl (Want.none rfl) (Y.build (v := .agg (List.toArray [.bool true, .bool false, .bool false, .bool false, .bool false, .bool false, .bool false, .bool false, .bool false, .bool false, .bool false, .int .i64 0, .bool false])) rfl (fun w => by kernel_rfl)) ?_
  refine Seg.y rfl rfl (Want.none rfl) (Y.binOp rfl rfl (B.eqS gq23 (Eqs.struct (n := 1) (b := MdEq r2 (⟨true, false, false, false, false, false, false, false, false, false, false, 0, false⟩ : Md)) Try.underlying23 sd23 (EqF.cons (b := r2.ins == true) rfl ag4 rfl rfl (Eqs.mono (m := 1) (Eqs.bool Try.underlying4) (by decide)) (EqF.cons (b := r2.nl == false) rfl ag4 rfl rfl (Eqs.mono (m := 1) (Eqs.bool Try.underlying4) (by decide)) (EqF.cons (b := r2.ck == false) rfl ag4 rfl rfl (Eqs.mono (m := 1) (Eqs.bool Try.underlying4) (by decide)) (EqF.cons (b := r2.inv == false) rfl ag4 rfl rfl (Eqs.mono (m := 1) (Eqs.bool Try.underlying4) (by decide)) (EqF.cons (b := r2.org == false) rfl ag4 rfl rfl (Eqs.mono (m := 1) (Eqs.bool Try.underlying4) (by decide)) (EqF.cons (b := r2.aut == false) rfl ag4 rfl rfl (Eqs.mono (m := 1) (Eqs.bool Try.underlying4) (by decide)) (EqF.cons (b := r2.vis == false) rfl ag4 rfl rfl (Eqs.mono (m := 1) (Eqs.bool Try.underlying4) (by decide)) (EqF.cons (b := r2.paste == false) rfl ag4 rfl rfl (Eqs.mono (m := 1) (Eqs.bool Try.underlying4) (by decide)) (EqF.cons (b := r2.focus == false) rfl ag4 rfl rfl (Eqs.mono (m := 1) (Eqs.bool Try.underlying4) (by decide)) (EqF.cons (b := r2.sync == false) rfl ag4 rfl rfl (Eqs.mono (m := 1) (Eqs.bool Try.underlying4) (by decide)) (EqF.cons (b := r2.keypad == false) rfl ag4 rfl rfl (Eqs.mono (m := 1) (Eqs.bool Try.underlying4) (by decide)) (EqF.cons (b := decide (r2.mouse = 0)) rfl ag3 rfl rfl (Eqs.mono (m := 1) (Eqs.int Try.underlying3) (by decide)) (EqF.cons (b := r2.sgr == false) rfl ag4 rfl rfl (Eqs.mono (m := 1) (Eqs.bool Try.underlying4) (by decide)) (EqF.nil))))))))))))))) rfl)) ?_
  refine Seg.y rfl rfl (Want.none rfl) (Y.move rfl) ?_
  have g3 : (MdEq r2 (⟨true, false, false, false, false, false, false, false, false, false, false, 0, false⟩ : Md)) = true := by simp only [hr2]; decide +kernel
  refine Seg.y rfl rfl (Want.some 4 25 true rfl rfl rfl g3) (Y.loadN (vs := [.bool false, .bool false, .bool false, .bool false, .bool false, .bool false, .bool false, .bool false, .bool false, .bool false, .bool false, .int .i64 0, .bool false]) 0 rfl rfl rfl rfl ag23 sz23) ?_
  obtain ⟨r4, hr4⟩ : ∃ x, x = lput (⟨false, false, false, false, false, false, false, false, false, false, false, 0, false⟩ : Md) false 20 true := ⟨_, rfl⟩
  refine Seg.callV (v := .agg (List.toArray [.bool r4.ins, .bool r4.nl, .bool r4.ck, .bool r4.inv, .bool r4.org, .bool r4.aut, .bool r4.vis, .bool r4.paste, .bool r4.focus, .bool r4.sync, .bool r4.keypad, .int .i64 r4.mouse, .bool r4.sgr])) rfl rfl (Want.some 4 25 true rfl rfl rfl g3) (K.func rfl co24) (fun w hs => by rw [hr4]; exact lput_c (⟨false, false, false, false, false, false, false, false, false, false, false, 0, false⟩ : Md) false 20 true w ) ?_
  refine Seg.y rfl rfl (Want.some 4 25 true rfl rfl rfl g3) (Y.build (v := .agg (List.toArray [.bool false, .bool true, .bool false, .bool false, .bool false, .bool false, .bool false, .bool false, .bool false, .bool false, .bool false, .int .i64 0, .bool false])) rfl (fun w => by kernel_rfl)) ?_
  refine Seg.y rfl rfl (Want.some 4 25 true rfl rfl rfl g3) (Y.binOp rfl rfl (B.eqS gq23 (Eqs.struct (n := 1) (b := MdEq r4 (⟨false, true, false, false, false, false, false, false, false, false, false, 0, false⟩ : Md)) Try.underlying23 sd23 (EqF.cons (b := r4.ins == false) rfl ag4 rfl rfl (Eqs.mono (m := 1) (Eqs.bool Try.underlying4) (by decide)) (EqF.cons (b := r4.nl == true) rfl ag4 rfl rfl (Eqs.mono (m := 1) (Eqs.bool Try.underlying4) (by decide)) (EqF.cons (b := r4.ck == false) rfl ag4 rfl rfl (Eqs.mono (m := 1) (Eqs.bool Try.underlying4) (by decide)) (EqF.cons (b := r4.inv == false) rfl ag4 rfl rfl (Eqs.mono (m := 1) (Eqs.bool Try.underlying4) (by decide)) (EqF.cons (b := r4.org == false) rfl ag4 rfl rfl (Eqs.mono (m := 1) (Eqs.bool Try.underlying4) (by decide)) (EqF.cons (b := r4.aut == false) rfl ag4 rfl rfl (Eqs.mono (m := 1) (Eqs.bool Try.underlying4) (by decide)) (EqF.cons (b := r4.vis == false) rfl ag4 rfl rfl (Eqs.mono (m := 1) (Eqs.bool Try.underlying4) (by decide)) (EqF.cons (b := r4.paste == false) rfl ag4 rfl rfl (Eqs.mono (m := 1) (Eqs.bool Try.underlying4) (by decide)) (EqF.cons (b := r4.focus == false) rfl ag4 rfl rfl (Eqs.mono (m := 1) (Eqs.bool Try.underlying4) (by decide)) (EqF.cons (b := r4.sync == false) rfl ag4 rfl rfl (Eqs.mono (m := 1) (Eqs.bool Try.underlying4) (by decide)) (EqF.cons (b := r4.keypad == false) rfl ag4 rfl rfl (Eqs.mono (m := 1) (Eqs.bool Try.underlying4) (by decide)) (EqF.cons (b := decide (r4.mouse = 0)) rfl ag3 rfl rfl (Eqs.mono (m := 1) (Eqs.int Try.underlying3) (by decide)) (EqF.cons (b := r4.sgr == false) rfl ag4 rfl rfl (Eqs.mono (m := 1) (Eqs.bool Try.underlying4) (by decide)) (EqF.nil))))))))))))))) rfl)) ?_
  refine Seg.y rfl rfl (Want.none rfl) (Y.pickT rfl g3 rfl) ?_
  refine Seg.y rfl rfl (Want.none rfl) (Y.move rfl) ?_
  have g5 : (MdEq r4 (⟨false, true, false, false, false, false, false, false, false, false, false, 0, false⟩ : Md)) = true := by simp only [hr4]; decide +kernel
  refine Seg.y rfl rfl (Want.some 10 31 true rfl rfl rfl g5) (Y.loadN (vs := [.bool false, .bool false, .bool false, .bool false, .bool false, .bool false, .bool false, .bool false, .bool false, .bool false, .bool false, .int .i64 0, .bool false]) 0 rfl rfl rfl rfl ag23 sz23) ?_
  obtain ⟨r6, hr6⟩ : ∃ x, x = lput (⟨false, false, false, false, false, false, false, false, false, false, false, 0, false⟩ : Md) true 1 true := ⟨_, rfl⟩
  refine Seg.callV (v := .agg (List.toArray [.bool r6.ins, .bool r6.nl, .bool r6.ck, .bool r6.inv, .bool r6.org, .bool r6.aut, .bool r6.vis, .bool r6.paste, .bool r6.focus, .bool r6.sync, .bool r6.keypad, .int .i64 r6.mouse, .bool r6.sgr])) rfl rfl (Want.some 10 31 true rfl rfl rfl g5) (K.func rfl co24) (fun w hs => by rw [hr6]; exact lput_c (⟨false, false, false, false, false, false, false, false, false, false, false, 0, false⟩ : Md) true 1 true w ) ?_
  refine Seg.y rfl rfl (Want.some 10 31 true rfl rfl rfl g5) (Y.build (v := .agg (List.toArray [.bool false, .bool false, .bool true, .bool false, .bool false, .bool false, .bool false, .bool false, .bool false, .bool false, .bool false, .int .i64 0, .bool false])) rfl (fun w => by kernel_rfl)) ?_
  refine Seg.y rfl rfl (Want.some 10 31 true rfl rfl rfl g5) (Y.binOp rfl rfl (B.eqS gq23 (Eqs.struct (n := 1) (b := MdEq r6 (⟨false, false, true, false, false, false, false, false, false, false, false, 0, false⟩ : Md)) Try.underlying23 sd23 (EqF.cons (b := r6.ins == false) rfl ag4 rfl rfl (Eqs.mono (m := 1) (Eqs.bool Try.underlying4) (by decide)) (EqF.cons (b := r6.nl == false) rfl ag4 rfl rfl (Eqs.mono (m := 1) (Eqs.bool Try.underlying4) (by decide)) (EqF.cons (b := r6.ck == true) rfl ag4 rfl rfl (Eqs.mono (m := 1) (Eqs.bool Try.underlying4) (by decide)) (EqF.cons (b := r6.inv == false) rfl ag4 rfl rfl (Eqs.mono (m := 1) (Eqs.bool Try.underlying4) (by decide)) (EqF.cons (b := r6.org == false) rfl ag4 rfl rfl (Eqs.mono (m := 1) (Eqs.bool Try.underlying4) (by decide)) (EqF.cons (b := r6.aut == false) rfl ag4 rfl rfl (Eqs.mono (m := 1) (Eqs.bool Try.underlying4) (by decide)) (EqF.cons (b := r6.vis == false) rfl ag4 rfl rfl (Eqs.mono (m := 1) (Eqs.bool Try.underlying4) (by decide)) (EqF.cons (b := r6.paste == false) rfl ag4 rfl rfl (Eqs.mono (m := 1) (Eqs.bool Try.underlying4) (by decide)) (EqF.cons (b := r6.focus == false) rfl ag4 rfl rfl (Eqs.mono (m := 1) (Eqs.bool Try.underlying4) (by decide)) (EqF.cons (b := r6.sync == false) rfl ag4 rfl rfl (Eqs.mono (m := 1) (Eqs.bool Try.underlying4) (by decide)) (EqF.cons (b := r6.keypad == false) rfl ag4 rfl rfl (Eqs.mono (m := 1) (Eqs.bool Try.underlying4) (by decide)) (EqF.cons (b := decide (r6.mouse = 0)) rfl ag3 rfl rfl (Eqs.mono (m := 1) (Eqs.int Try.underlying3) (by decide)) (EqF.cons (b := r6.sgr == false) rfl ag4 rfl rfl (Eqs.mono (m := 1) (Eqs.bool Try.underlying4) (by decide)) (EqF.nil))))))))))))))) rfl)) ?_
  refine Seg.y rfl rfl (Want.none rfl) (Y.pickT rfl g5 rfl) ?_
  refine Seg.y rfl rfl (Want.none rfl) (Y.move rfl) ?_
  have g7 : (MdEq r6 (⟨false, false, true, false, false, false, false, false, false, false, false, 0, false⟩ : Md)) = true := by simp only [hr6]; decide +kernel
  refine Seg.y rfl rfl (Want.some 16 37 true rfl rfl rfl g7) (Y.loadN (vs := [.bool false, .bool false, .bool false, .bool false, .bool false, .bool false, .bool false, .bool false, .bool false, .bool false, .bool false, .int .i64 0, .bool false]) 0 rfl rfl rfl rfl ag23 sz23) ?_
  obtain ⟨r8, hr8⟩ : ∃ x, x = lput (⟨false, false, false, false, false, false, false, false, false, false, false, 0, false⟩ : Md) true 5 true := ⟨_, rfl⟩
  refine Seg.callV (v := .agg (List.toArray [.bool r8.ins, .bool r8.nl, .bool r8.ck, .bool r8.inv, .bool r8.org, .bool r8.aut, .bool r8.vis, .bool r8.paste, .bool r8.focus, .bool r8.sync, .bool r8.keypad, .int .i64 r8.mouse, .bool r8.sgr])) rfl rfl (Want.some 16 37 true rfl rfl rfl g7) (K.func rfl co24) (fun w hs => by rw [hr8]; exact lput_c (⟨false, false, false, false, false, false, false, false, false, false, false, 0, false⟩ : Md) true 5 true w ) ?_
  refine Seg.y rfl rfl (Want.some 16 37 true rfl rfl rfl g7) (Y.build (v := .agg (List.toArray [.bool false, .bool false, .bool false, .bool true, .bool false, .bool false, .bool false, .bool false, .bool false, .bool false, .bool false, .int .i64 0, .bool false])) rfl (fun w => by kernel_rfl)) ?_
  refine Seg.y rfl rfl (Want.some 16 37 true rfl rfl rfl g7) (Y.binOp rfl rfl (B.eqS gq23 (Eqs.struct (n := 1) (b := MdEq r8 (⟨false, false, false, true, false, false, false, false, false, false, false, 0, false⟩ : Md)) Try.underlying23 sd23 (EqF.cons (b := r8.ins == false) rfl ag4 rfl rfl (Eqs.mono (m := 1) (Eqs.bool Try.underlying4) (by decide)) (EqF.cons (b := r8.nl == false) rfl ag4 rfl rfl (Eqs.mono (m := 1) (Eqs.bool Try.underlying4) (by decide)) (EqF.cons (b := r8.ck == false) rfl ag4 rfl rfl (Eqs.mono (m := 1) (Eqs.bool Try.underlying4) (by decide)) (EqF.cons (b := r8.inv == true) rfl ag4 rfl rfl (Eqs.mono (m := 1) (Eqs.bool Try.underlying4) (by decide)) (EqF.cons (b := r8.org == false) rfl ag4 rfl rfl (Eqs.mono (m := 1) (Eqs.bool Try.underlying4) (by decide)) (EqF.cons (b := r8.aut == false) rfl ag4 rfl rfl (Eqs.mono (m := 1) (Eqs.bool Try.underlying4) (by decide)) (EqF.cons (b := r8.vis == false) rfl ag4 rfl rfl (Eqs.mono (m := 1) (Eqs.bool Try.underlying4) (by decide)) (EqF.cons (b := r8.paste == false) rfl ag4 rfl rfl (Eqs.mono (m := 1) (Eqs.bool Try.underlying4) (by decide)) (EqF.cons (b := r8.focus == false) rfl ag4 rfl rfl (Eqs.mono (m := 1) (Eqs.bool Try.underlying4) (by decide)) (EqF.cons (b := r8.sync == false) rfl ag4 rfl rfl (Eqs.mono (m := 1) (Eqs.bool Try.underlying4) (by decide)) (EqF.cons (b := r8.keypad == false) rfl ag4 rfl rfl (Eqs.mono (m := 1) (Eqs.bool Try.underlying4) (by decide)) (EqF.cons (b := decide (r8.mouse = 0)) rfl ag3 rfl rfl (Eqs.mono (m := 1) (Eqs.int Try.underlying3) (by decide)) (EqF.cons (b := r8.sgr == false) rfl ag4 rfl rfl (Eqs.mono (m := 1) (Eqs.bool Try.underlying4) (by decide)) (EqF.nil))))))))))))))) rfl)) ?_
  refine Seg.y rfl rfl (Want.none rfl) (Y.pickT rfl g7 rfl) ?_
  refine Seg.y rfl rfl (Want.none rfl) (Y.move rfl) ?_
  have g9 : (MdEq r8 (⟨false, false, false, true, false, false, false, false, false, false, false, 0, false⟩ : Md)) = true := by simp only [hr8]; decide +kernel
  refine Seg.y rfl rfl (Want.some 22 43 true rfl rfl rfl g9) (Y.loadN (vs := [.bool false, .bool false, .bool false, .bool false, .bool false, .bool false, .bool false, .bool false, .bool false, .bool false, .bool false, .int .i64 0, .bool false]) 0 rfl rfl rfl rfl ag23 sz23) ?_
  obtain ⟨r10, hr10⟩ : ∃ x, x = lput (⟨false, false, false, false, false, false, false, false, false, false, false, 0, false⟩ : Md) true 6 true := ⟨_, rfl⟩
  refine Seg.callV (v := .agg (List.toArray [.bool r10.ins, .bool r10.nl, .bool r10.ck, .bool r10.inv, .bool r10.org, .bool r10.aut, .bool r10.vis, .bool r10.paste, .bool r10.focus, .bool r10.sync, .bool r10.keypad, .int .i64 r10.mouse, .bool r10.sgr])) rfl rfl (Want.some 22 43 true rfl rfl rfl g9) (K.func rfl co24) (fun w hs => by rw [hr10]; exact lput_c (⟨false, false, false, false, false, false, false, false, false, false, false, 0, false⟩ : Md) true 6 true w ) ?_
  refine Seg.y rfl rfl (Want.some 22 43 true rfl rfl rfl g9) (Y.build (v := .agg (List.toArray [.bool false, .bool false, .bool false, .bool false, .bool true, .bool false, .bool false, .bool false, .bool false, .bool false, .bool false, .int .i64 0, .bool false])) rfl (fun w => by kernel_rfl)) ?_
  refine Seg.y rfl rfl (Want.some 22 43 true rfl rfl rfl g9) (Y.binOp rfl rfl (B.eqS gq23 (Eqs.struct (n := 1) (b := MdEq r10 (⟨false, false, false, false, true, false, false, false, false, false, false, 0, false⟩ : Md)) Try.underlying23 sd23 (EqF.cons (b := r10.ins == false) rfl ag4 rfl rfl (Eqs.mono (m := 1) (Eqs.bool Try.underlying4) (by decide)) (EqF.cons (b := r10.nl == false) rfl ag4 rfl rfl (Eqs.mono (m := 1) (Eqs.bool Try.underlying4) (by decide)) (EqF.cons (b := r10.ck == false) rfl ag4 rfl rfl (Eqs.mono (m := 1) (Eqs.bool Try.underlying4) (by decide)) (EqF.cons (b := r10.inv == false) rfl ag4 rfl rfl (Eqs.mono (m := 1) (Eqs.bool Try.underlying4) (by decide)) (EqF.cons (b := r10.org == true) rfl ag4 rfl rfl (Eqs.mono (m := 1) (Eqs.bool Try.underlying4) (by decide)) (EqF.cons (b := r10.aut == false) rfl ag4 rfl rfl (Eqs.mono (m := 1) (Eqs.bool Try.underlying4) (by decide)) (EqF.cons (b := r10.vis == false) rfl ag4 rfl rfl (Eqs.mono (m := 1) (Eqs.bool Try.underlying4) (by decide)) (EqF.cons (b := r10.paste == false) rfl ag4 rfl rfl (Eqs.mono (m := 1) (Eqs.bool Try.underlying4) (by decide)) (EqF.cons (b := r10.focus == false) rfl ag4 rfl rfl (Eqs.mono (m := 1) (Eqs.bool Try.underlying4) (by decide)) (EqF.cons (b := r10.sync == false) rfl ag4 rfl rfl (Eqs.mono (m := 1) (Eqs.bool Try.underlying4) (by decide)) (EqF.cons (b := r10.keypad == false) rfl ag4 rfl rfl (Eqs.mono (m := 1) (Eqs.bool Try.underlying4) (by decide)) (EqF.cons (b := decide (r10.mouse = 0)) rfl ag3 rfl rfl (Eqs.mono (m := 1) (Eqs.int Try.underlying3) (by decide)) (EqF.cons (b := r10.sgr == false) rfl ag4 rfl rfl (Eqs.mono (m := 1) (Eqs.bool Try.underlying4) (by decide)) (EqF.nil))))))))))))))) rfl)) ?_
  refine Seg.y rfl rfl (Want.none rfl) (Y.pickT rfl g9 rfl) ?_
  refine Seg.y rfl rfl (Want.none rfl) (Y.move rfl) ?_
  have g11 : (MdEq r10 (⟨false, false, false, false, true, false, false, false, false, false, false, 0, false⟩ : Md)) = true := by simp only [hr10]; decide +kernel
  refine Seg.y rfl rfl (Want.some 28 49 true rfl rfl rfl g11) (Y.loadN (vs := [.bool false, .bool false, .bool false, .bool false, .bool false, .bool false, .bool false, .bool false, .bool false, .bool false, .bool false, .int .i64 0, .bool false]) 0 rfl rfl rfl rfl ag23 sz23) ?_
  obtain ⟨r12, hr12⟩ : ∃ x, x = lput (⟨false, false, false, false, false, false, false, false, false, false, false, 0, false⟩ : Md) true 7 true := ⟨_, rfl⟩
  refine Seg.callV (v := .agg (List.toArray [.bool r12.ins, .bool r12.nl, .bool r12.ck, .bool r12.inv, .bool r12.org, .bool r12.aut, .bool r12.vis, .bool r12.paste, .bool r12.focus, .bool r12.sync, .bool r12.keypad, .int .i64 r12.mouse, .bool r12.sgr])) rfl rfl (Want.some 28 49 true rfl rfl rfl g11) (K.func rfl co24) (fun w hs => by rw [hr12]; exact lput_c (⟨false, false, false, false, false, false, false, false, false, false, false, 0, false⟩ : Md) true 7 true w ) ?_
  refine Seg.y rfl rfl (Want.some 28 49 true rfl rfl rfl g11) (Y.build (v := .agg (List.toArray [.bool false, .bool false, .bool false, .bool false, .bool false, .bool true, .bool false, .bool false, .bool false, .bool false, .bool false, .int .i64 0, .bool false])) rfl (fun w => by kernel_rfl)) ?_
  refine Seg.y rfl rfl (Want.some 28 49 true rfl rfl rfl g11) (Y.binOp rfl rfl (B.eqS gq23 (Eqs.struct (n := 1) (b := MdEq r12 (⟨false, false, false, false, false, true, false, false, false, false, false, 0, false⟩ : Md)) Try.underlying23 sd23 (EqF.cons (b := r12.ins == false) rfl ag4 rfl rfl (Eqs.mono (m := 1) (Eqs.bool Try.underlying4) (by decide)) (EqF.cons (b := r12.nl == false) rfl ag4 rfl rfl (Eqs.mono (m := 1) (Eqs.bool Try.underlying4) (by decide)) (EqF.cons (b := r12.ck == false) rfl ag4 rfl rfl (Eqs.mono (m := 1) (Eqs.bool Try.underlying4) (by decide)) (EqF.cons (b := r12.inv == false) rfl ag4 rfl rfl (Eqs.mono (m := 1) (Eqs.bool Try.underlying4) (by decide)) (EqF.cons (b := r12.org == false) rfl ag4 rfl rfl (Eqs.mono (m := 1) (Eqs.bool Try.underlying4) (by decide)) (EqF.cons (b := r12.aut == true) rfl ag4 rfl rfl (Eqs.mono (m := 1) (Eqs.bool Try.underlying4) (by decide)) (EqF.cons (b := r12.vis == false) rfl ag4 rfl rfl (Eqs.mono (m := 1) (Eqs.bool Try.underlying4) (by decide)) (EqF.cons (b := r12.paste == false) rfl ag4 rfl rfl (Eqs.mono (m := 1) (Eqs.bool Try.underlying4) (by decide)) (EqF.cons (b := r12.focus == false) rfl ag4 rfl rfl (Eqs.mono (m := 1) (Eqs.bool Try.underlying4) (by decide)) (EqF.cons (b := r12.sync == false) rfl ag4 rfl rfl (Eqs.mono (m := 1) (Eqs.bool Try.underlying4) (by decide)) (EqF.cons (b := r12.keypad == false) rfl ag4 rfl rfl (Eqs.mono (m := 1) (Eqs.bool Try.underlying4) (by decide)) (EqF.cons (b := decide (r12.mouse = 0)) rfl ag3 rfl rfl (Eqs.mono (m := 1) (Eqs.int Try.underlying3) (by decide)) (EqF.cons (b := r12.sgr == false) rfl ag4 rfl rfl (Eqs.mono (m := 1) (Eqs.bool Try.underlying4) (by decide)) (EqF.nil))))))))))))))) rfl)) ?_
  refine Seg.y rfl rfl (Want.none rfl) (Y.pickT rfl g11 rfl) ?_
  refine Seg.y rfl rfl (Want.none rfl) (Y.move rfl) ?_
  have g13 : (MdEq r12 (⟨false, false, false, false, false, true, false, false, false, false, false, 0, false⟩ : Md)) = true := by simp only [hr12]; decide +kernel
  refine Seg.y rfl rfl (Want.some 34 55 true rfl rfl rfl g13) (Y.loadN (vs := [.bool false, .bool false, .bool false, .bool false, .bool false, .bool false, .bool false, .bool false, .bool false, .bool false, .bool false, .int .i64 0, .bool false]) 0 rfl rfl rfl rfl ag23 sz23) ?_
  obtain ⟨r14, hr14⟩ : ∃ x, x = lput (⟨false, false, false, false, false, false, false, false, false, false, false, 0, false⟩ : Md) true 25 true := ⟨_, rfl⟩
  refine Seg.callV (v := .agg (List.toArray [.bool r14.ins, .bool r14.nl, .bool r14.ck, .bool r14.inv, .bool r14.org, .bool r14.aut, .bool r14.vis, .bool r14.paste, .bool r14.focus, .bool r14.sync, .bool r14.keypad, .int .i64 r14.mouse, .bool r14.sgr])) rfl rfl (Want.some 34 55 true rfl rfl rfl g13) (K.func rfl co24) (fun w hs => by rw [hr14]; exact lput_c (⟨false, false, false, false, false, false, false, false, false, false, false, 0, false⟩ : Md) true 25 true w ) ?_
  refine Seg.y rfl rfl (Want.some 34 55 true rfl rfl rfl g13) (Y.build (v := .agg (List.toArray [.bool false, .bool false, .bool false, .bool false, .bool false, .bool false, .bool true, .bool false, .bool false, .bool false, .bool false, .int .i64 0, .bool false])) rfl (fun w => by kernel_rfl)) ?_
  refine Seg.y rfl rfl (Want.some 34 55 true rfl rfl rfl g13) (Y.binOp rfl rfl (B.eqS gq23 (Eqs.struct (n := 1) (b := MdEq r14 (⟨false, false, false, false, false, false, true, false, false, false, false, 0, false⟩ : Md)) Try.underlying23 sd23 (EqF.cons (b := r14.ins == false) rfl ag4 rfl rfl (Eqs.mono (m := 1) (Eqs.bool Try.underlying4) (by decide)) (EqF.cons (b := r14.nl == false) rfl ag4 rfl rfl (Eqs.mono (m := 1) (Eqs.bool Try.underlying4) (by decide)) (EqF.cons (b := r14.ck == false) rfl ag4 rfl rfl (Eqs.mono (m := 1) (Eqs.bool Try.underlying4) (by decide)) (EqF.cons (b := r14.inv == false) rfl ag4 rfl rfl (Eqs.mono (m := 1) (Eqs.bool Try.underlying4) (by decide)) (EqF.cons (b := r14.org == false) rfl ag4 rfl rfl (Eqs.mono (m := 1) (Eqs.bool Try.underlying4) (by decide)) (EqF.cons (b := r14.aut == false) rfl ag4 rfl rfl (Eqs.mono (m := 1) (Eqs.bool Try.underlying4) (by decide)) (EqF.cons (b := r14.vis == true) rfl ag4 rfl rfl (Eqs.mono (m := 1) (Eqs.bool Try.underlying4) (by decide)) (EqF.cons (b := r14.paste == false) rfl ag4 rfl rfl (Eqs.mono (m := 1) (Eqs.bool Try.underlying4) (by decide)) (EqF.cons (b := r14.focus == false) rfl ag4 rfl rfl (Eqs.mono (m := 1) (Eqs.bool Try.underlying4) (by decide)) (EqF.cons (b := r14.sync == false) rfl ag4 rfl rfl (Eqs.mono (m := 1) (Eqs.bool Try.underlying4) (by decide)) (EqF.cons (b := r14.keypad == false) rfl ag4 rfl rfl (Eqs.mono (m := 1) (Eqs.bool Try.underlying4) (by decide)) (EqF.cons (b := decide (r14.mouse = 0)) rfl ag3 rfl rfl (Eqs.mono (m := 1) (Eqs.int Try.underlying3) (by decide)) (EqF.cons (b := r14.sgr == false) rfl ag4 rfl rfl (Eqs.mono (m := 1) (Eqs.bool Try.underlying4) (by decide)) (EqF.nil))))))))))))))) rfl)) ?_
  refine Seg.y rfl rfl (Want.none rfl) (Y.pickT rfl g13 rfl) ?_
  refine Seg.y rfl rfl (Want.none rfl) (Y.move rfl) ?_
  have g15 : (MdEq r14 (⟨false, false, false, false, false, false, true, false, false, false, false, 0, false⟩ : Md)) = true := by simp only [hr14]; decide +kernel
  refine Seg.y rfl rfl (Want.some 40 61 true rfl rfl rfl g15) (Y.loadN (vs := [.bool false, .bool false, .bool false, .bool false, .bool false, .bool false, .bool false, .bool false, .bool false, .bool false, .bool false, .int .i64 0, .bool false]) 0 rfl rfl rfl rfl ag23 sz23) ?_
  obtain ⟨r16, hr16⟩ : ∃ x, x = lput (⟨false, false, false, false, false, false, false, false, false, false, false, 0, false⟩ : Md) true 1004 true := ⟨_, rfl⟩
  refine Seg.callV (v := .agg (List.toArray [.bool r16.ins, .bool r16.nl, .bool r16.ck, .bool r16.inv, .bool r16.org, .bool r16.aut, .bool r16.vis, .bool r16.paste, .bool r16.focus, .bool r16.sync, .bool r16.keypad, .int .i64 r16.mouse, .bool r16.sgr])) rfl rfl (Want.some 40 61 true rfl rfl rfl g15) (K.func rfl co24) (fun w hs => by rw [hr16]; exact lput_c (⟨false, false, false, false, false, false, false, false, false, false, false, 0, false⟩ : Md) true 1004 true w ) ?_
  refine Seg.y rfl rfl (Want.some 40 61 true rfl rfl rfl g15) (Y.build (v := .agg (List.toArray [.bool false, .bool false, .bool false, .bool false, .bool false, .bool false, .bool false, .bool false, .bool true, .bool false, .bool false, .int .i64 0, .bool false])) rfl (fun w => by kernel_rfl)) ?_
  refine Seg.y rfl rfl (Want.some 40 61 true rfl rfl rfl g15) (Y.binOp rfl rfl (B.eqS gq23 (Eqs.struct (n := 1) (b := MdEq r16 (⟨false, false, false, false, false, false, false, false, true, false, false, 0, false⟩ : Md)) Try.underlying23 sd23 (EqF.cons (b := r16.ins == false) rfl ag4 rfl rfl (Eqs.mono (m := 1) (Eqs.bool Try.underlying4) (by decide)) (EqF.cons (b := r16.nl == false) rfl ag4 rfl rfl (Eqs.mono (m := 1) (Eqs.bool Try.underlying4) (by decide)) (EqF.cons (b := r16.ck == false) rfl ag4 rfl rfl (Eqs.mono (m := 1) (Eqs.bool Try.underlying4) (by decide)) (EqF.cons (b := r16.inv == false) rfl ag4 rfl rfl (Eqs.mono (m := 1) (Eqs.bool Try.underlying4) (by decide)) (EqF.cons (b := r16.org == false) rfl ag4 rfl rfl (Eqs.mono (m := 1) (Eqs.bool Try.underlying4) (by decide)) (EqF.cons (b := r16.aut == false) rfl ag4 rfl rfl (Eqs.mono (m := 1) (Eqs.bool Try.underlying4) (by decide)) (EqF.cons (b := r16.vis == false) rfl ag4 rfl rfl (Eqs.mono (m := 1) (Eqs.bool Try.underlying4) (by decide)) (EqF.cons (b := r16.paste == false) rfl ag4 rfl rfl (Eqs.mono (m := 1) (Eqs.bool Try.underlying4) (by decide)) (EqF.cons (b := r16.focus == true) rfl ag4 rfl rfl (Eqs.mono (m := 1) (Eqs.bool Try.underlying4) (by decide)) (EqF.cons (b := r16.sync == false) rfl ag4 rfl rfl (Eqs.mono (m := 1) (Eqs.bool Try.underlying4) (by decide)) (EqF.cons (b := r16.keypad == false) rfl ag4 rfl rfl (Eqs.mono (m := 1) (Eqs.bool Try.underlying4) (by decide)) (EqF.cons (b := decide (r16.mouse = 0)) rfl ag3 rfl rfl (Eqs.mono (m := 1) (Eqs.int Try.underlying3) (by decide)) (EqF.cons (b := r16.sgr == false) rfl ag4 rfl rfl (Eqs.mono (m := 1) (Eqs.bool Try.underlying4) (by decide)) (EqF.nil))))))))))))))) rfl)) ?_
  refine Seg.y rfl rfl (Want.none rfl) (Y.pickT rfl g15 rfl) ?_
  refine Seg.y rfl rfl (Want.none rfl) (Y.move rfl) ?_
  have g17 : (MdEq r16 (⟨false, false, false, false, false, false, false, false, true, false, false, 0, false⟩ : Md)) = true := by simp only [hr16]; decide +kernel
  refine Seg.y rfl rfl (Want.some 46 67 true rfl rfl rfl g17) (Y.loadN (vs := [.bool false, .bool false, .bool false, .bool false, .bool false, .bool false, .bool false, .bool false, .bool false, .bool false, .bool false, .int .i64 0, .bool false]) 0 rfl rfl rfl rfl ag23 sz23) ?_
  obtain ⟨r18, hr18⟩ : ∃ x, x = lput (⟨false, false, false, false, false, false, false, false, false, false, false, 0, false⟩ : Md) true 1006 true := ⟨_, rfl⟩
  refine Seg.callV (v := .agg (List.toArray [.bool r18.ins, .bool r18.nl, .bool r18.ck, .bool r18.inv, .bool r18.org, .bool r18.aut, .bool r18.vis, .bool r18.paste, .bool r18.focus, .bool r18.sync, .bool r18.keypad, .int .i64 r18.mouse, .bool r18.sgr])) rfl rfl (Want.some 46 67 true rfl rfl rfl g17) (K.func rfl co24) (fun w hs => by rw [hr18]; exact lput_c (⟨false, false, false, false, false, false, false, false, false, false, false, 0, false⟩ : Md) true 1006 true w ) ?_
  refine Seg.y rfl rfl (Want.some 46 67 true rfl rfl rfl g17) (Y.build (v := .agg (List.toArray [.bool false, .bool false, .bool false, .bool false, .bool false, .bool false, .bool false, .bool false, .bool false, .bool false, .bool false, .int .i64 0, .bool true])) rfl (fun w => by kernel_rfl)) ?_
  refine Seg.y rfl rfl (Want.some 46 67 true rfl rfl rfl g17) (Y.binOp rfl rfl (B.eqS gq23 (Eqs.struct (n := 1) (b := MdEq r18 (⟨false, false, false, false, false, false, false, false, false, false, false, 0, true⟩ : Md)) Try.underlying23 sd23 (EqF.cons (b := r18.ins == false) rfl ag4 rfl rfl (Eqs.mono (m := 1) (Eqs.bool Try.underlying4) (by decide)) (EqF.cons (b := r18.nl == false) rfl ag4 rfl rfl (Eqs.mono (m := 1) (Eqs.bool Try.underlying4) (by decide)) (EqF.cons (b := r18.ck == false) rfl ag4 rfl rfl (Eqs.mono (m := 1) (Eqs.bool Try.underlying4) (by decide)) (EqF.cons (b := r18.inv == false) rfl ag4 rfl rfl (Eqs.mono (m := 1) (Eqs.bool Try.underlying4) (by decide)) (EqF.cons (b := r18.org == false) rfl ag4 rfl rfl (Eqs.mono (m := 1) (Eqs.bool Try.underlying4) (by decide)) (EqF.cons (b := r18.aut == false) rfl ag4 rfl rfl (Eqs.mono (m := 1) (Eqs.bool Try.underlying4) (by decide)) (EqF.cons (b := r18.vis == false) rfl ag4 rfl rfl (Eqs.mono (m := 1) (Eqs.bool Try.underlying4) (by decide)) (EqF.cons (b := r18.paste == false) rfl ag4 rfl rfl (Eqs.mono (m := 1) (Eqs.bool Try.underlying4) (by decide)) (EqF.cons (b := r18.focus == false) rfl ag4 rfl rfl (Eqs.mono (m := 1) (Eqs.bool Try.underlying4) (by decide)) (EqF.cons (b := r18.sync == false) rfl ag4 rfl rfl (Eqs.mono (m := 1) (Eqs.bool Try.underlying4) (by decide)) (EqF.cons (b := r18.keypad == false) rfl ag4 rfl rfl (Eqs.mono (m := 1) (Eqs.bool Try.underlying4) (by decide)) (EqF.cons (b := decide (r18.mouse = 0)) rfl ag3 rfl rfl (Eqs.mono (m := 1) (Eqs.int Try.underlying3) (by decide)) (EqF.cons (b := r18.sgr == true) rfl ag4 rfl rfl (Eqs.mono (m := 1) (Eqs.bool Try.underlying4) (by decide)) (EqF.nil))))))))))))))) rfl)) ?_
  refine Seg.y rfl rfl (Want.none rfl) (Y.pickT rfl g17 rfl) ?_
  refine Seg.y rfl rfl (Want.none rfl) (Y.move rfl) ?_
  have g19 : (MdEq r18 (⟨false, false, false, false, false, false, false, false, false, false, false, 0, true⟩ : Md)) = true := by simp only [hr18]; decide +kernel
  refine Seg.y rfl rfl (Want.some 52 73 true rfl rfl rfl g19) (Y.loadN (vs := [.bool false, .bool false, .bool false, .bool false, .bool false, .bool false, .bool false, .bool false, .bool false, .bool false, .bool false, .int .i64 0, .bool false]) 0 rfl rfl rfl rfl ag23 sz23) ?_
  obtain ⟨r20, hr20⟩ : ∃ x, x = lput (⟨false, false, false, false, false, false, false, false, false, false, false, 0, false⟩ : Md) true 2004 true := ⟨_, rfl⟩
  refine Seg.callV (v := .agg (List.toArray [.bool r20.ins, .bool r20.nl, .bool r20.ck, .bool r20.inv, .bool r20.org, .bool r20.aut, .bool r20.vis, .bool r20.paste, .bool r20.focus, .bool r20.sync, .bool r20.keypad, .int .i64 r20.mouse, .bool r20.sgr])) rfl rfl (Want.some 52 73 true rfl rfl rfl g19) (K.func rfl co24) (fun w hs => by rw [hr20]; exact lput_c (⟨false, false, false, false, false, false, false, false, false, false, false, 0, false⟩ : Md) true 2004 true w ) ?_
  refine Seg.y rfl rfl (Want.some 52 73 true rfl rfl rfl g19) (Y.build (v := .agg (List.toArray [.bool false, .bool false, .bool false, .bool false, .bool false, .bool false, .bool false, .bool true, .bool false, .bool false, .bool false, .int .i64 0, .bool false])) rfl (fun w => by kernel_rfl)) ?_
  refine Seg.y rfl rfl (Want.some 52 73 true rfl rfl rfl g19) (Y.binOp rfl rfl (B.eqS gq23 (Eqs.struct (n := 1) (b := MdEq r20 (⟨false, false, false, false, false, false, false, true, false, false, false, 0, false⟩ : Md)) Try.underlying23 sd23 (EqF.cons (b := r20.ins == false) rfl ag4 rfl rfl (Eqs.mono (m := 1) (Eqs.bool Try.underlying4) (by decide)) (EqF.cons (b := r20.nl == false) rfl ag4 rfl rfl (Eqs.mono (m := 1) (Eqs.bool Try.underlying4) (by decide)) (EqF.cons (b := r20.ck == false) rfl ag4 rfl rfl (Eqs.mono (m := 1) (Eqs.bool Try.underlying4) (by decide)) (EqF.cons (b := r20.inv == false) rfl ag4 rfl rfl (Eqs.mono (m := 1) (Eqs.bool Try.underlying4) (by decide)) (EqF.cons (b := r20.org == false) rfl ag4 rfl rfl (Eqs.mono (m := 1) (Eqs.bool Try.underlying4) (by decide)) (EqF.cons (b := r20.aut == false) rfl ag4 rfl rfl (Eqs.mono (m := 1) (Eqs.bool Try.underlying4) (by decide)) (EqF.cons (b := r20.vis == false) rfl ag4 rfl rfl (Eqs.mono (m := 1) (Eqs.bool Try.underlying4) (by decide)) (EqF.cons (b := r20.paste == true) rfl ag4 rfl rfl (Eqs.mono (m := 1) (Eqs.bool Try.underlying4) (by decide)) (EqF.cons (b := r20.focus == false) rfl ag4 rfl rfl (Eqs.mono (m := 1) (Eqs.bool Try.underlying4) (by decide)) (EqF.cons (b := r20.sync == false) rfl ag4 rfl rfl (Eqs.mono (m := 1) (Eqs.bool Try.underlying4) (by decide)) (EqF.cons (b := r20.keypad == false) rfl ag4 rfl rfl (Eqs.mono (m := 1) (Eqs.bool Try.underlying4) (by decide)) (EqF.cons (b := decide (r20.mouse = 0)) rfl ag3 rfl rfl (Eqs.mono (m := 1) (Eqs.int Try.underlying3) (by decide)) (EqF.cons (b := r20.sgr == false) rfl ag4 rfl rfl (Eqs.mono (m := 1) (Eqs.bool Try.underlying4) (by decide)) (EqF.nil))))))))))))))) rfl)) ?_
  refine Seg.y rfl rfl (Want.none rfl) (Y.pickT rfl g19 rfl) ?_
  refine Seg.y rfl rfl (Want.none rfl) (Y.move rfl) ?_
  have g21 : (MdEq r20 (⟨false, false, false, false, false, false, false, true, false, false, false, 0, false⟩ : Md)) = true := by simp only [hr20]; decide +kernel
  refine Seg.y rfl rfl (Want.some 58 79 true rfl rfl rfl g21) (Y.loadN (vs := [.bool false, .bool false, .bool false, .bool false, .bool false, .bool false, .bool false, .bool false, .bool false, .bool false, .bool false, .int .i64 0, .bool false]) 0 rfl rfl rfl rfl ag23 sz23) ?_
  obtain ⟨r22, hr22⟩ : ∃ x, x = lput (⟨false, false, false, false, false, false, false, false, false, false, false, 0, false⟩ : Md) true 2026 true := ⟨_, rfl⟩
  refine Seg.callV (v := .agg (List.toArray [.bool r22.ins, .bool r22.nl, .bool r22.ck, .bool r22.inv, .bool r22.org, .bool r22.aut, .bool r22.vis, .bool r22.paste, .bool r22.focus, .bool r22.sync, .bool r22.keypad, .int .i64 r22.mouse, .bool r22.sgr])) rfl rfl (Want.some 58 79 true rfl rfl rfl g21) (K.func rfl co24) (fun w hs => by rw [hr22]; exact lput_c (⟨false, false, false, false, false, false, false, false, false, false, false, 0, false⟩ : Md) true 2026 true w ) ?_
  refine Seg.y rfl rfl (Want.some 58 79 true rfl rfl rfl g21) (Y.build (v := .agg (List.toArray [.bool false, .bool false, .bool false, .bool false, .bool false, .bool false, .bool false, .bool false, .bool false, .bool true, .bool false, .int .i64 0, .bool false])) rfl (fun w => by kernel_rfl)) ?_
  refine Seg.y rfl rfl (Want.some 58 79 true rfl rfl rfl g21) (Y.binOp rfl rfl (B.eqS gq23 (Eqs.struct (n := 1) (b := MdEq r22 (⟨false, false, false, false, false, false, false, false, false, true, false, 0, false⟩ : Md)) Try.underlying23 sd23 (EqF.cons (b := r22.ins == false) rfl ag4 rfl rfl (Eqs.mono (m := 1) (Eqs.bool Try.underlying4) (by decide)) (EqF.cons (b := r22.nl == false) rfl ag4 rfl rfl (Eqs.mono (m := 1) (Eqs.bool Try.underlying4) (by decide)) (EqF.cons (b := r22.ck == false) rfl ag4 rfl rfl (Eqs.mono (m := 1) (Eqs.bool Try.underlying4) (by decide)) (EqF.cons (b := r22.inv == false) rfl ag4 rfl rfl (Eqs.mono (m := 1) (Eqs.bool Try.underlying4) (by decide)) (EqF.cons (b := r22.org == false) rfl ag4 rfl rfl (Eqs.mono (m := 1) (Eqs.bool Try.underlying4) (by decide)) (EqF.cons (b := r22.aut == false) rfl ag4 rfl rfl (Eqs.mono (m := 1) (Eqs.bool Try.underlying4) (by decide)) (EqF.cons (b := r22.vis == false) rfl ag4 rfl rfl (Eqs.mono (m := 1) (Eqs.bool Try.underlying4) (by decide)) (EqF.cons (b := r22.paste == false) rfl ag4 rfl rfl (Eqs.mono (m := 1) (Eqs.bool Try.underlying4) (by decide)) (EqF.cons (b := r22.focus == false) rfl ag4 rfl rfl (Eqs.mono (m := 1) (Eqs.bool Try.underlying4) (by decide)) (EqF.cons (b := r22.sync == true) rfl ag4 rfl rfl (Eqs.mono (m := 1) (Eqs.bool Try.underlying4) (by decide)) (EqF.cons (b := r22.keypad == false) rfl ag4 rfl rfl (Eqs.mono (m := 1) (Eqs.bool Try.underlying4) (by decide)) (EqF.cons (b := decide (r22.mouse = 0)) rfl ag3 rfl rfl (Eqs.mono (m := 1) (Eqs.int Try.underlying3) (by decide)) (EqF.cons (b := r22.sgr == false) rfl ag4 rfl rfl (Eqs.mono (m := 1) (Eqs.bool Try.underlying4) (by decide)) (EqF.nil))))))))))))))) rfl)) ?_
  refine Seg.y rfl rfl (Want.none rfl) (Y.pickT rfl g21 rfl) ?_
  refine Seg.y rfl rfl (Want.none rfl) (Y.move rfl) ?_
  have g23 : (MdEq r22 (⟨false, false, false, false, false, false, false, false, false, true, false, 0, false⟩ : Md)) = true := by simp only [hr22]; decide +kernel
  refine Seg.y rfl rfl (Want.some 64 85 true rfl rfl rfl g23) (Y.loadN (vs := [.bool false, .bool false, .bool false, .bool false, .bool false, .bool false, .bool false, .bool false, .bool false, .bool false, .bool false, .int .i64 0, .bool false]) 0 rfl rfl rfl rfl ag23 sz23) ?_
  obtain ⟨r24, hr24⟩ : ∃ x, x = lput (⟨false, false, false, false, false, false, false, false, false, false, false, 0, false⟩ : Md) true 1003 true := ⟨_, rfl⟩
  refine Seg.callV (v := .agg (List.toArray [.bool r24.ins, .bool r24.nl, .bool r24.ck, .bool r24.inv, .bool r24.org, .bool r24.aut, .bool r24.vis, .bool r24.paste, .bool r24.focus, .bool r24.sync, .bool r24.keypad, .int .i64 r24.mouse, .bool r24.sgr])) rfl rfl (Want.some 64 85 true rfl rfl rfl g23) (K.func rfl co24) (fun w hs => by rw [hr24]; exact lput_c (⟨false, false, false, false, false, false, false, false, false, false, false, 0, false⟩ : Md) true 1003 true w ) ?_
  refine Seg.y rfl rfl (Want.some 64 85 true rfl rfl rfl g23) (Y.build (v := .agg (List.toArray [.bool false, .bool false, .bool false, .bool false, .bool false, .bool false, .bool false, .bool false, .bool false, .bool false, .bool false, .int .i64 1003, .bool false])) rfl (fun w => by kernel_rfl)) ?_
  refine Seg.y rfl rfl (Want.some 64 85 true rfl rfl rfl g23) (Y.binOp rfl rfl (B.eqS gq23 (Eqs.struct (n := 1) (b := MdEq r24 (⟨false, false, false, false, false, false, false, false, false, false, false, 1003, false⟩ : Md)) Try.underlying23 sd23 (EqF.cons (b := r24.ins == false) rfl ag4 rfl rfl (Eqs.mono (m := 1) (Eqs.bool Try.underlying4) (by decide)) (EqF.cons (b := r24.nl == false) rfl ag4 rfl rfl (Eqs.mono (m := 1) (Eqs.bool Try.underlying4) (by decide)) (EqF.cons (b := r24.ck == false) rfl ag4 rfl rfl (Eqs.mono (m := 1) (Eqs.bool Try.underlying4) (by decide)) (EqF.cons (b := r24.inv == false) rfl ag4 rfl rfl (Eqs.mono (m := 1) (Eqs.bool Try.underlying4) (by decide)) (EqF.cons (b := r24.org == false) rfl ag4 rfl rfl (Eqs.mono (m := 1) (Eqs.bool Try.underlying4) (by decide)) (EqF.cons (b := r24.aut == false) rfl ag4 rfl rfl (Eqs.mono (m := 1) (Eqs.bool Try.underlying4) (by decide)) (EqF.cons (b := r24.vis == false) rfl ag4 rfl rfl (Eqs.mono (m := 1) (Eqs.bool Try.underlying4) (by decide)) (EqF.cons (b := r24.paste == false) rfl ag4 rfl rfl (Eqs.mono (m := 1) (Eqs.bool Try.underlying4) (by decide)) (EqF.cons (b := r24.focus == false) rfl ag4 rfl rfl (Eqs.mono (m := 1) (Eqs.bool Try.underlying4) (by decide)) (EqF.cons (b := r24.sync == false) rfl ag4 rfl rfl (Eqs.mono (m := 1) (Eqs.bool Try.underlying4) (by decide)) (EqF.cons (b := r24.keypad == false) rfl ag4 rfl rfl (Eqs.mono (m := 1) (Eqs.bool Try.underlying4) (by decide)) (EqF.cons (b := decide (r24.mouse = 1003)) rfl ag3 rfl rfl (Eqs.mono (m := 1) (Eqs.int Try.underlying3) (by decide)) (EqF.cons (b := r24.sgr == false) rfl ag4 rfl rfl (Eqs.mono (m := 1) (Eqs.bool Try.underlying4) (by decide)) (EqF.nil))))))))))))))) rfl)) ?_
  refine Seg.y rfl rfl (Want.none rfl) (Y.pickT rfl g23 rfl) ?_
  refine Seg.y rfl rfl (Want.none rfl) (Y.assign rfl) ?_
  refine Seg.nil ?_
  refine Sx.next ?_
  refine Sc.seq ?_
  refine Sc.seq ?_
  refine Sc.region ?_
  refine Seg.y rfl rfl (Want.none rfl) (Y.build (v := .agg (List.toArray [.int .i64 0, .int .i64 (-1), .int .i64 2, .int .i64 3, .int .i64 8, .int .i64 1001, .int .i64 1005, .int .i64 4611686018427387904, .int .i64 (-9223372036854775808)])) rfl (fun w => by kernel_rfl)) ?_
  refine Seg.y rfl rfl (Want.none rfl) (Y.move rfl) ?_
  refine Seg.nil ?_
  refine Sx.next ?_
  refine Sc.block ?_
  refine Sc.rounds 10 ?_
  refine Sr.succ ?_
  refine Sc.seq ?_
  refine Sc.region ?_
  refine Seg.y rfl rfl (Want.none rfl) (Y.binOp (v := .bool true) rfl rfl (B.lt _ _ _)) ?_
  refine Seg.nil ?_
  refine Sx.next ?_
  refine Sc.seq ?_
  refine Sc.condT rfl rfl ?_
  refine Sc.skip ?_
  refine Sx.next ?_
  refine Sc.seq ?_
  refine Sc.block ?_
  refine Sc.seq ?_
  refine Sc.region ?_
  refine Seg.y rfl rfl (Want.none rfl) (Y.index (v := .int .i64 0) rfl rfl (fun w => by kernel_rfl)) ?_
  refine Seg.y rfl rfl (Want.none rfl) (Y.assign rfl) ?_
  refine Seg.nil ?_
  refine Sx.next ?_
  refine Sc.seq ?_
  refine Sc.region ?_
  refine Seg.y rfl rfl (Want.none rfl) (Y.loadN (vs := [.bool false, .bool false, .bool false, .bool false, .bool false, .bool false, .bool false, .bool false, .bool false, .bool false, .bool false, .int .i64 0, .bool false]) 0 rfl rfl rfl rfl ag23 sz23) ?_
  refine Seg.y rfl rfl (Want.none rfl) (Y.move rfl) ?_
  obtain ⟨r25, hr25⟩ : ∃ x, x = putS (⟨false, false, false, false, false, false, false, false, false, false, false, 0, false⟩ : Md) true 0 true := ⟨_, rfl⟩
  refine Seg.callV (v := .tuple (List.toArray [.agg (List.toArray [.bool r25.1.ins, .bool r25.1.nl, .bool r25.1.ck, .bool r25.1.inv, .bool r25.1.org, .bool r25.1.aut, .bool r25.1.vis, .bool r25.1.paste, .bool r25.1.focus, .bool r25.1.sync, .bool r25.1.keypad, .int .i64 r25.1.mouse, .bool r25.1.sgr]), .bool r25.2.1, .int .i64 r25.2.2])) rfl rfl (Want.none rfl) (K.func rfl co13) (fun w hs => by rw [hr25]; exact put_c (⟨false, false, false, false, false, false, false, false, false, false, false, 0, false⟩ : Md) true 0 true w ) ?_
  refine Seg.y rfl rfl (Want.none rfl) (Y.move rfl) ?_
  refine Seg.y rfl rfl (Want.none rfl) (Y.extract rfl rfl) ?_
  refine Seg.y rfl rfl (Want.none rfl) (Y.extract rfl rfl) ?_
  refine Seg.y rfl rfl (Want.none rfl) (Y.extract rfl rfl) ?_
  refine Seg.chg rfl rfl (Want.none rfl) (C.alloc zv23 rfl) (fun b26 hb26 => ?_)
  refine Seg.chs rfl (Want.none rfl) (C.store (cs' := [.bool r25.1.ins, .bool r25.1.nl, .bool r25.1.ck, .bool r25.1.inv, .bool r25.1.org, .bool r25.1.aut, .bool r25.1.vis, .bool r25.1.paste, .bool r25.1.focus, .bool r25.1.sync, .bool r25.1.keypad, .int .i64 r25.1.mouse, .bool r25.1.sgr]) (vs := [.bool r25.1.ins, .bool r25.1.nl, .bool r25.1.ck, .bool r25.1.inv, .bool r25.1.org, .bool r25.1.aut, .bool r25.1.vis, .bool r25.1.paste, .bool r25.1.focus, .bool r25.1.sync, .bool r25.1.keypad, .int .i64 r25.1.mouse, .bool r25.1.sgr]) 0 rfl rfl rfl rfl rfl rfl rfl sz23) (fun _ _ => ?_)
  refine Seg.y rfl rfl (Want.none rfl) (Y.assign rfl) ?_
  refine Seg.y rfl rfl (Want.none rfl) (Y.assign rfl) ?_
  refine Seg.nil ?_
  refine Sx.next ?_
  refine Sc.seq ?_
  refine Sc.region ?_
  refine Seg.y rfl rfl (Want.none rfl) (Y.loadN (vs := [.bool false, .bool false, .bool false, .bool false, .bool false, .bool false, .bool false, .bool false, .bool false, .bool false, .bool false, .int .i64 0, .bool false]) 1 rfl rfl rfl rfl ag23 sz23) ?_
  refine Seg.y rfl rfl (Want.none rfl) (Y.move rfl) ?_
  obtain ⟨r27, hr27⟩ : ∃ x, x = putS (⟨false, false, false, false, false, false, false, false, false, false, false, 0, false⟩ : Md) false 0 true := ⟨_, rfl⟩
  refine Seg.callV (v := .tuple (List.toArray [.agg (List.toArray [.bool r27.1.ins, .bool r27.1.nl, .bool r27.1.ck, .bool r27.1.inv, .bool r27.1.org, .bool r27.1.aut, .bool r27.1.vis, .bool r27.1.paste, .bool r27.1.focus, .bool r27.1.sync, .bool r27.1.keypad, .int .i64 r27.1.mouse, .bool r27.1.sgr]), .bool r27.2.1, .int .i64 r27.2.2])) rfl rfl (Want.none rfl) (K.func rfl co13) (fun w hs => by rw [hr27]; exact put_c (⟨false, false, false, false, false, false, false, false, false, false, false, 0, false⟩ : Md) false 0 true w ) ?_
  refine Seg.y rfl rfl (Want.none rfl) (Y.move rfl) ?_
  refine Seg.y rfl rfl (Want.none rfl) (Y.extract rfl rfl) ?_
  refine Seg.y rfl rfl (Want.none rfl) (Y.extract rfl rfl) ?_
  refine Seg.y rfl rfl (Want.none rfl) (Y.extract rfl rfl) ?_
  refine Seg.chg rfl rfl (Want.none rfl) (C.alloc zv23 rfl) (fun b28 hb28 => ?_)
  refine Seg.chs rfl (Want.none rfl) (C.store (cs' := [.bool r27.1.ins, .bool r27.1.nl, .bool r27.1.ck, .bool r27.1.inv, .bool r27.1.org, .bool r27.1.aut, .bool r27.1.vis, .bool r27.1.paste, .bool r27.1.focus, .bool r27.1.sync, .bool r27.1.keypad, .int .i64 r27.1.mouse, .bool r27.1.sgr]) (vs := [.bool r27.1.ins, .bool r27.1.nl, .bool r27.1.ck, .bool r27.1.inv, .bool r27.1.org, .bool r27.1.aut, .bool r27.1.vis, .bool r27.1.paste, .bool r27.1.focus, .bool r27.1.sync, .bool r27.1.keypad, .int .i64 r27.1.mouse, .bool r27.1.sgr]) 0 rfl rfl rfl rfl rfl rfl rfl sz23) (fun _ _ => ?_)
  refine Seg.y rfl rfl (Want.none rfl) (Y.assign rfl) ?_
  refine Seg.y rfl rfl (Want.none rfl) (Y.assign rfl) ?_
  refine Seg.nil ?_
  refine Sx.next ?_
  refine Sc.seq ?_
  refine Sc.region ?_
  refine Seg.y rfl rfl (Want.none rfl) (Y.loadN (vs := [.bool r25.1.ins, .bool r25.1.nl, .bool r25.1.ck, .bool r25.1.inv, .bool r25.1.org, .bool r25.1.aut, .bool r25.1.vis, .bool r25.1.paste, .bool r25.1.focus, .bool r25.1.sync, .bool r25.1.keypad, .int .i64 r25.1.mouse, .bool r25.1.sgr]) 1 rfl rfl rfl rfl ag23 sz23) ?_
  refine Seg.y rfl rfl (Want.none rfl) (Y.loadN (vs := [.bool false, .bool false, .bool false, .bool false, .bool false, .bool false, .bool false, .bool false, .bool false, .bool false, .bool false, .int .i64 0, .bool false]) 2 rfl rfl rfl rfl ag23 sz23) ?_
  refine Seg.y rfl rfl (Want.none rfl) (Y.binOp rfl rfl (B.neS gq23 (Eqs.struct (n := 1) (b := MdEq r25.1 (⟨false, false, false, false, false, false, false, false, false, false, false, 0, false⟩ : Md)) Try.underlying23 sd23 (EqF.cons (b := r25.1.ins == false) rfl ag4 rfl rfl (Eqs.mono (m := 1) (Eqs.bool Try.underlying4) (by decide)) (EqF.cons (b := r25.1.nl == false) rfl ag4 rfl rfl (Eqs.mono (m := 1) (Eqs.bool Try.underlying4) (by decide)) (EqF.cons (b := r25.1.ck == false) rfl ag4 rfl rfl (Eqs.mono (m := 1) (Eqs.bool Try.underlying4) (by decide)) (EqF.cons (b := r25.1.inv == false) rfl ag4 rfl rfl (Eqs.mono (m := 1) (Eqs.bool Try.underlying4) (by decide)) (EqF.cons (b := r25.1.org == false) rfl ag4 rfl rfl (Eqs.mono (m := 1) (Eqs.bool Try.underlying4) (by decide)) (EqF.cons (b := r25.1.aut == false) rfl ag4 rfl rfl (Eqs.mono (m := 1) (Eqs.bool Try.underlying4) (by decide)) (EqF.cons (b := r25.1.vis == false) rfl ag4 rfl rfl (Eqs.mono (m := 1) (Eqs.bool Try.underlying4) (by decide)) (EqF.cons (b := r25.1.paste == false) rfl ag4 rfl rfl (Eqs.mono (m := 1) (Eqs.bool Try.underlying4) (by decide)) (EqF.cons (b := r25.1.focus == false) rfl ag4 rfl rfl (Eqs.mono (m := 1) (Eqs.bool Try.underlying4) (by decide)) (EqF.cons (b := r25.1.sync == false) rfl ag4 rfl rfl (Eqs.mono (m := 1) (Eqs.bool Try.underlying4) (by decide)) (EqF.cons (b := r25.1.keypad == false) rfl ag4 rfl rfl (Eqs.mono (m := 1) (Eqs.bool Try.underlying4) (by decide)) (EqF.cons (b := decide (r25.1.mouse = 0)) rfl ag3 rfl rfl (Eqs.mono (m := 1) (Eqs.int Try.underlying3) (by decide)) (EqF.cons (b := r25.1.sgr == false) rfl ag4 rfl rfl (Eqs.mono (m := 1) (Eqs.bool Try.underlying4) (by decide)) (EqF.nil))))))))))))))) rfl)) ?_
  refine Seg.y rfl rfl (Want.none rfl) (Y.move rfl) ?_
  have g29 : (!(MdEq r25.1 (⟨false, false, false, false, false, false, false, false, false, false, false, 0, false⟩ : Md))) = false := by simp only [hr25]; decide +kernel
  refine Seg.y rfl rfl (Want.some 3 112 false rfl rfl rfl g29) (Y.move rfl) ?_
  refine Seg.y rfl rfl (Want.none rfl) (Y.pickF rfl g29 rfl) ?_
  refine Seg.y rfl rfl (Want.none rfl) (Y.move rfl) ?_
  have g30 : (r25.2.1) = false := by simp only [hr25]; decide +kernel
  refine Seg.y rfl rfl (Want.some 6 115 false rfl rfl rfl g30) (Y.move rfl) ?_
  refine Seg.y rfl rfl (Want.none rfl) (Y.pickF rfl g30 rfl) ?_
  refine Seg.y rfl rfl (Want.none rfl) (Y.move rfl) ?_
  have g31 : (r27.2.1) = false := by simp only [hr27]; decide +kernel
  refine Seg.y rfl rfl (Want.some 9 118 false rfl rfl rfl g31) (Y.move rfl) ?_
  refine Seg.y rfl rfl (Want.some 9 118 false rfl rfl rfl g31) (Y.binOp rfl rfl (B.ne _ _ _)) ?_
  refine Seg.y rfl rfl (Want.none rfl) (Y.pickF rfl g31 rfl) ?_
  refine Seg.y rfl rfl (Want.none rfl) (Y.move rfl) ?_
  have g32 : (decide (r25.2.2 ≠ 0)) = false := by simp only [hr25]; decide +kernel
  refine Seg.y rfl rfl (Want.some 13 122 false rfl rfl rfl g32) (Y.move rfl) ?_
  refine Seg.y rfl rfl (Want.some 13 122 false rfl rfl rfl g32) (Y.binOp rfl rfl (B.ne _ _ _)) ?_
  refine Seg.y rfl rfl (Want.none rfl) (Y.pickF rfl g32 rfl) ?_
  refine Seg.y rfl rfl (Want.none rfl) (Y.move rfl) ?_
  have g33 : (decide (r27.2.2 ≠ 0)) = false := by simp only [hr27]; decide +kernel
  refine Seg.y rfl rfl (Want.some 17 126 false rfl rfl rfl g33) (Y.loadN (vs := [.bool false, .bool false, .bool false, .bool false, .bool false, .bool false, .bool false, .bool false, .bool false, .bool false, .bool false, .int .i64 0, .bool false]) 2 rfl rfl rfl rfl ag23 sz23) ?_
  refine Seg.y rfl rfl (Want.some 17 126 false rfl rfl rfl g33) (Y.move rfl) ?_
  obtain ⟨r34, hr34⟩ : ∃ x, x = lstate (⟨false, false, false, false, false, false, false, false, false, false, false, 0, false⟩ : Md) true 0 true := ⟨_, rfl⟩
  refine Seg.callV (v := .int .i64 r34) rfl rfl (Want.some 17 126 false rfl rfl rfl g33) (K.func rfl co26) (fun w hs => by rw [hr34]; exact lstate_c (⟨false, false, false, false, false, false, false, false, false, false, false, 0, false⟩ : Md) true 0 true w ) ?_
  refine Seg.y rfl rfl (Want.some 17 126 false rfl rfl rfl g33) (Y.binOp rfl rfl (B.ne _ _ _)) ?_
  refine Seg.y rfl rfl (Want.none rfl) (Y.pickF rfl g33 rfl) ?_
  refine Seg.y rfl rfl (Want.none rfl) (Y.move rfl) ?_
  have g35 : (decide (r34 ≠ 0)) = false := by simp only [hr34]; decide +kernel
  refine Seg.y rfl rfl (Want.some 23 132 false rfl rfl rfl g35) (Y.loadN (vs := [.bool false, .bool false, .bool false, .bool false, .bool false, .bool false, .bool false, .bool false, .bool false, .bool false, .bool false, .int .i64 0, .bool false]) 2 rfl rfl rfl rfl ag23 sz23) ?_
  refine Seg.y rfl rfl (Want.some 23 132 false rfl rfl rfl g35) (Y.move rfl) ?_
  obtain ⟨r36, hr36⟩ : ∃ x, x = lstate (⟨false, false, false, false, false, false, false, false, false, false, false, 0, false⟩ : Md) false 0 true := ⟨_, rfl⟩
  refine Seg.callV (v := .int .i64 r36) rfl rfl (Want.some 23 132 false rfl rfl rfl g35) (K.func rfl co26) (fun w hs => by rw [hr36]; exact lstate_c (⟨false, false, false, false, false, false, false, false, false, false, false, 0, false⟩ : Md) false 0 true w ) ?_
  refine Seg.y rfl rfl (Want.some 23 132 false rfl rfl rfl g35) (Y.binOp rfl rfl (B.ne _ _ _)) ?_
  refine Seg.y rfl rfl (Want.none rfl) (Y.pickF rfl g35 rfl) ?_
  refine Seg.nil ?_
  refine Sx.next ?_
  have g37 : (decide (r36 ≠ 0)) = false := by simp only [hr36]; decide +kernel
  refine Sc.condF rfl g37 ?_
  refine Sc.skip ?_
  refine Sx.block_normal ?_
  refine Sx.next ?_
  refine Sc.region ?_
  refine Seg.y rfl rfl (Want.none rfl) (Y.binOp rfl rfl (B.add _ _ _ 1 (by decide))) ?_
  refine Seg.y rfl rfl (Want.none rfl) (Y.move rfl) ?_
  refine Seg.nil ?_
  refine Sx.round ?_
  refine Sr.succ ?_
  refine Sc.seq ?_
  refine Sc.region ?_
  refine Seg.y rfl rfl (Want.none rfl) (Y.binOp (v := .bool true) rfl rfl (B.lt _ _ _)) ?_
  refine Seg.nil ?_
  refine Sx.next ?_
  refine Sc.seq ?_
  refine Sc.condT rfl rfl ?_
  refine Sc.skip ?_
  refine Sx.next ?_
  refine Sc.seq ?_
  refine Sc.block ?_
  refine Sc.seq ?_
  refine Sc.region ?_
  refine Seg.y rfl rfl (Want.none rfl) (Y.index (v := .int .i64 (-1)) rfl rfl (fun w => by kernel_rfl)) ?_
  refine Seg.y rfl rfl (Want.none rfl) (Y.assign rfl) ?_
  refine Seg.nil ?_
  refine Sx.next ?_
  refine Sc.seq ?_
  refine Sc.region ?_
  refine Seg.y rfl rfl (Want.none rfl) (Y.loadN (vs := [.bool false, .bool false, .bool false, .bool false, .bool false, .bool false, .bool false, .bool false, .bool false, .bool false, .bool false, .int .i64 0, .bool false]) 2 rfl rfl rfl rfl ag23 sz23) ?_
  refine Seg.y rfl rfl (Want.none rfl) (Y.move rfl) ?_
  obtain ⟨r38, hr38⟩ : ∃ x, x = putS (⟨false, false, false, false, false, false, false, false, false, false, false, 0, false⟩ : Md) true (-1) true := ⟨_, rfl⟩
  refine Seg.callV (v := .tuple (List.toArray [.agg (List.toArray [.bool r38.1.ins, .bool r38.1.nl, .bool r38.1.ck, .bool r38.1.inv, .bool r38.1.org, .bool r38.1.aut, .bool r38.1.vis, .bool r38.1.paste, .bool r38.1.focus, .bool r38.1.sync, .bool r38.1.keypad, .int .i64 r38.1.mouse, .bool r38.1.sgr]), .bool r38.2.1, .int .i64 r38.2.2])) rfl rfl (Want.none rfl) (K.func rfl co13) (fun w hs => by rw [hr38]; exact put_c (⟨false, false, false, false, false, false, false, false, false, false, false, 0, false⟩ : Md) true (-1) true w ) ?_
  refine Seg.y rfl rfl (Want.none rfl) (Y.move rfl) ?_
  refine Seg.y rfl rfl (Want.none rfl) (Y.extract rfl rfl) ?_
  refine Seg.y rfl rfl (Want.none rfl) (Y.extract rfl rfl) ?_
  refine Seg.y rfl rfl (Want.none rfl) (Y.extract rfl rfl) ?_
  refine Seg.chg rfl rfl (Want.none rfl) (C.alloc zv23 rfl) (fun b39 hb39 => ?_)
  refine Seg.chs rfl (Want.none rfl) (C.store (cs' := [.bool r38.1.ins, .bool r38.1.nl, .bool r38.1.ck, .bool r38.1.inv, .bool r38.1.org, .bool r38.1.aut, .bool r38.1.vis, .bool r38.1.paste, .bool r38.1.focus, .bool r38.1.sync, .bool r38.1.keypad, .int .i64 r38.1.mouse, .bool r38.1.sgr]) (vs := [.bool r38.1.ins, .bool r38.1.nl, .bool r38.1.ck, .bool r38.1.inv, .bool r38.1.org, .bool r38.1.aut, .bool r38.1.vis, .bool r38.1.paste, .bool r38.1.focus, .bool r38.1.sync, .bool r38.1.keypad, .int .i64 r38.1.mouse, .bool r38.1.sgr]) 0 rfl rfl rfl rfl rfl rfl rfl sz23) (fun _ _ => ?_)
  refine Seg.y rfl rfl (Want.none rfl) (Y.assign rfl) ?_
  refine Seg.y rfl rfl (Want.none rfl) (Y.assign rfl) ?_
  refine Seg.nil ?_
  refine Sx.next ?_
  refine Sc.seq ?_
  refine Sc.region ?_
  refine Seg.y rfl rfl (Want.none rfl) (Y.loadN (vs := [.bool false, .bool false, .bool false, .bool false, .bool false, .bool false, .bool false, .bool false, .bool false, .bool false, .bool false, .int .i64 0, .bool false]) 3 rfl rfl rfl rfl ag23 sz23) ?_
  refine Seg.y rfl rfl (Want.none rfl) (Y.move rfl) ?_
  obtain ⟨r40, hr40⟩ : ∃ x, x = putS (⟨false, false, false, false, false, false, false, false, false, false, false, 0, false⟩ : Md) false (-1) true := ⟨_, rfl⟩
  refine Seg.callV (v := .tuple (List.toArray [.agg (List.toArray [.bool r40.1.ins, .bool r40.1.nl, .bool r40.1.ck, .bool r40.1.inv, .bool r40.1.org, .bool r40.1.aut, .bool r40.1.vis, .bool r40.1.paste, .bool r40.1.focus, .bool r40.1.sync, .bool r40.1.keypad, .int .i64 r40.1.mouse, .bool r40.1.sgr]), .bool r40.2.1, .int .i64 r40.2.2])) rfl rfl (Want.none rfl) (K.func rfl co13) (fun w hs => by rw [hr40]; exact put_c (⟨false, false, false, false, false, false, false, false, false, false, false, 0, false⟩ : Md) false (-1) true w ) ?_
  refine Seg.y rfl rfl (Want.none rfl) (Y.move rfl) ?_
  refine Seg.y rfl rfl (Want.none rfl) (Y.extract rfl rfl) ?_
  refine Seg.y rfl rfl (Want.none rfl) (Y.extract rfl rfl) ?_
  refine Seg.y rfl rfl (Want.none rfl) (Y.extract rfl rfl) ?_
  refine Seg.chg rfl rfl (Want.none rfl) (C.alloc zv23 rfl) (fun b41 hb41 => ?_)
  refine Seg.chs rfl (Want.none rfl) (C.store (cs' := [.bool r40.1.ins, .bool r40.1.nl, .bool r40.1.ck, .bool r40.1.inv, .bool r40.1.org, .bool r40.1.aut, .bool r40.1.vis, .bool r40.1.paste, .bool r40.1.focus, .bool r40.1.sync, .bool r40.1.keypad, .int .i64 r40.1.mouse, .bool r40.1.sgr]) (vs := [.bool r40.1.ins, .bool r40.1.nl, .bool r40.1.ck, .bool r40.1.inv, .bool r40.1.org, .bool r40.1.aut, .bool r40.1.vis, .bool r40.1.paste, .bool r40.1.focus, .bool r40.1.sync, .bool r40.1.keypad, .int .i64 r40.1.mouse, .bool r40.1.sgr]) 0 rfl rfl rfl rfl rfl rfl rfl sz23) (fun _ _ => ?_)
  refine Seg.y rfl rfl (Want.none rfl) (Y.assign rfl) ?_
  refine Seg.y rfl rfl (Want.none rfl) (Y.assign rfl) ?_
  refine Seg.nil ?_
  refine Sx.next ?_
  refine Sc.seq ?_
  refine Sc.region ?_
  refine Seg.y rfl rfl (Want.none rfl) (Y.loadN (vs := [.bool r38.1.ins, .bool r38.1.nl, .bool r38.1.ck, .bool r38.1.inv, .bool r38.1.org, .bool r38.1.aut, .bool r38.1.vis, .bool r38.1.paste, .bool r38.1.focus, .bool r38.1.sync, .bool r38.1.keypad, .int .i64 r38.1.mouse, .bool r38.1.sgr]) 1 rfl rfl rfl rfl ag23 sz23) ?_
  refine Seg.y rfl rfl (Want.none rfl) (Y.loadN (vs := [.bool false, .bool false, .bool false, .bool false, .bool false, .bool false, .bool false, .bool false, .bool false, .bool false, .bool false, .int .i64 0, .bool false]) 4 rfl rfl rfl rfl ag23 sz23) ?_
  refine Seg.y rfl rfl (Want.none rfl) (Y.binOp rfl rfl (B.neS gq23 (Eqs.struct (n := 1) (b := MdEq r38.1 (⟨false, false, false, false, false, false, false, false, false, false, false, 0, false⟩ : Md)) Try.underlying23 sd23 (EqF.cons (b := r38.1.ins == false) rfl ag4 rfl rfl (Eqs.mono (m := 1) (Eqs.bool Try.underlying4) (by decide)) (EqF.cons (b := r38.1.nl == false) rfl ag4 rfl rfl (Eqs.mono (m := 1) (Eqs.bool Try.underlying4) (by decide)) (EqF.cons (b := r38.1.ck == false) rfl ag4 rfl rfl (Eqs.mono (m := 1) (Eqs.bool Try.underlying4) (by decide)) (EqF.cons (b := r38.1.inv == false) rfl ag4 rfl rfl (Eqs.mono (m := 1) (Eqs.bool Try.underlying4) (by decide)) (EqF.cons (b := r38.1.org == false) rfl ag4 rfl rfl (Eqs.mono (m := 1) (Eqs.bool Try.underlying4) (by decide)) (EqF.cons (b := r38.1.aut == false) rfl ag4 rfl rfl (Eqs.mono (m := 1) (Eqs.bool Try.underlying4) (by decide)) (EqF.cons (b := r38.1.vis == false) rfl ag4 rfl rfl (Eqs.mono (m := 1) (Eqs.bool Try.underlying4) (by decide)) (EqF.cons (b := r38.1.paste == false) rfl ag4 rfl rfl (Eqs.mono (m := 1) (Eqs.bool Try.underlying4) (by decide)) (EqF.cons (b := r38.1.focus == false) rfl ag4 rfl rfl (Eqs.mono (m := 1) (Eqs.bool Try.underlying4) (by decide)) (EqF.cons (b := r38.1.sync == false) rfl ag4 rfl rfl (Eqs.mono (m := 1) (Eqs.bool Try.underlying4) (by decide)) (EqF.cons (b := r38.1.keypad == false) rfl ag4 rfl rfl (Eqs.mono (m := 1) (Eqs.bool Try.underlying4) (by decide)) (EqF.cons (b := decide (r38.1.mouse = 0)) rfl ag3 rfl rfl (Eqs.mono (m := 1) (Eqs.int Try.underlying3) (by decide)) (EqF.cons (b := r38.1.sgr == false) rfl ag4 rfl rfl (Eqs.mono (m := 1) (Eqs.bool Try.underlying4) (by decide)) (EqF.nil))))))))))))))) rfl)) ?_
  refine Seg.y rfl rfl (Want.none rfl) (Y.move rfl) ?_
  have g42 : (!(MdEq r38.1 (⟨false, false, false, false, false, false, false, false, false, false, false, 0, false⟩ : Md))) = false := by simp only [hr38]; decide +kernel
  refine Seg.y rfl rfl (Want.some 3 112 false rfl rfl rfl g42) (Y.move rfl) ?_
  refine Seg.y rfl rfl (Want.none rfl) (Y.pickF rfl g42 rfl) ?_
  refine Seg.y rfl rfl (Want.none rfl) (Y.move rfl) ?_
  have g43 : (r38.2.1) = false := by simp only [hr38]; decide +kernel
  refine Seg.y rfl rfl (Want.some 6 115 false rfl rfl rfl g43) (Y.move rfl) ?_
  refine Seg.y rfl rfl (Want.none rfl) (Y.pickF rfl g43 rfl) ?_
  refine Seg.y rfl rfl (Want.none rfl) (Y.move rfl) ?_
  have g44 : (r40.2.1) = false := by simp only [hr40]; decide +kernel
  refine Seg.y rfl rfl (Want.some 9 118 false rfl rfl rfl g44) (Y.move rfl) ?_
  refine Seg.y rfl rfl (Want.some 9 118 false rfl rfl rfl g44) (Y.binOp rfl rfl (B.ne _ _ _)) ?_
  refine Seg.y rfl rfl (Want.none rfl) (Y.pickF rfl g44 rfl) ?_
  refine Seg.y rfl rfl (Want.none rfl) (Y.move rfl) ?_
  have g45 : (decide (r38.2.2 ≠ 0)) = false := by simp only [hr38]; decide +kernel
  refine Seg.y rfl rfl (Want.some 13 122 false rfl rfl rfl g45) (Y.move rfl) ?_
  refine Seg.y rfl rfl (Want.some 13 122 false rfl rfl rfl g45) (Y.binOp rfl rfl (B.ne _ _ _)) ?_
  refine Seg.y rfl rfl (Want.none rfl) (Y.pickF rfl g45 rfl) ?_
  refine Seg.y rfl rfl (Want.none rfl) (Y.move rfl) ?_
  have g46 : (decide (r40.2.2 ≠ 0)) = false := by simp only [hr40]; decide +kernel
  refine Seg.y rfl rfl (Want.some 17 126 false rfl rfl rfl g46) (Y.loadN (vs := [.bool false, .bool false, .bool false, .bool false, .bool false, .bool false, .bool false, .bool false, .bool false, .bool false, .bool false, .int .i64 0, .bool false]) 4 rfl rfl rfl rfl ag23 sz23) ?_
  refine Seg.y rfl rfl (Want.some 17 126 false rfl rfl rfl g46) (Y.move rfl) ?_
  obtain ⟨r47, hr47⟩ : ∃ x, x = lstate (⟨false, false, false, false, false, false, false, false, false, false, false, 0, false⟩ : Md) true (-1) true := ⟨_, rfl⟩
  refine Seg.callV (v := .int .i64 r47) rfl rfl (Want.some 17 126 false rfl rfl rfl g46) (K.func rfl co26) (fun w hs => by rw [hr47]; exact lstate_c (⟨false, false, false, false, false, false, false, false, false, false, false, 0, false⟩ : Md) true (-1) true w ) ?_
  refine Seg.y rfl rfl (Want.some 17 126 false rfl rfl rfl g46) (Y.binOp rfl rfl (B.ne _ _ _)) ?_
  refine Seg.y rfl rfl (Want.none rfl) (Y.pickF rfl g46 rfl) ?_
  refine Seg.y rfl rfl (Want.none rfl) (Y.move rfl) ?_
  have g48 : (decide (r47 ≠ 0)) = false := by simp only [hr47]; decide +kernel
  refine Seg.y rfl rfl (Want.some 23 132 false rfl rfl rfl g48) (Y.loadN (vs := [.bool false, .bool false, .bool false, .bool false, .bool false, .bool false, .bool false, .bool false, .bool false, .bool false, .bool false, .int .i64 0, .bool false]) 4 rfl rfl rfl rfl ag23 sz23) ?_
  refine Seg.y rfl rfl (Want.some 23 132 false rfl rfl rfl g48) (Y.move rfl) ?_
  obtain ⟨r49, hr49⟩ : ∃ x, x = lstate (⟨false, false, false, false, false, false, false, false, false, false, false, 0, false⟩ : Md) false (-1) true := ⟨_, rfl⟩
  refine Seg.callV (v := .int .i64 r49) rfl rfl (Want.some 23 132 false rfl rfl rfl g48) (K.func rfl co26) (fun w hs => by rw [hr49]; exact lstate_c (⟨false, false, false, false, false, false, false, false, false, false, false, 0, false⟩ : Md) false (-1) true w ) ?_
  refine Seg.y rfl rfl (Want.some 23 132 false rfl rfl rfl g48) (Y.binOp rfl rfl (B.ne _ _ _)) ?_
  refine Seg.y rfl rfl (Want.none rfl) (Y.pickF rfl g48 rfl) ?_
  refine Seg.nil ?_
  refine Sx.next ?_
  have g50 : (decide (r49 ≠ 0)) = false := by simp only [hr49]; decide +kernel
  refine Sc.condF rfl g50 ?_
  refine Sc.skip ?_
  refine Sx.block_normal ?_
  refine Sx.next ?_
  refine Sc.region ?_
  refine Seg.y rfl rfl (Want.none rfl) (Y.binOp rfl rfl (B.add _ _ _ 2 (by decide))) ?_
  refine Seg.y rfl rfl (Want.none rfl) (Y.move rfl) ?_
  refine Seg.nil ?_
  refine Sx.round ?_
  refine Sr.succ ?_
  refine Sc.seq ?_
  refine Sc.region ?_
  refine Seg.y rfl rfl (Want.none rfl) (Y.binOp (v := .bool true) rfl rfl (B.lt _ _ _)) ?_
  refine Seg.nil ?_
  refine Sx.next ?_
  refine Sc.seq ?_
  refine Sc.condT rfl rfl ?_
  refine Sc.skip ?_
  refine Sx.next ?_
  refine Sc.seq ?_
  refine Sc.block ?_
  refine Sc.seq ?_
  refine Sc.region ?_
  refine Seg.y rfl rfl (Want.none rfl) (Y.index (v := .int .i64 2) rfl rfl (fun w => by kernel_rfl)) ?_
  refine Seg.y rfl rfl (Want.none rfl) (Y.assign rfl) ?_
  refine Seg.nil ?_
  refine Sx.next ?_
  refine Sc.seq ?_
  refine Sc.region ?_
  refine Seg.y rfl rfl (Want.none rfl) (Y.loadN (vs := [.bool false, .bool false, .bool false, .bool false, .bool false, .bool false, .bool false, .bool false, .bool false, .bool false, .bool false, .int .i64 0, .bool false]) 4 rfl rfl rfl rfl ag23 sz23) ?_
  refine Seg.y rfl rfl (Want.none rfl) (Y.move rfl) ?_
  obtain ⟨r51, hr51⟩ : ∃ x, x = putS (⟨false, false, false, false, false, false, false, false, false, false, false, 0, false⟩ : Md) true 2 true := ⟨_, rfl⟩
  refine Seg.callV (v := .tuple (List.toArray [.agg (List.toArray [.bool r51.1.ins, .bool r51.1.nl, .bool r51.1.ck, .bool r51.1.inv, .bool r51.1.org, .bool r51.1.aut, .bool r51.1.vis, .bool r51.1.paste, .bool r51.1.focus, .bool r51.1.sync, .bool r51.1.keypad, .int .i64 r51.1.mouse, .bool r51.1.sgr]), .bool r51.2.1, .int .i64 r51.2.2])) rfl rfl (Want.none rfl) (K.func rfl co13) (fun w hs => by rw [hr51]; exact put_c (⟨false, false, false, false, false, false, false, false, false, false, false, 0, false⟩ : Md) true 2 true w ) ?_
  refine Seg.y rfl rfl (Want.none rfl) (Y.move rfl) ?_
  refine Seg.y rfl rfl (Want.none rfl) (Y.extract rfl rfl) ?_
  refine Seg.y rfl rfl (Want.none rfl) (Y.extract rfl rfl) ?_
  refine Seg.y rfl rfl (Want.none rfl) (Y.extract rfl rfl) ?_
  refine Seg.chg rfl rfl (Want.none rfl) (C.alloc zv23 rfl) (fun b52 hb52 => ?_)
  refine Seg.chs rfl (Want.none rfl) (C.store (cs' := [.bool r51.1.ins, .bool r51.1.nl, .bool r51.1.ck, .bool r51.1.inv, .bool r51.1.org, .bool r51.1.aut, .bool r51.1.vis, .bool r51.1.paste, .bool r51.1.focus, .bool r51.1.sync, .bool r51.1.keypad, .int .i64 r51.1.mouse, .bool r51.1.sgr]) (vs := [.bool r51.1.ins, .bool r51.1.nl, .bool r51.1.ck, .bool r51.1.inv, .bool r51.1.org, .bool r51.1.aut, .bool r51.1.vis, .bool r51.1.paste, .bool r51.1.focus, .bool r51.1.sync, .bool r51.1.keypad, .int .i64 r51.1.mouse, .bool r51.1.sgr]) 0 rfl rfl rfl rfl rfl rfl rfl sz23) (fun _ _ => ?_)
  refine Seg.y rfl rfl (Want.none rfl) (Y.assign rfl) ?_
  refine Seg.y rfl rfl (Want.none rfl) (Y.assign rfl) ?_
  refine Seg.nil ?_
  refine Sx.next ?_
  refine Sc.seq ?_
  refine Sc.region ?_
  refine Seg.y rfl rfl (Want.none rfl) (Y.loadN (vs := [.bool false, .bool false, .bool false, .bool false, .bool false, .bool false, .bool false, .bool false, .bool false, .bool false, .bool false, .int .i64 0, .bool false]) 5 rfl rfl rfl rfl ag23 sz23) ?_
  refine Seg.y rfl rfl (Want.none rfl) (Y.move rfl) ?_
  obtain ⟨r53, hr53⟩ : ∃ x, x = putS (⟨false, false, false, false, false, false, false, false, false, false, false, 0, false⟩ : Md) false 2 true := ⟨_, rfl⟩
  refine Seg.callV (v := .tuple (List.toArray [.agg (List.toArray [.bool r53.1.ins, .bool r53.1.nl, .bool r53.1.ck, .bool r53.1.inv, .bool r53.1.org, .bool r53.1.aut, .bool r53.1.vis, .bool r53.1.paste, .bool r53.1.focus, .bool r53.1.sync, .bool r53.1.keypad, .int .i64 r53.1.mouse, .bool r53.1.sgr]), .bool r53.2.1, .int .i64 r53.2.2])) rfl rfl (Want.none rfl) (K.func rfl co13) (fun w hs => by rw [hr53]; exact put_c (⟨false, false, false, false, false, false, false, false, false, false, false, 0, false⟩ : Md) false 2 true w ) ?_
  refine Seg.y rfl rfl (Want.none rfl) (Y.move rfl) ?_
  refine Seg.y rfl rfl (Want.none rfl) (Y.extract rfl rfl) ?_
  refine Seg.y rfl rfl (Want.none rfl) (Y.extract rfl rfl) ?_
  refine Seg.y rfl rfl (Want.none rfl) (Y.extract rfl rfl) ?_
  refine Seg.chg rfl rfl (Want.none rfl) (C.alloc zv23 rfl) (fun b54 hb54 => ?_)
  refine Seg.chs rfl (Want.none rfl) (C.store (cs' := [.bool r53.1.ins, .bool r53.1.nl, .bool r53.1.ck, .bool r53.1.inv, .bool r53.1.org, .bool r53.1.aut, .bool r53.1.vis, .bool r53.1.paste, .bool r53.1.focus, .bool r53.1.sync, .bool r53.1.keypad, .int .i64 r53.1.mouse, .bool r53.1.sgr]) (vs := [.bool r53.1.ins, .bool r53.1.nl, .bool r53.1.ck, .bool r53.1.inv, .bool r53.1.org, .bool r53.1.aut, .bool r53.1.vis, .bool r53.1.paste, .bool r53.1.focus, .bool r53.1.sync, .bool r53.1.keypad, .int .i64 r53.1.mouse, .bool r53.1.sgr]) 0 rfl rfl rfl rfl rfl rfl rfl sz23) (fun _ _ => ?_)
  refine Seg.y rfl rfl (Want.none rfl) (Y.assign rfl) ?_
  refine Seg.y rfl rfl (Want.none rfl) (Y.assign rfl) ?_
  refine Seg.nil ?_
  refine Sx.next ?_
  refine Sc.seq ?_
  refine Sc.region ?_
  refine Seg.y rfl rfl (Want.none rfl) (Y.loadN (vs := [.bool r51.1.ins, .bool r51.1.nl, .bool r51.1.ck, .bool r51.1.inv, .bool r51.1.org, .bool r51.1.aut, .bool r51.1.vis, .bool r51.1.paste, .bool r51.1.focus, .bool r51.1.sync, .bool r51.1.keypad, .int .i64 r51.1.mouse, .bool r51.1.sgr]) 1 rfl rfl rfl rfl ag23 sz23) ?_
  refine Seg.y rfl rfl (Want.none rfl) (Y.loadN (vs := [.bool false, .bool false, .bool false, .bool false, .bool false, .bool false, .bool false, .bool false, .bool false, .bool false, .bool false, .int .i64 0, .bool false]) 6 rfl rfl rfl rfl ag23 sz23) ?_
  refine Seg.y rfl rfl (Want.none rfl) (Y.binOp rfl rfl (B.neS gq23 (Eqs.struct (n := 1) (b := MdEq r51.1 (⟨false, false, false, false, false, false, false, false, false, false, false, 0, false⟩ : Md)) Try.underlying23 sd23 (EqF.cons (b := r51.1.ins == false) rfl ag4 rfl rfl (Eqs.mono (m := 1) (Eqs.bool Try.underlying4) (by decide)) (EqF.cons (b := r51.1.nl == false) rfl ag4 rfl rfl (Eqs.mono (m := 1) (Eqs.bool Try.underlying4) (by decide)) (EqF.cons (b := r51.1.ck == false) rfl ag4 rfl rfl (Eqs.mono (m := 1) (Eqs.bool Try.underlying4) (by decide)) (EqF.cons (b := r51.1.inv == false) rfl ag4 rfl rfl (Eqs.mono (m := 1) (Eqs.bool Try.underlying4) (by decide)) (EqF.cons (b := r51.1.org == false) rfl ag4 rfl rfl (Eqs.mono (m := 1) (Eqs.bool Try.underlying4) (by decide)) (EqF.cons (b := r51.1.aut == false) rfl ag4 rfl rfl (Eqs.mono (m := 1) (Eqs.bool Try.underlying4) (by decide)) (EqF.cons (b := r51.1.vis == false) rfl ag4 rfl rfl (Eqs.mono (m := 1) (Eqs.bool Try.underlying4) (by decide)) (EqF.cons (b := r51.1.paste == false) rfl ag4 rfl rfl (Eqs.mono (m := 1) (Eqs.bool Try.underlying4) (by decide)) (EqF.cons (b := r51.1.focus == false) rfl ag4 rfl rfl (Eqs.mono (m := 1) (Eqs.bool Try.underlying4) (by decide)) (EqF.cons (b := r51.1.sync == false) rfl ag4 rfl rfl (Eqs.mono (m := 1) (Eqs.bool Try.underlying4) (by decide)) (EqF.cons (b := r51.1.keypad == false) rfl ag4 rfl rfl (Eqs.mono (m := 1) (Eqs.bool Try.underlying4) (by decide)) (EqF.cons (b := decide (r51.1.mouse = 0)) rfl ag3 rfl rfl (Eqs.mono (m := 1) (Eqs.int Try.underlying3) (by decide)) (EqF.cons (b := r51.1.sgr == false) rfl ag4 rfl rfl (Eqs.mono (m := 1) (Eqs.bool Try.underlying4) (by decide)) (EqF.nil))))))))))))))) rfl)) ?_
  refine Seg.y rfl rfl (Want.none rfl) (Y.move rfl) ?_
  have g55 : (!(MdEq r51.1 (⟨false, false, false, false, false, false, false, false, false, false, false, 0, false⟩ : Md))) = false := by simp only [hr51]; decide +kernel
  refine Seg.y rfl rfl (Want.some 3 112 false rfl rfl rfl g55) (Y.move rfl) ?_
  refine Seg.y rfl rfl (Want.none rfl) (Y.pickF rfl g55 rfl) ?_
  refine Seg.y rfl rfl (Want.none rfl) (Y.move rfl) ?_
  have g56 : (r51.2.1) = false := by simp only [hr51]; decide +kernel
  refine Seg.y rfl rfl (Want.some 6 115 false rfl rfl rfl g56) (Y.move rfl) ?_
  refine Seg.y rfl rfl (Want.none rfl) (Y.pickF rfl g56 rfl) ?_
  refine Seg.y rfl rfl (Want.none rfl) (Y.move rfl) ?_
  have g57 : (r53.2.1) = false := by simp only [hr53]; decide +kernel
  refine Seg.y rfl rfl (Want.some 9 118 false rfl rfl rfl g57) (Y.move rfl) ?_
  refine Seg.y rfl rfl (Want.some 9 118 false rfl rfl rfl g57) (Y.binOp rfl rfl (B.ne _ _ _)) ?_
  refine Seg.y rfl rfl (Want.none rfl) (Y.pickF rfl g57 rfl) ?_
  refine Seg.y rfl rfl (Want.none rfl) (Y.move rfl) ?_
  have g58 : (decide (r51.2.2 ≠ 0)) = false := by simp only [hr51]; decide +kernel
  refine Seg.y rfl rfl (Want.some 13 122 false rfl rfl rfl g58) (Y.move rfl) ?_
  refine Seg.y rfl rfl (Want.some 13 122 false rfl rfl rfl g58) (Y.binOp rfl rfl (B.ne _ _ _)) ?_
  refine Seg.y rfl rfl (Want.none rfl) (Y.pickF rfl g58 rfl) ?_
  refine Seg.y rfl rfl (Want.none rfl) (Y.move rfl) ?_
  have g59 : (decide (r53.2.2 ≠ 0)) = false := by simp only [hr53]; decide +kernel
  refine Seg.y rfl rfl (Want.some 17 126 false rfl rfl rfl g59) (Y.loadN (vs := [.bool false, .bool false, .bool false, .bool false, .bool false, .bool false, .bool false, .bool false, .bool false, .bool false, .bool false, .int .i64 0, .bool false]) 6 rfl rfl rfl rfl ag23 sz23) ?_
  refine Seg.y rfl rfl (Want.some 17 126 false rfl rfl rfl g59) (Y.move rfl) ?_
  obtain ⟨r60, hr60⟩ : ∃ x, x = lstate (⟨false, false, false, false, false, false, false, false, false, false, false, 0, false⟩ : Md) true 2 true := ⟨_, rfl⟩
  refine Seg.callV (v := .int .i64 r60) rfl rfl (Want.some 17 126 false rfl rfl rfl g59) (K.func rfl co26) (fun w hs => by rw [hr60]; exact lstate_c (⟨false, false, false, false, false, false, false, false, false, false, false, 0, false⟩ : Md) true 2 true w ) ?_
  refine Seg.y rfl rfl (Want.some 17 126 false rfl rfl rfl g59) (Y.binOp rfl rfl (B.ne _ _ _)) ?_
  refine Seg.y rfl rfl (Want.none rfl) (Y.pickF rfl g59 rfl) ?_
  refine Seg.y rfl rfl (Want.none rfl) (Y.move rfl) ?_
  have g61 : (decide (r60 ≠ 0)) = false := by simp only [hr60]; decide +kernel
  refine Seg.y rfl rfl (Want.some 23 132 false rfl rfl rfl g61) (Y.loadN (vs := [.bool false, .bool false, .bool false, .bool false, .bool false, .bool false, .bool false, .bool false, .bool false, .bool false, .bool false, .int .i64 0, .bool false]) 6 rfl rfl rfl rfl ag23 sz23) ?_
  refine Seg.y rfl rfl (Want.some 23 132 false rfl rfl rfl g61) (Y.move rfl) ?_
  obtain ⟨r62, hr62⟩ : ∃ x, x = lstate (⟨false, false, false, false, false, false, false, false, false, false, false, 0, false⟩ : Md) false 2 true := ⟨_, rfl⟩
  refine Seg.callV (v := .int .i64 r62) rfl rfl (Want.some 23 132 false rfl rfl rfl g61) (K.func rfl co26) (fun w hs => by rw [hr62]; exact lstate_c (⟨false, false, false, false, false, false, false, false, false, false, false, 0, false⟩ : Md) false 2 true w ) ?_
  refine Seg.y rfl rfl (Want.some 23 132 false rfl rfl rfl g61) (Y.binOp rfl rfl (B.ne _ _ _)) ?_
  refine Seg.y rfl rfl (Want.none rfl) (Y.pickF rfl g61 rfl) ?_
  refine Seg.nil ?_
  refine Sx.next ?_
  have g63 : (decide (r62 ≠ 0)) = false := by simp only [hr62]; decide +kernel
  refine Sc.condF rfl g63 ?_
  refine Sc.skip ?_
  refine Sx.block_normal ?_
  refine Sx.next ?_
  refine Sc.region ?_
  refine Seg.y rfl rfl (Want.none rfl) (Y.binOp rfl rfl (B.add _ _ _ 3 (by decide))) ?_
  refine Seg.y rfl rfl (Want.none rfl) (Y.move rfl) ?_
  refine Seg.nil ?_
  refine Sx.round ?_
  refine Sr.succ ?_
  refine Sc.seq ?_
  refine Sc.region ?_
  refine Seg.y rfl rfl (Want.none rfl) (Y.binOp (v := .bool true) rfl rfl (B.lt _ _ _)) ?_
  refine Seg.nil ?_
  refine Sx.next ?_
  refine Sc.seq ?_
  refine Sc.condT rfl rfl ?_
  refine Sc.skip ?_
  refine Sx.next ?_
  refine Sc.seq ?_
  refine Sc.block ?_
  refine Sc.seq ?_
  refine Sc.region ?_
  refine Seg.y rfl rfl (Want.none rfl) (Y.index (v := .int .i64 3) rfl rfl (fun w => by kernel_rfl)) ?_
  refine Seg.y rfl rfl (Want.none rfl) (Y.assign rfl) ?_
  refine Seg.nil ?_
  refine Sx.next ?_
  refine Sc.seq ?_
  refine Sc.region ?_
  refine Seg.y rfl rfl (Want.none rfl) (Y.loadN (vs := [.bool false, .bool false, .bool false, .bool false, .bool false, .bool false, .bool false, .bool false, .bool false, .bool false, .bool false, .int .i64 0, .bool false]) 6 rfl rfl rfl rfl ag23 sz23) ?_
  refine Seg.y rfl rfl (Want.none rfl) (Y.move rfl) ?_
  obtain ⟨r64, hr64⟩ : ∃ x, x = putS (⟨false, false, false, false, false, false, false, false, false, false, false, 0, false⟩ : Md) true 3 true := ⟨_, rfl⟩
  refine Seg.callV (v := .tuple (List.toArray [.agg (List.toArray [.bool r64.1.ins, .bool r64.1.nl, .bool r64.1.ck, .bool r64.1.inv, .bool r64.1.org, .bool r64.1.aut, .bool r64.1.vis, .bool r64.1.paste, .bool r64.1.focus, .bool r64.1.sync, .bool r64.1.keypad, .int .i64 r64.1.mouse, .bool r64.1.sgr]), .bool r64.2.1, .int .i64 r64.2.2])) rfl rfl (Want.none rfl) (K.func rfl co13) (fun w hs => by rw [hr64]; exact put_c (⟨false, false, false, false, false, false, false, false, false, false, false, 0, false⟩ : Md) true 3 true w ) ?_
  refine Seg.y rfl rfl (Want.none rfl) (Y.move rfl) ?_
  refine Seg.y rfl rfl (Want.none rfl) (Y.extract rfl rfl) ?_
  refine Seg.y rfl rfl (Want.none rfl) (Y.extract rfl rfl) ?_
  refine Seg.y rfl rfl (Want.none rfl) (Y.extract rfl rfl) ?_
  refine Seg.chg rfl rfl (Want.none rfl) (C.alloc zv23 rfl) (fun b65 hb65 => ?_)
  refine Seg.chs rfl (Want.none rfl) (C.store (cs' := [.bool r64.1.ins, .bool r64.1.nl, .bool r64.1.ck, .bool r64.1.inv, .bool r64.1.org, .bool r64.1.aut, .bool r64.1.vis, .bool r64.1.paste, .bool r64.1.focus, .bool r64.1.sync, .bool r64.1.keypad, .int .i64 r64.1.mouse, .bool r64.1.sgr]) (vs := [.bool r64.1.ins, .bool r64.1.nl, .bool r64.1.ck, .bool r64.1.inv, .bool r64.1.org, .bool r64.1.aut, .bool r64.1.vis, .bool r64.1.paste, .bool r64.1.focus, .bool r64.1.sync, .bool r64.1.keypad, .int .i64 r64.1.mouse, .bool r64.1.sgr]) 0 rfl rfl rfl rfl rfl rfl rfl sz23) (fun _ _ => ?_)
  refine Seg.y rfl rfl (Want.none rfl) (Y.assign rfl) ?_
  refine Seg.y rfl rfl (Want.none rfl) (Y.assign rfl) ?_
  refine Seg.nil ?_
  refine Sx.next ?_
  refine Sc.seq ?_
  refine Sc.region ?_
  refine Seg.y rfl rfl (Want.none rfl) (Y.loadN (vs := [.bool false, .bool false, .bool false, .bool false, .bool false, .bool false, .bool false, .bool false, .bool false, .bool false, .bool false, .int .i64 0, .bool false]) 7 rfl rfl rfl rfl ag23 sz23) ?_
  refine Seg.y rfl rfl (Want.none rfl) (Y.move rfl) ?_
  obtain ⟨r66, hr66⟩ : ∃ x, x = putS (⟨false, false, false, false, false, false, false, false, false, false, false, 0, false⟩ : Md) false 3 true := ⟨_, rfl⟩
  refine Seg.callV (v := .tuple (List.toArray [.agg (List.toArray [.bool r66.1.ins, .bool r66.1.nl, .bool r66.1.ck, .bool r66.1.inv, .bool r66.1.org, .bool r66.1.aut, .bool r66.1.vis, .bool r66.1.paste, .bool r66.1.focus, .bool r66.1.sync, .bool r66.1.keypad, .int .i64 r66.1.mouse, .bool r66.1.sgr]), .bool r66.2.1, .int .i64 r66.2.2])) rfl rfl (Want.none rfl) (K.func rfl co13) (fun w hs => by rw [hr66]; exact put_c (⟨false, false, false, false, false, false, false, false, false, false, false, 0, false⟩ : Md) false 3 true w ) ?_
  refine Seg.y rfl rfl (Want.none rfl) (Y.move rfl) ?_
  refine Seg.y rfl rfl (Want.none rfl) (Y.extract rfl rfl) ?_
  refine Seg.y rfl rfl (Want.none rfl) (Y.extract rfl rfl) ?_
  refine Seg.y rfl rfl (Want.none rfl) (Y.extract rfl rfl) ?_
  refine Seg.chg rfl rfl (Want.none rfl) (C.alloc zv23 rfl) (fun b67 hb67 => ?_)
  refine Seg.chs rfl (Want.none rfl) (C.store (cs' := [.bool r66.1.ins, .bool r66.1.nl, .bool r66.1.ck, .bool r66.1.inv, .bool r66.1.org, .bool r66.1.aut, .bool r66.1.vis, .bool r66.1.paste, .bool r66.1.focus, .bool r66.1.sync, .bool r66.1.keypad, .int .i64 r66.1.mouse, .bool r66.1.sgr]) (vs := [.bool r66.1.ins, .bool r66.1.nl, .bool r66.1.ck, .bool r66.1.inv, .bool r66.1.org, .bool r66.1.aut, .bool r66.1.vis, .bool r66.1.paste, .bool r66.1.focus, .bool r66.1.sync, .bool r66.1.keypad, .int .i64 r66.1.mouse, .bool r66.1.sgr]) 0 rfl rfl rfl rfl rfl rfl rfl sz23) (fun _ _ => ?_)
  refine Seg.y rfl rfl (Want.none rfl) (Y.assign rfl) ?_
  refine Seg.y rfl rfl (Want.none rfl) (Y.assign rfl) ?_
  refine Seg.nil ?_
  refine Sx.next ?_
  refine Sc.seq ?_
  refine Sc.region ?_
  refine Seg.y rfl rfl (Want.none rfl) (Y.loadN (vs := [.bool r64.1.ins, .bool r64.1.nl, .bool r64.1.ck, .bool r64.1.inv, .bool r64.1.org, .bool r64.1.aut, .bool r64.1.vis, .bool r64.1.paste, .bool r64.1.focus, .bool r64.1.sync, .bool r64.1.keypad, .int .i64 r64.1.mouse, .bool r64.1.sgr]) 1 rfl rfl rfl rfl ag23 sz23) ?_
  refine Seg.y rfl rfl (Want.none rfl) (Y.loadN (vs := [.bool false, .bool false, .bool false, .bool false, .bool false, .bool false, .bool false, .bool false, .bool false, .bool false, .bool false, .int .i64 0, .bool false]) 8 rfl rfl rfl rfl ag23 sz23) ?_
  refine Seg.y rfl rfl (Want.none rfl) (Y.binOp rfl rfl (B.neS gq23 (Eqs.struct (n := 1) (b := MdEq r64.1 (⟨false, false, false, false, false, false, false, false, false, false, false, 0, false⟩ : Md)) Try.underlying23 sd23 (EqF.cons (b := r64.1.ins == false) rfl ag4 rfl rfl (Eqs.mono (m := 1) (Eqs.bool Try.underlying4) (by decide)) (EqF.cons (b := r64.1.nl == false) rfl ag4 rfl rfl (Eqs.mono (m := 1) (Eqs.bool Try.underlying4) (by decide)) (EqF.cons (b := r64.1.ck == false) rfl ag4 rfl rfl (Eqs.mono (m := 1) (Eqs.bool Try.underlying4) (by decide)) (EqF.cons (b := r64.1.inv == false) rfl ag4 rfl rfl (Eqs.mono (m := 1) (Eqs.bool Try.underlying4) (by decide)) (EqF.cons (b := r64.1.org == false) rfl ag4 rfl rfl (Eqs.mono (m := 1) (Eqs.bool Try.underlying4) (by decide)) (EqF.cons (b := r64.1.aut == false) rfl ag4 rfl rfl (Eqs.mono (m := 1) (Eqs.bool Try.underlying4) (by decide)) (EqF.cons (b := r64.1.vis == false) rfl ag4 rfl rfl (Eqs.mono (m := 1) (Eqs.bool Try.underlying4) (by decide)) (EqF.cons (b := r64.1.paste == false) rfl ag4 rfl rfl (Eqs.mono (m := 1) (Eqs.bool Try.underlying4) (by decide)) (EqF.cons (b := r64.1.focus == false) rfl ag4 rfl rfl (Eqs.mono (m := 1) (Eqs.bool Try.underlying4) (by decide)) (EqF.cons (b := r64.1.sync == false) rfl ag4 rfl rfl (Eqs.mono (m := 1) (Eqs.bool Try.underlying4) (by decide)) (EqF.cons (b := r64.1.keypad == false) rfl ag4 rfl rfl (Eqs.mono (m := 1) (Eqs.bool Try.underlying4) (by decide)) (EqF.cons (b := decide (r64.1.mouse = 0)) rfl ag3 rfl rfl (Eqs.mono (m := 1) (Eqs.int Try.underlying3) (by decide)) (EqF.cons (b := r64.1.sgr == false) rfl ag4 rfl rfl (Eqs.mono (m := 1) (Eqs.bool Try.underlying4) (by decide)) (EqF.nil))))))))))))))) rfl)) ?_
  refine Seg.y rfl rfl (Want.none rfl) (Y.move rfl) ?_
  have g68 : (!(MdEq r64.1 (⟨false, false, false, false, false, false, false, false, false, false, false, 0, false⟩ : Md))) = false := by simp only [hr64]; decide +kernel
  refine Seg.y rfl rfl (Want.some 3 112 false rfl rfl rfl g68) (Y.move rfl) ?_
  refine Seg.y rfl rfl (Want.none rfl) (Y.pickF rfl g68 rfl) ?_
  refine Seg.y rfl rfl (Want.none rfl) (Y.move rfl) ?_
  have g69 : (r64.2.1) = false := by simp only [hr64]; decide +kernel
  refine Seg.y rfl rfl (Want.some 6 115 false rfl rfl rfl g69) (Y.move rfl) ?_
  refine Seg.y rfl rfl (Want.none rfl) (Y.pickF rfl g69 rfl) ?_
  refine Seg.y rfl rfl (Want.none rfl) (Y.move rfl) ?_
  have g70 : (r66.2.1) = false := by simp only [hr66]; decide +kernel
  refine Seg.y rfl rfl (Want.some 9 118 false rfl rfl rfl g70) (Y.move rfl) ?_
  refine Seg.y rfl rfl (Want.some 9 118 false rfl rfl rfl g70) (Y.binOp rfl rfl (B.ne _ _ _)) ?_
  refine Seg.y rfl rfl (Want.none rfl) (Y.pickF rfl g70 rfl) ?_
  refine Seg.y rfl rfl (Want.none rfl) (Y.move rfl) ?_
  have g71 : (decide (r64.2.2 ≠ 0)) = false := by simp only [hr64]; decide +kernel
  refine Seg.y rfl rfl (Want.some 13 122 false rfl rfl rfl g71) (Y.move rfl) ?_
  refine Seg.y rfl rfl (Want.some 13 122 false rfl rfl rfl g71) (Y.binOp rfl rfl (B.ne _ _ _)) ?_
  refine Seg.y rfl rfl (Want.none rfl) (Y.pickF rfl g71 rfl) ?_
  refine Seg.y rfl rfl (Want.none rfl) (Y.move rfl) ?_
  have g72 : (decide (r66.2.2 ≠ 0)) = false := by simp only [hr66]; decide +kernel
  refine Seg.y rfl rfl (Want.some 17 126 false rfl rfl rfl g72) (Y.loadN (vs := [.bool false, .bool false, .bool false, .bool false, .bool false, .bool false, .bool false, .bool false, .bool false, .bool false, .bool false, .int .i64 0, .bool false]) 8 rfl rfl rfl rfl ag23 sz23) ?_
  refine Seg.y rfl rfl (Want.some 17 126 false rfl rfl rfl g72) (Y.move rfl) ?_
  obtain ⟨r73, hr73⟩ : ∃ x, x = lstate (⟨false, false, false, false, false, false, false, false, false, false, false, 0, false⟩ : Md) true 3 true := ⟨_, rfl⟩
  refine Seg.callV (v := .int .i64 r73) rfl rfl (Want.some 17 126 false rfl rfl rfl g72) (K.func rfl co26) (fun w hs => by rw [hr73]; exact lstate_c (⟨false, false, false, false, false, false, false, false, false, false, false, 0, false⟩ : Md) true 3 true w ) ?_
  refine Seg.y rfl rfl (Want.some 17 126 false rfl rfl rfl g72) (Y.binOp rfl rfl (B.ne _ _ _)) ?_
  refine Seg.y rfl rfl (Want.none rfl) (Y.pickF rfl g72 rfl) ?_
  refine Seg.y rfl rfl (Want.none rfl) (Y.move rfl) ?_
  have g74 : (decide (r73 ≠ 0)) = false := by simp only [hr73]; decide +kernel
  refine Seg.y rfl rfl (Want.some 23 132 false rfl rfl rfl g74) (Y.loadN (vs := [.bool false, .bool false, .bool false, .bool false, .bool false, .bool false, .bool false, .bool false, .bool false, .bool false, .bool false, .int .i64 0, .bool false]) 8 rfl rfl rfl rfl ag23 sz23) ?_
  refine Seg.y rfl rfl (Want.some 23 132 false rfl rfl rfl g74) (Y.move rfl) ?_
  obtain ⟨r75, hr75⟩ : ∃ x, x = lstate (⟨false, false, false, false, false, false, false, false, false, false, false, 0, false⟩ : Md) false 3 true := ⟨_, rfl⟩
  refine Seg.callV (v := .int .i64 r75) rfl rfl (Want.some 23 132 false rfl rfl rfl g74) (K.func rfl co26) (fun w hs => by rw [hr75]; exact lstate_c (⟨false, false, false, false, false, false, false, false, false, false, false, 0, false⟩ : Md) false 3 true w ) ?_
  refine Seg.y rfl rfl (Want.some 23 132 false rfl rfl rfl g74) (Y.binOp rfl rfl (B.ne _ _ _)) ?_
  refine Seg.y rfl rfl (Want.none rfl) (Y.pickF rfl g74 rfl) ?_
  refine Seg.nil ?_
  refine Sx.next ?_
  have g76 : (decide (r75 ≠ 0)) = false := by simp only [hr75]; decide +kernel
  refine Sc.condF rfl g76 ?_
  refine Sc.skip ?_
  refine Sx.block_normal ?_
  refine Sx.next ?_
  refine Sc.region ?_
  refine Seg.y rfl rfl (Want.none rfl) (Y.binOp rfl rfl (B.add _ _ _ 4 (by decide))) ?_
  refine Seg.y rfl rfl (Want.none rfl) (Y.move rfl) ?_
  refine Seg.nil ?_
  refine Sx.round ?_
  refine Sr.succ ?_
  refine Sc.seq ?_
  refine Sc.region ?_
  refine Seg.y rfl rfl (Want.none rfl) (Y.binOp (v := .bool true) rfl rfl (B.lt _ _ _)) ?_
  refine Seg.nil ?_
  refine Sx.next ?_
  refine Sc.seq ?_
  refine Sc.condT rfl rfl ?_
  refine Sc.skip ?_
  refine Sx.next ?_
  refine Sc.seq ?_
  refine Sc.block ?_
  refine Sc.seq ?_
  refine Sc.region ?_
  refine Seg.y rfl rfl (Want.none rfl) (Y.index (v := .int .i64 8) rfl rfl (fun w => by kernel_rfl)) ?_
  refine Seg.y rfl rfl (Want.none rfl) (Y.assign rfl) ?_
  refine Seg.nil ?_
  refine Sx.next ?_
  refine Sc.seq ?_
  refine Sc.region ?_
  refine Seg.y rfl rfl (Want.none rfl) (Y.loadN (vs := [.bool false, .bool false, .bool false, .bool false, .bool false, .bool false, .bool false, .bool false, .bool false, .bool false, .bool false, .int .i64 0, .bool false]) 8 rfl rfl rfl rfl ag23 sz23) ?_
  refine Seg.y rfl rfl (Want.none rfl) (Y.move rfl) ?_
  obtain ⟨r77, hr77⟩ : ∃ x, x = putS (⟨false, false, false, false, false, false, false, false, false, false, false, 0, false⟩ : Md) true 8 true := ⟨_, rfl⟩
  refine Seg.callV (v := .tuple (List.toArray [.agg (List.toArray [.bool r77.1.ins, .bool r77.1.nl, .bool r77.1.ck, .bool r77.1.inv, .bool r77.1.org, .bool r77.1.aut, .bool r77.1.vis, .bool r77.1.paste, .bool r77.1.focus, .bool r77.1.sync, .bool r77.1.keypad, .int .i64 r77.1.mouse, .bool r77.1.sgr]), .bool r77.2.1, .int .i64 r77.2.2])) rfl rfl (Want.none rfl) (K.func rfl co13) (fun w hs => by rw [hr77]; exact put_c (⟨false, false, false, false, false, false, false, false, false, false, false, 0, false⟩ : Md) true 8 true w ) ?_
  refine Seg.y rfl rfl (Want.none rfl) (Y.move rfl) ?_
  refine Seg.y rfl rfl (Want.none rfl) (Y.extract rfl rfl) ?_
  refine Seg.y rfl rfl (Want.none rfl) (Y.extract rfl rfl) ?_
  refine Seg.y rfl rfl (Want.none rfl) (Y.extract rfl rfl) ?_
  refine Seg.chg rfl rfl (Want.none rfl) (C.alloc zv23 rfl) (fun b78 hb78 => ?_)
  refine Seg.chs rfl (Want.none rfl) (C.store (cs' := [.bool r77.1.ins, .bool r77.1.nl, .bool r77.1.ck, .bool r77.1.inv, .bool r77.1.org, .bool r77.1.aut, .bool r77.1.vis, .bool r77.1.paste, .bool r77.1.focus, .bool r77.1.sync, .bool r77.1.keypad, .int .i64 r77.1.mouse, .bool r77.1.sgr]) (vs := [.bool r77.1.ins, .bool r77.1.nl, .bool r77.1.ck, .bool r77.1.inv, .bool r77.1.org, .bool r77.1.aut, .bool r77.1.vis, .bool r77.1.paste, .bool r77.1.focus, .bool r77.1.sync, .bool r77.1.keypad, .int .i64 r77.1.mouse, .bool r77.1.sgr]) 0 rfl rfl rfl rfl rfl rfl rfl sz23) (fun _ _ => ?_)
  refine Seg.y rfl rfl (Want.none rfl) (Y.assign rfl) ?_
  refine Seg.y rfl rfl (Want.none rfl) (Y.assign rfl) ?_
  refine Seg.nil ?_
  refine Sx.next ?_
  refine Sc.seq ?_
  refine Sc.region ?_
  refine Seg.y rfl rfl (Want.none rfl) (Y.loadN (vs := [.bool false, .bool false, .bool false, .bool false, .bool false, .bool false, .bool false, .bool false, .bool false, .bool false, .bool false, .int .i64 0, .bool false]) 9 rfl rfl rfl rfl ag23 sz23) ?_
  refine Seg.y rfl rfl (Want.none rfl) (Y.move rfl) ?_
  obtain ⟨r79, hr79⟩ : ∃ x, x = putS (⟨false, false, false, false, false, false, false, false, false, false, false, 0, false⟩ : Md) false 8 true := ⟨_, rfl⟩
  refine Seg.callV (v := .tuple (List.toArray [.agg (List.toArray [.bool r79.1.ins, .bool r79.1.nl, .bool r79.1.ck, .bool r79.1.inv, .bool r79.1.org, .bool r79.1.aut, .bool r79.1.vis, .bool r79.1.paste, .bool r79.1.focus, .bool r79.1.sync, .bool r79.1.keypad, .int .i64 r79.1.mouse, .bool r79.1.sgr]), .bool r79.2.1, .int .i64 r79.2.2])) rfl rfl (Want.none rfl) (K.func rfl co13) (fun w hs => by rw [hr79]; exact put_c (⟨false, false, false, false, false, false, false, false, false, false, false, 0, false⟩ : Md) false 8 true w ) ?_
  refine Seg.y rfl rfl (Want.none rfl) (Y.move rfl) ?_
  refine Seg.y rfl rfl (Want.none rfl) (Y.extract rfl rfl) ?_
  refine Seg.y rfl rfl (Want.none rfl) (Y.extract rfl rfl) ?_
  refine Seg.y rfl rfl (Want.none rfl) (Y.extract rfl rfl) ?_
  refine Seg.chg rfl rfl (Want.none rfl) (C.alloc zv23 rfl) (fun b80 hb80 => ?_)
  refine Seg.chs rfl (Want.none rfl) (C.store (cs' := [.bool r79.1.ins, .bool r79.1.nl, .bool r79.1.ck, .bool r79.1.inv, .bool r79.1.org, .bool r79.1.aut, .bool r79.1.vis, .bool r79.1.paste, .bool r79.1.focus, .bool r79.1.sync, .bool r79.1.keypad, .int .i64 r79.1.mouse, .bool r79.1.sgr]) (vs := [.bool r79.1.ins, .bool r79.1.nl, .bool r79.1.ck, .bool r79.1.inv, .bool r79.1.org, .bool r79.1.aut, .bool r79.1.vis, .bool r79.1.paste, .bool r79.1.focus, .bool r79.1.sync, .bool r79.1.keypad, .int .i64 r79.1.mouse, .bool r79.1.sgr]) 0 rfl rfl rfl rfl rfl rfl rfl sz23) (fun _ _ => ?_)
  refine Seg.y rfl rfl (Want.none rfl) (Y.assign rfl) ?_
  refine Seg.y rfl rfl (Want.none rfl) (Y.assign rfl) ?_
  refine Seg.nil ?_
  refine Sx.next ?_
  refine Sc.seq ?_
  refine Sc.region ?_
  refine Seg.y rfl rfl (Want.none rfl) (Y.loadN (vs := [.bool r77.1.ins, .bool r77.1.nl, .bool r77.1.ck, .bool r77.1.inv, .bool r77.1.org, .bool r77.1.aut, .bool r77.1.vis, .bool r77.1.paste, .bool r77.1.focus, .bool r77.1.sync, .bool r77.1.keypad, .int .i64 r77.1.mouse, .bool r77.1.sgr]) 1 rfl rfl rfl rfl ag23 sz23) ?_
  refine Seg.y rfl rfl (Want.none rfl) (Y.loadN (vs := [.bool false, .bool false, .bool false, .bool false, .bool false, .bool false, .bool false, .bool false, .bool false, .bool false, .bool false, .int .i64 0, .bool false]) 10 rfl rfl rfl rfl ag23 sz23) ?_
  refine Seg.y rfl rfl (Want.none rfl) (Y.binOp rfl rfl (B.neS gq23 (Eqs.struct (n := 1) (b := MdEq r77.1 (⟨false, false, false, false, false, false, false, false, false, false, false, 0, false⟩ : Md)) Try.underlying23 sd23 (EqF.cons (b := r77.1.ins == false) rfl ag4 rfl rfl (Eqs.mono (m := 1) (Eqs.bool Try.underlying4) (by decide)) (EqF.cons (b := r77.1.nl == false) rfl ag4 rfl rfl (Eqs.mono (m := 1) (Eqs.bool Try.underlying4) (by decide)) (EqF.cons (b := r77.1.ck == false) rfl ag4 rfl rfl (Eqs.mono (m := 1) (Eqs.bool Try.underlying4) (by decide)) (EqF.cons (b := r77.1.inv == false) rfl ag4 rfl rfl (Eqs.mono (m := 1) (Eqs.bool Try.underlying4) (by decide)) (EqF.cons (b := r77.1.org == false) rfl ag4 rfl rfl (Eqs.mono (m := 1) (Eqs.bool Try.underlying4) (by decide)) (EqF.cons (b := r77.1.aut == false) rfl ag4 rfl rfl (Eqs.mono (m := 1) (Eqs.bool Try.underlying4) (by decide)) (EqF.cons (b := r77.1.vis == false) rfl ag4 rfl rfl (Eqs.mono (m := 1) (Eqs.bool Try.underlying4) (by decide)) (EqF.cons (b := r77.1.paste == false) rfl ag4 rfl rfl (Eqs.mono (m := 1) (Eqs.bool Try.underlying4) (by decide)) (EqF.cons (b := r77.1.focus == false) rfl ag4 rfl rfl (Eqs.mono (m := 1) (Eqs.bool Try.underlying4) (by decide)) (EqF.cons (b := r77.1.sync == false) rfl ag4 rfl rfl (Eqs.mono (m := 1) (Eqs.bool Try.underlying4) (by decide)) (EqF.cons (b := r77.1.keypad == false) rfl ag4 rfl rfl (Eqs.mono (m := 1) (Eqs.bool Try.underlying4) (by decide)) (EqF.cons (b := decide (r77.1.mouse = 0)) rfl ag3 rfl rfl (Eqs.mono (m := 1) (Eqs.int Try.underlying3) (by decide)) (EqF.cons (b := r77.1.sgr == false) rfl ag4 rfl rfl (Eqs.mono (m := 1) (Eqs.bool Try.underlying4) (by decide)) (EqF.nil))))))))))))))) rfl)) ?_
  refine Seg.y rfl rfl (Want.none rfl) (Y.move rfl) ?_
  have g81 : (!(MdEq r77.1 (⟨false, false, false, false, false, false, false, false, false, false, false, 0, false⟩ : Md))) = false := by simp only [hr77]; decide +kernel
  refine Seg.y rfl rfl (Want.some 3 112 false rfl rfl rfl g81) (Y.move rfl) ?_
  refine Seg.y rfl rfl (Want.none rfl) (Y.pickF rfl g81 rfl) ?_
  refine Seg.y rfl rfl (Want.none rfl) (Y.move rfl) ?_
  have g82 : (r77.2.1) = false := by simp only [hr77]; decide +kernel
  refine Seg.y rfl rfl (Want.some 6 115 false rfl rfl rfl g82) (Y.move rfl) ?_
  refine Seg.y rfl rfl (Want.none rfl) (Y.pickF rfl g82 rfl) ?_
  refine Seg.y rfl rfl (Want.none rfl) (Y.move rfl) ?_
  have g83 : (r79.2.1) = false := by simp only [hr79]; decide +kernel
  refine Seg.y rfl rfl (Want.some 9 118 false rfl rfl rfl g83) (Y.move rfl) ?_
  refine Seg.y rfl rfl (Want.some 9 118 false rfl rfl rfl g83) (Y.binOp rfl rfl (B.ne _ _ _)) ?_
  refine Seg.y rfl rfl (Want.none rfl) (Y.pickF rfl g83 rfl) ?_
  refine Seg.y rfl rfl (Want.none rfl) (Y.move rfl) ?_
  have g84 : (decide (r77.2.2 ≠ 0)) = false := by simp only [hr77]; decide +kernel
  refine Seg.y rfl rfl (Want.some 13 122 false rfl rfl rfl g84) (Y.move rfl) ?_
  refine Seg.y rfl rfl (Want.some 13 122 false rfl rfl rfl g84) (Y.binOp rfl rfl (B.ne _ _ _)) ?_
  refine Seg.y rfl rfl (Want.none rfl) (Y.pickF rfl g84 rfl) ?_
  refine Seg.y rfl rfl (Want.none rfl) (Y.move rfl) ?_
  have g85 : (decide (r79.2.2 ≠ 0)) = false := by simp only [hr79]; decide +kernel
  refine Seg.y rfl rfl (Want.some 17 126 false rfl rfl rfl g85) (Y.loadN (vs := [.bool false, .bool false, .bool false, .bool false, .bool false, .bool false, .bool false, .bool false, .bool false, .bool false, .bool false, .int .i64 0, .bool false]) 10 rfl rfl rfl rfl ag23 sz23) ?_
  refine Seg.y rfl rfl (Want.some 17 126 false rfl rfl rfl g85) (Y.move rfl) ?_
  obtain ⟨r86, hr86⟩ : ∃ x, x = lstate (⟨false, false, false, false, false, false, false, false, false, false, false, 0, false⟩ : Md) true 8 true := ⟨_, rfl⟩
  refine Seg.callV (v := .int .i64 r86) rfl rfl (Want.some 17 126 false rfl rfl rfl g85) (K.func rfl co26) (fun w hs => by rw [hr86]; exact lstate_c (⟨false, false, false, false, false, false, false, false, false, false, false, 0, false⟩ : Md) true 8 true w ) ?_
  refine Seg.y rfl rfl (Want.some 17 126 false rfl rfl rfl g85) (Y.binOp rfl rfl (B.ne _ _ _)) ?_
  refine Seg.y rfl rfl (Want.none rfl) (Y.pickF rfl g85 rfl) ?_
  refine Seg.y rfl rfl (Want.none rfl) (Y.move rfl) ?_
  have g87 : (decide (r86 ≠ 0)) = false := by simp only [hr86]; decide +kernel
  refine Seg.y rfl rfl (Want.some 23 132 false rfl rfl rfl g87) (Y.loadN (vs := [.bool false, .bool false, .bool false, .bool false, .bool false, .bool false, .bool false, .bool false, .bool false, .bool false, .bool false, .int .i64 0, .bool false]) 10 rfl rfl rfl rfl ag23 sz23) ?_
  refine Seg.y rfl rfl (Want.some 23 132 false rfl rfl rfl g87) (Y.move rfl) ?_
  obtain ⟨r88, hr88⟩ : ∃ x, x = lstate (⟨false, false, false, false, false, false, false, false, false, false, false, 0, false⟩ : Md) false 8 true := ⟨_, rfl⟩
  refine Seg.callV (v := .int .i64 r88) rfl rfl (Want.some 23 132 false rfl rfl rfl g87) (K.func rfl co26) (fun w hs => by rw [hr88]; exact lstate_c (⟨false, false, false, false, false, false, false, false, false, false, false, 0, false⟩ : Md) false 8 true w ) ?_
  refine Seg.y rfl rfl (Want.some 23 132 false rfl rfl rfl g87) (Y.binOp rfl rfl (B.ne _ _ _)) ?_
  refine Seg.y rfl rfl (Want.none rfl) (Y.pickF rfl g87 rfl) ?_
  refine Seg.nil ?_
  refine Sx.next ?_
  have g89 : (decide (r88 ≠ 0)) = false := by simp only [hr88]; decide +kernel
  refine Sc.condF rfl g89 ?_
  refine Sc.skip ?_
  refine Sx.block_normal ?_
  refine Sx.next ?_
  refine Sc.region ?_
  refine Seg.y rfl rfl (Want.none rfl) (Y.binOp rfl rfl (B.add _ _ _ 5 (by decide))) ?_
  refine Seg.y rfl rfl (Want.none rfl) (Y.move rfl) ?_
  refine Seg.nil ?_
  refine Sx.round ?_
  refine Sr.succ ?_
  refine Sc.seq ?_
  refine Sc.region ?_
  refine Seg.y rfl rfl (Want.none rfl) (Y.binOp (v := .bool true) rfl rfl (B.lt _ _ _)) ?_
  refine Seg.nil ?_
  refine Sx.next ?_
  refine Sc.seq ?_
  refine Sc.condT rfl rfl ?_
  refine Sc.skip ?_
  refine Sx.next ?_
  refine Sc.seq ?_
  refine Sc.block ?_
  refine Sc.seq ?_
  refine Sc.region ?_
  refine Seg.y rfl rfl (Want.none rfl) (Y.index (v := .int .i64 1001) rfl rfl (fun w => by kernel_rfl)) ?_
  refine Seg.y rfl rfl (Want.none rfl) (Y.assign rfl) ?_
  refine Seg.nil ?_
  refine Sx.next ?_
  refine Sc.seq ?_
  refine Sc.region ?_
  refine Seg.y rfl rfl (Want.none rfl) (Y.loadN (vs := [.bool false, .bool false, .bool false, .bool false, .bool false, .bool false, .bool false, .bool false, .bool false, .bool false, .bool false, .int .i64 0, .bool false]) 10 rfl rfl rfl rfl ag23 sz23) ?_
  refine Seg.y rfl rfl (Want.none rfl) (Y.move rfl) ?_
  obtain ⟨r90, hr90⟩ : ∃ x, x = putS (⟨false, false, false, false, false, false, false, false, false, false, false, 0, false⟩ : Md) true 1001 true := ⟨_, rfl⟩
  refine Seg.callV (v := .tuple (List.toArray [.agg (List.toArray [.bool r90.1.ins, .bool r90.1.nl, .bool r90.1.ck, .bool r90.1.inv, .bool r90.1.org, .bool r90.1.aut, .bool r90.1.vis, .bool r90.1.paste, .bool r90.1.focus, .bool r90.1.sync, .bool r90.1.keypad, .int .i64 r90.1.mouse, .bool r90.1.sgr]), .bool r90.2.1, .int .i64 r90.2.2])) rfl rfl (Want.none rfl) (K.func rfl co13) (fun w hs => by rw [hr90]; exact put_c (⟨false, false, false, false, false, false, false, false, false, false, false, 0, false⟩ : Md) true 1001 true w ) ?_
  refine Seg.y rfl rfl (Want.none rfl) (Y.move rfl) ?_
  refine Seg.y rfl rfl (Want.none rfl) (Y.extract rfl rfl) ?_
  refine Seg.y rfl rfl (Want.none rfl) (Y.extract rfl rfl) ?_
  refine Seg.y rfl rfl (Want.none rfl) (Y.extract rfl rfl) ?_
  refine Seg.chg rfl rfl (Want.none rfl) (C.alloc zv23 rfl) (fun b91 hb91 => ?_)
  refine Seg.chs rfl (Want.none rfl) (C.store (cs' := [.bool r90.1.ins, .bool r90.1.nl, .bool r90.1.ck, .bool r90.1.inv, .bool r90.1.org, .bool r90.1.aut, .bool r90.1.vis, .bool r90.1.paste, .bool r90.1.focus, .bool r90.1.sync, .bool r90.1.keypad, .int .i64 r90.1.mouse, .bool r90.1.sgr]) (vs := [.bool r90.1.ins, .bool r90.1.nl, .bool r90.1.ck, .bool r90.1.inv, .bool r90.1.org, .bool r90.1.aut, .bool r90.1.vis, .bool r90.1.paste, .bool r90.1.focus, .bool r90.1.sync, .bool r90.1.keypad, .int .i64 r90.1.mouse, .bool r90.1.sgr]) 0 rfl rfl rfl rfl rfl rfl rfl sz23) (fun _ _ => ?_)
  refine Seg.y rfl rfl (Want.none rfl) (Y.assign rfl) ?_
  refine Seg.y rfl rfl (Want.none rfl) (Y.assign rfl) ?_
  refine Seg.nil ?_
  refine Sx.next ?_
  refine Sc.seq ?_
  refine Sc.region ?_
  refine Seg.y rfl rfl (Want.none rfl) (Y.loadN (vs := [.bool false, .bool false, .bool false, .bool false, .bool false, .bool false, .bool false, .bool false, .bool false, .bool false, .bool false, .int .i64 0, .bool false]) 11 rfl rfl rfl rfl ag23 sz23) ?_
  refine Seg.y rfl rfl (Want.none rfl) (Y.move rfl) ?_
  obtain ⟨r92, hr92⟩ : ∃ x, x = putS (⟨false, false, false, false, false, false, false, false, false, false, false, 0, false⟩ : Md) false 1001 true := ⟨_, rfl⟩
  refine Seg.callV (v := .tuple (List.toArray [.agg (List.toArray [.bool r92.1.ins, .bool r92.1.nl, .bool r92.1.ck, .bool r92.1.inv, .bool r92.1.org, .bool r92.1.aut, .bool r92.1.vis, .bool r92.1.paste, .bool r92.1.focus, .bool r92.1.sync, .bool r92.1.keypad, .int .i64 r92.1.mouse, .bool r92.1.sgr]), .bool r92.2.1, .int .i64 r92.2.2])) rfl rfl (Want.none rfl) (K.func rfl co13) (fun w hs => by rw [hr92]; exact put_c (⟨false, false, false, false, false, false, false, false, false, false, false, 0, false⟩ : Md) false 1001 true w ) ?_
  refine Seg.y rfl rfl (Want.none rfl) (Y.move rfl) ?_
  refine Seg.y rfl rfl (Want.none rfl) (Y.extract rfl rfl) ?_
  refine Seg.y rfl rfl (Want.none rfl) (Y.extract rfl rfl) ?_
  refine Seg.y rfl rfl (Want.none rfl) (Y.extract rfl rfl) ?_
  refine Seg.chg rfl rfl (Want.none rfl) (C.alloc zv23 rfl) (fun b93 hb93 => ?_)
  refine Seg.chs rfl (Want.none rfl) (C.store (cs' := [.bool r92.1.ins, .bool r92.1.nl, .bool r92.1.ck, .bool r92.1.inv, .bool r92.1.org, .bool r92.1.aut, .bool r92.1.vis, .bool r92.1.paste, .bool r92.1.focus, .bool r92.1.sync, .bool r92.1.keypad, .int .i64 r92.1.mouse, .bool r92.1.sgr]) (vs := [.bool r92.1.ins, .bool r92.1.nl, .bool r92.1.ck, .bool r92.1.inv, .bool r92.1.org, .bool r92.1.aut, .bool r92.1.vis, .bool r92.1.paste, .bool r92.1.focus, .bool r92.1.sync, .bool r92.1.keypad, .int .i64 r92.1.mouse, .bool r92.1.sgr]) 0 rfl rfl rfl rfl rfl rfl rfl sz23) (fun _ _ => ?_)
  refine Seg.y rfl rfl (Want.none rfl) (Y.assign rfl) ?_
  refine Seg.y rfl rfl (Want.none rfl) (Y.assign rfl) ?_
  refine Seg.nil ?_
  refine Sx.next ?_
  refine Sc.seq ?_
  refine Sc.region ?_
  refine Seg.y rfl rfl (Want.none rfl) (Y.loadN (vs := [.bool r90.1.ins, .bool r90.1.nl, .bool r90.1.ck, .bool r90.1.inv, .bool r90.1.org, .bool r90.1.aut, .bool r90.1.vis, .bool r90.1.paste, .bool r90.1.focus, .bool r90.1.sync, .bool r90.1.keypad, .int .i64 r90.1.mouse, .bool r90.1.sgr]) 1 rfl rfl rfl rfl ag23 sz23) ?_
  refine Seg.y rfl rfl (Want.none rfl) (Y.loadN (vs := [.bool false, .bool false, .bool false, .bool false, .bool false, .bool false, .bool false, .bool false, .bool false, .bool false, .bool false, .int .i64 0, .bool false]) 12 rfl rfl rfl rfl ag23 sz23) ?_
  refine Seg.y rfl rfl (Want.none rfl) (Y.binOp rfl rfl (B.neS gq23 (Eqs.struct (n := 1) (b := MdEq r90.1 (⟨false, false, false, false, false, false, false, false, false, false, false, 0, false⟩ : Md)) Try.underlying23 sd23 (EqF.cons (b := r90.1.ins == false) rfl ag4 rfl rfl (Eqs.mono (m := 1) (Eqs.bool Try.underlying4) (by decide)) (EqF.cons (b := r90.1.nl == false) rfl ag4 rfl rfl (Eqs.mono (m := 1) (Eqs.bool Try.underlying4) (by decide)) (EqF.cons (b := r90.1.ck == false) rfl ag4 rfl rfl (Eqs.mono (m := 1) (Eqs.bool Try.underlying4) (by decide)) (EqF.cons (b := r90.1.inv == false) rfl ag4 rfl rfl (Eqs.mono (m := 1) (Eqs.bool Try.underlying4) (by decide)) (EqF.cons (b := r90.1.org == false) rfl ag4 rfl rfl (Eqs.mono (m := 1) (Eqs.bool Try.underlying4) (by decide)) (EqF.cons (b := r90.1.aut == false) rfl ag4 rfl rfl (Eqs.mono (m := 1) (Eqs.bool Try.underlying4) (by decide)) (EqF.cons (b := r90.1.vis == false) rfl ag4 rfl rfl (Eqs.mono (m := 1) (Eqs.bool Try.underlying4) (by decide)) (EqF.cons (b := r90.1.paste == false) rfl ag4 rfl rfl (Eqs.mono (m := 1) (Eqs.bool Try.underlying4) (by decide)) (EqF.cons (b := r90.1.focus == false) rfl ag4 rfl rfl (Eqs.mono (m := 1) (Eqs.bool Try.underlying4) (by decide)) (EqF.cons (b := r90.1.sync == false) rfl ag4 rfl rfl (Eqs.mono (m := 1) (Eqs.bool Try.underlying4) (by decide)) (EqF.cons (b := r90.1.keypad == false) rfl ag4 rfl rfl (Eqs.mono (m := 1) (Eqs.bool Try.underlying4) (by decide)) (EqF.cons (b := decide (r90.1.mouse = 0)) rfl ag3 rfl rfl (Eqs.mono (m := 1) (Eqs.int Try.underlying3) (by decide)) (EqF.cons (b := r90.1.sgr == false) rfl ag4 rfl rfl (Eqs.mono (m := 1) (Eqs.bool Try.underlying4) (by decide)) (EqF.nil))))))))))))))) rfl)) ?_
  refine Seg.y rfl rfl (Want.none rfl) (Y.move rfl) ?_
  have g94 : (!(MdEq r90.1 (⟨false, false, false, false, false, false, false, false, false, false, false, 0, false⟩ : Md))) = false := by simp only [hr90]; decide +kernel
  refine Seg.y rfl rfl (Want.some 3 112 false rfl rfl rfl g94) (Y.move rfl) ?_
  refine Seg.y rfl rfl (Want.none rfl) (Y.pickF rfl g94 rfl) ?_
  refine Seg.y rfl rfl (Want.none rfl) (Y.move rfl) ?_
  have g95 : (r90.2.1) = false := by simp only [hr90]; decide +kernel
  refine Seg.y rfl rfl (Want.some 6 115 false rfl rfl rfl g95) (Y.move rfl) ?_
  refine Seg.y rfl rfl (Want.none rfl) (Y.pickF rfl g95 rfl) ?_
  refine Seg.y rfl rfl (Want.none rfl) (Y.move rfl) ?_
  have g96 : (r92.2.1) = false := by simp only [hr92]; decide +kernel
  refine Seg.y rfl rfl (Want.some 9 118 false rfl rfl rfl g96) (Y.move rfl) ?_
  refine Seg.y rfl rfl (Want.some 9 118 false rfl rfl rfl g96) (Y.binOp rfl rfl (B.ne _ _ _)) ?_
  refine Seg.y rfl rfl (Want.none rfl) (Y.pickF rfl g96 rfl) ?_
  refine Seg.y rfl rfl (Want.none rfl) (Y.move rfl) ?_
  have g97 : (decide (r90.2.2 ≠ 0)) = false := by simp only [hr90]; decide +kernel
  refine Seg.y rfl rfl (Want.some 13 122 false rfl rfl rfl g97) (Y.move rfl) ?_
  refine Seg.y rfl rfl (Want.some 13 122 false rfl rfl rfl g97) (Y.binOp rfl rfl (B.ne _ _ _)) ?_
  refine Seg.y rfl rfl (Want.none rfl) (Y.pickF rfl g97 rfl) ?_
  refine Seg.y rfl rfl (Want.none rfl) (Y.move rfl) ?_
  have g98 : (decide (r92.2.2 ≠ 0)) = false := by simp only [hr92]; decide +kernel
  refine Seg.y rfl rfl (Want.some 17 126 false rfl rfl rfl g98) (Y.loadN (vs := [.bool false, .bool false, .bool false, .bool false, .bool false, .bool false, .bool false, .bool false, .bool false, .bool false, .bool false, .int .i64 0, .bool false]) 12 rfl rfl rfl rfl ag23 sz23) ?_
  refine Seg.y rfl rfl (Want.some 17 126 false rfl rfl rfl g98) (Y.move rfl) ?_
  obtain ⟨r99, hr99⟩ : ∃ x, x = lstate (⟨false, false, false, false, false, false, false, false, false, false, false, 0, false⟩ : Md) true 1001 true := ⟨_, rfl⟩
  refine Seg.callV (v := .int .i64 r99) rfl rfl (Want.some 17 126 false rfl rfl rfl g98) (K.func rfl co26) (fun w hs => by rw [hr99]; exact lstate_c (⟨false, false, false, false, false, false, false, false, false, false, false, 0, false⟩ : Md) true 1001 true w ) ?_
  refine Seg.y rfl rfl (Want.some 17 126 false rfl rfl rfl g98) (Y.binOp rfl rfl (B.ne _ _ _)) ?_
  refine Seg.y rfl rfl (Want.none rfl) (Y.pickF rfl g98 rfl) ?_
  refine Seg.y rfl rfl (Want.none rfl) (Y.move rfl) ?_
  have g100 : (decide (r99 ≠ 0)) = false := by simp only [hr99]; decide +kernel
  refine Seg.y rfl rfl (Want.some 23 132 false rfl rfl rfl g100) (Y.loadN (vs := [.bool false, .bool false, .bool false, .bool false, .bool false, .bool false, .bool false, .bool false, .bool false, .bool false, .bool false, .int .i64 0, .bool false]) 12 rfl rfl rfl rfl ag23 sz23) ?_
  refine Seg.y rfl rfl (Want.some 23 132 false rfl rfl rfl g100) (Y.move rfl) ?_
  obtain ⟨r101, hr101⟩ : ∃ x, x = lstate (⟨false, false, false, false, false, false, false, false, false, false, false, 0, false⟩ : Md) false 1001 true := ⟨_, rfl⟩
  refine Seg.callV (v := .int .i64 r101) rfl rfl (Want.some 23 132 false rfl rfl rfl g100) (K.func rfl co26) (fun w hs => by rw [hr101]; exact lstate_c (⟨false, false, false, false, false, false, false, false, false, false, false, 0, false⟩ : Md) false 1001 true w ) ?_
  refine Seg.y rfl rfl (Want.some 23 132 false rfl rfl rfl g100) (Y.binOp rfl rfl (B.ne _ _ _)) ?_
  refine Seg.y rfl rfl (Want.none rfl) (Y.pickF rfl g100 rfl) ?_
  refine Seg.nil ?_
  refine Sx.next ?_
  have g102 : (decide (r101 ≠ 0)) = false := by simp only [hr101]; decide +kernel
  refine Sc.condF rfl g102 ?_
  refine Sc.skip ?_
  refine Sx.block_normal ?_
  refine Sx.next ?_
  refine Sc.region ?_
  refine Seg.y rfl rfl (Want.none rfl) (Y.binOp rfl rfl (B.add _ _ _ 6 (by decide))) ?_
  refine Seg.y rfl rfl (Want.none rfl) (Y.move rfl) ?_
  refine Seg.nil ?_
  refine Sx.round ?_
  refine Sr.succ ?_
  refine Sc.seq ?_
  refine Sc.region ?_
  refine Seg.y rfl rfl (Want.none rfl) (Y.binOp (v := .bool true) rfl rfl (B.lt _ _ _)) ?_
  refine Seg.nil ?_
  refine Sx.next ?_
  refine Sc.seq ?_
  refine Sc.condT rfl rfl ?_
  refine Sc.skip ?_
  refine Sx.next ?_
  refine Sc.seq ?_
  refine Sc.block ?_
  refine Sc.seq ?_
  refine Sc.region ?_
  refine Seg.y rfl rfl (Want.none rfl) (Y.index (v := .int .i64 1005) rfl rfl (fun w => by kernel_rfl)) ?_
  refine Seg.y rfl rfl (Want.none rfl) (Y.assign rfl) ?_
  refine Seg.nil ?_
  refine Sx.next ?_
  refine Sc.seq ?_
  refine Sc.region ?_
  refine Seg.y rfl rfl (Want.none rfl) (Y.loadN (vs := [.bool false, .bool false, .bool false, .bool false, .bool false, .bool false, .bool false, .bool false, .bool false, .bool false, .bool false, .int .i64 0, .bool false]) 12 rfl rfl rfl rfl ag23 sz23) ?_
  refine Seg.y rfl rfl (Want.none rfl) (Y.move rfl) ?_
  obtain ⟨r103, hr103⟩ : ∃ x, x = putS (⟨false, false, false, false, false, false, false, false, false, false, false, 0, false⟩ : Md) true 1005 true := ⟨_, rfl⟩
  refine Seg.callV (v := .tuple (List.toArray [.agg (List.toArray [.bool r103.1.ins, .bool r103.1.nl, .bool r103.1.ck, .bool r103.1.inv, .bool r103.1.org, .bool r103.1.aut, .bool r103.1.vis, .bool r103.1.paste, .bool r103.1.focus, .bool r103.1.sync, .bool r103.1.keypad, .int .i64 r103.1.mouse, .bool r103.1.sgr]), .bool r103.2.1, .int .i64 r103.2.2])) rfl rfl (Want.none rfl) (K.func rfl co13) (fun w hs => by rw [hr103]; exact put_c (⟨false, false, false, false, false, false, false, false, false, false, false, 0, false⟩ : Md) true 1005 true w ) ?_
  refine Seg.y rfl rfl (Want.none rfl) (Y.move rfl) ?_
  refine Seg.y rfl rfl (Want.none rfl) (Y.extract rfl rfl) ?_
  refine Seg.y rfl rfl (Want.none rfl) (Y.extract rfl rfl) ?_
  refine Seg.y rfl rfl (Want.none rfl) (Y.extract rfl rfl) ?_
  refine Seg.chg rfl rfl (Want.none rfl) (C.alloc zv23 rfl) (fun b104 hb104 => ?_)
  refine Seg.chs rfl (Want.none rfl) (C.store (cs' := [.bool r103.1.ins, .bool r103.1.nl, .bool r103.1.ck, .bool r103.1.inv, .bool r103.1.org, .bool r103.1.aut, .bool r103.1.vis, .bool r103.1.paste, .bool r103.1.focus, .bool r103.1.sync, .bool r103.1.keypad, .int .i64 r103.1.mouse, .bool r103.1.sgr]) (vs := [.bool r103.1.ins, .bool r103.1.nl, .bool r103.1.ck, .bool r103.1.inv, .bool r103.1.org, .bool r103.1.aut, .bool r103.1.vis, .bool r103.1.paste, .bool r103.1.focus, .bool r103.1.sync, .bool r103.1.keypad, .int .i64 r103.1.mouse, .bool r103.1.sgr]) 0 rfl rfl rfl rfl rfl rfl rfl sz23) (fun _ _ => ?_)
  refine Seg.y rfl rfl (Want.none rfl) (Y.assign rfl) ?_
  refine Seg.y rfl rfl (Want.none rfl) (Y.assign rfl) ?_
  refine Seg.nil ?_
  refine Sx.next ?_
  refine Sc.seq ?_
  refine Sc.region ?_
  refine Seg.y rfl rfl (Want.none rfl) (Y.loadN (vs := [.bool false, .bool false, .bool false, .bool false, .bool false, .bool false, .bool false, .bool false, .bool false, .bool false, .bool false, .int .i64 0, .bool false]) 13 rfl rfl rfl rfl ag23 sz23) ?_
  refine Seg.y rfl rfl (Want.none rfl) (Y.move rfl) ?_
  obtain ⟨r105, hr105⟩ : ∃ x, x = putS (⟨false, false, false, false, false, false, false, false, false, false, false, 0, false⟩ : Md) false 1005 true := ⟨_, rfl⟩
  refine Seg.callV (v := .tuple (List.toArray [.agg (List.toArray [.bool r105.1.ins, .bool r105.1.nl, .bool r105.1.ck, .bool r105.1.inv, .bool r105.1.org, .bool r105.1.aut, .bool r105.1.vis, .bool r105.1.paste, .bool r105.1.focus, .bool r105.1.sync, .bool r105.1.keypad, .int .i64 r105.1.mouse, .bool r105.1.sgr]), .bool r105.2.1, .int .i64 r105.2.2])) rfl rfl (Want.none rfl) (K.func rfl co13) (fun w hs => by rw [hr105]; exact put_c (⟨false, false, false, false, false, false, false, false, false, false, false, 0, false⟩ : Md) false 1005 true w ) ?_
  refine Seg.y rfl rfl (Want.none rfl) (Y.move rfl) ?_
  refine Seg.y rfl rfl (Want.none rfl) (Y.extract rfl rfl) ?_
  refine Seg.y rfl rfl (Want.none rfl) (Y.extract rfl rfl) ?_
  refine Seg.y rfl rfl (Want.none rfl) (Y.extract rfl rfl) ?_
  refine Seg.chg rfl rfl (Want.none rfl) (C.alloc zv23 rfl) (fun b106 hb106 => ?_)
  refine Seg.chs rfl (Want.none rfl) (C.store (cs' := [.bool r105.1.ins, .bool r105.1.nl, .bool r105.1.ck, .bool r105.1.inv, .bool r105.1.org, .bool r105.1.aut, .bool r105.1.vis, .bool r105.1.paste, .bool r105.1.focus, .bool r105.1.sync, .bool r105.1.keypad, .int .i64 r105.1.mouse, .bool r105.1.sgr]) (vs := [.bool r105.1.ins, .bool r105.1.nl, .bool r105.1.ck, .bool r105.1.inv, .bool r105.1.org, .bool r105.1.aut, .bool r105.1.vis, .bool r105.1.paste, .bool r105.1.focus, .bool r105.1.sync, .bool r105.1.keypad, .int .i64 r105.1.mouse, .bool r105.1.sgr]) 0 rfl rfl rfl rfl rfl rfl rfl sz23) (fun _ _ => ?_)
  refine Seg.y rfl rfl (Want.none rfl) (Y.assign rfl) ?_
  refine Seg.y rfl rfl (Want.none rfl) (Y.assign rfl) ?_
  refine Seg.nil ?_
  refine Sx.next ?_
  refine Sc.seq ?_
  refine Sc.region ?_
  refine Seg.y rfl rfl (Want.none rfl) (Y.loadN (vs := [.bool r103.1.ins, .bool r103.1.nl, .bool r103.1.ck, .bool r103.1.inv, .bool r103.1.org, .bool r103.1.aut, .bool r103.1.vis, .bool r103.1.paste, .bool r103.1.focus, .bool r103.1.sync, .bool r103.1.keypad, .int .i64 r103.1.mouse, .bool r103.1.sgr]) 1 rfl rfl rfl rfl ag23 sz23) ?_
  refine Seg.y rfl rfl (Want.none rfl) (Y.loadN (vs := [.bool false, .bool false, .bool false, .bool false, .bool false, .bool false, .bool false, .bool false, .bool false, .bool false, .bool false, .int .i64 0, .bool false]) 14 rfl rfl rfl rfl ag23 sz23) ?_
  refine Seg.y rfl rfl (Want.none rfl) (Y.binOp rfl rfl (B.neS gq23 (Eqs.struct (n := 1) (b := MdEq r103.1 (⟨false, false, false, false, false, false, false, false, false, false, false, 0, false⟩ : Md)) Try.underlying23 sd23 (EqF.cons (b := r103.1.ins == false) rfl ag4 rfl rfl (Eqs.mono (m := 1) (Eqs.bool Try.underlying4) (by decide)) (EqF.cons (b := r103.1.nl == false) rfl ag4 rfl rfl (Eqs.mono (m := 1) (Eqs.bool Try.underlying4) (by decide)) (EqF.cons (b := r103.1.ck == false) rfl ag4 rfl rfl (Eqs.mono (m := 1) (Eqs.bool Try.underlying4) (by decide)) (EqF.cons (b := r103.1.inv == false) rfl ag4 rfl rfl (Eqs.mono (m := 1) (Eqs.bool Try.underlying4) (by decide)) (EqF.cons (b := r103.1.org == false) rfl ag4 rfl rfl (Eqs.mono (m := 1) (Eqs.bool Try.underlying4) (by decide)) (EqF.cons (b := r103.1.aut == false) rfl ag4 rfl rfl (Eqs.mono (m := 1) (Eqs.bool Try.underlying4) (by decide)) (EqF.cons (b := r103.1.vis == false) rfl ag4 rfl rfl (Eqs.mono (m := 1) (Eqs.bool Try.underlying4) (by decide)) (EqF.cons (b := r103.1.paste == false) rfl ag4 rfl rfl (Eqs.mono (m := 1) (Eqs.bool Try.underlying4) (by decide)) (EqF.cons (b := r103.1.focus == false) rfl ag4 rfl rfl (Eqs.mono (m := 1) (Eqs.bool Try.underlying4) (by decide)) (EqF.cons (b := r103.1.sync == false) rfl ag4 rfl rfl (Eqs.mono (m := 1) (Eqs.bool Try.underlying4) (by decide)) (EqF.cons (b := r103.1.keypad == false) rfl ag4 rfl rfl (Eqs.mono (m := 1) (Eqs.bool Try.underlying4) (by decide)) (EqF.cons (b := decide (r103.1.mouse = 0)) rfl ag3 rfl rfl (Eqs.mono (m := 1) (Eqs.int Try.underlying3) (by decide)) (EqF.cons (b := r103.1.sgr == false) rfl ag4 rfl rfl (Eqs.mono (m := 1) (Eqs.bool Try.underlying4) (by decide)) (EqF.nil))))))))))))))) rfl)) ?_
  refine Seg.y rfl rfl (Want.none rfl) (Y.move rfl) ?_
  have g107 : (!(MdEq r103.1 (⟨false, false, false, false, false, false, false, false, false, false, false, 0, false⟩ : Md))) = false := by simp only [hr103]; decide +kernel
  refine Seg.y rfl rfl (Want.some 3 112 false rfl rfl rfl g107) (Y.move rfl) ?_
  refine Seg.y rfl rfl (Want.none rfl) (Y.pickF rfl g107 rfl) ?_
  refine Seg.y rfl rfl (Want.none rfl) (Y.move rfl) ?_
  have g108 : (r103.2.1) = false := by simp only [hr103]; decide +kernel
  refine Seg.y rfl rfl (Want.some 6 115 false rfl rfl rfl g108) (Y.move rfl) ?_
  refine Seg.y rfl rfl (Want.none rfl) (Y.pickF rfl g108 rfl) ?_
  refine Seg.y rfl rfl (Want.none rfl) (Y.move rfl) ?_
  have g109 : (r105.2.1) = false := by simp only [hr105]; decide +kernel
  refine Seg.y rfl rfl (Want.some 9 118 false rfl rfl rfl g109) (Y.move rfl) ?_
  refine Seg.y rfl rfl (Want.some 9 118 false rfl rfl rfl g109) (Y.binOp rfl rfl (B.ne _ _ _)) ?_
  refine Seg.y rfl rfl (Want.none rfl) (Y.pickF rfl g109 rfl) ?_
  refine Seg.y rfl rfl (Want.none rfl) (Y.move rfl) ?_
  have g110 : (decide (r103.2.2 ≠ 0)) = false := by simp only [hr103]; decide +kernel
  refine Seg.y rfl rfl (Want.some 13 122 false rfl rfl rfl g110) (Y.move rfl) ?_
  refine Seg.y rfl rfl (Want.some 13 122 false rfl rfl rfl g110) (Y.binOp rfl rfl (B.ne _ _ _)) ?_
  refine Seg.y rfl rfl (Want.none rfl) (Y.pickF rfl g110 rfl) ?_
  refine Seg.y rfl rfl (Want.none rfl) (Y.move rfl) ?_
  have g111 : (decide (r105.2.2 ≠ 0)) = false := by simp only [hr105]; decide +kernel
  refine Seg.y rfl rfl (Want.some 17 126 false rfl rfl rfl g111) (Y.loadN (vs := [.bool false, .bool false, .bool false, .bool false, .bool false, .bool false, .bool false, .bool false, .bool false, .bool false, .bool false, .int .i64 0, .bool false]) 14 rfl rfl rfl rfl ag23 sz23) ?_
  refine Seg.y rfl rfl (Want.some 17 126 false rfl rfl rfl g111) (Y.move rfl) ?_
  obtain ⟨r112, hr112⟩ : ∃ x, x = lstate (⟨false, false, false, false, false, false, false, false, false, false, false, 0, false⟩ : Md) true 1005 true := ⟨_, rfl⟩
  refine Seg.callV (v := .int .i64 r112) rfl rfl (Want.some 17 126 false rfl rfl rfl g111) (K.func rfl co26) (fun w hs => by rw [hr112]; exact lstate_c (⟨false, false, false, false, false, false, false, false, false, false, false, 0, false⟩ : Md) true 1005 true w ) ?_
  refine Seg.y rfl rfl (Want.some 17 126 false rfl rfl rfl g111) (Y.binOp rfl rfl (B.ne _ _ _)) ?_
  refine Seg.y rfl rfl (Want.none rfl) (Y.pickF rfl g111 rfl) ?_
  refine Seg.y rfl rfl (Want.none rfl) (Y.move rfl) ?_
  have g113 : (decide (r112 ≠ 0)) = false := by simp only [hr112]; decide +kernel
  refine Seg.y rfl rfl (Want.some 23 132 false rfl rfl rfl g113) (Y.loadN (vs := [.bool false, .bool false, .bool false, .bool false, .bool false, .bool false, .bool false, .bool false, .bool false, .bool false, .bool false, .int .i64 0, .bool false]) 14 rfl rfl rfl rfl ag23 sz23) ?_
  refine Seg.y rfl rfl (Want.some 23 132 false rfl rfl rfl g113) (Y.move rfl) ?_
  obtain ⟨r114, hr114⟩ : ∃ x, x = lstate (⟨false, false, false, false, false, false, false, false, false, false, false, 0, false⟩ : Md) false 1005 true := ⟨_, rfl⟩
  refine Seg.callV (v := .int .i64 r114) rfl rfl (Want.some 23 132 false rfl rfl rfl g113) (K.func rfl co26) (fun w hs => by rw [hr114]; exact lstate_c (⟨false, false, false, false, false, false, false, false, false, false, false, 0, false⟩ : Md) false 1005 true w ) ?_
  refine Seg.y rfl rfl (Want.some 23 132 false rfl rfl rfl g113) (Y.binOp rfl rfl (B.ne _ _ _)) ?_
  refine Seg.y rfl rfl (Want.none rfl) (Y.pickF rfl g113 rfl) ?_
  refine Seg.nil ?_
  refine Sx.next ?_
  have g115 : (decide (r114 ≠ 0)) = false := by simp only [hr114]; decide +kernel
  refine Sc.condF rfl g115 ?_
  refine Sc.skip ?_
  refine Sx.block_normal ?_
  refine Sx.next ?_
  refine Sc.region ?_
  refine Seg.y rfl rfl (Want.none rfl) (Y.binOp rfl rfl (B.add _ _ _ 7 (by decide))) ?_
  refine Seg.y rfl rfl (Want.none rfl) (Y.move rfl) ?_
  refine Seg.nil ?_
  refine Sx.round ?_
  refine Sr.succ ?_
  refine Sc.seq ?_
  refine Sc.region ?_
  refine Seg.y rfl rfl (Want.none rfl) (Y.binOp (v := .bool true) rfl rfl (B.lt _ _ _)) ?_
  refine Seg.nil ?_
  refine Sx.next ?_
  refine Sc.seq ?_
  refine Sc.condT rfl rfl ?_
  refine Sc.skip ?_
  refine Sx.next ?_
  refine Sc.seq ?_
  refine Sc.block ?_
  refine Sc.seq ?_
  refine Sc.region ?_
  refine Seg.y rfl rfl (Want.none rfl) (Y.index (v := .int .i64 4611686018427387904) rfl rfl (fun w => by kernel_rfl)) ?_
  refine Seg.y rfl rfl (Want.none rfl) (Y.assign rfl) ?_
  refine Seg.nil ?_
  refine Sx.next ?_
  refine Sc.seq ?_
  refine Sc.region ?_
  refine Seg.y rfl rfl (Want.none rfl) (Y.loadN (vs := [.bool false, .bool false, .bool false, .bool false, .bool false, .bool false, .bool false, .bool false, .bool false, .bool false, .bool false, .int .i64 0, .bool false]) 14 rfl rfl rfl rfl ag23 sz23) ?_
  refine Seg.y rfl rfl (Want.none rfl) (Y.move rfl) ?_
  obtain ⟨r116, hr116⟩ : ∃ x, x = putS (⟨false, false, false, false, false, false, false, false, false, false, false, 0, false⟩ : Md) true 4611686018427387904 true := ⟨_, rfl⟩
  refine Seg.callV (v := .tuple (List.toArray [.agg (List.toArray [.bool r116.1.ins, .bool r116.1.nl, .bool r116.1.ck, .bool r116.1.inv, .bool r116.1.org, .bool r116.1.aut, .bool r116.1.vis, .bool r116.1.paste, .bool r116.1.focus, .bool r116.1.sync, .bool r116.1.keypad, .int .i64 r116.1.mouse, .bool r116.1.sgr]), .bool r116.2.1, .int .i64 r116.2.2])) rfl rfl (Want.none rfl) (K.func rfl co13) (fun w hs => by rw [hr116]; exact put_c (⟨false, false, false, false, false, false, false, false, false, false, false, 0, false⟩ : Md) true 4611686018427387904 true w ) ?_
  refine Seg.y rfl rfl (Want.none rfl) (Y.move rfl) ?_
  refine Seg.y rfl rfl (Want.none rfl) (Y.extract rfl rfl) ?_
  refine Seg.y rfl rfl (Want.none rfl) (Y.extract rfl rfl) ?_
  refine Seg.y rfl rfl (Want.none rfl) (Y.extract rfl rfl) ?_
  refine Seg.chg rfl rfl (Want.none rfl) (C.alloc zv23 rfl) (fun b117 hb117 => ?_)
  refine Seg.chs rfl (Want.none rfl) (C.store (cs' := [.bool r116.1.ins, .bool r116.1.nl, .bool r116.1.ck, .bool r116.1.inv, .bool r116.1.org, .bool r116.1.aut, .bool r116.1.vis, .bool r116.1.paste, .bool r116.1.focus, .bool r116.1.sync, .bool r116.1.keypad, .int .i64 r116.1.mouse, .bool r116.1.sgr]) (vs := [.bool r116.1.ins, .bool r116.1.nl, .bool r116.1.ck, .bool r116.1.inv, .bool r116.1.org, .bool r116.1.aut, .bool r116.1.vis, .bool r116.1.paste, .bool r116.1.focus, .bool r116.1.sync, .bool r116.1.keypad, .int .i64 r116.1.mouse, .bool r116.1.sgr]) 0 rfl rfl rfl rfl rfl rfl rfl sz23) (fun _ _ => ?_)
  refine Seg.y rfl rfl (Want.none rfl) (Y.assign rfl) ?_
  refine Seg.y rfl rfl (Want.none rfl) (Y.assign rfl) ?_
  refine Seg.nil ?_
  refine Sx.next ?_
  refine Sc.seq ?_
  refine Sc.region ?_
  refine Seg.y rfl rfl (Want.none rfl) (Y.loadN (vs := [.bool false, .bool false, .bool false, .bool false, .bool false, .bool false, .bool false, .bool false, .bool false, .bool false, .bool false, .int .i64 0, .bool false]) 15 rfl rfl rfl rfl ag23 sz23) ?_
  refine Seg.y rfl rfl (Want.none rfl) (Y.move rfl) ?_
  obtain ⟨r118, hr118⟩ : ∃ x, x = putS (⟨false, false, false, false, false, false, false, false, false, false, false, 0, false⟩ : Md) false 4611686018427387904 true := ⟨_, rfl⟩
  refine Seg.callV (v := .tuple (List.toArray [.agg (List.toArray [.bool r118.1.ins, .bool r118.1.nl, .bool r118.1.ck, .bool r118.1.inv, .bool r118.1.org, .bool r118.1.aut, .bool r118.1.vis, .bool r118.1.paste, .bool r118.1.focus, .bool r118.1.sync, .bool r118.1.keypad, .int .i64 r118.1.mouse, .bool r118.1.sgr]), .bool r118.2.1, .int .i64 r118.2.2])) rfl rfl (Want.none rfl) (K.func rfl co13) (fun w hs => by rw [hr118]; exact put_c (⟨false, false, false, false, false, false, false, false, false, false, false, 0, false⟩ : Md) false 4611686018427387904 true w ) ?_
  refine Seg.y rfl rfl (Want.none rfl) (Y.move rfl) ?_
  refine Seg.y rfl rfl (Want.none rfl) (Y.extract rfl rfl) ?_
  refine Seg.y rfl rfl (Want.none rfl) (Y.extract rfl rfl) ?_
  refine Seg.y rfl rfl (Want.none rfl) (Y.extract rfl rfl) ?_
  refine Seg.chg rfl rfl (Want.none rfl) (C.alloc zv23 rfl) (fun b119 hb119 => ?_)
  refine Seg.chs rfl (Want.none rfl) (C.store (cs' := [.bool r118.1.ins, .bool r118.1.nl, .bool r118.1.ck, .bool r118.1.inv, .bool r118.1.org, .bool r118.1.aut, .bool r118.1.vis, .bool r118.1.paste, .bool r118.1.focus, .bool r118.1.sync, .bool r118.1.keypad, .int .i64 r118.1.mouse, .bool r118.1.sgr]) (vs := [.bool r118.1.ins, .bool r118.1.nl, .bool r118.1.ck, .bool r118.1.inv, .bool r118.1.org, .bool r118.1.aut, .bool r118.1.vis, .bool r118.1.paste, .bool r118.1.focus, .bool r118.1.sync, .bool r118.1.keypad, .int .i64 r118.1.mouse, .bool r118.1.sgr]) 0 rfl rfl rfl rfl rfl rfl rfl sz23) (fun _ _ => ?_)
  refine Seg.y rfl rfl (Want.none rfl) (Y.assign rfl) ?_
  refine Seg.y rfl rfl (Want.none rfl) (Y.assign rfl) ?_
  refine Seg.nil ?_
  refine Sx.next ?_
  refine Sc.seq ?_
  refine Sc.region ?_
  refine Seg.y rfl rfl (Want.none rfl) (Y.loadN (vs := [.bool r116.1.ins, .bool r116.1.nl, .bool r116.1.ck, .bool r116.1.inv, .bool r116.1.org, .bool r116.1.aut, .bool r116.1.vis, .bool r116.1.paste, .bool r116.1.focus, .bool r116.1.sync, .bool r116.1.keypad, .int .i64 r116.1.mouse, .bool r116.1.sgr]) 1 rfl rfl rfl rfl ag23 sz23) ?_
  refine Seg.y rfl rfl (Want.none rfl) (Y.loadN (vs := [.bool false, .bool false, .bool false, .bool false, .bool false, .bool false, .bool false, .bool false, .bool false, .bool false, .bool false, .int .i64 0, .bool false]) 16 rfl rfl rfl rfl ag23 sz23) ?_
  refine Seg.y rfl rfl (Want.none rfl) (Y.binOp rfl rfl (B.neS gq23 (Eqs.struct (n := 1) (b := MdEq r116.1 (⟨false, false, false, false, false, false, false, false, false, false, false, 0, false⟩ : Md)) Try.underlying23 sd23 (EqF.cons (b := r116.1.ins == false) rfl ag4 rfl rfl (Eqs.mono (m := 1) (Eqs.bool Try.underlying4) (by decide)) (EqF.cons (b := r116.1.nl == false) rfl ag4 rfl rfl (Eqs.mono (m := 1) (Eqs.bool Try.underlying4) (by decide)) (EqF.cons (b := r116.1.ck == false) rfl ag4 rfl rfl (Eqs.mono (m := 1) (Eqs.bool Try.underlying4) (by decide)) (EqF.cons (b := r116.1.inv == false) rfl ag4 rfl rfl (Eqs.mono (m := 1) (Eqs.bool Try.underlying4) (by decide)) (EqF.cons (b := r116.1.org == false) rfl ag4 rfl rfl (Eqs.mono (m := 1) (Eqs.bool Try.underlying4) (by decide)) (EqF.cons (b := r116.1.aut == false) rfl ag4 rfl rfl (Eqs.mono (m := 1) (Eqs.bool Try.underlying4) (by decide)) (EqF.cons (b := r116.1.vis == false) rfl ag4 rfl rfl (Eqs.mono (m := 1) (Eqs.bool Try.underlying4) (by decide)) (EqF.cons (b := r116.1.paste == false) rfl ag4 rfl rfl (Eqs.mono (m := 1) (Eqs.bool Try.underlying4) (by decide)) (EqF.cons (b := r116.1.focus == false) rfl ag4 rfl rfl (Eqs.mono (m := 1) (Eqs.bool Try.underlying4) (by decide)) (EqF.cons (b := r116.1.sync == false) rfl ag4 rfl rfl (Eqs.mono (m := 1) (Eqs.bool Try.underlying4) (by decide)) (EqF.cons (b := r116.1.keypad == false) rfl ag4 rfl rfl (Eqs.mono (m := 1) (Eqs.bool Try.underlying4) (by decide)) (EqF.cons (b := decide (r116.1.mouse = 0)) rfl ag3 rfl rfl (Eqs.mono (m := 1) (Eqs.int Try.underlying3) (by decide)) (EqF.cons (b := r116.1.sgr == false) rfl ag4 rfl rfl (Eqs.mono (m := 1) (Eqs.bool Try.underlying4) (by decide)) (EqF.nil))))))))))))))) rfl)) ?_
  refine Seg.y rfl rfl (Want.none rfl) (Y.move rfl) ?_
  have g120 : (!(MdEq r116.1 (⟨false, false, false, false, false, false, false, false, false, false, false, 0, false⟩ : Md))) = false := by simp only [hr116]; decide +kernel
  refine Seg.y rfl rfl (Want.some 3 112 false rfl rfl rfl g120) (Y.move rfl) ?_
  refine Seg.y rfl rfl (Want.none rfl) (Y.pickF rfl g120 rfl) ?_
  refine Seg.y rfl rfl (Want.none rfl) (Y.move rfl) ?_
  have g121 : (r116.2.1) = false := by simp only [hr116]; decide +kernel
  refine Seg.y rfl rfl (Want.some 6 115 false rfl rfl rfl g121) (Y.move rfl) ?_
  refine Seg.y rfl rfl (Want.none rfl) (Y.pickF rfl g121 rfl) ?_
  refine Seg.y rfl rfl (Want.none rfl) (Y.move rfl) ?_
  have g122 : (r118.2.1) = false := by simp only [hr118]; decide +kernel
  refine Seg.y rfl rfl (Want.some 9 118 false rfl rfl rfl g122) (Y.move rfl) ?_
  refine Seg.y rfl rfl (Want.some 9 118 false rfl rfl rfl g122) (Y.binOp rfl rfl (B.ne _ _ _)) ?_
  refine Seg.y rfl rfl (Want.none rfl) (Y.pickF rfl g122 rfl) ?_
  refine Seg.y rfl rfl (Want.none rfl) (Y.move rfl) ?_
  have g123 : (decide (r116.2.2 ≠ 0)) = false := by simp only [hr116]; decide +kernel
  refine Seg.y rfl rfl (Want.some 13 122 false rfl rfl rfl g123) (Y.move rfl) ?_
  refine Seg.y rfl rfl (Want.some 13 122 false rfl rfl rfl g123) (Y.binOp rfl rfl (B.ne _ _ _)) ?_
  refine Seg.y rfl rfl (Want.none rfl) (Y.pickF rfl g123 rfl) ?_
  refine Seg.y rfl rfl (Want.none rfl) (Y.move rfl) ?_
  have g124 : (decide (r118.2.2 ≠ 0)) = false := by simp only [hr118]; decide +kernel
  refine Seg.y rfl rfl (Want.some 17 126 false rfl rfl rfl g124) (Y.loadN (vs := [.bool false, .bool false, .bool false, .bool false, .bool false, .bool false, .bool false, .bool false, .bool false, .bool false, .bool false, .int .i64 0, .bool false]) 16 rfl rfl rfl rfl ag23 sz23) ?_
  refine Seg.y rfl rfl (Want.some 17 126 false rfl rfl rfl g124) (Y.move rfl) ?_
  obtain ⟨r125, hr125⟩ : ∃ x, x = lstate (⟨false, false, false, false, false, false, false, false, false, false, false, 0, false⟩ : Md) true 4611686018427387904 true := ⟨_, rfl⟩
  refine Seg.callV (v := .int .i64 r125) rfl rfl (Want.some 17 126 false rfl rfl rfl g124) (K.func rfl co26) (fun w hs => by rw [hr125]; exact lstate_c (⟨false, false, false, false, false, false, false, false, false, false, false, 0, false⟩ : Md) true 4611686018427387904 true w ) ?_
  refine Seg.y rfl rfl (Want.some 17 126 false rfl rfl rfl g124) (Y.binOp rfl rfl (B.ne _ _ _)) ?_
  refine Seg.y rfl rfl (Want.none rfl) (Y.pickF rfl g124 rfl) ?_
  refine Seg.y rfl rfl (Want.none rfl) (Y.move rfl) ?_
  have g126 : (decide (r125 ≠ 0)) = false := by simp only [hr125]; decide +kernel
  refine Seg.y rfl rfl (Want.some 23 132 false rfl rfl rfl g126) (Y.loadN (vs := [.bool false, .bool false, .bool false, .bool false, .bool false, .bool false, .bool false, .bool false, .bool false, .bool false, .bool false, .int .i64 0, .bool false]) 16 rfl rfl rfl rfl ag23 sz23) ?_
  refine Seg.y rfl rfl (Want.some 23 132 false rfl rfl rfl g126) (Y.move rfl) ?_
  obtain ⟨r127, hr127⟩ : ∃ x, x = lstate (⟨false, false, false, false, false, false, false, false, false, false, false, 0, false⟩ : Md) false 4611686018427387904 true := ⟨_, rfl⟩
  refine Seg.callV (v := .int .i64 r127) rfl rfl (Want.some 23 132 false rfl rfl rfl g126) (K.func rfl co26) (fun w hs => by rw [hr127]; exact lstate_c (⟨false, false, false, false, false, false, false, false, false, false, false, 0, false⟩ : Md) false 4611686018427387904 true w ) ?_
  refine Seg.y rfl rfl (Want.some 23 132 false rfl rfl rfl g126) (Y.binOp rfl rfl (B.ne _ _ _)) ?_
  refine Seg.y rfl rfl (Want.none rfl) (Y.pickF rfl g126 rfl) ?_
  refine Seg.nil ?_
  refine Sx.next ?_
  have g128 : (decide (r127 ≠ 0)) = false := by simp only [hr127]; decide +kernel
  refine Sc.condF rfl g128 ?_
  refine Sc.skip ?_
  refine Sx.block_normal ?_
  refine Sx.next ?_
  refine Sc.region ?_
  refine Seg.y rfl rfl (Want.none rfl) (Y.binOp rfl rfl (B.add _ _ _ 8 (by decide))) ?_
  refine Seg.y rfl rfl (Want.none rfl) (Y.move rfl) ?_
  refine Seg.nil ?_
  refine Sx.round ?_
  refine Sr.succ ?_
  refine Sc.seq ?_
  refine Sc.region ?_
  refine Seg.y rfl rfl (Want.none rfl) (Y.binOp (v := .bool true) rfl rfl (B.lt _ _ _)) ?_
  refine Seg.nil ?_
  refine Sx.next ?_
  refine Sc.seq ?_
  refine Sc.condT rfl rfl ?_
  refine Sc.skip ?_
  refine Sx.next ?_
  refine Sc.seq ?_
  refine Sc.block ?_
  refine Sc.seq ?_
  refine Sc.region ?_
  refine Seg.y rfl rfl (Want.none rfl) (Y.index (v := .int .i64 (-9223372036854775808)) rfl rfl (fun w => by kernel_rfl)) ?_
  refine Seg.y rfl rfl (Want.none rfl) (Y.assign rfl) ?_
  refine Seg.nil ?_
  refine Sx.next ?_
  refine Sc.seq ?_
  refine Sc.region ?_
  refine Seg.y rfl rfl (Want.none rfl) (Y.loadN (vs := [.bool false, .bool false, .bool false, .bool false, .bool false, .bool false, .bool false, .bool false, .bool false, .bool false, .bool false, .int .i64 0, .bool false]) 16 rfl rfl rfl rfl ag23 sz23) ?_
  refine Seg.y rfl rfl (Want.none rfl) (Y.move rfl) ?_
  obtain ⟨r129, hr129⟩ : ∃ x, x = putS (⟨false, false, false, false, false, false, false, false, false, false, false, 0, false⟩ : Md) true (-9223372036854775808) true := ⟨_, rfl⟩
  refine Seg.callV (v := .tuple (List.toArray [.agg (List.toArray [.bool r129.1.ins, .bool r129.1.nl, .bool r129.1.ck, .bool r129.1.inv, .bool r129.1.org, .bool r129.1.aut, .bool r129.1.vis, .bool r129.1.paste, .bool r129.1.focus, .bool r129.1.sync, .bool r129.1.keypad, .int .i64 r129.1.mouse, .bool r129.1.sgr]), .bool r129.2.1, .int .i64 r129.2.2])) rfl rfl (Want.none rfl) (K.func rfl co13) (fun w hs => by rw [hr129]; exact put_c (⟨false, false, false, false, false, false, false, false, false, false, false, 0, false⟩ : Md) true (-9223372036854775808) true w ) ?_
  refine Seg.y rfl rfl (Want.none rfl) (Y.move rfl) ?_
  refine Seg.y rfl rfl (Want.none rfl) (Y.extract rfl rfl) ?_
  refine Seg.y rfl rfl (Want.none rfl) (Y.extract rfl rfl) ?_
  refine Seg.y rfl rfl (Want.none rfl) (Y.extract rfl rfl) ?_
  refine Seg.chg rfl rfl (Want.none rfl) (C.alloc zv23 rfl) (fun b130 hb130 => ?_)
  refine Seg.chs rfl (Want.none rfl) (C.store (cs' := [.bool r129.1.ins, .bool r129.1.nl, .bool r129.1.ck, .bool r129.1.inv, .bool r129.1.org, .bool r129.1.aut, .bool r129.1.vis, .bool r129.1.paste, .bool r129.1.focus, .bool r129.1.sync, .bool r129.1.keypad, .int .i64 r129.1.mouse, .bool r129.1.sgr]) (vs := [.bool r129.1.ins, .bool r129.1.nl, .bool r129.1.ck, .bool r129.1.inv, .bool r129.1.org, .bool r129.1.aut, .bool r129.1.vis, .bool r129.1.paste, .bool r129.1.focus, .bool r129.1.sync, .bool r129.1.keypad, .int .i64 r129.1.mouse, .bool r129.1.sgr]) 0 rfl rfl rfl rfl rfl rfl rfl sz23) (fun _ _ => ?_)
  refine Seg.y rfl rfl (Want.none rfl) (Y.assign rfl) ?_
  refine Seg.y rfl rfl (Want.none rfl) (Y.assign rfl) ?_
  refine Seg.nil ?_
  refine Sx.next ?_
  refine Sc.seq ?_
  refine Sc.region ?_
  refine Seg.y rfl rfl (Want.none rfl) (Y.loadN (vs := [.bool false, .bool false, .bool false, .bool false, .bool false, .bool false, .bool false, .bool false, .bool false, .bool false, .bool false, .int .i64 0, .bool false]) 17 rfl rfl rfl rfl ag23 sz23) ?_
  refine Seg.y rfl rfl (Want.none rfl) (Y.move rfl) ?_
  obtain ⟨r131, hr131⟩ : ∃ x, x = putS (⟨false, false, false, false, false, false, false, false, false, false, false, 0, false⟩ : Md) false (-9223372036854775808) true := ⟨_, rfl⟩
  refine Seg.callV (v := .tuple (List.toArray [.agg (List.toArray [.bool r131.1.ins, .bool r131.1.nl, .bool r131.1.ck, .bool r131.1.inv, .bool r131.1.org, .bool r131.1.aut, .bool r131.1.vis, .bool r131.1.paste, .bool r131.1.focus, .bool r131.1.sync, .bool r131.1.keypad, .int .i64 r131.1.mouse, .bool r131.1.sgr]), .bool r131.2.1, .int .i64 r131.2.2])) rfl rfl (Want.none rfl) (K.func rfl co13) (fun w hs => by rw [hr131]; exact put_c (⟨false, false, false, false, false, false, false, false, false, false, false, 0, false⟩ : Md) false (-9223372036854775808) true w ) ?_
  refine Seg.y rfl rfl (Want.none rfl) (Y.move rfl) ?_
  refine Seg.y rfl rfl (Want.none rfl) (Y.extract rfl rfl) ?_
  refine Seg.y rfl rfl (Want.none rfl) (Y.extract rfl rfl) ?_
  refine Seg.y rfl rfl (Want.none rfl) (Y.extract rfl rfl) ?_
  refine Seg.chg rfl rfl (Want.none rfl) (C.alloc zv23 rfl) (fun b132 hb132 => ?_)
  refine Seg.chs rfl (Want.none rfl) (C.store (cs' := [.bool r131.1.ins, .bool r131.1.nl, .bool r131.1.ck, .bool r131.1.inv, .bool r131.1.org, .bool r131.1.aut, .bool r131.1.vis, .bool r131.1.paste, .bool r131.1.focus, .bool r131.1.sync, .bool r131.1.keypad, .int .i64 r131.1.mouse, .bool r131.1.sgr]) (vs := [.bool r131.1.ins, .bool r131.1.nl, .bool r131.1.ck, .bool r131.1.inv, .bool r131.1.org, .bool r131.1.aut, .bool r131.1.vis, .bool r131.1.paste, .bool r131.1.focus, .bool r131.1.sync, .bool r131.1.keypad, .int .i64 r131.1.mouse, .bool r131.1.sgr]) 0 rfl rfl rfl rfl rfl rfl rfl sz23) (fun _ _ => ?_)
  refine Seg.y rfl rfl (Want.none rfl) (Y.assign rfl) ?_
  refine Seg.y rfl rfl (Want.none rfl) (Y.assign rfl) ?_
  refine Seg.nil ?_
  refine Sx.next ?_
  refine Sc.seq ?_
  refine Sc.region ?_
  refine Seg.y rfl rfl (Want.none rfl) (Y.loadN (vs := [.bool r129.1.ins, .bool r129.1.nl, .bool r129.1.ck, .bool r129.1.inv, .bool r129.1.org, .bool r129.1.aut, .bool r129.1.vis, .bool r129.1.paste, .bool r129.1.focus, .bool r129.1.sync, .bool r129.1.keypad, .int .i64 r129.1.mouse, .bool r129.1.sgr]) 1 rfl rfl rfl rfl ag23 sz23) ?_
  refine Seg.y rfl rfl (Want.none rfl) (Y.loadN (vs := [.bool false, .bool false, .bool false, .bool false, .bool false, .bool false, .bool false, .bool false, .bool false, .bool false, .bool false, .int .i64 0, .bool false]) 18 rfl rfl rfl rfl ag23 sz23) ?_
  refine Seg.y rfl rfl (Want.none rfl) (Y.binOp rfl rfl (B.neS gq23 (Eqs.struct (n := 1) (b := MdEq r129.1 (⟨false, false, false, false, false, false, false, false, false, false, false, 0, false⟩ : Md)) Try.underlying23 sd23 (EqF.cons (b := r129.1.ins == false) rfl ag4 rfl rfl (Eqs.mono (m := 1) (Eqs.bool Try.underlying4) (by decide)) (EqF.cons (b := r129.1.nl == false) rfl ag4 rfl rfl (Eqs.mono (m := 1) (Eqs.bool Try.underlying4) (by decide)) (EqF.cons (b := r129.1.ck == false) rfl ag4 rfl rfl (Eqs.mono (m := 1) (Eqs.bool Try.underlying4) (by decide)) (EqF.cons (b := r129.1.inv == false) rfl ag4 rfl rfl (Eqs.mono (m := 1) (Eqs.bool Try.underlying4) (by decide)) (EqF.cons (b := r129.1.org == false) rfl ag4 rfl rfl (Eqs.mono (m := 1) (Eqs.bool Try.underlying4) (by decide)) (EqF.cons (b := r129.1.aut == false) rfl ag4 rfl rfl (Eqs.mono (m := 1) (Eqs.bool Try.underlying4) (by decide)) (EqF.cons (b := r129.1.vis == false) rfl ag4 rfl rfl (Eqs.mono (m := 1) (Eqs.bool Try.underlying4) (by decide)) (EqF.cons (b := r129.1.paste == false) rfl ag4 rfl rfl (Eqs.mono (m := 1) (Eqs.bool Try.underlying4) (by decide)) (EqF.cons (b := r129.1.focus == false) rfl ag4 rfl rfl (Eqs.mono (m := 1) (Eqs.bool Try.underlying4) (by decide)) (EqF.cons (b := r129.1.sync == false) rfl ag4 rfl rfl (Eqs.mono (m := 1) (Eqs.bool Try.underlying4) (by decide)) (EqF.cons (b := r129.1.keypad == false) rfl ag4 rfl rfl (Eqs.mono (m := 1) (Eqs.bool Try.underlying4) (by decide)) (EqF.cons (b := decide (r129.1.mouse = 0)) rfl ag3 rfl rfl (Eqs.mono (m := 1) (Eqs.int Try.underlying3) (by decide)) (EqF.cons (b := r129.1.sgr == false) rfl ag4 rfl rfl (Eqs.mono (m := 1) (Eqs.bool Try.underlying4) (by decide)) (EqF.nil))))))))))))))) rfl)) ?_
  refine Seg.y rfl rfl (Want.none rfl) (Y.move rfl) ?_
  have g133 : (!(MdEq r129.1 (⟨false, false, false, false, false, false, false, false, false, false, false, 0, false⟩ : Md))) = false := by simp only [hr129]; decide +kernel
  refine Seg.y rfl rfl (Want.some 3 112 false rfl rfl rfl g133) (Y.move rfl) ?_
  refine Seg.y rfl rfl (Want.none rfl) (Y.pickF rfl g133 rfl) ?_
  refine Seg.y rfl rfl (Want.none rfl) (Y.move rfl) ?_
  have g134 : (r129.2.1) = false := by simp only [hr129]; decide +kernel
  refine Seg.y rfl rfl (Want.some 6 115 false rfl rfl rfl g134) (Y.move rfl) ?_
  refine Seg.y rfl rfl (Want.none rfl) (Y.pickF rfl g134 rfl) ?_
  refine Seg.y rfl rfl (Want.none rfl) (Y.move rfl) ?_
  have g135 : (r131.2.1) = false := by simp only [hr131]; decide +kernel
  refine Seg.y rfl rfl (Want.some 9 118 false rfl rfl rfl g135) (Y.move rfl) ?_
  refine Seg.y rfl rfl (Want.some 9 118 false rfl rfl rfl g135) (Y.binOp rfl rfl (B.ne _ _ _)) ?_
  refine Seg.y rfl rfl (Want.none rfl) (Y.pickF rfl g135 rfl) ?_
  refine Seg.y rfl rfl (Want.none rfl) (Y.move rfl) ?_
  have g136 : (decide (r129.2.2 ≠ 0)) = false := by simp only [hr129]; decide +kernel
  refine Seg.y rfl rfl (Want.some 13 122 false rfl rfl rfl g136) (Y.move rfl) ?_
  refine Seg.y rfl rfl (Want.some 13 122 false rfl rfl rfl g136) (Y.binOp rfl rfl (B.ne _ _ _)) ?_
  refine Seg.y rfl rfl (Want.none rfl) (Y.pickF rfl g136 rfl) ?_
  refine Seg.y rfl rfl (Want.none rfl) (Y.move rfl) ?_
  have g137 : (decide (r131.2.2 ≠ 0)) = false := by simp only [hr131]; decide +kernel
  refine Seg.y rfl rfl (Want.some 17 126 false rfl rfl rfl g137) (Y.loadN (vs := [.bool false, .bool false, .bool false, .bool false, .bool false, .bool false, .bool false, .bool false, .bool false, .bool false, .bool false, .int .i64 0, .bool false]) 18 rfl rfl rfl rfl ag23 sz23) ?_
  refine Seg.y rfl rfl (Want.some 17 126 false rfl rfl rfl g137) (Y.move rfl) ?_
  obtain ⟨r138, hr138⟩ : ∃ x, x = lstate (⟨false, false, false, false, false, false, false, false, false, false, false, 0, false⟩ : Md) true (-9223372036854775808) true := ⟨_, rfl⟩
  refine Seg.callV (v := .int .i64 r138) rfl rfl (Want.some 17 126 false rfl rfl rfl g137) (K.func rfl co26) (fun w hs => by rw [hr138]; exact lstate_c (⟨false, false, false, false, false, false, false, false, false, false, false, 0, false⟩ : Md) true (-9223372036854775808) true w ) ?_
  refine Seg.y rfl rfl (Want.some 17 126 false rfl rfl rfl g137) (Y.binOp rfl rfl (B.ne _ _ _)) ?_
  refine Seg.y rfl rfl (Want.none rfl) (Y.pickF rfl g137 rfl) ?_
  refine Seg.y rfl rfl (Want.none rfl) (Y.move rfl) ?_
  have g139 : (decide (r138 ≠ 0)) = false := by simp only [hr138]; decide +kernel
  refine Seg.y rfl rfl (Want.some 23 132 false rfl rfl rfl g139) (Y.loadN (vs := [.bool false, .bool false, .bool false, .bool false, .bool false, .bool false, .bool false, .bool false, .bool false, .bool false, .bool false, .int .i64 0, .bool false]) 18 rfl rfl rfl rfl ag23 sz23) ?_
  refine Seg.y rfl rfl (Want.some 23 132 false rfl rfl rfl g139) (Y.move rfl) ?_
  obtain ⟨r140, hr140⟩ : ∃ x, x = lstate (⟨false, false, false, false, false, false, false, false, false, false, false, 0, false⟩ : Md) false (-9223372036854775808) true := ⟨_, rfl⟩
  refine Seg.callV (v := .int .i64 r140) rfl rfl (Want.some 23 132 false rfl rfl rfl g139) (K.func rfl co26) (fun w hs => by rw [hr140]; exact lstate_c (⟨false, false, false, false, false, false, false, false, false, false, false, 0, false⟩ : Md) false (-9223372036854775808) true w ) ?_
  refine Seg.y rfl rfl (Want.some 23 132 false rfl rfl rfl g139) (Y.binOp rfl rfl (B.ne _ _ _)) ?_
  refine Seg.y rfl rfl (Want.none rfl) (Y.pickF rfl g139 rfl) ?_
  refine Seg.nil ?_
  refine Sx.next ?_
  have g141 : (decide (r140 ≠ 0)) = false := by simp only [hr140]; decide +kernel
  refine Sc.condF rfl g141 ?_
  refine Sc.skip ?_
  refine Sx.block_normal ?_
  refine Sx.next ?_
  refine Sc.region ?_
  refine Seg.y rfl rfl (Want.none rfl) (Y.binOp rfl rfl (B.add _ _ _ 9 (by decide))) ?_
  refine Seg.y rfl rfl (Want.none rfl) (Y.move rfl) ?_
  refine Seg.nil ?_
  refine Sx.round ?_
  refine Sr.succ ?_
  refine Sc.seq ?_
  refine Sc.region ?_
  refine Seg.y rfl rfl (Want.none rfl) (Y.binOp (v := .bool false) rfl rfl (B.lt _ _ _)) ?_
  refine Seg.nil ?_
  refine Sx.next ?_
  refine Sc.seq ?_
  refine Sc.condF rfl rfl ?_
  refine Sc.exit ?_
  refine Sx.next_exit ?_
  refine Sx.loop_exit ?_
  refine Sx.block_exit ?_
  refine Sx.next ?_
  refine Sc.seq ?_
  refine Sc.region ?_
  refine Seg.y rfl rfl (Want.none rfl) (Y.build (v := .agg (List.toArray [.bool false, .bool false, .bool false, .bool false, .bool false, .bool false, .bool false, .bool false, .bool false, .bool false, .bool false, .int .i64 1001, .bool false])) rfl (fun w => by kernel_rfl)) ?_
  refine Seg.chg rfl rfl (Want.none rfl) (C.alloc zv23 rfl) (fun b142 hb142 => ?_)
  refine Seg.chs rfl (Want.none rfl) (C.store (cs' := [.bool false, .bool false, .bool false, .bool false, .bool false, .bool false, .bool false, .bool false, .bool false, .bool false, .bool false, .int .i64 1001, .bool false]) (vs := [.bool false, .bool false, .bool false, .bool false, .bool false, .bool false, .bool false, .bool false, .bool false, .bool false, .bool false, .int .i64 1001, .bool false]) 0 rfl rfl rfl rfl rfl rfl rfl sz23) (fun _ _ => ?_)
  refine Seg.nil ?_
  refine Sx.next ?_
  refine Sc.seq ?_
  refine Sc.region ?_
  refine Seg.y rfl rfl (Want.none rfl) (Y.loadN (vs := [.bool false, .bool false, .bool false, .bool false, .bool false, .bool false, .bool false, .bool false, .bool false, .bool false, .bool false, .int .i64 1001, .bool false]) 0 rfl rfl rfl rfl ag23 sz23) ?_
  obtain ⟨r143, hr143⟩ : ∃ x, x = putS (⟨false, false, false, false, false, false, false, false, false, false, false, 1001, false⟩ : Md) true 7 true := ⟨_, rfl⟩
  refine Seg.callV (v := .tuple (List.toArray [.agg (List.toArray [.bool r143.1.ins, .bool r143.1.nl, .bool r143.1.ck, .bool r143.1.inv, .bool r143.1.org, .bool r143.1.aut, .bool r143.1.vis, .bool r143.1.paste, .bool r143.1.focus, .bool r143.1.sync, .bool r143.1.keypad, .int .i64 r143.1.mouse, .bool r143.1.sgr]), .bool r143.2.1, .int .i64 r143.2.2])) rfl rfl (Want.none rfl) (K.func rfl co13) (fun w hs => by rw [hr143]; exact put_c (⟨false, false, false, false, false, false, false, false, false, false, false, 1001, false⟩ : Md) true 7 true w ) ?_
  refine Seg.y rfl rfl (Want.none rfl) (Y.move rfl) ?_
  refine Seg.y rfl rfl (Want.none rfl) (Y.extract rfl rfl) ?_
  refine Seg.y rfl rfl (Want.none rfl) (Y.extract rfl rfl) ?_
  refine Seg.y rfl rfl (Want.none rfl) (Y.extract rfl rfl) ?_
  refine Seg.chg rfl rfl (Want.none rfl) (C.alloc zv23 rfl) (fun b144 hb144 => ?_)
  refine Seg.chs rfl (Want.none rfl) (C.store (cs' := [.bool r143.1.ins, .bool r143.1.nl, .bool r143.1.ck, .bool r143.1.inv, .bool r143.1.org, .bool r143.1.aut, .bool r143.1.vis, .bool r143.1.paste, .bool r143.1.focus, .bool r143.1.sync, .bool r143.1.keypad, .int .i64 r143.1.mouse, .bool r143.1.sgr]) (vs := [.bool r143.1.ins, .bool r143.1.nl, .bool r143.1.ck, .bool r143.1.inv, .bool r143.1.org, .bool r143.1.aut, .bool r143.1.vis, .bool r143.1.paste, .bool r143.1.focus, .bool r143.1.sync, .bool r143.1.keypad, .int .i64 r143.1.mouse, .bool r143.1.sgr]) 0 rfl rfl rfl rfl rfl rfl rfl sz23) (fun _ _ => ?_)
  refine Seg.y rfl rfl (Want.none rfl) (Y.assign rfl) ?_
  refine Seg.y rfl rfl (Want.none rfl) (Y.assign rfl) ?_
  refine Seg.nil ?_
  refine Sx.next ?_
  refine Sc.seq ?_
  refine Sc.region ?_
  refine Seg.y rfl rfl (Want.none rfl) (Y.loadN (vs := [.bool false, .bool false, .bool false, .bool false, .bool false, .bool false, .bool false, .bool false, .bool false, .bool false, .bool false, .int .i64 1001, .bool false]) 1 rfl rfl rfl rfl ag23 sz23) ?_
  obtain ⟨r145, hr145⟩ : ∃ x, x = stateS (⟨false, false, false, false, false, false, false, false, false, false, false, 1001, false⟩ : Md) true 7 true := ⟨_, rfl⟩
  refine Seg.callV (v := .tuple (List.toArray [.int .i64 r145.1, .int .i64 r145.2])) rfl rfl (Want.none rfl) (K.func rfl co19) (fun w hs => by rw [hr145]; exact state_c (⟨false, false, false, false, false, false, false, false, false, false, false, 1001, false⟩ : Md) true 7 true w ) ?_
  refine Seg.y rfl rfl (Want.none rfl) (Y.move rfl) ?_
  refine Seg.y rfl rfl (Want.none rfl) (Y.extract rfl rfl) ?_
  refine Seg.y rfl rfl (Want.none rfl) (Y.extract rfl rfl) ?_
  refine Seg.y rfl rfl (Want.none rfl) (Y.assign rfl) ?_
  refine Seg.y rfl rfl (Want.none rfl) (Y.assign rfl) ?_
  refine Seg.nil ?_
  refine Sx.next ?_
  refine Sc.seq ?_
  refine Sc.region ?_
  refine Seg.y rfl rfl (Want.none rfl) (Y.loadN (vs := [.bool false, .bool false, .bool false, .bool false, .bool false, .bool false, .bool false, .bool false, .bool false, .bool false, .bool false, .int .i64 1001, .bool false]) 1 rfl rfl rfl rfl ag23 sz23) ?_
  refine Seg.callR (val := fun ((a146, c147) : Option Addr × Nat) => .tuple (List.toArray [.slice a146 ((actionsS (⟨false, false, false, false, false, false, false, false, false, false, false, 1001, false⟩ : Md)).1.length) c147, .int .i64 ((actionsS (⟨false, false, false, false, false, false, false, false, false, false, false, 1001, false⟩ : Md)).2)])) (Φ := fun ((a146, c147) : Option Addr × Nat) => fun w => RowV 6 encAc a146 (actionsS (⟨false, false, false, false, false, false, false, false, false, false, false, 1001, false⟩ : Md)).1 w) rfl rfl (Want.none rfl) (K.func rfl co21) (fun w hs => actions_c (⟨false, false, false, false, false, false, false, false, false, false, false, 1001, false⟩ : Md) _ w hs.dc_lt   ) (fun ⟨a146, c147⟩ => ?_)
  refine Seg.y rfl rfl (Want.none rfl) (Y.move rfl) ?_
  refine Seg.y rfl rfl (Want.none rfl) (Y.extract rfl rfl) ?_
  refine Seg.y rfl rfl (Want.none rfl) (Y.extract rfl rfl) ?_
  refine Seg.y rfl rfl (Want.none rfl) (Y.assign rfl) ?_
  refine Seg.y rfl rfl (Want.none rfl) (Y.assign rfl) ?_
  refine Seg.nil ?_
  refine Sx.next ?_
  refine Sc.seq ?_
  refine Sc.region ?_
  refine Seg.y rfl rfl (Want.none rfl) (Y.loadN (vs := [.bool false, .bool false, .bool false, .bool false, .bool false, .bool false, .bool false, .bool false, .bool false, .bool false, .bool false, .int .i64 0, .bool false]) 20 rfl rfl rfl rfl ag23 sz23) ?_
  obtain ⟨r148, hr148⟩ : ∃ x, x = lput (⟨false, false, false, false, false, false, false, false, false, false, false, 0, false⟩ : Md) true 9 true := ⟨_, rfl⟩
  refine Seg.callV (v := .agg (List.toArray [.bool r148.ins, .bool r148.nl, .bool r148.ck, .bool r148.inv, .bool r148.org, .bool r148.aut, .bool r148.vis, .bool r148.paste, .bool r148.focus, .bool r148.sync, .bool r148.keypad, .int .i64 r148.mouse, .bool r148.sgr])) rfl rfl (Want.none rfl) (K.func rfl co24) (fun w hs => by rw [hr148]; exact lput_c (⟨false, false, false, false, false, false, false, false, false, false, false, 0, false⟩ : Md) true 9 true w ) ?_
  obtain ⟨r149, hr149⟩ : ∃ x, x = lput r148 true 1000 false := ⟨_, rfl⟩
  refine Seg.callV (v := .agg (List.toArray [.bool r149.ins, .bool r149.nl, .bool r149.ck, .bool r149.inv, .bool r149.org, .bool r149.aut, .bool r149.vis, .bool r149.paste, .bool r149.focus, .bool r149.sync, .bool r149.keypad, .int .i64 r149.mouse, .bool r149.sgr])) rfl rfl (Want.none rfl) (K.func rfl co24) (fun w hs => by rw [hr149]; exact lput_c r148 true 1000 false w ) ?_
  refine Seg.chg rfl rfl (Want.none rfl) (C.alloc zv23 rfl) (fun b150 hb150 => ?_)
  refine Seg.chs rfl (Want.none rfl) (C.store (cs' := [.bool r149.ins, .bool r149.nl, .bool r149.ck, .bool r149.inv, .bool r149.org, .bool r149.aut, .bool r149.vis, .bool r149.paste, .bool r149.focus, .bool r149.sync, .bool r149.keypad, .int .i64 r149.mouse, .bool r149.sgr]) (vs := [.bool r149.ins, .bool r149.nl, .bool r149.ck, .bool r149.inv, .bool r149.org, .bool r149.aut, .bool r149.vis, .bool r149.paste, .bool r149.focus, .bool r149.sync, .bool r149.keypad, .int .i64 r149.mouse, .bool r149.sgr]) 0 rfl rfl rfl rfl rfl rfl rfl sz23) (fun _ _ => ?_)
  refine Seg.nil ?_
  refine Sx.next ?_
  refine Sc.seq ?_
  refine Sc.region ?_
  refine Seg.callV (v := .bool true) rfl rfl (Want.none rfl) (K.func rfl co16) (fun w hs => works_c  w ) ?_
  refine Seg.y rfl rfl (Want.none rfl) (Y.move rfl) ?_
  refine Seg.y rfl rfl (Want.some 1 160 true rfl rfl rfl rfl) (Y.move rfl) ?_
  refine Seg.y rfl rfl (Want.none rfl) (Y.pickT rfl rfl rfl) ?_
  refine Seg.y rfl rfl (Want.none rfl) (Y.move rfl) ?_
  have g151 : (MdEq r24 (⟨false, false, false, false, false, false, false, false, false, false, false, 1003, false⟩ : Md)) = true := by simp only [hr24]; decide +kernel
  refine Seg.y rfl rfl (Want.some 4 163 true rfl rfl rfl g151) (Y.loadN (vs := [.bool false, .bool false, .bool false, .bool false, .bool false, .bool false, .bool false, .bool false, .bool false, .bool false, .bool false, .int .i64 1001, .bool false]) 2 rfl rfl rfl rfl ag23 sz23) ?_
  obtain ⟨r152, hr152⟩ : ∃ x, x = checkS (⟨false, false, false, false, false, false, false, false, false, false, false, 1001, false⟩ : Md) := ⟨_, rfl⟩
  refine Seg.callV (v := .int .i64 r152) rfl rfl (Want.some 4 163 true rfl rfl rfl g151) (K.func rfl co11) (fun w hs => by rw [hr152]; exact check_c (⟨false, false, false, false, false, false, false, false, false, false, false, 1001, false⟩ : Md) w ) ?_
  refine Seg.y rfl rfl (Want.some 4 163 true rfl rfl rfl g151) (Y.binOp rfl rfl (B.eq _ _ _)) ?_
  refine Seg.y rfl rfl (Want.none rfl) (Y.pickT rfl g151 rfl) ?_
  refine Seg.y rfl rfl (Want.none rfl) (Y.move rfl) ?_
  have g153 : (decide (r152 = 260)) = true := by simp only [hr152]; decide +kernel
  refine Seg.y rfl rfl (Want.some 9 168 true rfl rfl rfl g153) (Y.loadN (vs := [.bool false, .bool false, .bool false, .bool false, .bool false, .bool false, .bool false, .bool false, .bool false, .bool false, .bool false, .int .i64 0, .bool false]) 21 rfl rfl rfl rfl ag23 sz23) ?_
  obtain ⟨r154, hr154⟩ : ∃ x, x = checkS (⟨false, false, false, false, false, false, false, false, false, false, false, 0, false⟩ : Md) := ⟨_, rfl⟩
  refine Seg.callV (v := .int .i64 r154) rfl rfl (Want.some 9 168 true rfl rfl rfl g153) (K.func rfl co11) (fun w hs => by rw [hr154]; exact check_c (⟨false, false, false, false, false, false, false, false, false, false, false, 0, false⟩ : Md) w ) ?_
  refine Seg.y rfl rfl (Want.some 9 168 true rfl rfl rfl g153) (Y.binOp rfl rfl (B.eq _ _ _)) ?_
  refine Seg.y rfl rfl (Want.none rfl) (Y.pickT rfl g153 rfl) ?_
  refine Seg.y rfl rfl (Want.none rfl) (Y.move rfl) ?_
  have g155 : (decide (r154 = 0)) = true := by simp only [hr154]; decide +kernel
  refine Seg.y rfl rfl (Want.some 14 173 true rfl rfl rfl g155) (Y.loadN (vs := [.bool r143.1.ins, .bool r143.1.nl, .bool r143.1.ck, .bool r143.1.inv, .bool r143.1.org, .bool r143.1.aut, .bool r143.1.vis, .bool r143.1.paste, .bool r143.1.focus, .bool r143.1.sync, .bool r143.1.keypad, .int .i64 r143.1.mouse, .bool r143.1.sgr]) 1 rfl rfl rfl rfl ag23 sz23) ?_
  refine Seg.y rfl rfl (Want.some 14 173 true rfl rfl rfl g155) (Y.loadN (vs := [.bool false, .bool false, .bool false, .bool false, .bool false, .bool false, .bool false, .bool false, .bool false, .bool false, .bool false, .int .i64 0, .bool false]) 21 rfl rfl rfl rfl ag23 sz23) ?_
  refine Seg.y rfl rfl (Want.some 14 173 true rfl rfl rfl g155) (Y.binOp rfl rfl (B.eqS gq23 (Eqs.struct (n := 1) (b := MdEq r143.1 (⟨false, false, false, false, false, false, false, false, false, false, false, 0, false⟩ : Md)) Try.underlying23 sd23 (EqF.cons (b := r143.1.ins == false) rfl ag4 rfl rfl (Eqs.mono (m := 1) (Eqs.bool Try.underlying4) (by decide)) (EqF.cons (b := r143.1.nl == false) rfl ag4 rfl rfl (Eqs.mono (m := 1) (Eqs.bool Try.underlying4) (by decide)) (EqF.cons (b := r143.1.ck == false) rfl ag4 rfl rfl (Eqs.mono (m := 1) (Eqs.bool Try.underlying4) (by decide)) (EqF.cons (b := r143.1.inv == false) rfl ag4 rfl rfl (Eqs.mono (m := 1) (Eqs.bool Try.underlying4) (by decide)) (EqF.cons (b := r143.1.org == false) rfl ag4 rfl rfl (Eqs.mono (m := 1) (Eqs.bool Try.underlying4) (by decide)) (EqF.cons (b := r143.1.aut == false) rfl ag4 rfl rfl (Eqs.mono (m := 1) (Eqs.bool Try.underlying4) (by decide)) (EqF.cons (b := r143.1.vis == false) rfl ag4 rfl rfl (Eqs.mono (m := 1) (Eqs.bool Try.underlying4) (by decide)) (EqF.cons (b := r143.1.paste == false) rfl ag4 rfl rfl (Eqs.mono (m := 1) (Eqs.bool Try.underlying4) (by decide)) (EqF.cons (b := r143.1.focus == false) rfl ag4 rfl rfl (Eqs.mono (m := 1) (Eqs.bool Try.underlying4) (by decide)) (EqF.cons (b := r143.1.sync == false) rfl ag4 rfl rfl (Eqs.mono (m := 1) (Eqs.bool Try.underlying4) (by decide)) (EqF.cons (b := r143.1.keypad == false) rfl ag4 rfl rfl (Eqs.mono (m := 1) (Eqs.bool Try.underlying4) (by decide)) (EqF.cons (b := decide (r143.1.mouse = 0)) rfl ag3 rfl rfl (Eqs.mono (m := 1) (Eqs.int Try.underlying3) (by decide)) (EqF.cons (b := r143.1.sgr == false) rfl ag4 rfl rfl (Eqs.mono (m := 1) (Eqs.bool Try.underlying4) (by decide)) (EqF.nil))))))))))))))) rfl)) ?_
  refine Seg.y rfl rfl (Want.none rfl) (Y.pickT rfl g155 rfl) ?_
  refine Seg.y rfl rfl (Want.none rfl) (Y.move rfl) ?_
  have g156 : (MdEq r143.1 (⟨false, false, false, false, false, false, false, false, false, false, false, 0, false⟩ : Md)) = true := by simp only [hr143]; decide +kernel
  refine Seg.y rfl rfl (Want.some 19 178 true rfl rfl rfl g156) (Y.move rfl) ?_
  refine Seg.y rfl rfl (Want.some 19 178 true rfl rfl rfl g156) (Y.unOp rfl (U.not _)) ?_
  refine Seg.y rfl rfl (Want.none rfl) (Y.pickT rfl g156 rfl) ?_
  refine Seg.y rfl rfl (Want.none rfl) (Y.move rfl) ?_
  have g157 : (!r143.2.1) = true := by simp only [hr143]; decide +kernel
  refine Seg.y rfl rfl (Want.some 23 182 true rfl rfl rfl g157) (Y.move rfl) ?_
  refine Seg.y rfl rfl (Want.some 23 182 true rfl rfl rfl g157) (Y.binOp rfl rfl (B.eq _ _ _)) ?_
  refine Seg.y rfl rfl (Want.none rfl) (Y.pickT rfl g157 rfl) ?_
  refine Seg.y rfl rfl (Want.none rfl) (Y.move rfl) ?_
  have g158 : (decide (r143.2.2 = 260)) = true := by simp only [hr143]; decide +kernel
  refine Seg.y rfl rfl (Want.some 27 186 true rfl rfl rfl g158) (Y.move rfl) ?_
  refine Seg.y rfl rfl (Want.some 27 186 true rfl rfl rfl g158) (Y.binOp rfl rfl (B.eq _ _ _)) ?_
  refine Seg.y rfl rfl (Want.none rfl) (Y.pickT rfl g158 rfl) ?_
  refine Seg.y rfl rfl (Want.none rfl) (Y.move rfl) ?_
  have g159 : (decide (r145.1 = 0)) = true := by simp only [hr145]; decide +kernel
  refine Seg.y rfl rfl (Want.some 31 190 true rfl rfl rfl g159) (Y.move rfl) ?_
  refine Seg.y rfl rfl (Want.some 31 190 true rfl rfl rfl g159) (Y.binOp rfl rfl (B.eq _ _ _)) ?_
  refine Seg.y rfl rfl (Want.none rfl) (Y.pickT rfl g159 rfl) ?_
  refine Seg.y rfl rfl (Want.none rfl) (Y.move rfl) ?_
  have g160 : (decide (r145.2 = 260)) = true := by simp only [hr145]; decide +kernel
  refine Seg.y rfl rfl (Want.some 35 194 true rfl rfl rfl g160) (Y.move rfl) ?_
  refine Seg.y rfl rfl (Want.some 35 194 true rfl rfl rfl g160) (Y.bi rfl (fun w _ => run_len rfl Try.underlying44 w)) ?_
  refine Seg.y rfl rfl (Want.some 35 194 true rfl rfl rfl g160) (Y.binOp rfl rfl (B.eq _ _ _)) ?_
  refine Seg.y rfl rfl (Want.none rfl) (Y.pickT rfl g160 rfl) ?_
  refine Seg.y rfl rfl (Want.none rfl) (Y.move rfl) ?_
  have g161 : (decide (((actionsS (⟨false, false, false, false, false, false, false, false, false, false, false, 1001, false⟩ : Md)).1.length : Int) = 0)) = true := by decide +kernel
  refine Seg.y rfl rfl (Want.some 40 199 true rfl rfl rfl g161) (Y.move rfl) ?_
  refine Seg.y rfl rfl (Want.some 40 199 true rfl rfl rfl g161) (Y.binOp rfl rfl (B.eq _ _ _)) ?_
  refine Seg.y rfl rfl (Want.none rfl) (Y.pickT rfl g161 rfl) ?_
  refine Seg.y rfl rfl (Want.none rfl) (Y.move rfl) ?_
  have g162 : (decide ((actionsS (⟨false, false, false, false, false, false, false, false, false, false, false, 1001, false⟩ : Md)).2 = 260)) = true := by decide +kernel
  refine Seg.y rfl rfl (Want.some 44 203 true rfl rfl rfl g162) (Y.fieldAddr rfl (A.field Try.underlying23 rfl sz3 rfl rfl)) ?_
  refine Seg.y rfl rfl (Want.some 44 203 true rfl rfl rfl g162) (Y.load1 0 rfl rfl rfl ag3) ?_
  refine Seg.y rfl rfl (Want.some 44 203 true rfl rfl rfl g162) (Y.binOp rfl rfl (B.eq _ _ _)) ?_
  refine Seg.y rfl rfl (Want.none rfl) (Y.pickT rfl g162 rfl) ?_
  refine Seg.y rfl rfl (Want.none rfl) (Y.move rfl) ?_
  have g163 : (decide (r149.mouse = 9)) = true := by simp only [hr148, hr149]; decide +kernel
  refine Seg.y rfl rfl (Want.none rfl) (Y.pickT rfl g163 rfl) ?_
  refine Seg.y rfl rfl (Want.none rfl) (Y.assign rfl) ?_
  refine Seg.nil ?_
  refine Sx.next ?_
  refine Sc.ret ?_
  refine Sx.body (.inl rfl) (res1 rfl (Rv.tmp rfl)) (fun w hs => ?_)
  refine RetV.eq ?_ hs
  exact congrArg Value.bool (by decide +kernel)
end Go.Proofs.Ythmigjicibhheaa
