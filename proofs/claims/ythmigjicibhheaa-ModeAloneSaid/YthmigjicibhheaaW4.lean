/- What the functions of the program and of the reference come to: one theorem a function (part 4). -/
import Derived.Test.YthmigjicibhheaaW3
namespace Go.Proofs.Ythmigjicibhheaa
open Go Go.RowKit Go.Eng
set_option maxRecDepth 100000
set_option linter.unusedVariables false
set_option linter.unusedSimpArgs false
set_option maxHeartbeats 4000000 in
theorem rstate_c (m : Md) (dec : Bool) (n : Int) (alt : Bool) (w : World)  :
    Calls Try.prog 20 #[.agg (List.toArray [.bool m.ins, .bool m.nl, .bool m.ck, .bool m.inv, .bool m.org, .bool m.aut, .bool m.vis, .bool m.paste, .bool m.focus, .bool m.sync, .bool m.keypad, .int .i64 m.mouse, .bool m.sgr]), .bool dec, .int .i64 n, .bool alt] w (RetV w (.int .i64 (rstateS m dec n alt))) := by
  refine enter (F := fun w => True) [] Try.func20 rfl Try.ntmps20 (by simp) Fut.triv rfl ?_
  refine Sc.seq ?_
  refine Sc.region ?_
  refine Seg.chg rfl rfl (Want.none rfl) (C.box rfl) (fun b1 hb1 => ?_)
  refine Seg.y rfl rfl (Want.none rfl) (Y.assign rfl) ?_
  refine Seg.nil ?_
  refine Sx.next ?_
  refine Sc.seq ?_
  refine Sc.region ?_
  refine Seg.y rfl rfl (Want.none rfl) (Y.move rfl) ?_
  refine Seg.y rfl rfl (Want.none rfl) (Y.assign rfl) ?_
  refine Seg.nil ?_
  refine Sx.next ?_
  refine Sc.seq ?_
  refine Sc.seq ?_
  refine Sc.cut (fun (_ : Unit) => True) (fun (_ : Unit) => [(1, .bool dec), (2, .int .i64 n), (4, .pointer (some ⟨b1, 0, none⟩)), (9, .bool alt), (26, .bool ((!dec) || (((decide (n ≠ 47)) && (decide (n ≠ 1047))) && (decide (n ≠ 1049)))))]) (fun (_ : Unit) => [(some b1, .cells (List.toArray [.bool m.ins, .bool m.nl, .bool m.ck, .bool m.inv, .bool m.org, .bool m.aut, .bool m.vis, .bool m.paste, .bool m.focus, .bool m.sync, .bool m.keypad, .int .i64 m.mouse, .bool m.sgr]) 23 (0, 0))]) (fun _ => fun w => True) ?_ ?_
  · skip
    refine Sc.region ?_
    refine Seg.y rfl rfl (Want.none rfl) (Y.move rfl) ?_
    refine Seg.y rfl rfl (Want.none rfl) (Y.unOp rfl (U.not _)) ?_
    refine Seg.y rfl rfl (Want.none rfl) (Y.move rfl) ?_
    rcases Bool.eq_false_or_eq_true (!dec) with g2 | g2
    · skip
      have g2p : (dec) = false := by simpa using g2
      refine Seg.skip rfl rfl (Skip.some 2 15 false rfl rfl rfl g2) ?_
      refine Seg.skip rfl rfl (Skip.some 2 15 false rfl rfl rfl g2) ?_
      refine Seg.skip rfl rfl (Skip.some 2 15 false rfl rfl rfl g2) ?_
      refine Seg.skip rfl rfl (Skip.undef 5 18 true rfl rfl rfl) ?_
      refine Seg.skip rfl rfl (Skip.undef 5 18 true rfl rfl rfl) ?_
      refine Seg.skip rfl rfl (Skip.some 2 15 false rfl rfl rfl g2) ?_
      refine Seg.skip rfl rfl (Skip.some 2 15 false rfl rfl rfl g2) ?_
      refine Seg.skip rfl rfl (Skip.undef 9 22 true rfl rfl rfl) ?_
      refine Seg.skip rfl rfl (Skip.undef 9 22 true rfl rfl rfl) ?_
      refine Seg.skip rfl rfl (Skip.some 2 15 false rfl rfl rfl g2) ?_
      refine Seg.y rfl rfl (Want.none rfl) (Y.pickT rfl g2 rfl) ?_
      refine Seg.nil ?_
      exact Sx.cut () trivial ⟨rfl, rfl, rfl, rfl, (someB (by first | (simp [g2, g2p]; done) | (simp_all; done) | ((simp [g2, g2p]) <;> grind))), trivial⟩ [0] (by decide) rfl (fun _ h => h)
    · skip
      have g2p : (dec) = true := by simpa using g2
      refine Seg.y rfl rfl (Want.some 2 15 false rfl rfl rfl g2) (Y.move rfl) ?_
      refine Seg.y rfl rfl (Want.some 2 15 false rfl rfl rfl g2) (Y.binOp rfl rfl (B.ne _ _ _)) ?_
      refine Seg.y rfl rfl (Want.some 2 15 false rfl rfl rfl g2) (Y.move rfl) ?_
      rcases Bool.eq_false_or_eq_true (decide (n ≠ 47)) with g3 | g3
      · skip
        have g3p := of_decide_eq_true g3
        refine Seg.y rfl rfl (Want.some 5 18 true rfl rfl rfl g3) (Y.move rfl) ?_
        refine Seg.y rfl rfl (Want.some 5 18 true rfl rfl rfl g3) (Y.binOp rfl rfl (B.ne _ _ _)) ?_
        refine Seg.y rfl rfl (Want.some 2 15 false rfl rfl rfl g2) (Y.pickT rfl g3 rfl) ?_
        refine Seg.y rfl rfl (Want.some 2 15 false rfl rfl rfl g2) (Y.move rfl) ?_
        rcases Bool.eq_false_or_eq_true (decide (n ≠ 1047)) with g4 | g4
        · skip
          have g4p := of_decide_eq_true g4
          refine Seg.y rfl rfl (Want.some 9 22 true rfl rfl rfl g4) (Y.move rfl) ?_
          refine Seg.y rfl rfl (Want.some 9 22 true rfl rfl rfl g4) (Y.binOp rfl rfl (B.ne _ _ _)) ?_
          refine Seg.y rfl rfl (Want.some 2 15 false rfl rfl rfl g2) (Y.pickT rfl g4 rfl) ?_
          refine Seg.y rfl rfl (Want.none rfl) (Y.pickF rfl g2 rfl) ?_
          refine Seg.nil ?_
          exact Sx.cut () trivial ⟨rfl, rfl, rfl, rfl, (someB (by first | (simp [g2, g2p, g3, g3p, g4, g4p]; done) | (simp_all; done) | ((simp [g2, g2p, g3, g3p, g4, g4p]) <;> grind))), trivial⟩ [0] (by decide) rfl (fun _ h => h)
        · skip
          have g4p : n = 1047 := by simpa using g4
          refine Seg.skip rfl rfl (Skip.some 9 22 true rfl rfl rfl g4) ?_
          refine Seg.skip rfl rfl (Skip.some 9 22 true rfl rfl rfl g4) ?_
          refine Seg.y rfl rfl (Want.some 2 15 false rfl rfl rfl g2) (Y.pickF rfl g4 rfl) ?_
          refine Seg.y rfl rfl (Want.none rfl) (Y.pickF rfl g2 rfl) ?_
          refine Seg.nil ?_
          exact Sx.cut () trivial ⟨rfl, rfl, rfl, rfl, (someB (by first | (simp [g2, g2p, g3, g3p, g4, g4p]; done) | (simp_all; done) | ((simp [g2, g2p, g3, g3p, g4, g4p]) <;> grind))), trivial⟩ [0] (by decide) rfl (fun _ h => h)
      · skip
        have g3p : n = 47 := by simpa using g3
        refine Seg.skip rfl rfl (Skip.some 5 18 true rfl rfl rfl g3) ?_
        refine Seg.skip rfl rfl (Skip.some 5 18 true rfl rfl rfl g3) ?_
        refine Seg.y rfl rfl (Want.some 2 15 false rfl rfl rfl g2) (Y.pickF rfl g3 rfl) ?_
        refine Seg.y rfl rfl (Want.some 2 15 false rfl rfl rfl g2) (Y.move rfl) ?_
        refine Seg.skip rfl rfl (Skip.some 9 22 true rfl rfl rfl rfl) ?_
        refine Seg.skip rfl rfl (Skip.some 9 22 true rfl rfl rfl rfl) ?_
        refine Seg.y rfl rfl (Want.some 2 15 false rfl rfl rfl g2) (Y.pickF rfl rfl rfl) ?_
        refine Seg.y rfl rfl (Want.none rfl) (Y.pickF rfl g2 rfl) ?_
        refine Seg.nil ?_
        exact Sx.cut () trivial ⟨rfl, rfl, rfl, rfl, (someB (by first | (simp [g2, g2p, g3, g3p]; done) | (simp_all; done) | ((simp [g2, g2p, g3, g3p]) <;> grind))), trivial⟩ [0] (by decide) rfl (fun _ h => h)
  · intro _ _
    show Sx _ _ _ [(1, .bool dec), (2, .int .i64 n), (4, .pointer (some ⟨b1, 0, none⟩)), (9, .bool alt), (26, .bool ((!dec) || (((decide (n ≠ 47)) && (decide (n ≠ 1047))) && (decide (n ≠ 1049)))))] [(some b1, .cells (List.toArray [.bool m.ins, .bool m.nl, .bool m.ck, .bool m.inv, .bool m.org, .bool m.aut, .bool m.vis, .bool m.paste, .bool m.focus, .bool m.sync, .bool m.keypad, .int .i64 m.mouse, .bool m.sgr]) 23 (0, 0))] _
    refine Sx.next ?_
    refine Sc.cond rfl (fun h5 => ?_) (fun h5 => ?_)
    · skip
      refine Sc.seq ?_
      refine Sc.region ?_
      refine Seg.y rfl rfl (Want.none rfl) (Y.loadN (vs := [.bool m.ins, .bool m.nl, .bool m.ck, .bool m.inv, .bool m.org, .bool m.aut, .bool m.vis, .bool m.paste, .bool m.focus, .bool m.sync, .bool m.keypad, .int .i64 m.mouse, .bool m.sgr]) 0 rfl rfl rfl rfl ag23 sz23) ?_
      refine Seg.y rfl rfl (Want.none rfl) (Y.move rfl) ?_
      refine Seg.y rfl rfl (Want.none rfl) (Y.move rfl) ?_
      obtain ⟨r6, hr6⟩ : ∃ x, x = rputS m dec n true := ⟨_, rfl⟩
      refine Seg.callV (v := .tuple (List.toArray [.agg (List.toArray [.bool r6.1.ins, .bool r6.1.nl, .bool r6.1.ck, .bool r6.1.inv, .bool r6.1.org, .bool r6.1.aut, .bool r6.1.vis, .bool r6.1.paste, .bool r6.1.focus, .bool r6.1.sync, .bool r6.1.keypad, .int .i64 r6.1.mouse, .bool r6.1.sgr]), .bool r6.2])) rfl rfl (Want.none rfl) (K.func rfl co14) (fun w hs => by rw [hr6]; exact rput_c m dec n true w ) ?_
      refine Seg.y rfl rfl (Want.none rfl) (Y.move rfl) ?_
      refine Seg.y rfl rfl (Want.none rfl) (Y.extract rfl rfl) ?_
      refine Seg.y rfl rfl (Want.none rfl) (Y.extract rfl rfl) ?_
      refine Seg.chg rfl rfl (Want.none rfl) (C.alloc zv23 rfl) (fun b7 hb7 => ?_)
      refine Seg.chs rfl (Want.none rfl) (C.store (cs' := [.bool r6.1.ins, .bool r6.1.nl, .bool r6.1.ck, .bool r6.1.inv, .bool r6.1.org, .bool r6.1.aut, .bool r6.1.vis, .bool r6.1.paste, .bool r6.1.focus, .bool r6.1.sync, .bool r6.1.keypad, .int .i64 r6.1.mouse, .bool r6.1.sgr]) (vs := [.bool r6.1.ins, .bool r6.1.nl, .bool r6.1.ck, .bool r6.1.inv, .bool r6.1.org, .bool r6.1.aut, .bool r6.1.vis, .bool r6.1.paste, .bool r6.1.focus, .bool r6.1.sync, .bool r6.1.keypad, .int .i64 r6.1.mouse, .bool r6.1.sgr]) 0 rfl rfl rfl rfl rfl rfl rfl sz23) (fun _ _ => ?_)
      refine Seg.y rfl rfl (Want.none rfl) (Y.assign rfl) ?_
      refine Seg.nil ?_
      refine Sx.next ?_
      refine Sc.seq ?_
      refine Sc.seq ?_
      refine Sc.region ?_
      refine Seg.y rfl rfl (Want.none rfl) (Y.move rfl) ?_
      refine Seg.y rfl rfl (Want.none rfl) (Y.unOp rfl (U.not _)) ?_
      refine Seg.nil ?_
      refine Sx.next ?_
      refine Sc.cond rfl (fun h8 => ?_) (fun h8 => ?_)
      · skip
        have h8p : (r6.2) = false := by simpa using h8
        refine Sc.seq ?_
        refine Sc.region ?_
        refine Seg.y rfl rfl (Want.none rfl) (Y.assign rfl) ?_
        refine Seg.nil ?_
        refine Sx.next ?_
        refine Sc.ret ?_
        refine Sx.next_ret ?_
        refine Sx.next_ret ?_
        refine Sx.body (.inl rfl) (res1 rfl (Rv.tmp rfl)) (fun w hs => ?_)
        refine RetV.eq ?_ hs
        subst hr6
        grind [rstateS]
      · skip
        have h8p : (r6.2) = true := by simpa using h8
        refine Sc.skip ?_
        refine Sx.next ?_
        refine Sc.region ?_
        refine Seg.y rfl rfl (Want.none rfl) (Y.loadN (vs := [.bool r6.1.ins, .bool r6.1.nl, .bool r6.1.ck, .bool r6.1.inv, .bool r6.1.org, .bool r6.1.aut, .bool r6.1.vis, .bool r6.1.paste, .bool r6.1.focus, .bool r6.1.sync, .bool r6.1.keypad, .int .i64 r6.1.mouse, .bool r6.1.sgr]) 0 rfl rfl rfl rfl ag23 sz23) ?_
        refine Seg.y rfl rfl (Want.none rfl) (Y.loadN (vs := [.bool m.ins, .bool m.nl, .bool m.ck, .bool m.inv, .bool m.org, .bool m.aut, .bool m.vis, .bool m.paste, .bool m.focus, .bool m.sync, .bool m.keypad, .int .i64 m.mouse, .bool m.sgr]) 1 rfl rfl rfl rfl ag23 sz23) ?_
        refine Seg.y rfl rfl (Want.none rfl) (Y.binOp rfl rfl (B.eqS gq23 (Eqs.struct (n := 1) (b := MdEq r6.1 m) Try.underlying23 sd23 (EqF.cons (b := r6.1.ins == m.ins) rfl ag4 rfl rfl (Eqs.mono (m := 1) (Eqs.bool Try.underlying4) (by decide)) (EqF.cons (b := r6.1.nl == m.nl) rfl ag4 rfl rfl (Eqs.mono (m := 1) (Eqs.bool Try.underlying4) (by decide)) (EqF.cons (b := r6.1.ck == m.ck) rfl ag4 rfl rfl (Eqs.mono (m := 1) (Eqs.bool Try.underlying4) (by decide)) (EqF.cons (b := r6.1.inv == m.inv) rfl ag4 rfl rfl (Eqs.mono (m := 1) (Eqs.bool Try.underlying4) (by decide)) (EqF.cons (b := r6.1.org == m.org) rfl ag4 rfl rfl (Eqs.mono (m := 1) (Eqs.bool Try.underlying4) (by decide)) (EqF.cons (b := r6.1.aut == m.aut) rfl ag4 rfl rfl (Eqs.mono (m := 1) (Eqs.bool Try.underlying4) (by decide)) (EqF.cons (b := r6.1.vis == m.vis) rfl ag4 rfl rfl (Eqs.mono (m := 1) (Eqs.bool Try.underlying4) (by decide)) (EqF.cons (b := r6.1.paste == m.paste) rfl ag4 rfl rfl (Eqs.mono (m := 1) (Eqs.bool Try.underlying4) (by decide)) (EqF.cons (b := r6.1.focus == m.focus) rfl ag4 rfl rfl (Eqs.mono (m := 1) (Eqs.bool Try.underlying4) (by decide)) (EqF.cons (b := r6.1.sync == m.sync) rfl ag4 rfl rfl (Eqs.mono (m := 1) (Eqs.bool Try.underlying4) (by decide)) (EqF.cons (b := r6.1.keypad == m.keypad) rfl ag4 rfl rfl (Eqs.mono (m := 1) (Eqs.bool Try.underlying4) (by decide)) (EqF.cons (b := decide (r6.1.mouse = m.mouse)) rfl ag3 rfl rfl (Eqs.mono (m := 1) (Eqs.int Try.underlying3) (by decide)) (EqF.cons (b := r6.1.sgr == m.sgr) rfl ag4 rfl rfl (Eqs.mono (m := 1) (Eqs.bool Try.underlying4) (by decide)) (EqF.nil))))))))))))))) rfl)) ?_
        refine Seg.y rfl rfl (Want.none rfl) (Y.assign rfl) ?_
        refine Seg.nil ?_
        refine Sx.next ?_
        refine Sc.seq ?_
        refine Sc.seq ?_
        refine Sc.region ?_
        refine Seg.y rfl rfl (Want.none rfl) (Y.move rfl) ?_
        refine Seg.nil ?_
        refine Sx.next ?_
        refine Sc.cond rfl (fun h9 => ?_) (fun h9 => ?_)
        · skip
          refine Sc.seq ?_
          refine Sc.region ?_
          refine Seg.y rfl rfl (Want.none rfl) (Y.assign rfl) ?_
          refine Seg.nil ?_
          refine Sx.next ?_
          refine Sc.ret ?_
          refine Sx.next_ret ?_
          refine Sx.body (.inl rfl) (res1 rfl (Rv.tmp rfl)) (fun w hs => ?_)
          refine RetV.eq ?_ hs
          subst hr6
          grind [rstateS]
        · skip
          refine Sc.skip ?_
          refine Sx.next ?_
          refine Sc.seq ?_
          refine Sc.region ?_
          refine Seg.y rfl rfl (Want.none rfl) (Y.assign rfl) ?_
          refine Seg.nil ?_
          refine Sx.next ?_
          refine Sc.ret ?_
          refine Sx.body (.inl rfl) (res1 rfl (Rv.tmp rfl)) (fun w hs => ?_)
          refine RetV.eq ?_ hs
          subst hr6
          grind [rstateS]
    · skip
      refine Sc.skip ?_
      refine Sx.next ?_
      refine Sc.seq ?_
      refine Sc.seq ?_
      refine Sc.region ?_
      refine Seg.y rfl rfl (Want.none rfl) (Y.move rfl) ?_
      refine Seg.nil ?_
      refine Sx.next ?_
      refine Sc.cond rfl (fun h10 => ?_) (fun h10 => ?_)
      · skip
        refine Sc.seq ?_
        refine Sc.region ?_
        refine Seg.y rfl rfl (Want.none rfl) (Y.assign rfl) ?_
        refine Seg.nil ?_
        refine Sx.next ?_
        refine Sc.ret ?_
        refine Sx.next_ret ?_
        refine Sx.body (.inl rfl) (res1 rfl (Rv.tmp rfl)) (fun w hs => ?_)
        refine RetV.eq ?_ hs
        grind [rstateS]
      · skip
        refine Sc.skip ?_
        refine Sx.next ?_
        refine Sc.seq ?_
        refine Sc.region ?_
        refine Seg.y rfl rfl (Want.none rfl) (Y.assign rfl) ?_
        refine Seg.nil ?_
        refine Sx.next ?_
        refine Sc.ret ?_
        refine Sx.body (.inl rfl) (res1 rfl (Rv.tmp rfl)) (fun w hs => ?_)
        refine RetV.eq ?_ hs
        grind [rstateS]

set_option maxHeartbeats 4000000 in
theorem bit_c (b : Int) (k : Int) (w : World) (hk : 0 ≤ k) :
    Calls Try.prog 27 #[.int .u16 b, .int .u64 k] w (RetV w (.bool (bitS b k))) := by
  refine enter (F := fun w => True) [] Try.func27 rfl Try.ntmps27 (by simp) Fut.triv rfl ?_
  refine Sc.seq ?_
  refine Sc.region ?_
  refine Seg.y rfl rfl (Want.none rfl) (Y.assign rfl) ?_
  refine Seg.nil ?_
  refine Sx.next ?_
  refine Sc.seq ?_
  refine Sc.region ?_
  refine Seg.y rfl rfl (Want.none rfl) (Y.move rfl) ?_
  refine Seg.y rfl rfl (Want.none rfl) (Y.move rfl) ?_
  refine Seg.y rfl rfl (Want.none rfl) (Y.binOp rfl rfl (B.shr _ _ _ _ _ (by omega) rfl)) ?_
  refine Seg.y rfl rfl (Want.none rfl) (Y.binOp rfl rfl (B.rem _ _ _ _ (by decide) rfl)) ?_
  refine Seg.y rfl rfl (Want.none rfl) (Y.binOp rfl rfl (B.eq _ _ _)) ?_
  refine Seg.y rfl rfl (Want.none rfl) (Y.assign rfl) ?_
  refine Seg.nil ?_
  refine Sx.next ?_
  refine Sc.ret ?_
  refine Sx.body (.inl rfl) (res1 rfl (Rv.tmp rfl)) (fun w hs => ?_)
  refine RetV.eq ?_ hs
  rfl

set_option maxHeartbeats 4000000 in
theorem lput_c (m : Md) (dec : Bool) (n : Int) (on : Bool) (w : World)  :
    Calls Try.prog 24 #[.agg (List.toArray [.bool m.ins, .bool m.nl, .bool m.ck, .bool m.inv, .bool m.org, .bool m.aut, .bool m.vis, .bool m.paste, .bool m.focus, .bool m.sync, .bool m.keypad, .int .i64 m.mouse, .bool m.sgr]), .bool dec, .int .i64 n, .bool on] w (RetV w (.agg (List.toArray [.bool ((lput m dec n on).ins), .bool ((lput m dec n on).nl), .bool ((lput m dec n on).ck), .bool ((lput m dec n on).inv), .bool ((lput m dec n on).org), .bool ((lput m dec n on).aut), .bool ((lput m dec n on).vis), .bool ((lput m dec n on).paste), .bool ((lput m dec n on).focus), .bool ((lput m dec n on).sync), .bool ((lput m dec n on).keypad), .int .i64 ((lput m dec n on).mouse), .bool ((lput m dec n on).sgr)]))) := by
  refine enter (F := fun w => True) [] Try.func24 rfl Try.ntmps24 (by simp) Fut.triv rfl ?_
  refine Sc.seq ?_
  refine Sc.region ?_
  refine Seg.chg rfl rfl (Want.none rfl) (C.box rfl) (fun b1 hb1 => ?_)
  refine Seg.chg rfl rfl (Want.none rfl) (C.alloc zv23 rfl) (fun b2 hb2 => ?_)
  refine Seg.nil ?_
  refine Sx.next ?_
  refine Sc.seq ?_
  refine Sc.region ?_
  refine Seg.y rfl rfl (Want.none rfl) (Y.loadN (vs := [.bool m.ins, .bool m.nl, .bool m.ck, .bool m.inv, .bool m.org, .bool m.aut, .bool m.vis, .bool m.paste, .bool m.focus, .bool m.sync, .bool m.keypad, .int .i64 m.mouse, .bool m.sgr]) 1 rfl rfl rfl rfl ag23 sz23) ?_
  refine Seg.y rfl rfl (Want.none rfl) (Y.move rfl) ?_
  refine Seg.y rfl rfl (Want.none rfl) (Y.move rfl) ?_
  refine Seg.y rfl rfl (Want.none rfl) (Y.move rfl) ?_
  obtain ⟨r3, hr3⟩ : ∃ x, x = putS m dec n on := ⟨_, rfl⟩
  refine Seg.callV (v := .tuple (List.toArray [.agg (List.toArray [.bool r3.1.ins, .bool r3.1.nl, .bool r3.1.ck, .bool r3.1.inv, .bool r3.1.org, .bool r3.1.aut, .bool r3.1.vis, .bool r3.1.paste, .bool r3.1.focus, .bool r3.1.sync, .bool r3.1.keypad, .int .i64 r3.1.mouse, .bool r3.1.sgr]), .bool r3.2.1, .int .i64 r3.2.2])) rfl rfl (Want.none rfl) (K.func rfl co13) (fun w hs => by rw [hr3]; exact put_c m dec n on w ) ?_
  refine Seg.y rfl rfl (Want.none rfl) (Y.move rfl) ?_
  refine Seg.y rfl rfl (Want.none rfl) (Y.extract rfl rfl) ?_
  refine Seg.y rfl rfl (Want.none rfl) (Y.extract rfl rfl) ?_
  refine Seg.y rfl rfl (Want.none rfl) (Y.extract rfl rfl) ?_
  refine Seg.chg rfl rfl (Want.none rfl) (C.alloc zv23 rfl) (fun b4 hb4 => ?_)
  refine Seg.chs rfl (Want.none rfl) (C.store (cs' := [.bool r3.1.ins, .bool r3.1.nl, .bool r3.1.ck, .bool r3.1.inv, .bool r3.1.org, .bool r3.1.aut, .bool r3.1.vis, .bool r3.1.paste, .bool r3.1.focus, .bool r3.1.sync, .bool r3.1.keypad, .int .i64 r3.1.mouse, .bool r3.1.sgr]) (vs := [.bool r3.1.ins, .bool r3.1.nl, .bool r3.1.ck, .bool r3.1.inv, .bool r3.1.org, .bool r3.1.aut, .bool r3.1.vis, .bool r3.1.paste, .bool r3.1.focus, .bool r3.1.sync, .bool r3.1.keypad, .int .i64 r3.1.mouse, .bool r3.1.sgr]) 0 rfl rfl rfl rfl rfl rfl rfl sz23) (fun _ _ => ?_)
  refine Seg.y rfl rfl (Want.none rfl) (Y.assign rfl) ?_
  refine Seg.y rfl rfl (Want.none rfl) (Y.assign rfl) ?_
  refine Seg.nil ?_
  refine Sx.next ?_
  refine Sc.seq ?_
  refine Sc.seq ?_
  refine Sc.cut (fun (_ : Unit) => True) (fun (_ : Unit) => [(8, .pointer (some ⟨b2, 0, none⟩)), (9, .pointer (some ⟨b4, 0, none⟩)), (26, .bool ((!r3.2.1) || (decide (r3.2.2 ≠ 0))))]) (fun (_ : Unit) => [(some b4, .cells (List.toArray [.bool r3.1.ins, .bool r3.1.nl, .bool r3.1.ck, .bool r3.1.inv, .bool r3.1.org, .bool r3.1.aut, .bool r3.1.vis, .bool r3.1.paste, .bool r3.1.focus, .bool r3.1.sync, .bool r3.1.keypad, .int .i64 r3.1.mouse, .bool r3.1.sgr]) 23 (0, 0)), (some b2, .cells (List.toArray [.bool false, .bool false, .bool false, .bool false, .bool false, .bool false, .bool false, .bool false, .bool false, .bool false, .bool false, .int .i64 0, .bool false]) 23 (0, 0))]) (fun _ => fun w => True) ?_ ?_
  · skip
    refine Sc.region ?_
    refine Seg.y rfl rfl (Want.none rfl) (Y.move rfl) ?_
    refine Seg.y rfl rfl (Want.none rfl) (Y.unOp rfl (U.not _)) ?_
    refine Seg.y rfl rfl (Want.none rfl) (Y.move rfl) ?_
    rcases Bool.eq_false_or_eq_true (!r3.2.1) with g5 | g5
    · skip
      have g5p : (r3.2.1) = false := by simpa using g5
      refine Seg.skip rfl rfl (Skip.some 2 23 false rfl rfl rfl g5) ?_
      refine Seg.skip rfl rfl (Skip.some 2 23 false rfl rfl rfl g5) ?_
      refine Seg.y rfl rfl (Want.none rfl) (Y.pickT rfl g5 rfl) ?_
      refine Seg.nil ?_
      exact Sx.cut () trivial ⟨rfl, rfl, (someB (by first | (simp [g5, g5p]; done) | (simp_all; done) | ((simp [g5, g5p]) <;> grind))), trivial⟩ [0, 1] (by decide) rfl (fun _ h => h)
    · skip
      have g5p : (r3.2.1) = true := by simpa using g5
      refine Seg.y rfl rfl (Want.some 2 23 false rfl rfl rfl g5) (Y.move rfl) ?_
      refine Seg.y rfl rfl (Want.some 2 23 false rfl rfl rfl g5) (Y.binOp rfl rfl (B.ne _ _ _)) ?_
      refine Seg.y rfl rfl (Want.none rfl) (Y.pickF rfl g5 rfl) ?_
      refine Seg.nil ?_
      exact Sx.cut () trivial ⟨rfl, rfl, (someB (by first | (simp [g5, g5p]; done) | (simp_all; done) | ((simp [g5, g5p]) <;> grind))), trivial⟩ [0, 1] (by decide) rfl (fun _ h => h)
  · intro _ _
    show Sx _ _ _ [(8, .pointer (some ⟨b2, 0, none⟩)), (9, .pointer (some ⟨b4, 0, none⟩)), (26, .bool ((!r3.2.1) || (decide (r3.2.2 ≠ 0))))] [(some b4, .cells (List.toArray [.bool r3.1.ins, .bool r3.1.nl, .bool r3.1.ck, .bool r3.1.inv, .bool r3.1.org, .bool r3.1.aut, .bool r3.1.vis, .bool r3.1.paste, .bool r3.1.focus, .bool r3.1.sync, .bool r3.1.keypad, .int .i64 r3.1.mouse, .bool r3.1.sgr]) 23 (0, 0)), (some b2, .cells (List.toArray [.bool false, .bool false, .bool false, .bool false, .bool false, .bool false, .bool false, .bool false, .bool false, .bool false, .bool false, .int .i64 0, .bool false]) 23 (0, 0))] _
    refine Sx.next ?_
    refine Sc.cond rfl (fun h6 => ?_) (fun h6 => ?_)
    · skip
      refine Sc.seq ?_
      refine Sc.region ?_
      refine Seg.y rfl rfl (Want.none rfl) (Y.build (v := .agg (List.toArray [.bool false, .bool false, .bool false, .bool false, .bool false, .bool false, .bool false, .bool false, .bool false, .bool false, .bool false, .int .i64 (-1), .bool false])) rfl (fun w => by kernel_rfl)) ?_
      refine Seg.chs rfl (Want.none rfl) (C.store (cs' := [.bool false, .bool false, .bool false, .bool false, .bool false, .bool false, .bool false, .bool false, .bool false, .bool false, .bool false, .int .i64 (-1), .bool false]) (vs := [.bool false, .bool false, .bool false, .bool false, .bool false, .bool false, .bool false, .bool false, .bool false, .bool false, .bool false, .int .i64 (-1), .bool false]) 1 rfl rfl rfl rfl rfl rfl rfl sz23) (fun _ _ => ?_)
      refine Seg.nil ?_
      refine Sx.next ?_
      refine Sc.ret ?_
      refine Sx.next_ret ?_
      refine Sx.body (.inl rfl) (res1 rfl (Rv.cell (vs := [.bool false, .bool false, .bool false, .bool false, .bool false, .bool false, .bool false, .bool false, .bool false, .bool false, .bool false, .int .i64 (-1), .bool false]) 1 rfl rfl rfl rfl ag23 sz23)) (fun w hs => ?_)
      refine RetV.eq ?_ hs
      subst hr3
      simp at h6; first | ((rw [lput, if_pos h6]) <;> rfl) | ((rw [lput, if_neg (by grind)]) <;> rfl)
    · skip
      refine Sc.skip ?_
      refine Sx.next ?_
      refine Sc.seq ?_
      refine Sc.region ?_
      refine Seg.y rfl rfl (Want.none rfl) (Y.loadN (vs := [.bool r3.1.ins, .bool r3.1.nl, .bool r3.1.ck, .bool r3.1.inv, .bool r3.1.org, .bool r3.1.aut, .bool r3.1.vis, .bool r3.1.paste, .bool r3.1.focus, .bool r3.1.sync, .bool r3.1.keypad, .int .i64 r3.1.mouse, .bool r3.1.sgr]) 0 rfl rfl rfl rfl ag23 sz23) ?_
      refine Seg.chs rfl (Want.none rfl) (C.store (cs' := [.bool r3.1.ins, .bool r3.1.nl, .bool r3.1.ck, .bool r3.1.inv, .bool r3.1.org, .bool r3.1.aut, .bool r3.1.vis, .bool r3.1.paste, .bool r3.1.focus, .bool r3.1.sync, .bool r3.1.keypad, .int .i64 r3.1.mouse, .bool r3.1.sgr]) (vs := [.bool r3.1.ins, .bool r3.1.nl, .bool r3.1.ck, .bool r3.1.inv, .bool r3.1.org, .bool r3.1.aut, .bool r3.1.vis, .bool r3.1.paste, .bool r3.1.focus, .bool r3.1.sync, .bool r3.1.keypad, .int .i64 r3.1.mouse, .bool r3.1.sgr]) 1 rfl rfl rfl rfl rfl rfl rfl sz23) (fun _ _ => ?_)
      refine Seg.nil ?_
      refine Sx.next ?_
      refine Sc.ret ?_
      refine Sx.body (.inl rfl) (res1 rfl (Rv.cell (vs := [.bool r3.1.ins, .bool r3.1.nl, .bool r3.1.ck, .bool r3.1.inv, .bool r3.1.org, .bool r3.1.aut, .bool r3.1.vis, .bool r3.1.paste, .bool r3.1.focus, .bool r3.1.sync, .bool r3.1.keypad, .int .i64 r3.1.mouse, .bool r3.1.sgr]) 1 rfl rfl rfl rfl ag23 sz23)) (fun w hs => ?_)
      refine RetV.eq ?_ hs
      subst hr3
      simp at h6; first | ((rw [lput, if_pos h6]) <;> rfl) | ((rw [lput, if_neg (by grind)]) <;> rfl)

set_option maxHeartbeats 4000000 in
theorem lstate_c (m : Md) (dec : Bool) (n : Int) (alt : Bool) (w : World)  :
    Calls Try.prog 26 #[.agg (List.toArray [.bool m.ins, .bool m.nl, .bool m.ck, .bool m.inv, .bool m.org, .bool m.aut, .bool m.vis, .bool m.paste, .bool m.focus, .bool m.sync, .bool m.keypad, .int .i64 m.mouse, .bool m.sgr]), .bool dec, .int .i64 n, .bool alt] w (RetV w (.int .i64 (lstate m dec n alt))) := by
  refine enter (F := fun w => True) [] Try.func26 rfl Try.ntmps26 (by simp) Fut.triv rfl ?_
  refine Sc.seq ?_
  refine Sc.region ?_
  refine Seg.chg rfl rfl (Want.none rfl) (C.box rfl) (fun b1 hb1 => ?_)
  refine Seg.y rfl rfl (Want.none rfl) (Y.assign rfl) ?_
  refine Seg.nil ?_
  refine Sx.next ?_
  refine Sc.seq ?_
  refine Sc.region ?_
  refine Seg.y rfl rfl (Want.none rfl) (Y.loadN (vs := [.bool m.ins, .bool m.nl, .bool m.ck, .bool m.inv, .bool m.org, .bool m.aut, .bool m.vis, .bool m.paste, .bool m.focus, .bool m.sync, .bool m.keypad, .int .i64 m.mouse, .bool m.sgr]) 0 rfl rfl rfl rfl ag23 sz23) ?_
  refine Seg.y rfl rfl (Want.none rfl) (Y.move rfl) ?_
  refine Seg.y rfl rfl (Want.none rfl) (Y.move rfl) ?_
  refine Seg.y rfl rfl (Want.none rfl) (Y.move rfl) ?_
  obtain ⟨r2, hr2⟩ : ∃ x, x = stateS m dec n alt := ⟨_, rfl⟩
  refine Seg.callV (v := .tuple (List.toArray [.int .i64 r2.1, .int .i64 r2.2])) rfl rfl (Want.none rfl) (K.func rfl co19) (fun w hs => by rw [hr2]; exact state_c m dec n alt w ) ?_
  refine Seg.y rfl rfl (Want.none rfl) (Y.move rfl) ?_
  refine Seg.y rfl rfl (Want.none rfl) (Y.extract rfl rfl) ?_
  refine Seg.y rfl rfl (Want.none rfl) (Y.extract rfl rfl) ?_
  refine Seg.y rfl rfl (Want.none rfl) (Y.assign rfl) ?_
  refine Seg.y rfl rfl (Want.none rfl) (Y.assign rfl) ?_
  refine Seg.nil ?_
  refine Sx.next ?_
  refine Sc.seq ?_
  refine Sc.seq ?_
  refine Sc.region ?_
  refine Seg.y rfl rfl (Want.none rfl) (Y.move rfl) ?_
  refine Seg.y rfl rfl (Want.none rfl) (Y.binOp rfl rfl (B.ne _ _ _)) ?_
  refine Seg.nil ?_
  refine Sx.next ?_
  refine Sc.cond rfl (fun h3 => ?_) (fun h3 => ?_)
  · skip
    have h3p := of_decide_eq_true h3
    refine Sc.seq ?_
    refine Sc.region ?_
    refine Seg.y rfl rfl (Want.none rfl) (Y.assign rfl) ?_
    refine Seg.nil ?_
    refine Sx.next ?_
    refine Sc.ret ?_
    refine Sx.next_ret ?_
    refine Sx.body (.inl rfl) (res1 rfl (Rv.tmp rfl)) (fun w hs => ?_)
    refine RetV.eq ?_ hs
    subst hr2
    grind [lstate]
  · skip
    have h3p : r2.2 = 0 := by simpa using h3
    refine Sc.skip ?_
    refine Sx.next ?_
    refine Sc.seq ?_
    refine Sc.region ?_
    refine Seg.y rfl rfl (Want.none rfl) (Y.move rfl) ?_
    refine Seg.y rfl rfl (Want.none rfl) (Y.assign rfl) ?_
    refine Seg.nil ?_
    refine Sx.next ?_
    refine Sc.ret ?_
    refine Sx.body (.inl rfl) (res1 rfl (Rv.tmp rfl)) (fun w hs => ?_)
    refine RetV.eq ?_ hs
    subst hr2
    grind [lstate]
end Go.Proofs.Ythmigjicibhheaa
