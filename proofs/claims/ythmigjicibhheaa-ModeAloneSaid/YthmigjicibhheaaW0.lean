/- What the functions of the program and of the reference come to: one theorem a function (part 0). -/
import Derived.Test.YthmigjicibhheaaTypes
namespace Go.Proofs.Ythmigjicibhheaa
open Go Go.RowKit Go.Eng
set_option maxRecDepth 100000
set_option linter.unusedVariables false
set_option linter.unusedSimpArgs false
set_option maxHeartbeats 4000000 in
theorem told_c (b : Bool) (w : World)  :
    Calls Try.prog 32 #[.bool b] w (RetV w (.int .i64 (toldS b))) := by
  refine enter (F := fun w => True) [] Try.func32 rfl Try.ntmps32 (by simp) Fut.triv rfl ?_
  refine Sc.seq ?_
  refine Sc.region ?_
  refine Seg.y rfl rfl (Want.none rfl) (Y.assign rfl) ?_
  refine Seg.nil ?_
  refine Sx.next ?_
  refine Sc.seq ?_
  refine Sc.seq ?_
  refine Sc.region ?_
  refine Seg.y rfl rfl (Want.none rfl) (Y.move rfl) ?_
  refine Seg.nil ?_
  refine Sx.next ?_
  refine Sc.cond rfl (fun h1 => ?_) (fun h1 => ?_)
  · skip
    refine Sc.seq ?_
    refine Sc.region ?_
    refine Seg.y rfl rfl (Want.none rfl) (Y.assign rfl) ?_
    refine Seg.nil ?_
    refine Sx.next ?_
    refine Sc.ret ?_
    refine Sx.next_ret ?_
    refine Sx.body (.inl rfl) (res1 rfl (Rv.tmp rfl)) (fun w hs => ?_)
    refine RetV.eq ?_ hs
    simp [toldS, h1]
  · skip
    refine Sc.skip ?_
    refine Sx.next ?_
    refine Sc.seq ?_
    refine Sc.region ?_
    refine Seg.y rfl rfl (Want.none rfl) (Y.assign rfl) ?_
    refine Seg.nil ?_
    refine Sx.next ?_
    refine Sc.ret ?_
    refine Sx.body (.inl rfl) (res1 rfl (Rv.tmp rfl)) (fun w hs => ?_)
    refine RetV.eq ?_ hs
    simp [toldS, h1]

set_option maxHeartbeats 4000000 in
theorem mouse_c (n : Int) (w : World)  :
    Calls Try.prog 31 #[.int .i64 n] w (RetV w (.bool (mouseS n))) := by
  refine enter (F := fun w => True) [] Try.func31 rfl Try.ntmps31 (by simp) Fut.triv rfl ?_
  refine Sc.seq ?_
  refine Sc.region ?_
  refine Seg.y rfl rfl (Want.none rfl) (Y.assign rfl) ?_
  refine Seg.nil ?_
  refine Sx.next ?_
  refine Sc.seq ?_
  refine Sc.cut (fun (_ : Unit) => True) (fun (_ : Unit) => [(2, .bool ((((decide (n = 9)) || (decide (n = 1000))) || (decide (n = 1002))) || (decide (n = 1003))))]) (fun (_ : Unit) => []) (fun _ => fun w => True) ?_ ?_
  · skip
    refine Sc.region ?_
    refine Seg.y rfl rfl (Want.none rfl) (Y.move rfl) ?_
    refine Seg.y rfl rfl (Want.none rfl) (Y.binOp rfl rfl (B.eq _ _ _)) ?_
    refine Seg.y rfl rfl (Want.none rfl) (Y.move rfl) ?_
    rcases Bool.eq_false_or_eq_true (decide (n = 9)) with g1 | g1
    · skip
      have g1p := of_decide_eq_true g1
      refine Seg.skip rfl rfl (Skip.some 2 5 false rfl rfl rfl g1) ?_
      refine Seg.skip rfl rfl (Skip.some 2 5 false rfl rfl rfl g1) ?_
      refine Seg.y rfl rfl (Want.none rfl) (Y.pickT rfl g1 rfl) ?_
      refine Seg.y rfl rfl (Want.none rfl) (Y.move rfl) ?_
      refine Seg.skip rfl rfl (Skip.some 6 9 false rfl rfl rfl rfl) ?_
      refine Seg.skip rfl rfl (Skip.some 6 9 false rfl rfl rfl rfl) ?_
      refine Seg.y rfl rfl (Want.none rfl) (Y.pickT rfl rfl rfl) ?_
      refine Seg.y rfl rfl (Want.none rfl) (Y.move rfl) ?_
      refine Seg.skip rfl rfl (Skip.some 10 13 false rfl rfl rfl rfl) ?_
      refine Seg.skip rfl rfl (Skip.some 10 13 false rfl rfl rfl rfl) ?_
      refine Seg.y rfl rfl (Want.none rfl) (Y.pickT rfl rfl rfl) ?_
      refine Seg.y rfl rfl (Want.none rfl) (Y.assign rfl) ?_
      refine Seg.nil ?_
      exact Sx.cut () trivial ⟨(someB (by first | (simp [g1, g1p]; done) | (simp_all; done) | ((simp [g1, g1p]) <;> grind))), trivial⟩ [] (by decide) rfl (fun _ h => h)
    · skip
      have g1p := of_decide_eq_false g1
      refine Seg.y rfl rfl (Want.some 2 5 false rfl rfl rfl g1) (Y.move rfl) ?_
      refine Seg.y rfl rfl (Want.some 2 5 false rfl rfl rfl g1) (Y.binOp rfl rfl (B.eq _ _ _)) ?_
      refine Seg.y rfl rfl (Want.none rfl) (Y.pickF rfl g1 rfl) ?_
      refine Seg.y rfl rfl (Want.none rfl) (Y.move rfl) ?_
      rcases Bool.eq_false_or_eq_true (decide (n = 1000)) with g2 | g2
      · skip
        have g2p := of_decide_eq_true g2
        refine Seg.skip rfl rfl (Skip.some 6 9 false rfl rfl rfl g2) ?_
        refine Seg.skip rfl rfl (Skip.some 6 9 false rfl rfl rfl g2) ?_
        refine Seg.y rfl rfl (Want.none rfl) (Y.pickT rfl g2 rfl) ?_
        refine Seg.y rfl rfl (Want.none rfl) (Y.move rfl) ?_
        refine Seg.skip rfl rfl (Skip.some 10 13 false rfl rfl rfl rfl) ?_
        refine Seg.skip rfl rfl (Skip.some 10 13 false rfl rfl rfl rfl) ?_
        refine Seg.y rfl rfl (Want.none rfl) (Y.pickT rfl rfl rfl) ?_
        refine Seg.y rfl rfl (Want.none rfl) (Y.assign rfl) ?_
        refine Seg.nil ?_
        exact Sx.cut () trivial ⟨(someB (by first | (simp [g1, g1p, g2, g2p]; done) | (simp_all; done) | ((simp [g1, g1p, g2, g2p]) <;> grind))), trivial⟩ [] (by decide) rfl (fun _ h => h)
      · skip
        have g2p := of_decide_eq_false g2
        refine Seg.y rfl rfl (Want.some 6 9 false rfl rfl rfl g2) (Y.move rfl) ?_
        refine Seg.y rfl rfl (Want.some 6 9 false rfl rfl rfl g2) (Y.binOp rfl rfl (B.eq _ _ _)) ?_
        refine Seg.y rfl rfl (Want.none rfl) (Y.pickF rfl g2 rfl) ?_
        refine Seg.y rfl rfl (Want.none rfl) (Y.move rfl) ?_
        rcases Bool.eq_false_or_eq_true (decide (n = 1002)) with g3 | g3
        · skip
          have g3p := of_decide_eq_true g3
          refine Seg.skip rfl rfl (Skip.some 10 13 false rfl rfl rfl g3) ?_
          refine Seg.skip rfl rfl (Skip.some 10 13 false rfl rfl rfl g3) ?_
          refine Seg.y rfl rfl (Want.none rfl) (Y.pickT rfl g3 rfl) ?_
          refine Seg.y rfl rfl (Want.none rfl) (Y.assign rfl) ?_
          refine Seg.nil ?_
          exact Sx.cut () trivial ⟨(someB (by first | (simp [g1, g1p, g2, g2p, g3, g3p]; done) | (simp_all; done) | ((simp [g1, g1p, g2, g2p, g3, g3p]) <;> grind))), trivial⟩ [] (by decide) rfl (fun _ h => h)
        · skip
          have g3p := of_decide_eq_false g3
          refine Seg.y rfl rfl (Want.some 10 13 false rfl rfl rfl g3) (Y.move rfl) ?_
          refine Seg.y rfl rfl (Want.some 10 13 false rfl rfl rfl g3) (Y.binOp rfl rfl (B.eq _ _ _)) ?_
          refine Seg.y rfl rfl (Want.none rfl) (Y.pickF rfl g3 rfl) ?_
          refine Seg.y rfl rfl (Want.none rfl) (Y.assign rfl) ?_
          refine Seg.nil ?_
          exact Sx.cut () trivial ⟨(someB (by first | (simp [g1, g1p, g2, g2p, g3, g3p]; done) | (simp_all; done) | ((simp [g1, g1p, g2, g2p, g3, g3p]) <;> grind))), trivial⟩ [] (by decide) rfl (fun _ h => h)
  · intro _ _
    show Sx _ _ _ [(2, .bool ((((decide (n = 9)) || (decide (n = 1000))) || (decide (n = 1002))) || (decide (n = 1003))))] [] _
    refine Sx.next ?_
    refine Sc.ret ?_
    refine Sx.body (.inl rfl) (res1 rfl (Rv.tmp rfl)) (fun w hs => ?_)
    refine RetV.eq ?_ hs
    simp [mouseS]

set_option maxHeartbeats 4000000 in
theorem right_c (m : Md) (w : World)  :
    Calls Try.prog 15 #[.agg (List.toArray [.bool m.ins, .bool m.nl, .bool m.ck, .bool m.inv, .bool m.org, .bool m.aut, .bool m.vis, .bool m.paste, .bool m.focus, .bool m.sync, .bool m.keypad, .int .i64 m.mouse, .bool m.sgr])] w (RetV w (.bool (rightS m))) := by
  refine enter (F := fun w => True) [] Try.func15 rfl Try.ntmps15 (by simp) Fut.triv rfl ?_
  refine Sc.seq ?_
  refine Sc.region ?_
  refine Seg.chg rfl rfl (Want.none rfl) (C.box rfl) (fun b1 hb1 => ?_)
  refine Seg.y rfl rfl (Want.none rfl) (Y.assign rfl) ?_
  refine Seg.nil ?_
  refine Sx.next ?_
  refine Sc.seq ?_
  obtain ⟨r2, hr2⟩ : ∃ x, x = mouseS m.mouse := ⟨_, rfl⟩
  refine Sc.cut (fun (_ : Unit) => True) (fun (_ : Unit) => [(2, .bool ((decide (m.mouse = 0)) || r2))]) (fun (_ : Unit) => []) (fun _ => fun w => True) ?_ ?_
  · skip
    refine Sc.region ?_
    refine Seg.y rfl rfl (Want.none rfl) (Y.fieldAddr rfl (A.field Try.underlying23 rfl sz3 rfl rfl)) ?_
    refine Seg.y rfl rfl (Want.none rfl) (Y.load1 0 rfl rfl rfl ag3) ?_
    refine Seg.y rfl rfl (Want.none rfl) (Y.binOp rfl rfl (B.eq _ _ _)) ?_
    refine Seg.y rfl rfl (Want.none rfl) (Y.move rfl) ?_
    rcases Bool.eq_false_or_eq_true (decide (m.mouse = 0)) with g3 | g3
    · skip
      have g3p := of_decide_eq_true g3
      refine Seg.skip rfl rfl (Skip.some 3 6 false rfl rfl rfl g3) ?_
      refine Seg.skip rfl rfl (Skip.some 3 6 false rfl rfl rfl g3) ?_
      refine Seg.skip rfl rfl (Skip.some 3 6 false rfl rfl rfl g3) ?_
      refine Seg.y rfl rfl (Want.none rfl) (Y.pickT rfl g3 rfl) ?_
      refine Seg.y rfl rfl (Want.none rfl) (Y.assign rfl) ?_
      refine Seg.nil ?_
      exact Sx.cut () trivial ⟨(someB (by first | (simp [g3, g3p]; done) | (simp_all; done) | ((simp [g3, g3p]) <;> grind))), trivial⟩ [] (by decide) rfl (fun _ h => h)
    · skip
      have g3p := of_decide_eq_false g3
      refine Seg.y rfl rfl (Want.some 3 6 false rfl rfl rfl g3) (Y.fieldAddr rfl (A.field Try.underlying23 rfl sz3 rfl rfl)) ?_
      refine Seg.y rfl rfl (Want.some 3 6 false rfl rfl rfl g3) (Y.load1 0 rfl rfl rfl ag3) ?_
      refine Seg.callV (v := .bool r2) rfl rfl (Want.some 3 6 false rfl rfl rfl g3) (K.func rfl co31) (fun w hs => by rw [hr2]; exact mouse_c m.mouse w ) ?_
      refine Seg.y rfl rfl (Want.none rfl) (Y.pickF rfl g3 rfl) ?_
      refine Seg.y rfl rfl (Want.none rfl) (Y.assign rfl) ?_
      refine Seg.nil ?_
      exact Sx.cut () trivial ⟨(someB (by first | (simp [g3, g3p]; done) | (simp_all; done) | ((simp [g3, g3p]) <;> grind))), trivial⟩ [] (by decide) rfl (fun _ h => h)
  · intro _ _
    show Sx _ _ _ [(2, .bool ((decide (m.mouse = 0)) || r2))] [] _
    refine Sx.next ?_
    refine Sc.ret ?_
    refine Sx.body (.inl rfl) (res1 rfl (Rv.tmp rfl)) (fun w hs => ?_)
    refine RetV.eq ?_ hs
    subst hr2
    simp [rightS]

set_option maxHeartbeats 4000000 in
theorem rcheck_c (m : Md) (w : World)  :
    Calls Try.prog 12 #[.agg (List.toArray [.bool m.ins, .bool m.nl, .bool m.ck, .bool m.inv, .bool m.org, .bool m.aut, .bool m.vis, .bool m.paste, .bool m.focus, .bool m.sync, .bool m.keypad, .int .i64 m.mouse, .bool m.sgr])] w (RetV w (.int .i64 (checkS m))) := by
  refine enter (F := fun w => True) [] Try.func12 rfl Try.ntmps12 (by simp) Fut.triv rfl ?_
  refine Sc.seq ?_
  refine Sc.region ?_
  refine Seg.chg rfl rfl (Want.none rfl) (C.box rfl) (fun b1 hb1 => ?_)
  refine Seg.y rfl rfl (Want.none rfl) (Y.assign rfl) ?_
  refine Seg.nil ?_
  refine Sx.next ?_
  refine Sc.seq ?_
  refine Sc.seq ?_
  refine Sc.region ?_
  refine Seg.y rfl rfl (Want.none rfl) (Y.loadN (vs := [.bool m.ins, .bool m.nl, .bool m.ck, .bool m.inv, .bool m.org, .bool m.aut, .bool m.vis, .bool m.paste, .bool m.focus, .bool m.sync, .bool m.keypad, .int .i64 m.mouse, .bool m.sgr]) 0 rfl rfl rfl rfl ag23 sz23) ?_
  obtain ⟨r2, hr2⟩ : ∃ x, x = rightS m := ⟨_, rfl⟩
  refine Seg.callV (v := .bool r2) rfl rfl (Want.none rfl) (K.func rfl co15) (fun w hs => by rw [hr2]; exact right_c m w ) ?_
  refine Seg.nil ?_
  refine Sx.next ?_
  refine Sc.cond rfl (fun h3 => ?_) (fun h3 => ?_)
  · skip
    refine Sc.seq ?_
    refine Sc.region ?_
    refine Seg.y rfl rfl (Want.none rfl) (Y.assign rfl) ?_
    refine Seg.nil ?_
    refine Sx.next ?_
    refine Sc.ret ?_
    refine Sx.next_ret ?_
    refine Sx.body (.inl rfl) (res1 rfl (Rv.tmp rfl)) (fun w hs => ?_)
    refine RetV.eq ?_ hs
    subst hr2
    simp [checkS, h3]
  · skip
    refine Sc.skip ?_
    refine Sx.next ?_
    refine Sc.seq ?_
    refine Sc.region ?_
    refine Seg.y rfl rfl (Want.none rfl) (Y.assign rfl) ?_
    refine Seg.nil ?_
    refine Sx.next ?_
    refine Sc.ret ?_
    refine Sx.body (.inl rfl) (res1 rfl (Rv.tmp rfl)) (fun w hs => ?_)
    refine RetV.eq ?_ hs
    subst hr2
    simp [checkS, h3]

set_option maxHeartbeats 4000000 in
theorem rnew_c (w : World)  :
    Calls Try.prog 18 #[] w (RetV w (.agg (List.toArray [.bool newS.ins, .bool newS.nl, .bool newS.ck, .bool newS.inv, .bool newS.org, .bool newS.aut, .bool newS.vis, .bool newS.paste, .bool newS.focus, .bool newS.sync, .bool newS.keypad, .int .i64 newS.mouse, .bool newS.sgr]))) := by
  refine enter (F := fun w => True) [] Try.func18 rfl Try.ntmps18 (by simp) Fut.triv rfl ?_
  refine Sc.seq ?_
  refine Sc.region ?_
  refine Seg.chg rfl rfl (Want.none rfl) (C.alloc zv23 rfl) (fun b1 hb1 => ?_)
  refine Seg.nil ?_
  refine Sx.next ?_
  refine Sc.seq ?_
  refine Sc.region ?_
  refine Seg.y rfl rfl (Want.none rfl) (Y.build (v := .agg (List.toArray [.bool false, .bool false, .bool false, .bool false, .bool false, .bool true, .bool true, .bool false, .bool false, .bool false, .bool false, .int .i64 0, .bool false])) rfl (fun w => by kernel_rfl)) ?_
  refine Seg.chs rfl (Want.none rfl) (C.store (cs' := [.bool false, .bool false, .bool false, .bool false, .bool false, .bool true, .bool true, .bool false, .bool false, .bool false, .bool false, .int .i64 0, .bool false]) (vs := [.bool false, .bool false, .bool false, .bool false, .bool false, .bool true, .bool true, .bool false, .bool false, .bool false, .bool false, .int .i64 0, .bool false]) 0 rfl rfl rfl rfl rfl rfl rfl sz23) (fun _ _ => ?_)
  refine Seg.nil ?_
  refine Sx.next ?_
  refine Sc.ret ?_
  refine Sx.body (.inl rfl) (res1 rfl (Rv.cell (vs := [.bool false, .bool false, .bool false, .bool false, .bool false, .bool true, .bool true, .bool false, .bool false, .bool false, .bool false, .int .i64 0, .bool false]) 0 rfl rfl rfl rfl ag23 sz23)) (fun w hs => ?_)
  refine RetV.eq ?_ hs
  rfl

set_option maxHeartbeats 4000000 in
theorem new_c (w : World)  :
    Calls Try.prog 17 #[] w (RetV w (.agg (List.toArray [.bool newS.ins, .bool newS.nl, .bool newS.ck, .bool newS.inv, .bool newS.org, .bool newS.aut, .bool newS.vis, .bool newS.paste, .bool newS.focus, .bool newS.sync, .bool newS.keypad, .int .i64 newS.mouse, .bool newS.sgr]))) := by
  refine enter (F := fun w => True) [] Try.func17 rfl Try.ntmps17 (by simp) Fut.triv rfl ?_
  refine Sc.seq ?_
  refine Sc.region ?_
  refine Seg.chg rfl rfl (Want.none rfl) (C.alloc zv23 rfl) (fun b1 hb1 => ?_)
  refine Seg.nil ?_
  refine Sx.next ?_
  refine Sc.seq ?_
  refine Sc.region ?_
  refine Seg.y rfl rfl (Want.none rfl) (Y.build (v := .agg (List.toArray [.bool false, .bool false, .bool false, .bool false, .bool false, .bool true, .bool true, .bool false, .bool false, .bool false, .bool false, .int .i64 0, .bool false])) rfl (fun w => by kernel_rfl)) ?_
  refine Seg.chs rfl (Want.none rfl) (C.store (cs' := [.bool false, .bool false, .bool false, .bool false, .bool false, .bool true, .bool true, .bool false, .bool false, .bool false, .bool false, .int .i64 0, .bool false]) (vs := [.bool false, .bool false, .bool false, .bool false, .bool false, .bool true, .bool true, .bool false, .bool false, .bool false, .bool false, .int .i64 0, .bool false]) 0 rfl rfl rfl rfl rfl rfl rfl sz23) (fun _ _ => ?_)
  refine Seg.nil ?_
  refine Sx.next ?_
  refine Sc.ret ?_
  refine Sx.body (.inl rfl) (res1 rfl (Rv.cell (vs := [.bool false, .bool false, .bool false, .bool false, .bool false, .bool true, .bool true, .bool false, .bool false, .bool false, .bool false, .int .i64 0, .bool false]) 0 rfl rfl rfl rfl ag23 sz23)) (fun w hs => ?_)
  refine RetV.eq ?_ hs
  rfl

set_option maxHeartbeats 4000000 in
theorem mice_c (Dc : List Nat) (w : World) (hD : ∀ k ∈ Dc, k < w.heap.size)  :
    Calls Try.prog 29 #[] w (Ret Dc [] w (fun (y0 : Nat) => .slice (some ⟨y0, 0, none⟩) 4 4) (fun (y0 : Nat) => fun w => w.heap[y0]? = some (.cells (List.toArray [.int .i64 9, .int .i64 1000, .int .i64 1002, .int .i64 1003]) 3 (0, 0)))) := by
  refine enter (F := fun w => True) Dc Try.func29 rfl Try.ntmps29 hD Fut.triv rfl ?_
  refine Sc.seq ?_
  refine Sc.region ?_
  refine Seg.y rfl rfl (Want.none rfl) (Y.assign rfl) ?_
  refine Seg.nil ?_
  refine Sx.next ?_
  refine Sc.seq ?_
  refine Sc.region ?_
  refine Seg.chg rfl rfl (Want.none rfl) (C.buildSlice (e := 3) (cs := [.int .i64 9, .int .i64 1000, .int .i64 1002, .int .i64 1003]) rfl (fun w => by kernel_rfl)) (fun b1 hb1 => ?_)
  refine Seg.freeze 0 rfl hb1 ?_
  refine Seg.y rfl rfl (Want.none rfl) (Y.assign rfl) ?_
  refine Seg.nil ?_
  refine Sx.next ?_
  refine Sc.ret ?_
  refine Sx.body (.inl rfl) (res1 rfl (Rv.tmp rfl)) (fun w hs => ?_)
  exact Ret.eq b1 rfl hs (fun w h _ => h.2)

set_option maxHeartbeats 4000000 in
theorem index_c (sa : Option Addr) (sm : Nat) (s : List Int) (v : Int) (Dc : List Nat) (w : World) (hD : ∀ k ∈ Dc, k < w.heap.size) (hF : Fut Dc w (fun w => RowV 1 encI sa s w)) (hls : s.length ≤ 4611686018427387904)  :
    Calls Try.prog 34 #[.slice sa s.length sm, .int .i64 v] w (RetV w (.int .i64 (idxFrom s v 0))) := by
  refine enter (F := fun w => RowV 1 encI sa s w) Dc Try.func34 rfl Try.ntmps34 hD hF rfl ?_
  refine Sc.seq ?_
  refine Sc.region ?_
  refine Seg.y rfl rfl (Want.none rfl) (Y.assign rfl) ?_
  refine Seg.nil ?_
  refine Sx.next ?_
  refine Sc.seq ?_
  refine Sc.seq ?_
  refine Sc.region ?_
  refine Seg.y rfl rfl (Want.none rfl) (Y.move rfl) ?_
  refine Seg.y rfl rfl (Want.none rfl) (Y.bi rfl (fun w _ => run_len rfl Try.underlying25 w)) ?_
  refine Seg.y rfl rfl (Want.none rfl) (Y.move rfl) ?_
  refine Seg.nil ?_
  refine Sx.next ?_
  refine Sc.block ?_
  refine Sc.loop (fun (k : Nat) => k ≤ s.length ∧ idxFrom s v 0 = idxFrom (s.drop k) v k) (fun (k : Nat) => s.length - k) (fun (k : Nat) => [(0, .slice sa s.length sm), (1, .int .i64 v), (7, .int .i64 (s.length : Int)), (8, .int .i64 (k : Int))]) (fun (k : Nat) => []) (fun (k : Nat) => fun w => RowV 1 encI sa s w) 0 ⟨Nat.zero_le _, rfl⟩ (by exact ⟨rfl, rfl, rfl, rfl, trivial⟩) [] (by decide) rfl (fun _ h => h) ?_
  rintro k hJ0
  obtain ⟨hk, hj⟩ := hJ0
  show Sc _ _ _ _ [(0, .slice sa s.length sm), (1, .int .i64 v), (7, .int .i64 (s.length : Int)), (8, .int .i64 (k : Int))] [] (fun w => RowV 1 encI sa s w)
  refine Sc.seq ?_
  refine Sc.region ?_
  refine Seg.y rfl rfl (Want.none rfl) (Y.binOp rfl rfl (B.lt _ _ _)) ?_
  refine Seg.nil ?_
  refine Sx.next ?_
  refine Sc.seq ?_
  refine Sc.cond rfl (fun h1 => ?_) (fun h1 => ?_)
  · skip
    have h1p := of_decide_eq_true h1
    refine Sc.skip ?_
    refine Sx.next ?_
    refine Sc.seq ?_
    refine Sc.block ?_
    refine Sc.seq ?_
    refine Sc.region ?_
    refine Seg.y rfl rfl (Want.none rfl) (Y.move rfl) ?_
    refine Seg.y rfl rfl (Want.none rfl) (Y.assign rfl) ?_
    refine Seg.nil ?_
    refine Sx.next ?_
    refine Sc.seq ?_
    refine Sc.region ?_
    refine Seg.y rfl rfl (Want.none rfl) (Y.move rfl) ?_
    refine Seg.y rfl rfl (Want.none rfl) (Y.move rfl) ?_
    refine Seg.y rfl rfl (Want.none rfl) (Y.move rfl) ?_
    refine Seg.y rfl rfl (Want.none rfl) (Y.elemAddr rfl rfl Try.underlying25 sz3 (fun w h => ((h) k _ (getD_some (0 : Int) (by omega))).1) (by omega) (by omega) (by simp : (sadr sa).off + ((k : Int)).toNat * 1 = (sadr sa).off + k * 1)) ?_
    refine Seg.y rfl rfl (Want.none rfl) (Y.loadF1 rfl ag3 (fun w h => ((h) k _ (getD_some (0 : Int) (by omega))).2 0 _ rfl)) ?_
    refine Seg.y rfl rfl (Want.none rfl) (Y.binOp rfl rfl (B.eq _ _ _)) ?_
    refine Seg.nil ?_
    refine Sx.next ?_
    refine Sc.cond rfl (fun h2 => ?_) (fun h2 => ?_)
    · skip
      have h2p := of_decide_eq_true h2
      refine Sc.seq ?_
      refine Sc.region ?_
      refine Seg.y rfl rfl (Want.none rfl) (Y.move rfl) ?_
      refine Seg.y rfl rfl (Want.none rfl) (Y.assign rfl) ?_
      refine Seg.nil ?_
      refine Sx.next ?_
      refine Sc.ret ?_
      refine Sx.block_ret ?_
      refine Sx.next_ret ?_
      refine Sx.loop_ret ?_
      refine Sx.block_ret ?_
      refine Sx.next_ret ?_
      refine Sx.body (.inl rfl) (res1 rfl (Rv.tmp rfl)) (fun w hs => ?_)
      refine RetV.eq ?_ hs
      first | rw [hj, idxFrom_hit s v k (by omega) (by assumption)] | rw [hj, idxFrom_end s v k (by omega)]
    · skip
      have h2p := of_decide_eq_false h2
      refine Sc.skip ?_
      refine Sx.block_normal ?_
      refine Sx.next ?_
      refine Sc.region ?_
      refine Seg.y rfl rfl (Want.none rfl) (Y.binOp rfl rfl (B.add _ _ _ ((k : Int) + 1) (wr_i64 (by omega)))) ?_
      refine Seg.y rfl rfl (Want.none rfl) (Y.move rfl) ?_
      refine Seg.nil ?_
      exact Sx.head (k + 1) ⟨by omega, by rw [hj, idxFrom_miss s v k (by omega) (by assumption)]⟩ (by first | omega | (dsimp only; omega)) ⟨rfl, rfl, rfl, rfl, trivial⟩ [] (by decide) rfl (fun _ h => h)
  · skip
    have h1p := of_decide_eq_false h1
    refine Sc.exit ?_
    refine Sx.next_exit ?_
    refine Sx.loop_exit ?_
    refine Sx.block_exit ?_
    refine Sx.next ?_
    refine Sc.seq ?_
    refine Sc.region ?_
    refine Seg.y rfl rfl (Want.none rfl) (Y.assign rfl) ?_
    refine Seg.nil ?_
    refine Sx.next ?_
    refine Sc.ret ?_
    refine Sx.body (.inl rfl) (res1 rfl (Rv.tmp rfl)) (fun w hs => ?_)
    refine RetV.eq ?_ hs
    first | rw [hj, idxFrom_hit s v k (by omega) (by assumption)] | rw [hj, idxFrom_end s v k (by omega)]

set_option maxHeartbeats 4000000 in
theorem contains_c (sa : Option Addr) (sm : Nat) (s : List Int) (v : Int) (Dc : List Nat) (w : World) (hD : ∀ k ∈ Dc, k < w.heap.size) (hF : Fut Dc w (fun w => RowV 1 encI sa s w)) (hls : s.length ≤ 4611686018427387904)  :
    Calls Try.prog 28 #[.slice sa s.length sm, .int .i64 v] w (RetV w (.bool (containsS s v))) := by
  refine enter (F := fun w => RowV 1 encI sa s w) Dc Try.func28 rfl Try.ntmps28 hD hF rfl ?_
  refine Sc.seq ?_
  refine Sc.region ?_
  refine Seg.y rfl rfl (Want.none rfl) (Y.assign rfl) ?_
  refine Seg.nil ?_
  refine Sx.next ?_
  refine Sc.seq ?_
  refine Sc.region ?_
  refine Seg.y rfl rfl (Want.none rfl) (Y.move rfl) ?_
  refine Seg.y rfl rfl (Want.none rfl) (Y.move rfl) ?_
  obtain ⟨r1, hr1⟩ : ∃ x, x = idxFrom s v 0 := ⟨_, rfl⟩
  refine Seg.callV (v := .int .i64 r1) rfl rfl (Want.none rfl) (K.func rfl co34) (fun w hs => by rw [hr1]; exact index_c sa sm s v _ w hs.dc_lt (hs.fut.mono fun w h => h) (by first | omega | (simp; done) | (simp; omega)) ) ?_
  refine Seg.y rfl rfl (Want.none rfl) (Y.binOp rfl rfl (B.ge _ _ _)) ?_
  refine Seg.y rfl rfl (Want.none rfl) (Y.assign rfl) ?_
  refine Seg.nil ?_
  refine Sx.next ?_
  refine Sc.ret ?_
  refine Sx.body (.inl rfl) (res1 rfl (Rv.tmp rfl)) (fun w hs => ?_)
  refine RetV.eq ?_ hs
  subst hr1
  rfl

set_option maxHeartbeats 4000000 in
theorem check_c (m : Md) (w : World)  :
    Calls Try.prog 11 #[.agg (List.toArray [.bool m.ins, .bool m.nl, .bool m.ck, .bool m.inv, .bool m.org, .bool m.aut, .bool m.vis, .bool m.paste, .bool m.focus, .bool m.sync, .bool m.keypad, .int .i64 m.mouse, .bool m.sgr])] w (RetV w (.int .i64 (checkS m))) := by
  refine enter (F := fun w => True) [] Try.func11 rfl Try.ntmps11 (by simp) Fut.triv rfl ?_
  refine Sc.seq ?_
  refine Sc.region ?_
  refine Seg.chg rfl rfl (Want.none rfl) (C.box rfl) (fun b1 hb1 => ?_)
  refine Seg.y rfl rfl (Want.none rfl) (Y.assign rfl) ?_
  refine Seg.nil ?_
  refine Sx.next ?_
  refine Sc.seq ?_
  refine Sc.seq ?_
  obtain ⟨r3, hr3⟩ : ∃ x, x = containsS [9, 1000, 1002, 1003] m.mouse := ⟨_, rfl⟩
  refine Sc.cut (fun (_ : Unit) => True) (fun (_ : Unit) => [(12, .bool ((decide (m.mouse ≠ 0)) && (!r3)))]) (fun (_ : Unit) => []) (fun _ => fun w => True) ?_ ?_
  · skip
    refine Sc.draw (by kernel_rfl) (fun _ h => St.lean [0] (by decide) (fun _ h => h) h rfl) ?_
    refine Sd.take 0 rfl rfl rfl (by kernel_rfl) (by kernel_rfl) (by kernel_rfl) Cut.panic (Want.none rfl) (Y.fieldAddr rfl (A.field Try.underlying23 rfl sz3 rfl rfl)) ?_
    refine Sd.take 1 rfl rfl rfl (by kernel_rfl) (by kernel_rfl) (by kernel_rfl) Cut.panic (Want.none rfl) (Y.load1 0 rfl rfl rfl ag3) ?_
    refine Sd.take 2 rfl rfl rfl (by kernel_rfl) (by kernel_rfl) (by kernel_rfl) Cut.panic (Want.none rfl) (Y.binOp rfl rfl (B.ne _ _ _)) ?_
    refine Sd.take 3 rfl rfl rfl (by kernel_rfl) (by kernel_rfl) (by kernel_rfl) Cut.panic (Want.none rfl) (Y.move rfl) ?_
    rcases Bool.eq_false_or_eq_true (decide (m.mouse ≠ 0)) with g4 | g4
    · skip
      have g4p := of_decide_eq_true g4
      refine Sd.take 5 rfl rfl rfl (by kernel_rfl) (by kernel_rfl) (by kernel_rfl) Cut.panic (Want.some 3 6 true rfl rfl rfl g4) (Y.fieldAddr rfl (A.field Try.underlying23 rfl sz3 rfl rfl)) ?_
      refine Sd.take 6 rfl rfl rfl (by kernel_rfl) (by kernel_rfl) (by kernel_rfl) Cut.panic (Want.some 3 6 true rfl rfl rfl g4) (Y.load1 0 rfl rfl rfl ag3) ?_
      refine Sd.all [4] (by kernel_rfl) (by decide) (all_cons ?_ all_nil)
      refine Sp.callR (val := fun (b5 : Nat) => .slice (some ⟨b5, 0, none⟩) 4 4) (Φ := fun (b5 : Nat) => fun w => w.heap[b5]? = some (.cells (List.toArray [.int .i64 9, .int .i64 1000, .int .i64 1002, .int .i64 1003]) 3 (0, 0))) rfl rfl rfl (Want.some 3 6 true rfl rfl rfl g4) (K.func rfl co29) (fun w hs => mice_c  _ w hs.dc_lt   ) (fun b5 => ?_)
      refine Sd.all [7] (by kernel_rfl) (by decide) (all_cons ?_ all_nil)
      refine Sp.callV (v := .bool r3) rfl rfl rfl (Want.some 3 6 true rfl rfl rfl g4) (K.func rfl co28) (fun w hs => by rw [hr3]; exact contains_c (some ⟨b5, 0, none⟩) 4 [9, 1000, 1002, 1003] m.mouse _ w hs.dc_lt (hs.fut.mono fun w h => (RowV.block (fun _ => rfl) (h.2) [] rfl)) (by first | omega | (simp; done) | (simp; omega)) ) ?_
      refine Sd.take 8 rfl rfl rfl (by kernel_rfl) (by kernel_rfl) (by kernel_rfl) Cut.panic (Want.some 3 6 true rfl rfl rfl g4) (Y.unOp rfl (U.not _)) ?_
      refine Sd.take 9 rfl rfl rfl (by kernel_rfl) (by kernel_rfl) (by kernel_rfl) Cut.panic (Want.none rfl) (Y.pickT rfl g4 rfl) ?_
      refine Sd.done (by kernel_rfl) ?_
      exact Sx.cut () trivial ⟨(someB (by first | (simp [g4, g4p]; done) | (simp_all; done) | ((simp [g4, g4p]) <;> grind))), trivial⟩ [] (by decide) rfl (fun _ h => h.1)
    · skip
      have g4p : m.mouse = 0 := by simpa using g4
      refine Sd.takeSkip 4 rfl rfl rfl (by kernel_rfl) (by kernel_rfl) (by kernel_rfl) Cut.panic (Skip.some 3 6 true rfl rfl rfl g4) ?_
      refine Sd.takeSkip 5 rfl rfl rfl (by kernel_rfl) (by kernel_rfl) (by kernel_rfl) Cut.panic (Skip.some 3 6 true rfl rfl rfl g4) ?_
      refine Sd.takeSkip 6 rfl rfl rfl (by kernel_rfl) (by kernel_rfl) (by kernel_rfl) Cut.panic (Skip.some 3 6 true rfl rfl rfl g4) ?_
      refine Sd.takeSkip 7 rfl rfl rfl (by kernel_rfl) (by kernel_rfl) (by kernel_rfl) Cut.panic (Skip.some 3 6 true rfl rfl rfl g4) ?_
      refine Sd.takeSkip 8 rfl rfl rfl (by kernel_rfl) (by kernel_rfl) (by kernel_rfl) Cut.panic (Skip.some 3 6 true rfl rfl rfl g4) ?_
      refine Sd.take 9 rfl rfl rfl (by kernel_rfl) (by kernel_rfl) (by kernel_rfl) Cut.panic (Want.none rfl) (Y.pickF rfl g4 rfl) ?_
      refine Sd.done (by kernel_rfl) ?_
      exact Sx.cut () trivial ⟨(someB (by first | (simp [g4, g4p]; done) | (simp_all; done) | ((simp [g4, g4p]) <;> grind))), trivial⟩ [] (by decide) rfl (fun _ h => h)
  · intro _ _
    show Sx _ _ _ [(12, .bool ((decide (m.mouse ≠ 0)) && (!r3)))] [] _
    refine Sx.next ?_
    refine Sc.cond rfl (fun h6 => ?_) (fun h6 => ?_)
    · skip
      refine Sc.seq ?_
      refine Sc.region ?_
      refine Seg.y rfl rfl (Want.none rfl) (Y.assign rfl) ?_
      refine Seg.nil ?_
      refine Sx.next ?_
      refine Sc.ret ?_
      refine Sx.next_ret ?_
      refine Sx.body (.inl rfl) (res1 rfl (Rv.tmp rfl)) (fun w hs => ?_)
      refine RetV.eq ?_ hs
      subst hr3
      first | exact congrArg (Value.int .i64) (check_bad m (by assumption)).symm | exact congrArg (Value.int .i64) (check_ok m (by assumption)).symm
    · skip
      refine Sc.skip ?_
      refine Sx.next ?_
      refine Sc.seq ?_
      refine Sc.region ?_
      refine Seg.y rfl rfl (Want.none rfl) (Y.assign rfl) ?_
      refine Seg.nil ?_
      refine Sx.next ?_
      refine Sc.ret ?_
      refine Sx.body (.inl rfl) (res1 rfl (Rv.tmp rfl)) (fun w hs => ?_)
      refine RetV.eq ?_ hs
      subst hr3
      first | exact congrArg (Value.int .i64) (check_bad m (by assumption)).symm | exact congrArg (Value.int .i64) (check_ok m (by assumption)).symm

set_option maxHeartbeats 4000000 in
theorem rput_c (m : Md) (dec : Bool) (n : Int) (on : Bool) (w : World)  :
    Calls Try.prog 14 #[.agg (List.toArray [.bool m.ins, .bool m.nl, .bool m.ck, .bool m.inv, .bool m.org, .bool m.aut, .bool m.vis, .bool m.paste, .bool m.focus, .bool m.sync, .bool m.keypad, .int .i64 m.mouse, .bool m.sgr]), .bool dec, .int .i64 n, .bool on] w (RetV w (.tuple (List.toArray [.agg (List.toArray [.bool (((rputS m dec n on).1).ins), .bool (((rputS m dec n on).1).nl), .bool (((rputS m dec n on).1).ck), .bool (((rputS m dec n on).1).inv), .bool (((rputS m dec n on).1).org), .bool (((rputS m dec n on).1).aut), .bool (((rputS m dec n on).1).vis), .bool (((rputS m dec n on).1).paste), .bool (((rputS m dec n on).1).focus), .bool (((rputS m dec n on).1).sync), .bool (((rputS m dec n on).1).keypad), .int .i64 (((rputS m dec n on).1).mouse), .bool (((rputS m dec n on).1).sgr)]), .bool ((rputS m dec n on).2)]))) := by
  obtain ⟨r0, hsp⟩ : ∃ r, r = rputS m dec n on := ⟨_, rfl⟩
  rw [← hsp]
  refine enter (F := fun w => True) [] Try.func14 rfl Try.ntmps14 (by simp) Fut.triv rfl ?_
  refine Sc.seq ?_
  refine Sc.region ?_
  refine Seg.chg rfl rfl (Want.none rfl) (C.box rfl) (fun b1 hb1 => ?_)
  refine Seg.chg rfl rfl (Want.none rfl) (C.alloc zv23 rfl) (fun b2 hb2 => ?_)
  refine Seg.y rfl rfl (Want.none rfl) (Y.assign rfl) ?_
  refine Seg.nil ?_
  refine Sx.next ?_
  refine Sc.seq ?_
  refine Sc.seq ?_
  refine Sc.region ?_
  refine Seg.y rfl rfl (Want.none rfl) (Y.move rfl) ?_
  refine Seg.y rfl rfl (Want.none rfl) (Y.unOp rfl (U.not _)) ?_
  refine Seg.nil ?_
  refine Sx.next ?_
  refine Sc.cond rfl (fun h3 => ?_) (fun h3 => ?_)
  · skip
    have h3p : (dec) = false := by simpa using h3
    refine Sc.seq ?_
    refine Sc.seq ?_
    refine Sc.region ?_
    refine Seg.y rfl rfl (Want.none rfl) (Y.move rfl) ?_
    refine Seg.nil ?_
    refine Sx.next ?_
    refine Sc.block ?_
    refine Sc.seq ?_
    refine Sc.region ?_
    refine Seg.y rfl rfl (Want.none rfl) (Y.binOp rfl rfl (B.eq _ _ _)) ?_
    refine Seg.y rfl rfl (Want.none rfl) (Y.assign rfl) ?_
    refine Seg.nil ?_
    refine Sx.next ?_
    refine Sc.cond rfl (fun h4 => ?_) (fun h4 => ?_)
    · skip
      have h4p := of_decide_eq_true h4
      refine Sc.region ?_
      refine Seg.y rfl rfl (Want.none rfl) (Y.move rfl) ?_
      refine Seg.y rfl rfl (Want.none rfl) (Y.fieldAddr rfl (A.field Try.underlying23 rfl sz4 rfl rfl)) ?_
      refine Seg.chs rfl (Want.none rfl) (C.store (cs' := [.bool on, .bool m.nl, .bool m.ck, .bool m.inv, .bool m.org, .bool m.aut, .bool m.vis, .bool m.paste, .bool m.focus, .bool m.sync, .bool m.keypad, .int .i64 m.mouse, .bool m.sgr]) (vs := [.bool on]) 1 rfl rfl rfl rfl rfl rfl rfl sz4) (fun _ _ => ?_)
      refine Seg.nil ?_
      refine Sx.block_normal ?_
      refine Sx.next ?_
      refine Sc.seq ?_
      refine Sc.region ?_
      refine Seg.y rfl rfl (Want.none rfl) (Y.loadN (vs := [.bool on, .bool m.nl, .bool m.ck, .bool m.inv, .bool m.org, .bool m.aut, .bool m.vis, .bool m.paste, .bool m.focus, .bool m.sync, .bool m.keypad, .int .i64 m.mouse, .bool m.sgr]) 1 rfl rfl rfl rfl ag23 sz23) ?_
      refine Seg.chs rfl (Want.none rfl) (C.store (cs' := [.bool on, .bool m.nl, .bool m.ck, .bool m.inv, .bool m.org, .bool m.aut, .bool m.vis, .bool m.paste, .bool m.focus, .bool m.sync, .bool m.keypad, .int .i64 m.mouse, .bool m.sgr]) (vs := [.bool on, .bool m.nl, .bool m.ck, .bool m.inv, .bool m.org, .bool m.aut, .bool m.vis, .bool m.paste, .bool m.focus, .bool m.sync, .bool m.keypad, .int .i64 m.mouse, .bool m.sgr]) 0 rfl rfl rfl rfl rfl rfl rfl sz23) (fun _ _ => ?_)
      refine Seg.y rfl rfl (Want.none rfl) (Y.assign rfl) ?_
      refine Seg.nil ?_
      refine Sx.next ?_
      refine Sc.ret ?_
      refine Sx.next_ret ?_
      refine Sx.body (.inl rfl) (res2 rfl (Rv.cell (vs := [.bool on, .bool m.nl, .bool m.ck, .bool m.inv, .bool m.org, .bool m.aut, .bool m.vis, .bool m.paste, .bool m.focus, .bool m.sync, .bool m.keypad, .int .i64 m.mouse, .bool m.sgr]) 0 rfl rfl rfl rfl ag23 sz23) (Rv.tmp rfl)) (fun w hs => ?_)
      refine RetV.eq ?_ hs
      subst h4p
      simp [rputS, mouseS, h3, h3p, h4] at hsp
      subst hsp
      first | rfl | simp [h3, h3p, h4]
    · skip
      have h4p := of_decide_eq_false h4
      refine Sc.seq ?_
      refine Sc.region ?_
      refine Seg.y rfl rfl (Want.none rfl) (Y.binOp rfl rfl (B.eq _ _ _)) ?_
      refine Seg.y rfl rfl (Want.none rfl) (Y.assign rfl) ?_
      refine Seg.nil ?_
      refine Sx.next ?_
      refine Sc.cond rfl (fun h5 => ?_) (fun h5 => ?_)
      · skip
        have h5p := of_decide_eq_true h5
        refine Sc.region ?_
        refine Seg.y rfl rfl (Want.none rfl) (Y.move rfl) ?_
        refine Seg.y rfl rfl (Want.none rfl) (Y.fieldAddr rfl (A.field Try.underlying23 rfl sz4 rfl rfl)) ?_
        refine Seg.chs rfl (Want.none rfl) (C.store (cs' := [.bool m.ins, .bool on, .bool m.ck, .bool m.inv, .bool m.org, .bool m.aut, .bool m.vis, .bool m.paste, .bool m.focus, .bool m.sync, .bool m.keypad, .int .i64 m.mouse, .bool m.sgr]) (vs := [.bool on]) 1 rfl rfl rfl rfl rfl rfl rfl sz4) (fun _ _ => ?_)
        refine Seg.nil ?_
        refine Sx.block_normal ?_
        refine Sx.next ?_
        refine Sc.seq ?_
        refine Sc.region ?_
        refine Seg.y rfl rfl (Want.none rfl) (Y.loadN (vs := [.bool m.ins, .bool on, .bool m.ck, .bool m.inv, .bool m.org, .bool m.aut, .bool m.vis, .bool m.paste, .bool m.focus, .bool m.sync, .bool m.keypad, .int .i64 m.mouse, .bool m.sgr]) 1 rfl rfl rfl rfl ag23 sz23) ?_
        refine Seg.chs rfl (Want.none rfl) (C.store (cs' := [.bool m.ins, .bool on, .bool m.ck, .bool m.inv, .bool m.org, .bool m.aut, .bool m.vis, .bool m.paste, .bool m.focus, .bool m.sync, .bool m.keypad, .int .i64 m.mouse, .bool m.sgr]) (vs := [.bool m.ins, .bool on, .bool m.ck, .bool m.inv, .bool m.org, .bool m.aut, .bool m.vis, .bool m.paste, .bool m.focus, .bool m.sync, .bool m.keypad, .int .i64 m.mouse, .bool m.sgr]) 0 rfl rfl rfl rfl rfl rfl rfl sz23) (fun _ _ => ?_)
        refine Seg.y rfl rfl (Want.none rfl) (Y.assign rfl) ?_
        refine Seg.nil ?_
        refine Sx.next ?_
        refine Sc.ret ?_
        refine Sx.next_ret ?_
        refine Sx.body (.inl rfl) (res2 rfl (Rv.cell (vs := [.bool m.ins, .bool on, .bool m.ck, .bool m.inv, .bool m.org, .bool m.aut, .bool m.vis, .bool m.paste, .bool m.focus, .bool m.sync, .bool m.keypad, .int .i64 m.mouse, .bool m.sgr]) 0 rfl rfl rfl rfl ag23 sz23) (Rv.tmp rfl)) (fun w hs => ?_)
        refine RetV.eq ?_ hs
        subst h5p
        simp [rputS, mouseS, h3, h3p, h4, h4p, h5] at hsp
        subst hsp
        first | rfl | simp [h3, h3p, h4, h4p, h5]
      · skip
        have h5p := of_decide_eq_false h5
        refine Sc.seq ?_
        refine Sc.region ?_
        refine Seg.y rfl rfl (Want.none rfl) (Y.loadN (vs := [.bool m.ins, .bool m.nl, .bool m.ck, .bool m.inv, .bool m.org, .bool m.aut, .bool m.vis, .bool m.paste, .bool m.focus, .bool m.sync, .bool m.keypad, .int .i64 m.mouse, .bool m.sgr]) 1 rfl rfl rfl rfl ag23 sz23) ?_
        refine Seg.chs rfl (Want.none rfl) (C.store (cs' := [.bool m.ins, .bool m.nl, .bool m.ck, .bool m.inv, .bool m.org, .bool m.aut, .bool m.vis, .bool m.paste, .bool m.focus, .bool m.sync, .bool m.keypad, .int .i64 m.mouse, .bool m.sgr]) (vs := [.bool m.ins, .bool m.nl, .bool m.ck, .bool m.inv, .bool m.org, .bool m.aut, .bool m.vis, .bool m.paste, .bool m.focus, .bool m.sync, .bool m.keypad, .int .i64 m.mouse, .bool m.sgr]) 0 rfl rfl rfl rfl rfl rfl rfl sz23) (fun _ _ => ?_)
        refine Seg.y rfl rfl (Want.none rfl) (Y.assign rfl) ?_
        refine Seg.nil ?_
        refine Sx.next ?_
        refine Sc.ret ?_
        refine Sx.block_ret ?_
        refine Sx.next_ret ?_
        refine Sx.next_ret ?_
        refine Sx.body (.inl rfl) (res2 rfl (Rv.cell (vs := [.bool m.ins, .bool m.nl, .bool m.ck, .bool m.inv, .bool m.org, .bool m.aut, .bool m.vis, .bool m.paste, .bool m.focus, .bool m.sync, .bool m.keypad, .int .i64 m.mouse, .bool m.sgr]) 0 rfl rfl rfl rfl ag23 sz23) (Rv.tmp rfl)) (fun w hs => ?_)
        refine RetV.eq ?_ hs
        simp [rputS, mouseS, h3, h3p, h4, h4p, h5, h5p] at hsp
        subst hsp
        first | rfl | simp [h3, h3p, h4, h4p, h5, h5p]
  · skip
    have h3p : (dec) = true := by simpa using h3
    refine Sc.skip ?_
    refine Sx.next ?_
    refine Sc.seq ?_
    refine Sc.seq ?_
    refine Sc.region ?_
    refine Seg.y rfl rfl (Want.none rfl) (Y.move rfl) ?_
    refine Seg.nil ?_
    refine Sx.next ?_
    refine Sc.block ?_
    refine Sc.seq ?_
    refine Sc.region ?_
    refine Seg.y rfl rfl (Want.none rfl) (Y.binOp rfl rfl (B.eq _ _ _)) ?_
    refine Seg.y rfl rfl (Want.none rfl) (Y.assign rfl) ?_
    refine Seg.nil ?_
    refine Sx.next ?_
    refine Sc.cond rfl (fun h6 => ?_) (fun h6 => ?_)
    · skip
      have h6p := of_decide_eq_true h6
      refine Sc.region ?_
      refine Seg.y rfl rfl (Want.none rfl) (Y.move rfl) ?_
      refine Seg.y rfl rfl (Want.none rfl) (Y.fieldAddr rfl (A.field Try.underlying23 rfl sz4 rfl rfl)) ?_
      refine Seg.chs rfl (Want.none rfl) (C.store (cs' := [.bool m.ins, .bool m.nl, .bool on, .bool m.inv, .bool m.org, .bool m.aut, .bool m.vis, .bool m.paste, .bool m.focus, .bool m.sync, .bool m.keypad, .int .i64 m.mouse, .bool m.sgr]) (vs := [.bool on]) 1 rfl rfl rfl rfl rfl rfl rfl sz4) (fun _ _ => ?_)
      refine Seg.nil ?_
      refine Sx.block_normal ?_
      refine Sx.next ?_
      refine Sc.seq ?_
      refine Sc.region ?_
      refine Seg.y rfl rfl (Want.none rfl) (Y.loadN (vs := [.bool m.ins, .bool m.nl, .bool on, .bool m.inv, .bool m.org, .bool m.aut, .bool m.vis, .bool m.paste, .bool m.focus, .bool m.sync, .bool m.keypad, .int .i64 m.mouse, .bool m.sgr]) 1 rfl rfl rfl rfl ag23 sz23) ?_
      refine Seg.chs rfl (Want.none rfl) (C.store (cs' := [.bool m.ins, .bool m.nl, .bool on, .bool m.inv, .bool m.org, .bool m.aut, .bool m.vis, .bool m.paste, .bool m.focus, .bool m.sync, .bool m.keypad, .int .i64 m.mouse, .bool m.sgr]) (vs := [.bool m.ins, .bool m.nl, .bool on, .bool m.inv, .bool m.org, .bool m.aut, .bool m.vis, .bool m.paste, .bool m.focus, .bool m.sync, .bool m.keypad, .int .i64 m.mouse, .bool m.sgr]) 0 rfl rfl rfl rfl rfl rfl rfl sz23) (fun _ _ => ?_)
      refine Seg.y rfl rfl (Want.none rfl) (Y.assign rfl) ?_
      refine Seg.nil ?_
      refine Sx.next ?_
      refine Sc.ret ?_
      refine Sx.body (.inl rfl) (res2 rfl (Rv.cell (vs := [.bool m.ins, .bool m.nl, .bool on, .bool m.inv, .bool m.org, .bool m.aut, .bool m.vis, .bool m.paste, .bool m.focus, .bool m.sync, .bool m.keypad, .int .i64 m.mouse, .bool m.sgr]) 0 rfl rfl rfl rfl ag23 sz23) (Rv.tmp rfl)) (fun w hs => ?_)
      refine RetV.eq ?_ hs
      subst h6p
      simp [rputS, mouseS, h3, h3p, h6] at hsp
      subst hsp
      first | rfl | simp [h3, h3p, h6]
    · skip
      have h6p := of_decide_eq_false h6
      refine Sc.seq ?_
      refine Sc.region ?_
      refine Seg.y rfl rfl (Want.none rfl) (Y.binOp rfl rfl (B.eq _ _ _)) ?_
      refine Seg.y rfl rfl (Want.none rfl) (Y.assign rfl) ?_
      refine Seg.nil ?_
      refine Sx.next ?_
      refine Sc.cond rfl (fun h7 => ?_) (fun h7 => ?_)
      · skip
        have h7p := of_decide_eq_true h7
        refine Sc.region ?_
        refine Seg.y rfl rfl (Want.none rfl) (Y.move rfl) ?_
        refine Seg.y rfl rfl (Want.none rfl) (Y.fieldAddr rfl (A.field Try.underlying23 rfl sz4 rfl rfl)) ?_
        refine Seg.chs rfl (Want.none rfl) (C.store (cs' := [.bool m.ins, .bool m.nl, .bool m.ck, .bool on, .bool m.org, .bool m.aut, .bool m.vis, .bool m.paste, .bool m.focus, .bool m.sync, .bool m.keypad, .int .i64 m.mouse, .bool m.sgr]) (vs := [.bool on]) 1 rfl rfl rfl rfl rfl rfl rfl sz4) (fun _ _ => ?_)
        refine Seg.nil ?_
        refine Sx.block_normal ?_
        refine Sx.next ?_
        refine Sc.seq ?_
        refine Sc.region ?_
        refine Seg.y rfl rfl (Want.none rfl) (Y.loadN (vs := [.bool m.ins, .bool m.nl, .bool m.ck, .bool on, .bool m.org, .bool m.aut, .bool m.vis, .bool m.paste, .bool m.focus, .bool m.sync, .bool m.keypad, .int .i64 m.mouse, .bool m.sgr]) 1 rfl rfl rfl rfl ag23 sz23) ?_
        refine Seg.chs rfl (Want.none rfl) (C.store (cs' := [.bool m.ins, .bool m.nl, .bool m.ck, .bool on, .bool m.org, .bool m.aut, .bool m.vis, .bool m.paste, .bool m.focus, .bool m.sync, .bool m.keypad, .int .i64 m.mouse, .bool m.sgr]) (vs := [.bool m.ins, .bool m.nl, .bool m.ck, .bool on, .bool m.org, .bool m.aut, .bool m.vis, .bool m.paste, .bool m.focus, .bool m.sync, .bool m.keypad, .int .i64 m.mouse, .bool m.sgr]) 0 rfl rfl rfl rfl rfl rfl rfl sz23) (fun _ _ => ?_)
        refine Seg.y rfl rfl (Want.none rfl) (Y.assign rfl) ?_
        refine Seg.nil ?_
        refine Sx.next ?_
        refine Sc.ret ?_
        refine Sx.body (.inl rfl) (res2 rfl (Rv.cell (vs := [.bool m.ins, .bool m.nl, .bool m.ck, .bool on, .bool m.org, .bool m.aut, .bool m.vis, .bool m.paste, .bool m.focus, .bool m.sync, .bool m.keypad, .int .i64 m.mouse, .bool m.sgr]) 0 rfl rfl rfl rfl ag23 sz23) (Rv.tmp rfl)) (fun w hs => ?_)
        refine RetV.eq ?_ hs
        subst h7p
        simp [rputS, mouseS, h3, h3p, h6, h6p, h7] at hsp
        subst hsp
        first | rfl | simp [h3, h3p, h6, h6p, h7]
      · skip
        have h7p := of_decide_eq_false h7
        refine Sc.seq ?_
        refine Sc.region ?_
        refine Seg.y rfl rfl (Want.none rfl) (Y.binOp rfl rfl (B.eq _ _ _)) ?_
        refine Seg.y rfl rfl (Want.none rfl) (Y.assign rfl) ?_
        refine Seg.nil ?_
        refine Sx.next ?_
        refine Sc.cond rfl (fun h8 => ?_) (fun h8 => ?_)
        · skip
          have h8p := of_decide_eq_true h8
          refine Sc.region ?_
          refine Seg.y rfl rfl (Want.none rfl) (Y.move rfl) ?_
          refine Seg.y rfl rfl (Want.none rfl) (Y.fieldAddr rfl (A.field Try.underlying23 rfl sz4 rfl rfl)) ?_
          refine Seg.chs rfl (Want.none rfl) (C.store (cs' := [.bool m.ins, .bool m.nl, .bool m.ck, .bool m.inv, .bool on, .bool m.aut, .bool m.vis, .bool m.paste, .bool m.focus, .bool m.sync, .bool m.keypad, .int .i64 m.mouse, .bool m.sgr]) (vs := [.bool on]) 1 rfl rfl rfl rfl rfl rfl rfl sz4) (fun _ _ => ?_)
          refine Seg.nil ?_
          refine Sx.block_normal ?_
          refine Sx.next ?_
          refine Sc.seq ?_
          refine Sc.region ?_
          refine Seg.y rfl rfl (Want.none rfl) (Y.loadN (vs := [.bool m.ins, .bool m.nl, .bool m.ck, .bool m.inv, .bool on, .bool m.aut, .bool m.vis, .bool m.paste, .bool m.focus, .bool m.sync, .bool m.keypad, .int .i64 m.mouse, .bool m.sgr]) 1 rfl rfl rfl rfl ag23 sz23) ?_
          refine Seg.chs rfl (Want.none rfl) (C.store (cs' := [.bool m.ins, .bool m.nl, .bool m.ck, .bool m.inv, .bool on, .bool m.aut, .bool m.vis, .bool m.paste, .bool m.focus, .bool m.sync, .bool m.keypad, .int .i64 m.mouse, .bool m.sgr]) (vs := [.bool m.ins, .bool m.nl, .bool m.ck, .bool m.inv, .bool on, .bool m.aut, .bool m.vis, .bool m.paste, .bool m.focus, .bool m.sync, .bool m.keypad, .int .i64 m.mouse, .bool m.sgr]) 0 rfl rfl rfl rfl rfl rfl rfl sz23) (fun _ _ => ?_)
          refine Seg.y rfl rfl (Want.none rfl) (Y.assign rfl) ?_
          refine Seg.nil ?_
          refine Sx.next ?_
          refine Sc.ret ?_
          refine Sx.body (.inl rfl) (res2 rfl (Rv.cell (vs := [.bool m.ins, .bool m.nl, .bool m.ck, .bool m.inv, .bool on, .bool m.aut, .bool m.vis, .bool m.paste, .bool m.focus, .bool m.sync, .bool m.keypad, .int .i64 m.mouse, .bool m.sgr]) 0 rfl rfl rfl rfl ag23 sz23) (Rv.tmp rfl)) (fun w hs => ?_)
          refine RetV.eq ?_ hs
          subst h8p
          simp [rputS, mouseS, h3, h3p, h6, h6p, h7, h7p, h8] at hsp
          subst hsp
          first | rfl | simp [h3, h3p, h6, h6p, h7, h7p, h8]
        · skip
          have h8p := of_decide_eq_false h8
          refine Sc.seq ?_
          refine Sc.region ?_
          refine Seg.y rfl rfl (Want.none rfl) (Y.binOp rfl rfl (B.eq _ _ _)) ?_
          refine Seg.y rfl rfl (Want.none rfl) (Y.assign rfl) ?_
          refine Seg.nil ?_
          refine Sx.next ?_
          refine Sc.cond rfl (fun h9 => ?_) (fun h9 => ?_)
          · skip
            have h9p := of_decide_eq_true h9
            refine Sc.region ?_
            refine Seg.y rfl rfl (Want.none rfl) (Y.move rfl) ?_
            refine Seg.y rfl rfl (Want.none rfl) (Y.fieldAddr rfl (A.field Try.underlying23 rfl sz4 rfl rfl)) ?_
            refine Seg.chs rfl (Want.none rfl) (C.store (cs' := [.bool m.ins, .bool m.nl, .bool m.ck, .bool m.inv, .bool m.org, .bool on, .bool m.vis, .bool m.paste, .bool m.focus, .bool m.sync, .bool m.keypad, .int .i64 m.mouse, .bool m.sgr]) (vs := [.bool on]) 1 rfl rfl rfl rfl rfl rfl rfl sz4) (fun _ _ => ?_)
            refine Seg.nil ?_
            refine Sx.block_normal ?_
            refine Sx.next ?_
            refine Sc.seq ?_
            refine Sc.region ?_
            refine Seg.y rfl rfl (Want.none rfl) (Y.loadN (vs := [.bool m.ins, .bool m.nl, .bool m.ck, .bool m.inv, .bool m.org, .bool on, .bool m.vis, .bool m.paste, .bool m.focus, .bool m.sync, .bool m.keypad, .int .i64 m.mouse, .bool m.sgr]) 1 rfl rfl rfl rfl ag23 sz23) ?_
            refine Seg.chs rfl (Want.none rfl) (C.store (cs' := [.bool m.ins, .bool m.nl, .bool m.ck, .bool m.inv, .bool m.org, .bool on, .bool m.vis, .bool m.paste, .bool m.focus, .bool m.sync, .bool m.keypad, .int .i64 m.mouse, .bool m.sgr]) (vs := [.bool m.ins, .bool m.nl, .bool m.ck, .bool m.inv, .bool m.org, .bool on, .bool m.vis, .bool m.paste, .bool m.focus, .bool m.sync, .bool m.keypad, .int .i64 m.mouse, .bool m.sgr]) 0 rfl rfl rfl rfl rfl rfl rfl sz23) (fun _ _ => ?_)
            refine Seg.y rfl rfl (Want.none rfl) (Y.assign rfl) ?_
            refine Seg.nil ?_
            refine Sx.next ?_
            refine Sc.ret ?_
            refine Sx.body (.inl rfl) (res2 rfl (Rv.cell (vs := [.bool m.ins, .bool m.nl, .bool m.ck, .bool m.inv, .bool m.org, .bool on, .bool m.vis, .bool m.paste, .bool m.focus, .bool m.sync, .bool m.keypad, .int .i64 m.mouse, .bool m.sgr]) 0 rfl rfl rfl rfl ag23 sz23) (Rv.tmp rfl)) (fun w hs => ?_)
            refine RetV.eq ?_ hs
            subst h9p
            simp [rputS, mouseS, h3, h3p, h6, h6p, h7, h7p, h8, h8p, h9] at hsp
            subst hsp
            first | rfl | simp [h3, h3p, h6, h6p, h7, h7p, h8, h8p, h9]
          · skip
            have h9p := of_decide_eq_false h9
            refine Sc.seq ?_
            refine Sc.region ?_
            refine Seg.y rfl rfl (Want.none rfl) (Y.binOp rfl rfl (B.eq _ _ _)) ?_
            refine Seg.y rfl rfl (Want.none rfl) (Y.assign rfl) ?_
            refine Seg.nil ?_
            refine Sx.next ?_
            refine Sc.cond rfl (fun h10 => ?_) (fun h10 => ?_)
            · skip
              have h10p := of_decide_eq_true h10
              refine Sc.region ?_
              refine Seg.y rfl rfl (Want.none rfl) (Y.move rfl) ?_
              refine Seg.y rfl rfl (Want.none rfl) (Y.fieldAddr rfl (A.field Try.underlying23 rfl sz4 rfl rfl)) ?_
              refine Seg.chs rfl (Want.none rfl) (C.store (cs' := [.bool m.ins, .bool m.nl, .bool m.ck, .bool m.inv, .bool m.org, .bool m.aut, .bool on, .bool m.paste, .bool m.focus, .bool m.sync, .bool m.keypad, .int .i64 m.mouse, .bool m.sgr]) (vs := [.bool on]) 1 rfl rfl rfl rfl rfl rfl rfl sz4) (fun _ _ => ?_)
              refine Seg.nil ?_
              refine Sx.block_normal ?_
              refine Sx.next ?_
              refine Sc.seq ?_
              refine Sc.region ?_
              refine Seg.y rfl rfl (Want.none rfl) (Y.loadN (vs := [.bool m.ins, .bool m.nl, .bool m.ck, .bool m.inv, .bool m.org, .bool m.aut, .bool on, .bool m.paste, .bool m.focus, .bool m.sync, .bool m.keypad, .int .i64 m.mouse, .bool m.sgr]) 1 rfl rfl rfl rfl ag23 sz23) ?_
              refine Seg.chs rfl (Want.none rfl) (C.store (cs' := [.bool m.ins, .bool m.nl, .bool m.ck, .bool m.inv, .bool m.org, .bool m.aut, .bool on, .bool m.paste, .bool m.focus, .bool m.sync, .bool m.keypad, .int .i64 m.mouse, .bool m.sgr]) (vs := [.bool m.ins, .bool m.nl, .bool m.ck, .bool m.inv, .bool m.org, .bool m.aut, .bool on, .bool m.paste, .bool m.focus, .bool m.sync, .bool m.keypad, .int .i64 m.mouse, .bool m.sgr]) 0 rfl rfl rfl rfl rfl rfl rfl sz23) (fun _ _ => ?_)
              refine Seg.y rfl rfl (Want.none rfl) (Y.assign rfl) ?_
              refine Seg.nil ?_
              refine Sx.next ?_
              refine Sc.ret ?_
              refine Sx.body (.inl rfl) (res2 rfl (Rv.cell (vs := [.bool m.ins, .bool m.nl, .bool m.ck, .bool m.inv, .bool m.org, .bool m.aut, .bool on, .bool m.paste, .bool m.focus, .bool m.sync, .bool m.keypad, .int .i64 m.mouse, .bool m.sgr]) 0 rfl rfl rfl rfl ag23 sz23) (Rv.tmp rfl)) (fun w hs => ?_)
              refine RetV.eq ?_ hs
              subst h10p
              simp [rputS, mouseS, h3, h3p, h6, h6p, h7, h7p, h8, h8p, h9, h9p, h10] at hsp
              subst hsp
              first | rfl | simp [h3, h3p, h6, h6p, h7, h7p, h8, h8p, h9, h9p, h10]
            · skip
              have h10p := of_decide_eq_false h10
              refine Sc.seq ?_
              refine Sc.region ?_
              refine Seg.y rfl rfl (Want.none rfl) (Y.binOp rfl rfl (B.eq _ _ _)) ?_
              refine Seg.y rfl rfl (Want.none rfl) (Y.assign rfl) ?_
              refine Seg.nil ?_
              refine Sx.next ?_
              refine Sc.cond rfl (fun h11 => ?_) (fun h11 => ?_)
              · skip
                have h11p := of_decide_eq_true h11
                refine Sc.region ?_
                refine Seg.y rfl rfl (Want.none rfl) (Y.move rfl) ?_
                refine Seg.y rfl rfl (Want.none rfl) (Y.fieldAddr rfl (A.field Try.underlying23 rfl sz4 rfl rfl)) ?_
                refine Seg.chs rfl (Want.none rfl) (C.store (cs' := [.bool m.ins, .bool m.nl, .bool m.ck, .bool m.inv, .bool m.org, .bool m.aut, .bool m.vis, .bool m.paste, .bool on, .bool m.sync, .bool m.keypad, .int .i64 m.mouse, .bool m.sgr]) (vs := [.bool on]) 1 rfl rfl rfl rfl rfl rfl rfl sz4) (fun _ _ => ?_)
                refine Seg.nil ?_
                refine Sx.block_normal ?_
                refine Sx.next ?_
                refine Sc.seq ?_
                refine Sc.region ?_
                refine Seg.y rfl rfl (Want.none rfl) (Y.loadN (vs := [.bool m.ins, .bool m.nl, .bool m.ck, .bool m.inv, .bool m.org, .bool m.aut, .bool m.vis, .bool m.paste, .bool on, .bool m.sync, .bool m.keypad, .int .i64 m.mouse, .bool m.sgr]) 1 rfl rfl rfl rfl ag23 sz23) ?_
                refine Seg.chs rfl (Want.none rfl) (C.store (cs' := [.bool m.ins, .bool m.nl, .bool m.ck, .bool m.inv, .bool m.org, .bool m.aut, .bool m.vis, .bool m.paste, .bool on, .bool m.sync, .bool m.keypad, .int .i64 m.mouse, .bool m.sgr]) (vs := [.bool m.ins, .bool m.nl, .bool m.ck, .bool m.inv, .bool m.org, .bool m.aut, .bool m.vis, .bool m.paste, .bool on, .bool m.sync, .bool m.keypad, .int .i64 m.mouse, .bool m.sgr]) 0 rfl rfl rfl rfl rfl rfl rfl sz23) (fun _ _ => ?_)
                refine Seg.y rfl rfl (Want.none rfl) (Y.assign rfl) ?_
                refine Seg.nil ?_
                refine Sx.next ?_
                refine Sc.ret ?_
                refine Sx.body (.inl rfl) (res2 rfl (Rv.cell (vs := [.bool m.ins, .bool m.nl, .bool m.ck, .bool m.inv, .bool m.org, .bool m.aut, .bool m.vis, .bool m.paste, .bool on, .bool m.sync, .bool m.keypad, .int .i64 m.mouse, .bool m.sgr]) 0 rfl rfl rfl rfl ag23 sz23) (Rv.tmp rfl)) (fun w hs => ?_)
                refine RetV.eq ?_ hs
                subst h11p
                simp [rputS, mouseS, h3, h3p, h6, h6p, h7, h7p, h8, h8p, h9, h9p, h10, h10p, h11] at hsp
                subst hsp
                first | rfl | simp [h3, h3p, h6, h6p, h7, h7p, h8, h8p, h9, h9p, h10, h10p, h11]
              · skip
                have h11p := of_decide_eq_false h11
                refine Sc.seq ?_
                refine Sc.region ?_
                refine Seg.y rfl rfl (Want.none rfl) (Y.binOp rfl rfl (B.eq _ _ _)) ?_
                refine Seg.y rfl rfl (Want.none rfl) (Y.assign rfl) ?_
                refine Seg.nil ?_
                refine Sx.next ?_
                refine Sc.cond rfl (fun h12 => ?_) (fun h12 => ?_)
                · skip
                  have h12p := of_decide_eq_true h12
                  refine Sc.region ?_
                  refine Seg.y rfl rfl (Want.none rfl) (Y.move rfl) ?_
                  refine Seg.y rfl rfl (Want.none rfl) (Y.fieldAddr rfl (A.field Try.underlying23 rfl sz4 rfl rfl)) ?_
                  refine Seg.chs rfl (Want.none rfl) (C.store (cs' := [.bool m.ins, .bool m.nl, .bool m.ck, .bool m.inv, .bool m.org, .bool m.aut, .bool m.vis, .bool m.paste, .bool m.focus, .bool m.sync, .bool m.keypad, .int .i64 m.mouse, .bool on]) (vs := [.bool on]) 1 rfl rfl rfl rfl rfl rfl rfl sz4) (fun _ _ => ?_)
                  refine Seg.nil ?_
                  refine Sx.block_normal ?_
                  refine Sx.next ?_
                  refine Sc.seq ?_
                  refine Sc.region ?_
                  refine Seg.y rfl rfl (Want.none rfl) (Y.loadN (vs := [.bool m.ins, .bool m.nl, .bool m.ck, .bool m.inv, .bool m.org, .bool m.aut, .bool m.vis, .bool m.paste, .bool m.focus, .bool m.sync, .bool m.keypad, .int .i64 m.mouse, .bool on]) 1 rfl rfl rfl rfl ag23 sz23) ?_
                  refine Seg.chs rfl (Want.none rfl) (C.store (cs' := [.bool m.ins, .bool m.nl, .bool m.ck, .bool m.inv, .bool m.org, .bool m.aut, .bool m.vis, .bool m.paste, .bool m.focus, .bool m.sync, .bool m.keypad, .int .i64 m.mouse, .bool on]) (vs := [.bool m.ins, .bool m.nl, .bool m.ck, .bool m.inv, .bool m.org, .bool m.aut, .bool m.vis, .bool m.paste, .bool m.focus, .bool m.sync, .bool m.keypad, .int .i64 m.mouse, .bool on]) 0 rfl rfl rfl rfl rfl rfl rfl sz23) (fun _ _ => ?_)
                  refine Seg.y rfl rfl (Want.none rfl) (Y.assign rfl) ?_
                  refine Seg.nil ?_
                  refine Sx.next ?_
                  refine Sc.ret ?_
                  refine Sx.body (.inl rfl) (res2 rfl (Rv.cell (vs := [.bool m.ins, .bool m.nl, .bool m.ck, .bool m.inv, .bool m.org, .bool m.aut, .bool m.vis, .bool m.paste, .bool m.focus, .bool m.sync, .bool m.keypad, .int .i64 m.mouse, .bool on]) 0 rfl rfl rfl rfl ag23 sz23) (Rv.tmp rfl)) (fun w hs => ?_)
                  refine RetV.eq ?_ hs
                  subst h12p
                  simp [rputS, mouseS, h3, h3p, h6, h6p, h7, h7p, h8, h8p, h9, h9p, h10, h10p, h11, h11p, h12] at hsp
                  subst hsp
                  first | rfl | simp [h3, h3p, h6, h6p, h7, h7p, h8, h8p, h9, h9p, h10, h10p, h11, h11p, h12]
                · skip
                  have h12p := of_decide_eq_false h12
                  refine Sc.seq ?_
                  refine Sc.region ?_
                  refine Seg.y rfl rfl (Want.none rfl) (Y.binOp rfl rfl (B.eq _ _ _)) ?_
                  refine Seg.y rfl rfl (Want.none rfl) (Y.assign rfl) ?_
                  refine Seg.nil ?_
                  refine Sx.next ?_
                  refine Sc.cond rfl (fun h13 => ?_) (fun h13 => ?_)
                  · skip
                    have h13p := of_decide_eq_true h13
                    refine Sc.region ?_
                    refine Seg.y rfl rfl (Want.none rfl) (Y.move rfl) ?_
                    refine Seg.y rfl rfl (Want.none rfl) (Y.fieldAddr rfl (A.field Try.underlying23 rfl sz4 rfl rfl)) ?_
                    refine Seg.chs rfl (Want.none rfl) (C.store (cs' := [.bool m.ins, .bool m.nl, .bool m.ck, .bool m.inv, .bool m.org, .bool m.aut, .bool m.vis, .bool on, .bool m.focus, .bool m.sync, .bool m.keypad, .int .i64 m.mouse, .bool m.sgr]) (vs := [.bool on]) 1 rfl rfl rfl rfl rfl rfl rfl sz4) (fun _ _ => ?_)
                    refine Seg.nil ?_
                    refine Sx.block_normal ?_
                    refine Sx.next ?_
                    refine Sc.seq ?_
                    refine Sc.region ?_
                    refine Seg.y rfl rfl (Want.none rfl) (Y.loadN (vs := [.bool m.ins, .bool m.nl, .bool m.ck, .bool m.inv, .bool m.org, .bool m.aut, .bool m.vis, .bool on, .bool m.focus, .bool m.sync, .bool m.keypad, .int .i64 m.mouse, .bool m.sgr]) 1 rfl rfl rfl rfl ag23 sz23) ?_
                    refine Seg.chs rfl (Want.none rfl) (C.store (cs' := [.bool m.ins, .bool m.nl, .bool m.ck, .bool m.inv, .bool m.org, .bool m.aut, .bool m.vis, .bool on, .bool m.focus, .bool m.sync, .bool m.keypad, .int .i64 m.mouse, .bool m.sgr]) (vs := [.bool m.ins, .bool m.nl, .bool m.ck, .bool m.inv, .bool m.org, .bool m.aut, .bool m.vis, .bool on, .bool m.focus, .bool m.sync, .bool m.keypad, .int .i64 m.mouse, .bool m.sgr]) 0 rfl rfl rfl rfl rfl rfl rfl sz23) (fun _ _ => ?_)
                    refine Seg.y rfl rfl (Want.none rfl) (Y.assign rfl) ?_
                    refine Seg.nil ?_
                    refine Sx.next ?_
                    refine Sc.ret ?_
                    refine Sx.body (.inl rfl) (res2 rfl (Rv.cell (vs := [.bool m.ins, .bool m.nl, .bool m.ck, .bool m.inv, .bool m.org, .bool m.aut, .bool m.vis, .bool on, .bool m.focus, .bool m.sync, .bool m.keypad, .int .i64 m.mouse, .bool m.sgr]) 0 rfl rfl rfl rfl ag23 sz23) (Rv.tmp rfl)) (fun w hs => ?_)
                    refine RetV.eq ?_ hs
                    subst h13p
                    simp [rputS, mouseS, h3, h3p, h6, h6p, h7, h7p, h8, h8p, h9, h9p, h10, h10p, h11, h11p, h12, h12p, h13] at hsp
                    subst hsp
                    first | rfl | simp [h3, h3p, h6, h6p, h7, h7p, h8, h8p, h9, h9p, h10, h10p, h11, h11p, h12, h12p, h13]
                  · skip
                    have h13p := of_decide_eq_false h13
                    refine Sc.seq ?_
                    refine Sc.region ?_
                    refine Seg.y rfl rfl (Want.none rfl) (Y.binOp rfl rfl (B.eq _ _ _)) ?_
                    refine Seg.y rfl rfl (Want.none rfl) (Y.assign rfl) ?_
                    refine Seg.nil ?_
                    refine Sx.next ?_
                    refine Sc.cond rfl (fun h14 => ?_) (fun h14 => ?_)
                    · skip
                      have h14p := of_decide_eq_true h14
                      refine Sc.region ?_
                      refine Seg.y rfl rfl (Want.none rfl) (Y.move rfl) ?_
                      refine Seg.y rfl rfl (Want.none rfl) (Y.fieldAddr rfl (A.field Try.underlying23 rfl sz4 rfl rfl)) ?_
                      refine Seg.chs rfl (Want.none rfl) (C.store (cs' := [.bool m.ins, .bool m.nl, .bool m.ck, .bool m.inv, .bool m.org, .bool m.aut, .bool m.vis, .bool m.paste, .bool m.focus, .bool on, .bool m.keypad, .int .i64 m.mouse, .bool m.sgr]) (vs := [.bool on]) 1 rfl rfl rfl rfl rfl rfl rfl sz4) (fun _ _ => ?_)
                      refine Seg.nil ?_
                      refine Sx.block_normal ?_
                      refine Sx.next ?_
                      refine Sc.seq ?_
                      refine Sc.region ?_
                      refine Seg.y rfl rfl (Want.none rfl) (Y.loadN (vs := [.bool m.ins, .bool m.nl, .bool m.ck, .bool m.inv, .bool m.org, .bool m.aut, .bool m.vis, .bool m.paste, .bool m.focus, .bool on, .bool m.keypad, .int .i64 m.mouse, .bool m.sgr]) 1 rfl rfl rfl rfl ag23 sz23) ?_
                      refine Seg.chs rfl (Want.none rfl) (C.store (cs' := [.bool m.ins, .bool m.nl, .bool m.ck, .bool m.inv, .bool m.org, .bool m.aut, .bool m.vis, .bool m.paste, .bool m.focus, .bool on, .bool m.keypad, .int .i64 m.mouse, .bool m.sgr]) (vs := [.bool m.ins, .bool m.nl, .bool m.ck, .bool m.inv, .bool m.org, .bool m.aut, .bool m.vis, .bool m.paste, .bool m.focus, .bool on, .bool m.keypad, .int .i64 m.mouse, .bool m.sgr]) 0 rfl rfl rfl rfl rfl rfl rfl sz23) (fun _ _ => ?_)
                      refine Seg.y rfl rfl (Want.none rfl) (Y.assign rfl) ?_
                      refine Seg.nil ?_
                      refine Sx.next ?_
                      refine Sc.ret ?_
                      refine Sx.body (.inl rfl) (res2 rfl (Rv.cell (vs := [.bool m.ins, .bool m.nl, .bool m.ck, .bool m.inv, .bool m.org, .bool m.aut, .bool m.vis, .bool m.paste, .bool m.focus, .bool on, .bool m.keypad, .int .i64 m.mouse, .bool m.sgr]) 0 rfl rfl rfl rfl ag23 sz23) (Rv.tmp rfl)) (fun w hs => ?_)
                      refine RetV.eq ?_ hs
                      subst h14p
                      simp [rputS, mouseS, h3, h3p, h6, h6p, h7, h7p, h8, h8p, h9, h9p, h10, h10p, h11, h11p, h12, h12p, h13, h13p, h14] at hsp
                      subst hsp
                      first | rfl | simp [h3, h3p, h6, h6p, h7, h7p, h8, h8p, h9, h9p, h10, h10p, h11, h11p, h12, h12p, h13, h13p, h14]
                    · skip
                      have h14p := of_decide_eq_false h14
                      refine Sc.seq ?_
                      refine Sc.seq ?_
                      refine Sc.region ?_
                      refine Seg.y rfl rfl (Want.none rfl) (Y.binOp rfl rfl (B.eq _ _ _)) ?_
                      refine Seg.y rfl rfl (Want.none rfl) (Y.assign rfl) ?_
                      refine Seg.nil ?_
                      refine Sx.next ?_
                      refine Sc.cond rfl (fun h15 => ?_) (fun h15 => ?_)
                      · skip
                        have h15p := of_decide_eq_true h15
                        refine Sc.skip ?_
                        refine Sx.next ?_
                        refine Sc.condT rfl h15 ?_
                        refine Sc.seq ?_
                        refine Sc.region ?_
                        refine Seg.y rfl rfl (Want.none rfl) (Y.move rfl) ?_
                        refine Seg.nil ?_
                        refine Sx.next ?_
                        refine Sc.cond rfl (fun h16 => ?_) (fun h16 => ?_)
                        · skip
                          refine Sc.region ?_
                          refine Seg.y rfl rfl (Want.none rfl) (Y.move rfl) ?_
                          refine Seg.y rfl rfl (Want.none rfl) (Y.fieldAddr rfl (A.field Try.underlying23 rfl sz3 rfl rfl)) ?_
                          refine Seg.chs rfl (Want.none rfl) (C.store (cs' := [.bool m.ins, .bool m.nl, .bool m.ck, .bool m.inv, .bool m.org, .bool m.aut, .bool m.vis, .bool m.paste, .bool m.focus, .bool m.sync, .bool m.keypad, .int .i64 n, .bool m.sgr]) (vs := [.int .i64 n]) 1 rfl rfl rfl rfl rfl rfl rfl sz3) (fun _ _ => ?_)
                          refine Seg.nil ?_
                          refine Sx.block_normal ?_
                          refine Sx.next ?_
                          refine Sc.seq ?_
                          refine Sc.region ?_
                          refine Seg.y rfl rfl (Want.none rfl) (Y.loadN (vs := [.bool m.ins, .bool m.nl, .bool m.ck, .bool m.inv, .bool m.org, .bool m.aut, .bool m.vis, .bool m.paste, .bool m.focus, .bool m.sync, .bool m.keypad, .int .i64 n, .bool m.sgr]) 1 rfl rfl rfl rfl ag23 sz23) ?_
                          refine Seg.chs rfl (Want.none rfl) (C.store (cs' := [.bool m.ins, .bool m.nl, .bool m.ck, .bool m.inv, .bool m.org, .bool m.aut, .bool m.vis, .bool m.paste, .bool m.focus, .bool m.sync, .bool m.keypad, .int .i64 n, .bool m.sgr]) (vs := [.bool m.ins, .bool m.nl, .bool m.ck, .bool m.inv, .bool m.org, .bool m.aut, .bool m.vis, .bool m.paste, .bool m.focus, .bool m.sync, .bool m.keypad, .int .i64 n, .bool m.sgr]) 0 rfl rfl rfl rfl rfl rfl rfl sz23) (fun _ _ => ?_)
                          refine Seg.y rfl rfl (Want.none rfl) (Y.assign rfl) ?_
                          refine Seg.nil ?_
                          refine Sx.next ?_
                          refine Sc.ret ?_
                          refine Sx.body (.inl rfl) (res2 rfl (Rv.cell (vs := [.bool m.ins, .bool m.nl, .bool m.ck, .bool m.inv, .bool m.org, .bool m.aut, .bool m.vis, .bool m.paste, .bool m.focus, .bool m.sync, .bool m.keypad, .int .i64 n, .bool m.sgr]) 0 rfl rfl rfl rfl ag23 sz23) (Rv.tmp rfl)) (fun w hs => ?_)
                          refine RetV.eq ?_ hs
                          subst h15p
                          simp [rputS, mouseS, h3, h3p, h6, h6p, h7, h7p, h8, h8p, h9, h9p, h10, h10p, h11, h11p, h12, h12p, h13, h13p, h14, h14p, h15, h16] at hsp
                          subst hsp
                          first | rfl | simp [h3, h3p, h6, h6p, h7, h7p, h8, h8p, h9, h9p, h10, h10p, h11, h11p, h12, h12p, h13, h13p, h14, h14p, h15, h16]
                        · skip
                          refine Sc.seq ?_
                          refine Sc.region ?_
                          refine Seg.y rfl rfl (Want.none rfl) (Y.fieldAddr rfl (A.field Try.underlying23 rfl sz3 rfl rfl)) ?_
                          refine Seg.y rfl rfl (Want.none rfl) (Y.load1 1 rfl rfl rfl ag3) ?_
                          refine Seg.y rfl rfl (Want.none rfl) (Y.move rfl) ?_
                          refine Seg.y rfl rfl (Want.none rfl) (Y.binOp rfl rfl (B.eq _ _ _)) ?_
                          refine Seg.nil ?_
                          refine Sx.next ?_
                          refine Sc.cond rfl (fun h17 => ?_) (fun h17 => ?_)
                          · skip
                            have h17p := of_decide_eq_true h17
                            refine Sc.region ?_
                            refine Seg.y rfl rfl (Want.none rfl) (Y.fieldAddr rfl (A.field Try.underlying23 rfl sz3 rfl rfl)) ?_
                            refine Seg.chs rfl (Want.none rfl) (C.store (cs' := [.bool m.ins, .bool m.nl, .bool m.ck, .bool m.inv, .bool m.org, .bool m.aut, .bool m.vis, .bool m.paste, .bool m.focus, .bool m.sync, .bool m.keypad, .int .i64 0, .bool m.sgr]) (vs := [.int .i64 0]) 1 rfl rfl rfl rfl rfl rfl rfl sz3) (fun _ _ => ?_)
                            refine Seg.nil ?_
                            refine Sx.block_normal ?_
                            refine Sx.next ?_
                            refine Sc.seq ?_
                            refine Sc.region ?_
                            refine Seg.y rfl rfl (Want.none rfl) (Y.loadN (vs := [.bool m.ins, .bool m.nl, .bool m.ck, .bool m.inv, .bool m.org, .bool m.aut, .bool m.vis, .bool m.paste, .bool m.focus, .bool m.sync, .bool m.keypad, .int .i64 0, .bool m.sgr]) 1 rfl rfl rfl rfl ag23 sz23) ?_
                            refine Seg.chs rfl (Want.none rfl) (C.store (cs' := [.bool m.ins, .bool m.nl, .bool m.ck, .bool m.inv, .bool m.org, .bool m.aut, .bool m.vis, .bool m.paste, .bool m.focus, .bool m.sync, .bool m.keypad, .int .i64 0, .bool m.sgr]) (vs := [.bool m.ins, .bool m.nl, .bool m.ck, .bool m.inv, .bool m.org, .bool m.aut, .bool m.vis, .bool m.paste, .bool m.focus, .bool m.sync, .bool m.keypad, .int .i64 0, .bool m.sgr]) 0 rfl rfl rfl rfl rfl rfl rfl sz23) (fun _ _ => ?_)
                            refine Seg.y rfl rfl (Want.none rfl) (Y.assign rfl) ?_
                            refine Seg.nil ?_
                            refine Sx.next ?_
                            refine Sc.ret ?_
                            refine Sx.body (.inl rfl) (res2 rfl (Rv.cell (vs := [.bool m.ins, .bool m.nl, .bool m.ck, .bool m.inv, .bool m.org, .bool m.aut, .bool m.vis, .bool m.paste, .bool m.focus, .bool m.sync, .bool m.keypad, .int .i64 0, .bool m.sgr]) 0 rfl rfl rfl rfl ag23 sz23) (Rv.tmp rfl)) (fun w hs => ?_)
                            refine RetV.eq ?_ hs
                            subst h15p
                            simp [rputS, mouseS, h3, h3p, h6, h6p, h7, h7p, h8, h8p, h9, h9p, h10, h10p, h11, h11p, h12, h12p, h13, h13p, h14, h14p, h15, h16, h17, h17p] at hsp
                            subst hsp
                            first | rfl | simp [h3, h3p, h6, h6p, h7, h7p, h8, h8p, h9, h9p, h10, h10p, h11, h11p, h12, h12p, h13, h13p, h14, h14p, h15, h16, h17, h17p]
                          · skip
                            have h17p := of_decide_eq_false h17
                            refine Sc.skip ?_
                            refine Sx.block_normal ?_
                            refine Sx.next ?_
                            refine Sc.seq ?_
                            refine Sc.region ?_
                            refine Seg.y rfl rfl (Want.none rfl) (Y.loadN (vs := [.bool m.ins, .bool m.nl, .bool m.ck, .bool m.inv, .bool m.org, .bool m.aut, .bool m.vis, .bool m.paste, .bool m.focus, .bool m.sync, .bool m.keypad, .int .i64 m.mouse, .bool m.sgr]) 1 rfl rfl rfl rfl ag23 sz23) ?_
                            refine Seg.chs rfl (Want.none rfl) (C.store (cs' := [.bool m.ins, .bool m.nl, .bool m.ck, .bool m.inv, .bool m.org, .bool m.aut, .bool m.vis, .bool m.paste, .bool m.focus, .bool m.sync, .bool m.keypad, .int .i64 m.mouse, .bool m.sgr]) (vs := [.bool m.ins, .bool m.nl, .bool m.ck, .bool m.inv, .bool m.org, .bool m.aut, .bool m.vis, .bool m.paste, .bool m.focus, .bool m.sync, .bool m.keypad, .int .i64 m.mouse, .bool m.sgr]) 0 rfl rfl rfl rfl rfl rfl rfl sz23) (fun _ _ => ?_)
                            refine Seg.y rfl rfl (Want.none rfl) (Y.assign rfl) ?_
                            refine Seg.nil ?_
                            refine Sx.next ?_
                            refine Sc.ret ?_
                            refine Sx.body (.inl rfl) (res2 rfl (Rv.cell (vs := [.bool m.ins, .bool m.nl, .bool m.ck, .bool m.inv, .bool m.org, .bool m.aut, .bool m.vis, .bool m.paste, .bool m.focus, .bool m.sync, .bool m.keypad, .int .i64 m.mouse, .bool m.sgr]) 0 rfl rfl rfl rfl ag23 sz23) (Rv.tmp rfl)) (fun w hs => ?_)
                            refine RetV.eq ?_ hs
                            subst h15p
                            simp [rputS, mouseS, h3, h3p, h6, h6p, h7, h7p, h8, h8p, h9, h9p, h10, h10p, h11, h11p, h12, h12p, h13, h13p, h14, h14p, h15, h16, h17, h17p] at hsp
                            subst hsp
                            first | rfl | simp [h3, h3p, h6, h6p, h7, h7p, h8, h8p, h9, h9p, h10, h10p, h11, h11p, h12, h12p, h13, h13p, h14, h14p, h15, h16, h17, h17p]
                      · skip
                        have h15p := of_decide_eq_false h15
                        refine Sc.seq ?_
                        refine Sc.region ?_
                        refine Seg.y rfl rfl (Want.none rfl) (Y.binOp rfl rfl (B.eq _ _ _)) ?_
                        refine Seg.y rfl rfl (Want.none rfl) (Y.assign rfl) ?_
                        refine Seg.nil ?_
                        refine Sx.next ?_
                        refine Sc.cond rfl (fun h18 => ?_) (fun h18 => ?_)
                        · skip
                          have h18p := of_decide_eq_true h18
                          refine Sc.skip ?_
                          refine Sx.next ?_
                          refine Sc.condT rfl h18 ?_
                          refine Sc.seq ?_
                          refine Sc.region ?_
                          refine Seg.y rfl rfl (Want.none rfl) (Y.move rfl) ?_
                          refine Seg.nil ?_
                          refine Sx.next ?_
                          refine Sc.cond rfl (fun h19 => ?_) (fun h19 => ?_)
                          · skip
                            refine Sc.region ?_
                            refine Seg.y rfl rfl (Want.none rfl) (Y.move rfl) ?_
                            refine Seg.y rfl rfl (Want.none rfl) (Y.fieldAddr rfl (A.field Try.underlying23 rfl sz3 rfl rfl)) ?_
                            refine Seg.chs rfl (Want.none rfl) (C.store (cs' := [.bool m.ins, .bool m.nl, .bool m.ck, .bool m.inv, .bool m.org, .bool m.aut, .bool m.vis, .bool m.paste, .bool m.focus, .bool m.sync, .bool m.keypad, .int .i64 n, .bool m.sgr]) (vs := [.int .i64 n]) 1 rfl rfl rfl rfl rfl rfl rfl sz3) (fun _ _ => ?_)
                            refine Seg.nil ?_
                            refine Sx.block_normal ?_
                            refine Sx.next ?_
                            refine Sc.seq ?_
                            refine Sc.region ?_
                            refine Seg.y rfl rfl (Want.none rfl) (Y.loadN (vs := [.bool m.ins, .bool m.nl, .bool m.ck, .bool m.inv, .bool m.org, .bool m.aut, .bool m.vis, .bool m.paste, .bool m.focus, .bool m.sync, .bool m.keypad, .int .i64 n, .bool m.sgr]) 1 rfl rfl rfl rfl ag23 sz23) ?_
                            refine Seg.chs rfl (Want.none rfl) (C.store (cs' := [.bool m.ins, .bool m.nl, .bool m.ck, .bool m.inv, .bool m.org, .bool m.aut, .bool m.vis, .bool m.paste, .bool m.focus, .bool m.sync, .bool m.keypad, .int .i64 n, .bool m.sgr]) (vs := [.bool m.ins, .bool m.nl, .bool m.ck, .bool m.inv, .bool m.org, .bool m.aut, .bool m.vis, .bool m.paste, .bool m.focus, .bool m.sync, .bool m.keypad, .int .i64 n, .bool m.sgr]) 0 rfl rfl rfl rfl rfl rfl rfl sz23) (fun _ _ => ?_)
                            refine Seg.y rfl rfl (Want.none rfl) (Y.assign rfl) ?_
                            refine Seg.nil ?_
                            refine Sx.next ?_
                            refine Sc.ret ?_
                            refine Sx.body (.inl rfl) (res2 rfl (Rv.cell (vs := [.bool m.ins, .bool m.nl, .bool m.ck, .bool m.inv, .bool m.org, .bool m.aut, .bool m.vis, .bool m.paste, .bool m.focus, .bool m.sync, .bool m.keypad, .int .i64 n, .bool m.sgr]) 0 rfl rfl rfl rfl ag23 sz23) (Rv.tmp rfl)) (fun w hs => ?_)
                            refine RetV.eq ?_ hs
                            subst h18p
                            simp [rputS, mouseS, h3, h3p, h6, h6p, h7, h7p, h8, h8p, h9, h9p, h10, h10p, h11, h11p, h12, h12p, h13, h13p, h14, h14p, h15, h15p, h18, h19] at hsp
                            subst hsp
                            first | rfl | simp [h3, h3p, h6, h6p, h7, h7p, h8, h8p, h9, h9p, h10, h10p, h11, h11p, h12, h12p, h13, h13p, h14, h14p, h15, h15p, h18, h19]
                          · skip
                            refine Sc.seq ?_
                            refine Sc.region ?_
                            refine Seg.y rfl rfl (Want.none rfl) (Y.fieldAddr rfl (A.field Try.underlying23 rfl sz3 rfl rfl)) ?_
                            refine Seg.y rfl rfl (Want.none rfl) (Y.load1 1 rfl rfl rfl ag3) ?_
                            refine Seg.y rfl rfl (Want.none rfl) (Y.move rfl) ?_
                            refine Seg.y rfl rfl (Want.none rfl) (Y.binOp rfl rfl (B.eq _ _ _)) ?_
                            refine Seg.nil ?_
                            refine Sx.next ?_
                            refine Sc.cond rfl (fun h20 => ?_) (fun h20 => ?_)
                            · skip
                              have h20p := of_decide_eq_true h20
                              refine Sc.region ?_
                              refine Seg.y rfl rfl (Want.none rfl) (Y.fieldAddr rfl (A.field Try.underlying23 rfl sz3 rfl rfl)) ?_
                              refine Seg.chs rfl (Want.none rfl) (C.store (cs' := [.bool m.ins, .bool m.nl, .bool m.ck, .bool m.inv, .bool m.org, .bool m.aut, .bool m.vis, .bool m.paste, .bool m.focus, .bool m.sync, .bool m.keypad, .int .i64 0, .bool m.sgr]) (vs := [.int .i64 0]) 1 rfl rfl rfl rfl rfl rfl rfl sz3) (fun _ _ => ?_)
                              refine Seg.nil ?_
                              refine Sx.block_normal ?_
                              refine Sx.next ?_
                              refine Sc.seq ?_
                              refine Sc.region ?_
                              refine Seg.y rfl rfl (Want.none rfl) (Y.loadN (vs := [.bool m.ins, .bool m.nl, .bool m.ck, .bool m.inv, .bool m.org, .bool m.aut, .bool m.vis, .bool m.paste, .bool m.focus, .bool m.sync, .bool m.keypad, .int .i64 0, .bool m.sgr]) 1 rfl rfl rfl rfl ag23 sz23) ?_
                              refine Seg.chs rfl (Want.none rfl) (C.store (cs' := [.bool m.ins, .bool m.nl, .bool m.ck, .bool m.inv, .bool m.org, .bool m.aut, .bool m.vis, .bool m.paste, .bool m.focus, .bool m.sync, .bool m.keypad, .int .i64 0, .bool m.sgr]) (vs := [.bool m.ins, .bool m.nl, .bool m.ck, .bool m.inv, .bool m.org, .bool m.aut, .bool m.vis, .bool m.paste, .bool m.focus, .bool m.sync, .bool m.keypad, .int .i64 0, .bool m.sgr]) 0 rfl rfl rfl rfl rfl rfl rfl sz23) (fun _ _ => ?_)
                              refine Seg.y rfl rfl (Want.none rfl) (Y.assign rfl) ?_
                              refine Seg.nil ?_
                              refine Sx.next ?_
                              refine Sc.ret ?_
                              refine Sx.body (.inl rfl) (res2 rfl (Rv.cell (vs := [.bool m.ins, .bool m.nl, .bool m.ck, .bool m.inv, .bool m.org, .bool m.aut, .bool m.vis, .bool m.paste, .bool m.focus, .bool m.sync, .bool m.keypad, .int .i64 0, .bool m.sgr]) 0 rfl rfl rfl rfl ag23 sz23) (Rv.tmp rfl)) (fun w hs => ?_)
                              refine RetV.eq ?_ hs
                              subst h18p
                              simp [rputS, mouseS, h3, h3p, h6, h6p, h7, h7p, h8, h8p, h9, h9p, h10, h10p, h11, h11p, h12, h12p, h13, h13p, h14, h14p, h15, h15p, h18, h19, h20, h20p] at hsp
                              subst hsp
                              first | rfl | simp [h3, h3p, h6, h6p, h7, h7p, h8, h8p, h9, h9p, h10, h10p, h11, h11p, h12, h12p, h13, h13p, h14, h14p, h15, h15p, h18, h19, h20, h20p]
                            · skip
                              have h20p := of_decide_eq_false h20
                              refine Sc.skip ?_
                              refine Sx.block_normal ?_
                              refine Sx.next ?_
                              refine Sc.seq ?_
                              refine Sc.region ?_
                              refine Seg.y rfl rfl (Want.none rfl) (Y.loadN (vs := [.bool m.ins, .bool m.nl, .bool m.ck, .bool m.inv, .bool m.org, .bool m.aut, .bool m.vis, .bool m.paste, .bool m.focus, .bool m.sync, .bool m.keypad, .int .i64 m.mouse, .bool m.sgr]) 1 rfl rfl rfl rfl ag23 sz23) ?_
                              refine Seg.chs rfl (Want.none rfl) (C.store (cs' := [.bool m.ins, .bool m.nl, .bool m.ck, .bool m.inv, .bool m.org, .bool m.aut, .bool m.vis, .bool m.paste, .bool m.focus, .bool m.sync, .bool m.keypad, .int .i64 m.mouse, .bool m.sgr]) (vs := [.bool m.ins, .bool m.nl, .bool m.ck, .bool m.inv, .bool m.org, .bool m.aut, .bool m.vis, .bool m.paste, .bool m.focus, .bool m.sync, .bool m.keypad, .int .i64 m.mouse, .bool m.sgr]) 0 rfl rfl rfl rfl rfl rfl rfl sz23) (fun _ _ => ?_)
                              refine Seg.y rfl rfl (Want.none rfl) (Y.assign rfl) ?_
                              refine Seg.nil ?_
                              refine Sx.next ?_
                              refine Sc.ret ?_
                              refine Sx.body (.inl rfl) (res2 rfl (Rv.cell (vs := [.bool m.ins, .bool m.nl, .bool m.ck, .bool m.inv, .bool m.org, .bool m.aut, .bool m.vis, .bool m.paste, .bool m.focus, .bool m.sync, .bool m.keypad, .int .i64 m.mouse, .bool m.sgr]) 0 rfl rfl rfl rfl ag23 sz23) (Rv.tmp rfl)) (fun w hs => ?_)
                              refine RetV.eq ?_ hs
                              subst h18p
                              simp [rputS, mouseS, h3, h3p, h6, h6p, h7, h7p, h8, h8p, h9, h9p, h10, h10p, h11, h11p, h12, h12p, h13, h13p, h14, h14p, h15, h15p, h18, h19, h20, h20p] at hsp
                              subst hsp
                              first | rfl | simp [h3, h3p, h6, h6p, h7, h7p, h8, h8p, h9, h9p, h10, h10p, h11, h11p, h12, h12p, h13, h13p, h14, h14p, h15, h15p, h18, h19, h20, h20p]
                        · skip
                          have h18p := of_decide_eq_false h18
                          refine Sc.seq ?_
                          refine Sc.region ?_
                          refine Seg.y rfl rfl (Want.none rfl) (Y.binOp rfl rfl (B.eq _ _ _)) ?_
                          refine Seg.y rfl rfl (Want.none rfl) (Y.assign rfl) ?_
                          refine Seg.nil ?_
                          refine Sx.next ?_
                          refine Sc.cond rfl (fun h21 => ?_) (fun h21 => ?_)
                          · skip
                            have h21p := of_decide_eq_true h21
                            refine Sc.skip ?_
                            refine Sx.next ?_
                            refine Sc.condT rfl h21 ?_
                            refine Sc.seq ?_
                            refine Sc.region ?_
                            refine Seg.y rfl rfl (Want.none rfl) (Y.move rfl) ?_
                            refine Seg.nil ?_
                            refine Sx.next ?_
                            refine Sc.cond rfl (fun h22 => ?_) (fun h22 => ?_)
                            · skip
                              refine Sc.region ?_
                              refine Seg.y rfl rfl (Want.none rfl) (Y.move rfl) ?_
                              refine Seg.y rfl rfl (Want.none rfl) (Y.fieldAddr rfl (A.field Try.underlying23 rfl sz3 rfl rfl)) ?_
                              refine Seg.chs rfl (Want.none rfl) (C.store (cs' := [.bool m.ins, .bool m.nl, .bool m.ck, .bool m.inv, .bool m.org, .bool m.aut, .bool m.vis, .bool m.paste, .bool m.focus, .bool m.sync, .bool m.keypad, .int .i64 n, .bool m.sgr]) (vs := [.int .i64 n]) 1 rfl rfl rfl rfl rfl rfl rfl sz3) (fun _ _ => ?_)
                              refine Seg.nil ?_
                              refine Sx.block_normal ?_
                              refine Sx.next ?_
                              refine Sc.seq ?_
                              refine Sc.region ?_
                              refine Seg.y rfl rfl (Want.none rfl) (Y.loadN (vs := [.bool m.ins, .bool m.nl, .bool m.ck, .bool m.inv, .bool m.org, .bool m.aut, .bool m.vis, .bool m.paste, .bool m.focus, .bool m.sync, .bool m.keypad, .int .i64 n, .bool m.sgr]) 1 rfl rfl rfl rfl ag23 sz23) ?_
                              refine Seg.chs rfl (Want.none rfl) (C.store (cs' := [.bool m.ins, .bool m.nl, .bool m.ck, .bool m.inv, .bool m.org, .bool m.aut, .bool m.vis, .bool m.paste, .bool m.focus, .bool m.sync, .bool m.keypad, .int .i64 n, .bool m.sgr]) (vs := [.bool m.ins, .bool m.nl, .bool m.ck, .bool m.inv, .bool m.org, .bool m.aut, .bool m.vis, .bool m.paste, .bool m.focus, .bool m.sync, .bool m.keypad, .int .i64 n, .bool m.sgr]) 0 rfl rfl rfl rfl rfl rfl rfl sz23) (fun _ _ => ?_)
                              refine Seg.y rfl rfl (Want.none rfl) (Y.assign rfl) ?_
                              refine Seg.nil ?_
                              refine Sx.next ?_
                              refine Sc.ret ?_
                              refine Sx.body (.inl rfl) (res2 rfl (Rv.cell (vs := [.bool m.ins, .bool m.nl, .bool m.ck, .bool m.inv, .bool m.org, .bool m.aut, .bool m.vis, .bool m.paste, .bool m.focus, .bool m.sync, .bool m.keypad, .int .i64 n, .bool m.sgr]) 0 rfl rfl rfl rfl ag23 sz23) (Rv.tmp rfl)) (fun w hs => ?_)
                              refine RetV.eq ?_ hs
                              subst h21p
                              simp [rputS, mouseS, h3, h3p, h6, h6p, h7, h7p, h8, h8p, h9, h9p, h10, h10p, h11, h11p, h12, h12p, h13, h13p, h14, h14p, h15, h15p, h18, h18p, h21, h22] at hsp
                              subst hsp
                              first | rfl | simp [h3, h3p, h6, h6p, h7, h7p, h8, h8p, h9, h9p, h10, h10p, h11, h11p, h12, h12p, h13, h13p, h14, h14p, h15, h15p, h18, h18p, h21, h22]
                            · skip
                              refine Sc.seq ?_
                              refine Sc.region ?_
                              refine Seg.y rfl rfl (Want.none rfl) (Y.fieldAddr rfl (A.field Try.underlying23 rfl sz3 rfl rfl)) ?_
                              refine Seg.y rfl rfl (Want.none rfl) (Y.load1 1 rfl rfl rfl ag3) ?_
                              refine Seg.y rfl rfl (Want.none rfl) (Y.move rfl) ?_
                              refine Seg.y rfl rfl (Want.none rfl) (Y.binOp rfl rfl (B.eq _ _ _)) ?_
                              refine Seg.nil ?_
                              refine Sx.next ?_
                              refine Sc.cond rfl (fun h23 => ?_) (fun h23 => ?_)
                              · skip
                                have h23p := of_decide_eq_true h23
                                refine Sc.region ?_
                                refine Seg.y rfl rfl (Want.none rfl) (Y.fieldAddr rfl (A.field Try.underlying23 rfl sz3 rfl rfl)) ?_
                                refine Seg.chs rfl (Want.none rfl) (C.store (cs' := [.bool m.ins, .bool m.nl, .bool m.ck, .bool m.inv, .bool m.org, .bool m.aut, .bool m.vis, .bool m.paste, .bool m.focus, .bool m.sync, .bool m.keypad, .int .i64 0, .bool m.sgr]) (vs := [.int .i64 0]) 1 rfl rfl rfl rfl rfl rfl rfl sz3) (fun _ _ => ?_)
                                refine Seg.nil ?_
                                refine Sx.block_normal ?_
                                refine Sx.next ?_
                                refine Sc.seq ?_
                                refine Sc.region ?_
                                refine Seg.y rfl rfl (Want.none rfl) (Y.loadN (vs := [.bool m.ins, .bool m.nl, .bool m.ck, .bool m.inv, .bool m.org, .bool m.aut, .bool m.vis, .bool m.paste, .bool m.focus, .bool m.sync, .bool m.keypad, .int .i64 0, .bool m.sgr]) 1 rfl rfl rfl rfl ag23 sz23) ?_
                                refine Seg.chs rfl (Want.none rfl) (C.store (cs' := [.bool m.ins, .bool m.nl, .bool m.ck, .bool m.inv, .bool m.org, .bool m.aut, .bool m.vis, .bool m.paste, .bool m.focus, .bool m.sync, .bool m.keypad, .int .i64 0, .bool m.sgr]) (vs := [.bool m.ins, .bool m.nl, .bool m.ck, .bool m.inv, .bool m.org, .bool m.aut, .bool m.vis, .bool m.paste, .bool m.focus, .bool m.sync, .bool m.keypad, .int .i64 0, .bool m.sgr]) 0 rfl rfl rfl rfl rfl rfl rfl sz23) (fun _ _ => ?_)
                                refine Seg.y rfl rfl (Want.none rfl) (Y.assign rfl) ?_
                                refine Seg.nil ?_
                                refine Sx.next ?_
                                refine Sc.ret ?_
                                refine Sx.body (.inl rfl) (res2 rfl (Rv.cell (vs := [.bool m.ins, .bool m.nl, .bool m.ck, .bool m.inv, .bool m.org, .bool m.aut, .bool m.vis, .bool m.paste, .bool m.focus, .bool m.sync, .bool m.keypad, .int .i64 0, .bool m.sgr]) 0 rfl rfl rfl rfl ag23 sz23) (Rv.tmp rfl)) (fun w hs => ?_)
                                refine RetV.eq ?_ hs
                                subst h21p
                                simp [rputS, mouseS, h3, h3p, h6, h6p, h7, h7p, h8, h8p, h9, h9p, h10, h10p, h11, h11p, h12, h12p, h13, h13p, h14, h14p, h15, h15p, h18, h18p, h21, h22, h23, h23p] at hsp
                                subst hsp
                                first | rfl | simp [h3, h3p, h6, h6p, h7, h7p, h8, h8p, h9, h9p, h10, h10p, h11, h11p, h12, h12p, h13, h13p, h14, h14p, h15, h15p, h18, h18p, h21, h22, h23, h23p]
                              · skip
                                have h23p := of_decide_eq_false h23
                                refine Sc.skip ?_
                                refine Sx.block_normal ?_
                                refine Sx.next ?_
                                refine Sc.seq ?_
                                refine Sc.region ?_
                                refine Seg.y rfl rfl (Want.none rfl) (Y.loadN (vs := [.bool m.ins, .bool m.nl, .bool m.ck, .bool m.inv, .bool m.org, .bool m.aut, .bool m.vis, .bool m.paste, .bool m.focus, .bool m.sync, .bool m.keypad, .int .i64 m.mouse, .bool m.sgr]) 1 rfl rfl rfl rfl ag23 sz23) ?_
                                refine Seg.chs rfl (Want.none rfl) (C.store (cs' := [.bool m.ins, .bool m.nl, .bool m.ck, .bool m.inv, .bool m.org, .bool m.aut, .bool m.vis, .bool m.paste, .bool m.focus, .bool m.sync, .bool m.keypad, .int .i64 m.mouse, .bool m.sgr]) (vs := [.bool m.ins, .bool m.nl, .bool m.ck, .bool m.inv, .bool m.org, .bool m.aut, .bool m.vis, .bool m.paste, .bool m.focus, .bool m.sync, .bool m.keypad, .int .i64 m.mouse, .bool m.sgr]) 0 rfl rfl rfl rfl rfl rfl rfl sz23) (fun _ _ => ?_)
                                refine Seg.y rfl rfl (Want.none rfl) (Y.assign rfl) ?_
                                refine Seg.nil ?_
                                refine Sx.next ?_
                                refine Sc.ret ?_
                                refine Sx.body (.inl rfl) (res2 rfl (Rv.cell (vs := [.bool m.ins, .bool m.nl, .bool m.ck, .bool m.inv, .bool m.org, .bool m.aut, .bool m.vis, .bool m.paste, .bool m.focus, .bool m.sync, .bool m.keypad, .int .i64 m.mouse, .bool m.sgr]) 0 rfl rfl rfl rfl ag23 sz23) (Rv.tmp rfl)) (fun w hs => ?_)
                                refine RetV.eq ?_ hs
                                subst h21p
                                simp [rputS, mouseS, h3, h3p, h6, h6p, h7, h7p, h8, h8p, h9, h9p, h10, h10p, h11, h11p, h12, h12p, h13, h13p, h14, h14p, h15, h15p, h18, h18p, h21, h22, h23, h23p] at hsp
                                subst hsp
                                first | rfl | simp [h3, h3p, h6, h6p, h7, h7p, h8, h8p, h9, h9p, h10, h10p, h11, h11p, h12, h12p, h13, h13p, h14, h14p, h15, h15p, h18, h18p, h21, h22, h23, h23p]
                          · skip
                            have h21p := of_decide_eq_false h21
                            refine Sc.region ?_
                            refine Seg.y rfl rfl (Want.none rfl) (Y.binOp rfl rfl (B.eq _ _ _)) ?_
                            refine Seg.y rfl rfl (Want.none rfl) (Y.assign rfl) ?_
                            refine Seg.nil ?_
                            refine Sx.next ?_
                            refine Sc.cond rfl (fun h24 => ?_) (fun h24 => ?_)
                            · skip
                              have h24p := of_decide_eq_true h24
                              refine Sc.seq ?_
                              refine Sc.region ?_
                              refine Seg.y rfl rfl (Want.none rfl) (Y.move rfl) ?_
                              refine Seg.nil ?_
                              refine Sx.next ?_
                              refine Sc.cond rfl (fun h25 => ?_) (fun h25 => ?_)
                              · skip
                                refine Sc.region ?_
                                refine Seg.y rfl rfl (Want.none rfl) (Y.move rfl) ?_
                                refine Seg.y rfl rfl (Want.none rfl) (Y.fieldAddr rfl (A.field Try.underlying23 rfl sz3 rfl rfl)) ?_
                                refine Seg.chs rfl (Want.none rfl) (C.store (cs' := [.bool m.ins, .bool m.nl, .bool m.ck, .bool m.inv, .bool m.org, .bool m.aut, .bool m.vis, .bool m.paste, .bool m.focus, .bool m.sync, .bool m.keypad, .int .i64 n, .bool m.sgr]) (vs := [.int .i64 n]) 1 rfl rfl rfl rfl rfl rfl rfl sz3) (fun _ _ => ?_)
                                refine Seg.nil ?_
                                refine Sx.block_normal ?_
                                refine Sx.next ?_
                                refine Sc.seq ?_
                                refine Sc.region ?_
                                refine Seg.y rfl rfl (Want.none rfl) (Y.loadN (vs := [.bool m.ins, .bool m.nl, .bool m.ck, .bool m.inv, .bool m.org, .bool m.aut, .bool m.vis, .bool m.paste, .bool m.focus, .bool m.sync, .bool m.keypad, .int .i64 n, .bool m.sgr]) 1 rfl rfl rfl rfl ag23 sz23) ?_
                                refine Seg.chs rfl (Want.none rfl) (C.store (cs' := [.bool m.ins, .bool m.nl, .bool m.ck, .bool m.inv, .bool m.org, .bool m.aut, .bool m.vis, .bool m.paste, .bool m.focus, .bool m.sync, .bool m.keypad, .int .i64 n, .bool m.sgr]) (vs := [.bool m.ins, .bool m.nl, .bool m.ck, .bool m.inv, .bool m.org, .bool m.aut, .bool m.vis, .bool m.paste, .bool m.focus, .bool m.sync, .bool m.keypad, .int .i64 n, .bool m.sgr]) 0 rfl rfl rfl rfl rfl rfl rfl sz23) (fun _ _ => ?_)
                                refine Seg.y rfl rfl (Want.none rfl) (Y.assign rfl) ?_
                                refine Seg.nil ?_
                                refine Sx.next ?_
                                refine Sc.ret ?_
                                refine Sx.body (.inl rfl) (res2 rfl (Rv.cell (vs := [.bool m.ins, .bool m.nl, .bool m.ck, .bool m.inv, .bool m.org, .bool m.aut, .bool m.vis, .bool m.paste, .bool m.focus, .bool m.sync, .bool m.keypad, .int .i64 n, .bool m.sgr]) 0 rfl rfl rfl rfl ag23 sz23) (Rv.tmp rfl)) (fun w hs => ?_)
                                refine RetV.eq ?_ hs
                                subst h24p
                                simp [rputS, mouseS, h3, h3p, h6, h6p, h7, h7p, h8, h8p, h9, h9p, h10, h10p, h11, h11p, h12, h12p, h13, h13p, h14, h14p, h15, h15p, h18, h18p, h21, h21p, h24, h25] at hsp
                                subst hsp
                                first | rfl | simp [h3, h3p, h6, h6p, h7, h7p, h8, h8p, h9, h9p, h10, h10p, h11, h11p, h12, h12p, h13, h13p, h14, h14p, h15, h15p, h18, h18p, h21, h21p, h24, h25]
                              · skip
                                refine Sc.seq ?_
                                refine Sc.region ?_
                                refine Seg.y rfl rfl (Want.none rfl) (Y.fieldAddr rfl (A.field Try.underlying23 rfl sz3 rfl rfl)) ?_
                                refine Seg.y rfl rfl (Want.none rfl) (Y.load1 1 rfl rfl rfl ag3) ?_
                                refine Seg.y rfl rfl (Want.none rfl) (Y.move rfl) ?_
                                refine Seg.y rfl rfl (Want.none rfl) (Y.binOp rfl rfl (B.eq _ _ _)) ?_
                                refine Seg.nil ?_
                                refine Sx.next ?_
                                refine Sc.cond rfl (fun h26 => ?_) (fun h26 => ?_)
                                · skip
                                  have h26p := of_decide_eq_true h26
                                  refine Sc.region ?_
                                  refine Seg.y rfl rfl (Want.none rfl) (Y.fieldAddr rfl (A.field Try.underlying23 rfl sz3 rfl rfl)) ?_
                                  refine Seg.chs rfl (Want.none rfl) (C.store (cs' := [.bool m.ins, .bool m.nl, .bool m.ck, .bool m.inv, .bool m.org, .bool m.aut, .bool m.vis, .bool m.paste, .bool m.focus, .bool m.sync, .bool m.keypad, .int .i64 0, .bool m.sgr]) (vs := [.int .i64 0]) 1 rfl rfl rfl rfl rfl rfl rfl sz3) (fun _ _ => ?_)
                                  refine Seg.nil ?_
                                  refine Sx.block_normal ?_
                                  refine Sx.next ?_
                                  refine Sc.seq ?_
                                  refine Sc.region ?_
                                  refine Seg.y rfl rfl (Want.none rfl) (Y.loadN (vs := [.bool m.ins, .bool m.nl, .bool m.ck, .bool m.inv, .bool m.org, .bool m.aut, .bool m.vis, .bool m.paste, .bool m.focus, .bool m.sync, .bool m.keypad, .int .i64 0, .bool m.sgr]) 1 rfl rfl rfl rfl ag23 sz23) ?_
                                  refine Seg.chs rfl (Want.none rfl) (C.store (cs' := [.bool m.ins, .bool m.nl, .bool m.ck, .bool m.inv, .bool m.org, .bool m.aut, .bool m.vis, .bool m.paste, .bool m.focus, .bool m.sync, .bool m.keypad, .int .i64 0, .bool m.sgr]) (vs := [.bool m.ins, .bool m.nl, .bool m.ck, .bool m.inv, .bool m.org, .bool m.aut, .bool m.vis, .bool m.paste, .bool m.focus, .bool m.sync, .bool m.keypad, .int .i64 0, .bool m.sgr]) 0 rfl rfl rfl rfl rfl rfl rfl sz23) (fun _ _ => ?_)
                                  refine Seg.y rfl rfl (Want.none rfl) (Y.assign rfl) ?_
                                  refine Seg.nil ?_
                                  refine Sx.next ?_
                                  refine Sc.ret ?_
                                  refine Sx.body (.inl rfl) (res2 rfl (Rv.cell (vs := [.bool m.ins, .bool m.nl, .bool m.ck, .bool m.inv, .bool m.org, .bool m.aut, .bool m.vis, .bool m.paste, .bool m.focus, .bool m.sync, .bool m.keypad, .int .i64 0, .bool m.sgr]) 0 rfl rfl rfl rfl ag23 sz23) (Rv.tmp rfl)) (fun w hs => ?_)
                                  refine RetV.eq ?_ hs
                                  subst h24p
                                  simp [rputS, mouseS, h3, h3p, h6, h6p, h7, h7p, h8, h8p, h9, h9p, h10, h10p, h11, h11p, h12, h12p, h13, h13p, h14, h14p, h15, h15p, h18, h18p, h21, h21p, h24, h25, h26, h26p] at hsp
                                  subst hsp
                                  first | rfl | simp [h3, h3p, h6, h6p, h7, h7p, h8, h8p, h9, h9p, h10, h10p, h11, h11p, h12, h12p, h13, h13p, h14, h14p, h15, h15p, h18, h18p, h21, h21p, h24, h25, h26, h26p]
                                · skip
                                  have h26p := of_decide_eq_false h26
                                  refine Sc.skip ?_
                                  refine Sx.block_normal ?_
                                  refine Sx.next ?_
                                  refine Sc.seq ?_
                                  refine Sc.region ?_
                                  refine Seg.y rfl rfl (Want.none rfl) (Y.loadN (vs := [.bool m.ins, .bool m.nl, .bool m.ck, .bool m.inv, .bool m.org, .bool m.aut, .bool m.vis, .bool m.paste, .bool m.focus, .bool m.sync, .bool m.keypad, .int .i64 m.mouse, .bool m.sgr]) 1 rfl rfl rfl rfl ag23 sz23) ?_
                                  refine Seg.chs rfl (Want.none rfl) (C.store (cs' := [.bool m.ins, .bool m.nl, .bool m.ck, .bool m.inv, .bool m.org, .bool m.aut, .bool m.vis, .bool m.paste, .bool m.focus, .bool m.sync, .bool m.keypad, .int .i64 m.mouse, .bool m.sgr]) (vs := [.bool m.ins, .bool m.nl, .bool m.ck, .bool m.inv, .bool m.org, .bool m.aut, .bool m.vis, .bool m.paste, .bool m.focus, .bool m.sync, .bool m.keypad, .int .i64 m.mouse, .bool m.sgr]) 0 rfl rfl rfl rfl rfl rfl rfl sz23) (fun _ _ => ?_)
                                  refine Seg.y rfl rfl (Want.none rfl) (Y.assign rfl) ?_
                                  refine Seg.nil ?_
                                  refine Sx.next ?_
                                  refine Sc.ret ?_
                                  refine Sx.body (.inl rfl) (res2 rfl (Rv.cell (vs := [.bool m.ins, .bool m.nl, .bool m.ck, .bool m.inv, .bool m.org, .bool m.aut, .bool m.vis, .bool m.paste, .bool m.focus, .bool m.sync, .bool m.keypad, .int .i64 m.mouse, .bool m.sgr]) 0 rfl rfl rfl rfl ag23 sz23) (Rv.tmp rfl)) (fun w hs => ?_)
                                  refine RetV.eq ?_ hs
                                  subst h24p
                                  simp [rputS, mouseS, h3, h3p, h6, h6p, h7, h7p, h8, h8p, h9, h9p, h10, h10p, h11, h11p, h12, h12p, h13, h13p, h14, h14p, h15, h15p, h18, h18p, h21, h21p, h24, h25, h26, h26p] at hsp
                                  subst hsp
                                  first | rfl | simp [h3, h3p, h6, h6p, h7, h7p, h8, h8p, h9, h9p, h10, h10p, h11, h11p, h12, h12p, h13, h13p, h14, h14p, h15, h15p, h18, h18p, h21, h21p, h24, h25, h26, h26p]
                            · skip
                              have h24p := of_decide_eq_false h24
                              refine Sc.seq ?_
                              refine Sc.region ?_
                              refine Seg.y rfl rfl (Want.none rfl) (Y.loadN (vs := [.bool m.ins, .bool m.nl, .bool m.ck, .bool m.inv, .bool m.org, .bool m.aut, .bool m.vis, .bool m.paste, .bool m.focus, .bool m.sync, .bool m.keypad, .int .i64 m.mouse, .bool m.sgr]) 1 rfl rfl rfl rfl ag23 sz23) ?_
                              refine Seg.chs rfl (Want.none rfl) (C.store (cs' := [.bool m.ins, .bool m.nl, .bool m.ck, .bool m.inv, .bool m.org, .bool m.aut, .bool m.vis, .bool m.paste, .bool m.focus, .bool m.sync, .bool m.keypad, .int .i64 m.mouse, .bool m.sgr]) (vs := [.bool m.ins, .bool m.nl, .bool m.ck, .bool m.inv, .bool m.org, .bool m.aut, .bool m.vis, .bool m.paste, .bool m.focus, .bool m.sync, .bool m.keypad, .int .i64 m.mouse, .bool m.sgr]) 0 rfl rfl rfl rfl rfl rfl rfl sz23) (fun _ _ => ?_)
                              refine Seg.y rfl rfl (Want.none rfl) (Y.assign rfl) ?_
                              refine Seg.nil ?_
                              refine Sx.next ?_
                              refine Sc.ret ?_
                              refine Sx.block_ret ?_
                              refine Sx.next_ret ?_
                              refine Sx.body (.inl rfl) (res2 rfl (Rv.cell (vs := [.bool m.ins, .bool m.nl, .bool m.ck, .bool m.inv, .bool m.org, .bool m.aut, .bool m.vis, .bool m.paste, .bool m.focus, .bool m.sync, .bool m.keypad, .int .i64 m.mouse, .bool m.sgr]) 0 rfl rfl rfl rfl ag23 sz23) (Rv.tmp rfl)) (fun w hs => ?_)
                              refine RetV.eq ?_ hs
                              simp [rputS, mouseS, h3, h3p, h6, h6p, h7, h7p, h8, h8p, h9, h9p, h10, h10p, h11, h11p, h12, h12p, h13, h13p, h14, h14p, h15, h15p, h18, h18p, h21, h21p, h24, h24p] at hsp
                              subst hsp
                              first | rfl | simp [h3, h3p, h6, h6p, h7, h7p, h8, h8p, h9, h9p, h10, h10p, h11, h11p, h12, h12p, h13, h13p, h14, h14p, h15, h15p, h18, h18p, h21, h21p, h24, h24p]
end Go.Proofs.Ythmigjicibhheaa
