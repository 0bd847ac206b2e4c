/- What the functions of the program and of the reference come to: one theorem a function (part 12). -/
import Derived.Test.YthmigjicibhheaaW11
namespace Go.Proofs.Ythmigjicibhheaa
open Go Go.RowKit Go.Eng
set_option maxRecDepth 100000
set_option linter.unusedVariables false
set_option linter.unusedSimpArgs false
set_option maxHeartbeats 4000000 in
theorem modeStates_c (m : Md) (b : Int) (n : Int) (alt : Bool) (w : World) (hb0 : 0 ≤ b ∧ b ≤ 65535) :
    Calls Try.prog 4 #[.agg (List.toArray [.bool m.ins, .bool m.nl, .bool m.ck, .bool m.inv, .bool m.org, .bool m.aut, .bool m.vis, .bool m.paste, .bool m.focus, .bool m.sync, .bool m.keypad, .int .i64 m.mouse, .bool m.sgr]), .int .u16 b, .int .i64 n, .bool alt] w (RetV w (.bool true)) := by
  refine enter (F := fun w => True) [] Try.func4 rfl Try.ntmps4 (by simp) Fut.triv rfl ?_
  refine Sc.seq ?_
  refine Sc.region ?_
  refine Seg.chg rfl rfl (Want.none rfl) (C.box rfl) (fun b1 hb1 => ?_)
  refine Seg.y rfl rfl (Want.none rfl) (Y.assign rfl) ?_
  refine Seg.nil ?_
  refine Sx.next ?_
  refine Sc.seq ?_
  refine Sc.region ?_
  refine Seg.y rfl rfl (Want.none rfl) (Y.move rfl) ?_
  refine Seg.callR (val := fun ((a2, c3) : Option Addr × Nat) => .slice a2 ((numsS n).length) c3) (Φ := fun ((a2, c3) : Option Addr × Nat) => fun w => RowV 1 encI a2 (numsS n) w) rfl rfl (Want.none rfl) (K.func rfl co9) (fun w hs => nums_c n _ w hs.dc_lt   ) (fun ⟨a2, c3⟩ => ?_)
  refine Seg.y rfl rfl (Want.none rfl) (Y.assign rfl) ?_
  refine Seg.nil ?_
  refine Sx.next ?_
  refine Sc.seq ?_
  refine Sc.seq ?_
  obtain ⟨r4, hr4⟩ : ∃ x, x = ofS b := ⟨_, rfl⟩
  refine Sc.cut (fun (_ : Unit) => True) (fun (_ : Unit) => [(3, .bool alt), (9, .slice a2 ((numsS n).length) c3), (24, .agg (List.toArray [.bool m.ins, .bool m.nl, .bool m.ck, .bool m.inv, .bool m.org, .bool m.aut, .bool m.vis, .bool m.paste, .bool m.focus, .bool m.sync, .bool m.keypad, .int .i64 m.mouse, .bool m.sgr, .bool r4.ins, .bool r4.nl, .bool r4.ck, .bool r4.inv, .bool r4.org, .bool r4.aut, .bool r4.vis, .bool r4.paste, .bool r4.focus, .bool r4.sync, .bool r4.keypad, .int .i64 r4.mouse, .bool r4.sgr])), (25, .int .i64 0)]) (fun (_ : Unit) => []) (fun _ => fun w => (True) ∧ RowV 1 encI a2 (numsS n) w) ?_ ?_
  · skip
    refine Sc.draw (by kernel_rfl) (fun _ h => St.lean [0] (by decide) (fun _ h => h) h rfl) ?_
    refine Sd.take 0 rfl rfl rfl (by kernel_rfl) (by kernel_rfl) (by kernel_rfl) Cut.panic (Want.none rfl) (Y.loadN (vs := [.bool m.ins, .bool m.nl, .bool m.ck, .bool m.inv, .bool m.org, .bool m.aut, .bool m.vis, .bool m.paste, .bool m.focus, .bool m.sync, .bool m.keypad, .int .i64 m.mouse, .bool m.sgr]) 0 rfl rfl rfl rfl ag23 sz23) ?_
    refine Sd.take 1 rfl rfl rfl (by kernel_rfl) (by kernel_rfl) (by kernel_rfl) Cut.panic (Want.none rfl) (Y.move rfl) ?_
    refine Sd.take 4 rfl rfl rfl (by kernel_rfl) (by kernel_rfl) (by kernel_rfl) Cut.panic (Want.none rfl) (Y.move rfl) ?_
    refine Sd.all [2] (by kernel_rfl) (by decide) (all_cons ?_ all_nil)
    refine Sp.callV (v := .agg (List.toArray [.bool r4.ins, .bool r4.nl, .bool r4.ck, .bool r4.inv, .bool r4.org, .bool r4.aut, .bool r4.vis, .bool r4.paste, .bool r4.focus, .bool r4.sync, .bool r4.keypad, .int .i64 r4.mouse, .bool r4.sgr])) rfl rfl rfl (Want.none rfl) (K.func rfl co10) (fun w hs => by rw [hr4]; exact of_c b w (by first | assumption | omega)) ?_
    refine Sd.take 3 rfl rfl rfl (by kernel_rfl) (by kernel_rfl) (by kernel_rfl) Cut.panic (Want.none rfl) (Y.build (v := .agg (List.toArray [.bool m.ins, .bool m.nl, .bool m.ck, .bool m.inv, .bool m.org, .bool m.aut, .bool m.vis, .bool m.paste, .bool m.focus, .bool m.sync, .bool m.keypad, .int .i64 m.mouse, .bool m.sgr, .bool r4.ins, .bool r4.nl, .bool r4.ck, .bool r4.inv, .bool r4.org, .bool r4.aut, .bool r4.vis, .bool r4.paste, .bool r4.focus, .bool r4.sync, .bool r4.keypad, .int .i64 r4.mouse, .bool r4.sgr])) rfl (fun w => by kernel_rfl)) ?_
    refine Sd.done (by kernel_rfl) ?_
    exact Sx.cut () trivial ⟨rfl, rfl, rfl, rfl, trivial⟩ [] (by decide) rfl (fun _ h => h)
  · intro _ _
    show Sx _ _ _ [(3, .bool alt), (9, .slice a2 ((numsS n).length) c3), (24, .agg (List.toArray [.bool m.ins, .bool m.nl, .bool m.ck, .bool m.inv, .bool m.org, .bool m.aut, .bool m.vis, .bool m.paste, .bool m.focus, .bool m.sync, .bool m.keypad, .int .i64 m.mouse, .bool m.sgr, .bool r4.ins, .bool r4.nl, .bool r4.ck, .bool r4.inv, .bool r4.org, .bool r4.aut, .bool r4.vis, .bool r4.paste, .bool r4.focus, .bool r4.sync, .bool r4.keypad, .int .i64 r4.mouse, .bool r4.sgr])), (25, .int .i64 0)] [] _
    refine Sx.next ?_
    refine Sc.block ?_
    refine Sc.rounds 3 ?_
    refine Sr.succ ?_
    refine Sc.seq ?_
    refine Sc.region ?_
    refine Seg.y rfl rfl (Want.none rfl) (Y.binOp (v := .bool true) rfl rfl (B.lt _ _ _)) ?_
    refine Seg.nil ?_
    refine Sx.next ?_
    refine Sc.seq ?_
    refine Sc.condT rfl rfl ?_
    refine Sc.skip ?_
    refine Sx.next ?_
    refine Sc.seq ?_
    refine Sc.block ?_
    refine Sc.seq ?_
    refine Sc.region ?_
    refine Seg.y rfl rfl (Want.none rfl) (Y.index (v := .agg (List.toArray [.bool m.ins, .bool m.nl, .bool m.ck, .bool m.inv, .bool m.org, .bool m.aut, .bool m.vis, .bool m.paste, .bool m.focus, .bool m.sync, .bool m.keypad, .int .i64 m.mouse, .bool m.sgr])) rfl rfl (fun w => by kernel_rfl)) ?_
    refine Seg.chg rfl rfl (Want.none rfl) (C.alloc zv23 rfl) (fun b5 hb5 => ?_)
    refine Seg.chs rfl (Want.none rfl) (C.store (cs' := [.bool m.ins, .bool m.nl, .bool m.ck, .bool m.inv, .bool m.org, .bool m.aut, .bool m.vis, .bool m.paste, .bool m.focus, .bool m.sync, .bool m.keypad, .int .i64 m.mouse, .bool m.sgr]) (vs := [.bool m.ins, .bool m.nl, .bool m.ck, .bool m.inv, .bool m.org, .bool m.aut, .bool m.vis, .bool m.paste, .bool m.focus, .bool m.sync, .bool m.keypad, .int .i64 m.mouse, .bool m.sgr]) 0 rfl rfl rfl rfl rfl rfl rfl sz23) (fun _ _ => ?_)
    refine Seg.nil ?_
    refine Sx.next ?_
    refine Sc.seq ?_
    refine Sc.region ?_
    refine Seg.y rfl rfl (Want.none rfl) (Y.assign rfl) ?_
    refine Seg.nil ?_
    refine Sx.next ?_
    refine Sc.block ?_
    refine Sc.loop (fun (k3 : Nat) => k3 ≤ 22) (fun (k3 : Nat) => 22 - k3) (fun (k3 : Nat) => [(3, .bool alt), (9, .slice a2 ((numsS n).length) c3), (11, .pointer (some ⟨b5, 0, none⟩)), (12, .int .i64 (k3 : Int)), (24, .agg (List.toArray [.bool m.ins, .bool m.nl, .bool m.ck, .bool m.inv, .bool m.org, .bool m.aut, .bool m.vis, .bool m.paste, .bool m.focus, .bool m.sync, .bool m.keypad, .int .i64 m.mouse, .bool m.sgr, .bool r4.ins, .bool r4.nl, .bool r4.ck, .bool r4.inv, .bool r4.org, .bool r4.aut, .bool r4.vis, .bool r4.paste, .bool r4.focus, .bool r4.sync, .bool r4.keypad, .int .i64 r4.mouse, .bool r4.sgr])), (25, .int .i64 0)]) (fun (k3 : Nat) => [(some b5, .cells (List.toArray [.bool m.ins, .bool m.nl, .bool m.ck, .bool m.inv, .bool m.org, .bool m.aut, .bool m.vis, .bool m.paste, .bool m.focus, .bool m.sync, .bool m.keypad, .int .i64 m.mouse, .bool m.sgr]) 23 (0, 0))]) (fun (k3 : Nat) => fun w => (True) ∧ RowV 1 encI a2 (numsS n) w) 0 (Nat.zero_le _) (by exact ⟨rfl, rfl, rfl, rfl, rfl, rfl, trivial⟩) [0] (by decide) rfl (fun _ h => h) ?_
    rintro k3 hJ1
    have hk3 := hJ1
    have hln3 := numsS_len n
    show Sc _ _ _ _ [(3, .bool alt), (9, .slice a2 ((numsS n).length) c3), (11, .pointer (some ⟨b5, 0, none⟩)), (12, .int .i64 (k3 : Int)), (24, .agg (List.toArray [.bool m.ins, .bool m.nl, .bool m.ck, .bool m.inv, .bool m.org, .bool m.aut, .bool m.vis, .bool m.paste, .bool m.focus, .bool m.sync, .bool m.keypad, .int .i64 m.mouse, .bool m.sgr, .bool r4.ins, .bool r4.nl, .bool r4.ck, .bool r4.inv, .bool r4.org, .bool r4.aut, .bool r4.vis, .bool r4.paste, .bool r4.focus, .bool r4.sync, .bool r4.keypad, .int .i64 r4.mouse, .bool r4.sgr])), (25, .int .i64 0)] [(some b5, .cells (List.toArray [.bool m.ins, .bool m.nl, .bool m.ck, .bool m.inv, .bool m.org, .bool m.aut, .bool m.vis, .bool m.paste, .bool m.focus, .bool m.sync, .bool m.keypad, .int .i64 m.mouse, .bool m.sgr]) 23 (0, 0))] (fun w => (True) ∧ RowV 1 encI a2 (numsS n) w)
    refine Sc.seq ?_
    refine Sc.seq ?_
    refine Sc.region ?_
    refine Seg.y rfl rfl (Want.none rfl) (Y.move rfl) ?_
    refine Seg.y rfl rfl (Want.none rfl) (Y.move rfl) ?_
    refine Seg.y rfl rfl (Want.none rfl) (Y.bi rfl (fun w _ => run_len rfl Try.underlying25 w)) ?_
    refine Seg.y rfl rfl (Want.none rfl) (Y.binOp rfl rfl (B.lt _ _ _)) ?_
    refine Seg.nil ?_
    refine Sx.next ?_
    refine Sc.cond rfl (fun h6 => ?_) (fun h6 => ?_)
    · skip
      have h6p := of_decide_eq_true h6
      refine Sc.skip ?_
      refine Sx.next ?_
      refine Sc.seq ?_
      refine Sc.block ?_
      refine Sc.seq ?_
      refine Sc.region ?_
      refine Seg.y rfl rfl (Want.none rfl) (Y.build (v := .agg (List.toArray [.bool false, .bool true])) rfl (fun w => by kernel_rfl)) ?_
      refine Seg.y rfl rfl (Want.none rfl) (Y.move rfl) ?_
      refine Seg.nil ?_
      refine Sx.next ?_
      refine Sc.block ?_
      refine Sc.rounds 3 ?_
      refine Sr.succ ?_
      refine Sc.seq ?_
      refine Sc.region ?_
      refine Seg.y rfl rfl (Want.none rfl) (Y.binOp (v := .bool true) rfl rfl (B.lt _ _ _)) ?_
      refine Seg.nil ?_
      refine Sx.next ?_
      refine Sc.seq ?_
      refine Sc.condT rfl rfl ?_
      refine Sc.skip ?_
      refine Sx.next ?_
      refine Sc.seq ?_
      refine Sc.block ?_
      refine Sc.seq ?_
      refine Sc.region ?_
      refine Seg.y rfl rfl (Want.none rfl) (Y.index (v := .bool false) rfl rfl (fun w => by kernel_rfl)) ?_
      refine Seg.y rfl rfl (Want.none rfl) (Y.assign rfl) ?_
      refine Seg.nil ?_
      refine Sx.next ?_
      refine Sc.seq ?_
      obtain ⟨r7, hr7⟩ : ∃ x, x = stateS m false ((numsS n).getD k3 (0 : Int)) alt := ⟨_, rfl⟩
      refine Sc.cut (fun (_ : Unit) => True) (fun (_ : Unit) => [(3, .bool alt), (9, .slice a2 ((numsS n).length) c3), (11, .pointer (some ⟨b5, 0, none⟩)), (12, .int .i64 (k3 : Int)), (14, .bool false), (15, .int .i64 r7.1), (16, .int .i64 r7.2), (24, .agg (List.toArray [.bool m.ins, .bool m.nl, .bool m.ck, .bool m.inv, .bool m.org, .bool m.aut, .bool m.vis, .bool m.paste, .bool m.focus, .bool m.sync, .bool m.keypad, .int .i64 m.mouse, .bool m.sgr, .bool r4.ins, .bool r4.nl, .bool r4.ck, .bool r4.inv, .bool r4.org, .bool r4.aut, .bool r4.vis, .bool r4.paste, .bool r4.focus, .bool r4.sync, .bool r4.keypad, .int .i64 r4.mouse, .bool r4.sgr])), (25, .int .i64 0), (34, .agg (List.toArray [.bool false, .bool true])), (35, .int .i64 0)]) (fun (_ : Unit) => [(some b5, .cells (List.toArray [.bool m.ins, .bool m.nl, .bool m.ck, .bool m.inv, .bool m.org, .bool m.aut, .bool m.vis, .bool m.paste, .bool m.focus, .bool m.sync, .bool m.keypad, .int .i64 m.mouse, .bool m.sgr]) 23 (0, 0))]) (fun _ => fun w => (True) ∧ RowV 1 encI a2 (numsS n) w) ?_ ?_
      · skip
        refine Sc.draw (by kernel_rfl) (fun _ h => St.lean [0] (by decide) (fun _ h => h) h rfl) ?_
        refine Sd.take 0 rfl rfl rfl (by kernel_rfl) (by kernel_rfl) (by kernel_rfl) Cut.panic (Want.none rfl) (Y.loadN (vs := [.bool m.ins, .bool m.nl, .bool m.ck, .bool m.inv, .bool m.org, .bool m.aut, .bool m.vis, .bool m.paste, .bool m.focus, .bool m.sync, .bool m.keypad, .int .i64 m.mouse, .bool m.sgr]) 0 rfl rfl rfl rfl ag23 sz23) ?_
        refine Sd.take 1 rfl rfl rfl (by kernel_rfl) (by kernel_rfl) (by kernel_rfl) Cut.panic (Want.none rfl) (Y.move rfl) ?_
        refine Sd.take 2 rfl rfl rfl (by kernel_rfl) (by kernel_rfl) (by kernel_rfl) Cut.panic (Want.none rfl) (Y.move rfl) ?_
        refine Sd.take 3 rfl rfl rfl (by kernel_rfl) (by kernel_rfl) (by kernel_rfl) Cut.panic (Want.none rfl) (Y.move rfl) ?_
        refine Sd.take 4 rfl rfl rfl (by kernel_rfl) (by kernel_rfl) (by kernel_rfl) Cut.panic (Want.none rfl) (Y.elemAddr rfl rfl Try.underlying25 sz3 (fun w h => ((h.2) k3 _ (getD_some (0 : Int) (by omega))).1) (by omega) (by omega) (by simp : (sadr a2).off + ((k3 : Int)).toNat * 1 = (sadr a2).off + k3 * 1)) ?_
        refine Sd.take 5 rfl rfl rfl (by kernel_rfl) (by kernel_rfl) (by kernel_rfl) Cut.panic (Want.none rfl) (Y.loadF1 rfl ag3 (fun w h => ((h.2) k3 _ (getD_some (0 : Int) (by omega))).2 0 _ rfl)) ?_
        refine Sd.take 6 rfl rfl rfl (by kernel_rfl) (by kernel_rfl) (by kernel_rfl) Cut.panic (Want.none rfl) (Y.move rfl) ?_
        refine Sd.all [7] (by kernel_rfl) (by decide) (all_cons ?_ all_nil)
        refine Sp.callV (v := .tuple (List.toArray [.int .i64 r7.1, .int .i64 r7.2])) rfl rfl rfl (Want.none rfl) (K.func rfl co19) (fun w hs => by rw [hr7]; exact state_c m false ((numsS n).getD k3 (0 : Int)) alt w ) ?_
        refine Sd.take 8 rfl rfl rfl (by kernel_rfl) (by kernel_rfl) (by kernel_rfl) Cut.panic (Want.none rfl) (Y.move rfl) ?_
        refine Sd.take 9 rfl rfl rfl (by kernel_rfl) (by kernel_rfl) (by kernel_rfl) Cut.panic (Want.none rfl) (Y.extract rfl rfl) ?_
        refine Sd.take 10 rfl rfl rfl (by kernel_rfl) (by kernel_rfl) (by kernel_rfl) Cut.panic (Want.none rfl) (Y.extract rfl rfl) ?_
        refine Sd.take 11 rfl rfl rfl (by kernel_rfl) (by kernel_rfl) (by kernel_rfl) Cut.panic (Want.none rfl) (Y.assign rfl) ?_
        refine Sd.take 12 rfl rfl rfl (by kernel_rfl) (by kernel_rfl) (by kernel_rfl) Cut.panic (Want.none rfl) (Y.assign rfl) ?_
        refine Sd.done (by kernel_rfl) ?_
        exact Sx.cut () trivial ⟨rfl, rfl, rfl, rfl, rfl, rfl, rfl, rfl, rfl, rfl, rfl, trivial⟩ [0] (by decide) rfl (fun _ h => h)
      · intro _ _
        show Sx _ _ _ [(3, .bool alt), (9, .slice a2 ((numsS n).length) c3), (11, .pointer (some ⟨b5, 0, none⟩)), (12, .int .i64 (k3 : Int)), (14, .bool false), (15, .int .i64 r7.1), (16, .int .i64 r7.2), (24, .agg (List.toArray [.bool m.ins, .bool m.nl, .bool m.ck, .bool m.inv, .bool m.org, .bool m.aut, .bool m.vis, .bool m.paste, .bool m.focus, .bool m.sync, .bool m.keypad, .int .i64 m.mouse, .bool m.sgr, .bool r4.ins, .bool r4.nl, .bool r4.ck, .bool r4.inv, .bool r4.org, .bool r4.aut, .bool r4.vis, .bool r4.paste, .bool r4.focus, .bool r4.sync, .bool r4.keypad, .int .i64 r4.mouse, .bool r4.sgr])), (25, .int .i64 0), (34, .agg (List.toArray [.bool false, .bool true])), (35, .int .i64 0)] [(some b5, .cells (List.toArray [.bool m.ins, .bool m.nl, .bool m.ck, .bool m.inv, .bool m.org, .bool m.aut, .bool m.vis, .bool m.paste, .bool m.focus, .bool m.sync, .bool m.keypad, .int .i64 m.mouse, .bool m.sgr]) 23 (0, 0))] _
        refine Sx.next ?_
        refine Sc.seq ?_
        refine Sc.region ?_
        refine Seg.y rfl rfl (Want.none rfl) (Y.loadN (vs := [.bool m.ins, .bool m.nl, .bool m.ck, .bool m.inv, .bool m.org, .bool m.aut, .bool m.vis, .bool m.paste, .bool m.focus, .bool m.sync, .bool m.keypad, .int .i64 m.mouse, .bool m.sgr]) 0 rfl rfl rfl rfl ag23 sz23) ?_
        obtain ⟨r8, hr8⟩ : ∃ x, x = checkS m := ⟨_, rfl⟩
        refine Seg.callV (v := .int .i64 r8) rfl rfl (Want.none rfl) (K.func rfl co12) (fun w hs => by rw [hr8]; exact rcheck_c m w ) ?_
        refine Seg.y rfl rfl (Want.none rfl) (Y.assign rfl) ?_
        refine Seg.y rfl rfl (Want.none rfl) (Y.assign rfl) ?_
        refine Seg.nil ?_
        refine Sx.next ?_
        refine Sc.seq ?_
        refine Sc.seq ?_
        refine Sc.region ?_
        refine Seg.y rfl rfl (Want.none rfl) (Y.move rfl) ?_
        refine Seg.y rfl rfl (Want.none rfl) (Y.binOp rfl rfl (B.eq _ _ _)) ?_
        refine Seg.nil ?_
        refine Sx.next ?_
        refine Sc.cond rfl (fun h9 => ?_) (fun h9 => ?_)
        · skip
          have h9p := of_decide_eq_true h9
          obtain ⟨r10, hr10⟩ : ∃ x, x = rstateS m false ((numsS n).getD k3 (0 : Int)) alt := ⟨_, rfl⟩
          have hbr10 : 0 ≤ r10 ∧ r10 ≤ 2 := by rw [hr10]; exact rstate_bd _ _ _ _
          refine Sc.cut (fun (_ : Unit) => True) (fun (_ : Unit) => [(3, .bool alt), (9, .slice a2 ((numsS n).length) c3), (11, .pointer (some ⟨b5, 0, none⟩)), (12, .int .i64 (k3 : Int)), (15, .int .i64 r7.1), (16, .int .i64 r7.2), (17, .int .i64 r10), (18, .int .i64 r8), (24, .agg (List.toArray [.bool m.ins, .bool m.nl, .bool m.ck, .bool m.inv, .bool m.org, .bool m.aut, .bool m.vis, .bool m.paste, .bool m.focus, .bool m.sync, .bool m.keypad, .int .i64 m.mouse, .bool m.sgr, .bool r4.ins, .bool r4.nl, .bool r4.ck, .bool r4.inv, .bool r4.org, .bool r4.aut, .bool r4.vis, .bool r4.paste, .bool r4.focus, .bool r4.sync, .bool r4.keypad, .int .i64 r4.mouse, .bool r4.sgr])), (25, .int .i64 0), (34, .agg (List.toArray [.bool false, .bool true])), (35, .int .i64 0)]) (fun (_ : Unit) => [(some b5, .cells (List.toArray [.bool m.ins, .bool m.nl, .bool m.ck, .bool m.inv, .bool m.org, .bool m.aut, .bool m.vis, .bool m.paste, .bool m.focus, .bool m.sync, .bool m.keypad, .int .i64 m.mouse, .bool m.sgr]) 23 (0, 0))]) (fun _ => fun w => (True) ∧ RowV 1 encI a2 (numsS n) w) ?_ ?_
          · skip
            refine Sc.draw (by kernel_rfl) (fun _ h => St.lean [0] (by decide) (fun _ h => h) h rfl) ?_
            refine Sd.take 0 rfl rfl rfl (by kernel_rfl) (by kernel_rfl) (by kernel_rfl) Cut.panic (Want.none rfl) (Y.loadN (vs := [.bool m.ins, .bool m.nl, .bool m.ck, .bool m.inv, .bool m.org, .bool m.aut, .bool m.vis, .bool m.paste, .bool m.focus, .bool m.sync, .bool m.keypad, .int .i64 m.mouse, .bool m.sgr]) 0 rfl rfl rfl rfl ag23 sz23) ?_
            refine Sd.take 1 rfl rfl rfl (by kernel_rfl) (by kernel_rfl) (by kernel_rfl) Cut.panic (Want.none rfl) (Y.move rfl) ?_
            refine Sd.take 2 rfl rfl rfl (by kernel_rfl) (by kernel_rfl) (by kernel_rfl) Cut.panic (Want.none rfl) (Y.move rfl) ?_
            refine Sd.take 3 rfl rfl rfl (by kernel_rfl) (by kernel_rfl) (by kernel_rfl) Cut.panic (Want.none rfl) (Y.move rfl) ?_
            refine Sd.take 4 rfl rfl rfl (by kernel_rfl) (by kernel_rfl) (by kernel_rfl) Cut.panic (Want.none rfl) (Y.elemAddr rfl rfl Try.underlying25 sz3 (fun w h => ((h.2) k3 _ (getD_some (0 : Int) (by omega))).1) (by omega) (by omega) (by simp : (sadr a2).off + ((k3 : Int)).toNat * 1 = (sadr a2).off + k3 * 1)) ?_
            refine Sd.take 5 rfl rfl rfl (by kernel_rfl) (by kernel_rfl) (by kernel_rfl) Cut.panic (Want.none rfl) (Y.loadF1 rfl ag3 (fun w h => ((h.2) k3 _ (getD_some (0 : Int) (by omega))).2 0 _ rfl)) ?_
            refine Sd.take 6 rfl rfl rfl (by kernel_rfl) (by kernel_rfl) (by kernel_rfl) Cut.panic (Want.none rfl) (Y.move rfl) ?_
            refine Sd.all [7] (by kernel_rfl) (by decide) (all_cons ?_ all_nil)
            refine Sp.callV (v := .int .i64 r10) rfl rfl rfl (Want.none rfl) (K.func rfl co20) (fun w hs => by rw [hr10]; exact rstate_c m false ((numsS n).getD k3 (0 : Int)) alt w ) ?_
            refine Sd.take 8 rfl rfl rfl (by kernel_rfl) (by kernel_rfl) (by kernel_rfl) Cut.panic (Want.none rfl) (Y.assign rfl) ?_
            refine Sd.done (by kernel_rfl) ?_
            exact Sx.cut () trivial ⟨rfl, rfl, rfl, rfl, rfl, rfl, rfl, rfl, rfl, rfl, rfl, rfl, trivial⟩ [0] (by decide) rfl (fun _ h => h)
          · intro _ _
            show Sx _ _ _ [(3, .bool alt), (9, .slice a2 ((numsS n).length) c3), (11, .pointer (some ⟨b5, 0, none⟩)), (12, .int .i64 (k3 : Int)), (15, .int .i64 r7.1), (16, .int .i64 r7.2), (17, .int .i64 r10), (18, .int .i64 r8), (24, .agg (List.toArray [.bool m.ins, .bool m.nl, .bool m.ck, .bool m.inv, .bool m.org, .bool m.aut, .bool m.vis, .bool m.paste, .bool m.focus, .bool m.sync, .bool m.keypad, .int .i64 m.mouse, .bool m.sgr, .bool r4.ins, .bool r4.nl, .bool r4.ck, .bool r4.inv, .bool r4.org, .bool r4.aut, .bool r4.vis, .bool r4.paste, .bool r4.focus, .bool r4.sync, .bool r4.keypad, .int .i64 r4.mouse, .bool r4.sgr])), (25, .int .i64 0), (34, .agg (List.toArray [.bool false, .bool true])), (35, .int .i64 0)] [(some b5, .cells (List.toArray [.bool m.ins, .bool m.nl, .bool m.ck, .bool m.inv, .bool m.org, .bool m.aut, .bool m.vis, .bool m.paste, .bool m.focus, .bool m.sync, .bool m.keypad, .int .i64 m.mouse, .bool m.sgr]) 23 (0, 0))] _
            refine Sx.next ?_
            refine Sc.seq ?_
            refine Sc.cut (fun (_ : Unit) => True) (fun (_ : Unit) => [(3, .bool alt), (9, .slice a2 ((numsS n).length) c3), (11, .pointer (some ⟨b5, 0, none⟩)), (12, .int .i64 (k3 : Int)), (24, .agg (List.toArray [.bool m.ins, .bool m.nl, .bool m.ck, .bool m.inv, .bool m.org, .bool m.aut, .bool m.vis, .bool m.paste, .bool m.focus, .bool m.sync, .bool m.keypad, .int .i64 m.mouse, .bool m.sgr, .bool r4.ins, .bool r4.nl, .bool r4.ck, .bool r4.inv, .bool r4.org, .bool r4.aut, .bool r4.vis, .bool r4.paste, .bool r4.focus, .bool r4.sync, .bool r4.keypad, .int .i64 r4.mouse, .bool r4.sgr])), (25, .int .i64 0), (34, .agg (List.toArray [.bool false, .bool true])), (35, .int .i64 0), (68, .bool ((decide (r7.1 ≠ r10)) || (decide (r7.2 ≠ r8))))]) (fun (_ : Unit) => [(some b5, .cells (List.toArray [.bool m.ins, .bool m.nl, .bool m.ck, .bool m.inv, .bool m.org, .bool m.aut, .bool m.vis, .bool m.paste, .bool m.focus, .bool m.sync, .bool m.keypad, .int .i64 m.mouse, .bool m.sgr]) 23 (0, 0))]) (fun _ => fun w => (True) ∧ RowV 1 encI a2 (numsS n) w) ?_ ?_
            · skip
              refine Sc.region ?_
              refine Seg.y rfl rfl (Want.none rfl) (Y.move rfl) ?_
              refine Seg.y rfl rfl (Want.none rfl) (Y.move rfl) ?_
              refine Seg.y rfl rfl (Want.none rfl) (Y.binOp rfl rfl (B.ne _ _ _)) ?_
              refine Seg.y rfl rfl (Want.none rfl) (Y.move rfl) ?_
              rcases Bool.eq_false_or_eq_true (decide (r7.1 ≠ r10)) with g11 | g11
              · skip
                have g11p := of_decide_eq_true g11
                refine Seg.skip rfl rfl (Skip.some 3 64 false rfl rfl rfl g11) ?_
                refine Seg.skip rfl rfl (Skip.some 3 64 false rfl rfl rfl g11) ?_
                refine Seg.skip rfl rfl (Skip.some 3 64 false rfl rfl rfl g11) ?_
                refine Seg.y rfl rfl (Want.none rfl) (Y.pickT rfl g11 rfl) ?_
                refine Seg.nil ?_
                exact Sx.cut () trivial ⟨rfl, rfl, rfl, rfl, rfl, rfl, rfl, rfl, (someB (by first | (simp [h6, h6p, h9, h9p, g11, g11p]; done) | (simp_all; done) | ((simp [h6, h6p, h9, h9p, g11, g11p]) <;> grind))), trivial⟩ [0] (by decide) rfl (fun _ h => h)
              · skip
                have g11p : r7.1 = r10 := by simpa using g11
                refine Seg.y rfl rfl (Want.some 3 64 false rfl rfl rfl g11) (Y.move rfl) ?_
                refine Seg.y rfl rfl (Want.some 3 64 false rfl rfl rfl g11) (Y.move rfl) ?_
                refine Seg.y rfl rfl (Want.some 3 64 false rfl rfl rfl g11) (Y.binOp rfl rfl (B.ne _ _ _)) ?_
                refine Seg.y rfl rfl (Want.none rfl) (Y.pickF rfl g11 rfl) ?_
                refine Seg.nil ?_
                exact Sx.cut () trivial ⟨rfl, rfl, rfl, rfl, rfl, rfl, rfl, rfl, (someB (by first | (simp [h6, h6p, h9, h9p, g11, g11p]; done) | (simp_all; done) | ((simp [h6, h6p, h9, h9p, g11, g11p]) <;> grind))), trivial⟩ [0] (by decide) rfl (fun _ h => h)
            · intro _ _
              show Sx _ _ _ [(3, .bool alt), (9, .slice a2 ((numsS n).length) c3), (11, .pointer (some ⟨b5, 0, none⟩)), (12, .int .i64 (k3 : Int)), (24, .agg (List.toArray [.bool m.ins, .bool m.nl, .bool m.ck, .bool m.inv, .bool m.org, .bool m.aut, .bool m.vis, .bool m.paste, .bool m.focus, .bool m.sync, .bool m.keypad, .int .i64 m.mouse, .bool m.sgr, .bool r4.ins, .bool r4.nl, .bool r4.ck, .bool r4.inv, .bool r4.org, .bool r4.aut, .bool r4.vis, .bool r4.paste, .bool r4.focus, .bool r4.sync, .bool r4.keypad, .int .i64 r4.mouse, .bool r4.sgr])), (25, .int .i64 0), (34, .agg (List.toArray [.bool false, .bool true])), (35, .int .i64 0), (68, .bool ((decide (r7.1 ≠ r10)) || (decide (r7.2 ≠ r8))))] [(some b5, .cells (List.toArray [.bool m.ins, .bool m.nl, .bool m.ck, .bool m.inv, .bool m.org, .bool m.aut, .bool m.vis, .bool m.paste, .bool m.focus, .bool m.sync, .bool m.keypad, .int .i64 m.mouse, .bool m.sgr]) 23 (0, 0))] _
              refine Sx.next ?_
              refine Sc.cond rfl (fun h12 => ?_) (fun h12 => ?_)
              · skip
                refine Sc.seq ?_
                refine Sc.region ?_
                refine Seg.y rfl rfl (Want.none rfl) (Y.assign rfl) ?_
                refine Seg.nil ?_
                refine Sx.next ?_
                refine Sc.ret ?_
                refine Sx.block_ret ?_
                refine Sx.next_ret ?_
                refine Sx.loop_ret ?_
                refine Sx.block_ret ?_
                refine Sx.block_ret ?_
                refine Sx.next_ret ?_
                refine Sx.loop_ret ?_
                refine Sx.block_ret ?_
                refine Sx.block_ret ?_
                refine Sx.next_ret ?_
                refine Sx.loop_ret ?_
                refine Sx.block_ret ?_
                refine Sx.next_ret ?_
                refine Sx.body (.inl rfl) (res1 rfl (Rv.tmp rfl)) (fun w hs => ?_)
                refine RetV.eq ?_ hs
                subst hr4
                subst hr7
                subst hr8
                subst hr10
                exfalso; simp_all [putS, stateS, checkS, MdEq_self, MdEq_zero]; done
              · skip
                refine Sc.skip ?_
                refine Sx.block_normal ?_
                refine Sx.next ?_
                refine Sc.region ?_
                refine Seg.y rfl rfl (Want.none rfl) (Y.binOp rfl rfl (B.add _ _ _ 1 (by decide))) ?_
                refine Seg.y rfl rfl (Want.none rfl) (Y.move rfl) ?_
                refine Seg.nil ?_
                refine Sx.round ?_
                refine Sr.succ ?_
                refine Sc.seq ?_
                refine Sc.region ?_
                refine Seg.y rfl rfl (Want.none rfl) (Y.binOp (v := .bool true) rfl rfl (B.lt _ _ _)) ?_
                refine Seg.nil ?_
                refine Sx.next ?_
                refine Sc.seq ?_
                refine Sc.condT rfl rfl ?_
                refine Sc.skip ?_
                refine Sx.next ?_
                refine Sc.seq ?_
                refine Sc.block ?_
                refine Sc.seq ?_
                refine Sc.region ?_
                refine Seg.y rfl rfl (Want.none rfl) (Y.index (v := .bool true) rfl rfl (fun w => by kernel_rfl)) ?_
                refine Seg.y rfl rfl (Want.none rfl) (Y.assign rfl) ?_
                refine Seg.nil ?_
                refine Sx.next ?_
                refine Sc.seq ?_
                obtain ⟨r13, hr13⟩ : ∃ x, x = stateS m true ((numsS n).getD k3 (0 : Int)) alt := ⟨_, rfl⟩
                refine Sc.cut (fun (_ : Unit) => True) (fun (_ : Unit) => [(3, .bool alt), (9, .slice a2 ((numsS n).length) c3), (11, .pointer (some ⟨b5, 0, none⟩)), (12, .int .i64 (k3 : Int)), (14, .bool true), (15, .int .i64 r13.1), (16, .int .i64 r13.2), (24, .agg (List.toArray [.bool m.ins, .bool m.nl, .bool m.ck, .bool m.inv, .bool m.org, .bool m.aut, .bool m.vis, .bool m.paste, .bool m.focus, .bool m.sync, .bool m.keypad, .int .i64 m.mouse, .bool m.sgr, .bool r4.ins, .bool r4.nl, .bool r4.ck, .bool r4.inv, .bool r4.org, .bool r4.aut, .bool r4.vis, .bool r4.paste, .bool r4.focus, .bool r4.sync, .bool r4.keypad, .int .i64 r4.mouse, .bool r4.sgr])), (25, .int .i64 0), (34, .agg (List.toArray [.bool false, .bool true])), (35, .int .i64 1)]) (fun (_ : Unit) => [(some b5, .cells (List.toArray [.bool m.ins, .bool m.nl, .bool m.ck, .bool m.inv, .bool m.org, .bool m.aut, .bool m.vis, .bool m.paste, .bool m.focus, .bool m.sync, .bool m.keypad, .int .i64 m.mouse, .bool m.sgr]) 23 (0, 0))]) (fun _ => fun w => (True) ∧ RowV 1 encI a2 (numsS n) w) ?_ ?_
                · skip
                  refine Sc.draw (by kernel_rfl) (fun _ h => St.lean [0] (by decide) (fun _ h => h) h rfl) ?_
                  refine Sd.take 0 rfl rfl rfl (by kernel_rfl) (by kernel_rfl) (by kernel_rfl) Cut.panic (Want.none rfl) (Y.loadN (vs := [.bool m.ins, .bool m.nl, .bool m.ck, .bool m.inv, .bool m.org, .bool m.aut, .bool m.vis, .bool m.paste, .bool m.focus, .bool m.sync, .bool m.keypad, .int .i64 m.mouse, .bool m.sgr]) 0 rfl rfl rfl rfl ag23 sz23) ?_
                  refine Sd.take 1 rfl rfl rfl (by kernel_rfl) (by kernel_rfl) (by kernel_rfl) Cut.panic (Want.none rfl) (Y.move rfl) ?_
                  refine Sd.take 2 rfl rfl rfl (by kernel_rfl) (by kernel_rfl) (by kernel_rfl) Cut.panic (Want.none rfl) (Y.move rfl) ?_
                  refine Sd.take 3 rfl rfl rfl (by kernel_rfl) (by kernel_rfl) (by kernel_rfl) Cut.panic (Want.none rfl) (Y.move rfl) ?_
                  refine Sd.take 4 rfl rfl rfl (by kernel_rfl) (by kernel_rfl) (by kernel_rfl) Cut.panic (Want.none rfl) (Y.elemAddr rfl rfl Try.underlying25 sz3 (fun w h => ((h.2) k3 _ (getD_some (0 : Int) (by omega))).1) (by omega) (by omega) (by simp : (sadr a2).off + ((k3 : Int)).toNat * 1 = (sadr a2).off + k3 * 1)) ?_
                  refine Sd.take 5 rfl rfl rfl (by kernel_rfl) (by kernel_rfl) (by kernel_rfl) Cut.panic (Want.none rfl) (Y.loadF1 rfl ag3 (fun w h => ((h.2) k3 _ (getD_some (0 : Int) (by omega))).2 0 _ rfl)) ?_
                  refine Sd.take 6 rfl rfl rfl (by kernel_rfl) (by kernel_rfl) (by kernel_rfl) Cut.panic (Want.none rfl) (Y.move rfl) ?_
                  refine Sd.all [7] (by kernel_rfl) (by decide) (all_cons ?_ all_nil)
                  refine Sp.callV (v := .tuple (List.toArray [.int .i64 r13.1, .int .i64 r13.2])) rfl rfl rfl (Want.none rfl) (K.func rfl co19) (fun w hs => by rw [hr13]; exact state_c m true ((numsS n).getD k3 (0 : Int)) alt w ) ?_
                  refine Sd.take 8 rfl rfl rfl (by kernel_rfl) (by kernel_rfl) (by kernel_rfl) Cut.panic (Want.none rfl) (Y.move rfl) ?_
                  refine Sd.take 9 rfl rfl rfl (by kernel_rfl) (by kernel_rfl) (by kernel_rfl) Cut.panic (Want.none rfl) (Y.extract rfl rfl) ?_
                  refine Sd.take 10 rfl rfl rfl (by kernel_rfl) (by kernel_rfl) (by kernel_rfl) Cut.panic (Want.none rfl) (Y.extract rfl rfl) ?_
                  refine Sd.take 11 rfl rfl rfl (by kernel_rfl) (by kernel_rfl) (by kernel_rfl) Cut.panic (Want.none rfl) (Y.assign rfl) ?_
                  refine Sd.take 12 rfl rfl rfl (by kernel_rfl) (by kernel_rfl) (by kernel_rfl) Cut.panic (Want.none rfl) (Y.assign rfl) ?_
                  refine Sd.done (by kernel_rfl) ?_
                  exact Sx.cut () trivial ⟨rfl, rfl, rfl, rfl, rfl, rfl, rfl, rfl, rfl, rfl, rfl, trivial⟩ [0] (by decide) rfl (fun _ h => h)
                · intro _ _
                  show Sx _ _ _ [(3, .bool alt), (9, .slice a2 ((numsS n).length) c3), (11, .pointer (some ⟨b5, 0, none⟩)), (12, .int .i64 (k3 : Int)), (14, .bool true), (15, .int .i64 r13.1), (16, .int .i64 r13.2), (24, .agg (List.toArray [.bool m.ins, .bool m.nl, .bool m.ck, .bool m.inv, .bool m.org, .bool m.aut, .bool m.vis, .bool m.paste, .bool m.focus, .bool m.sync, .bool m.keypad, .int .i64 m.mouse, .bool m.sgr, .bool r4.ins, .bool r4.nl, .bool r4.ck, .bool r4.inv, .bool r4.org, .bool r4.aut, .bool r4.vis, .bool r4.paste, .bool r4.focus, .bool r4.sync, .bool r4.keypad, .int .i64 r4.mouse, .bool r4.sgr])), (25, .int .i64 0), (34, .agg (List.toArray [.bool false, .bool true])), (35, .int .i64 1)] [(some b5, .cells (List.toArray [.bool m.ins, .bool m.nl, .bool m.ck, .bool m.inv, .bool m.org, .bool m.aut, .bool m.vis, .bool m.paste, .bool m.focus, .bool m.sync, .bool m.keypad, .int .i64 m.mouse, .bool m.sgr]) 23 (0, 0))] _
                  refine Sx.next ?_
                  refine Sc.seq ?_
                  refine Sc.region ?_
                  refine Seg.y rfl rfl (Want.none rfl) (Y.loadN (vs := [.bool m.ins, .bool m.nl, .bool m.ck, .bool m.inv, .bool m.org, .bool m.aut, .bool m.vis, .bool m.paste, .bool m.focus, .bool m.sync, .bool m.keypad, .int .i64 m.mouse, .bool m.sgr]) 0 rfl rfl rfl rfl ag23 sz23) ?_
                  obtain ⟨r14, hr14⟩ : ∃ x, x = checkS m := ⟨_, rfl⟩
                  refine Seg.callV (v := .int .i64 r14) rfl rfl (Want.none rfl) (K.func rfl co12) (fun w hs => by rw [hr14]; exact rcheck_c m w ) ?_
                  refine Seg.y rfl rfl (Want.none rfl) (Y.assign rfl) ?_
                  refine Seg.y rfl rfl (Want.none rfl) (Y.assign rfl) ?_
                  refine Seg.nil ?_
                  refine Sx.next ?_
                  refine Sc.seq ?_
                  refine Sc.seq ?_
                  refine Sc.region ?_
                  refine Seg.y rfl rfl (Want.none rfl) (Y.move rfl) ?_
                  refine Seg.y rfl rfl (Want.none rfl) (Y.binOp rfl rfl (B.eq _ _ _)) ?_
                  refine Seg.nil ?_
                  refine Sx.next ?_
                  refine Sc.cond rfl (fun h15 => ?_) (fun h15 => ?_)
                  · skip
                    have h15p := of_decide_eq_true h15
                    obtain ⟨r16, hr16⟩ : ∃ x, x = rstateS m true ((numsS n).getD k3 (0 : Int)) alt := ⟨_, rfl⟩
                    have hbr16 : 0 ≤ r16 ∧ r16 ≤ 2 := by rw [hr16]; exact rstate_bd _ _ _ _
                    refine Sc.cut (fun (_ : Unit) => True) (fun (_ : Unit) => [(3, .bool alt), (9, .slice a2 ((numsS n).length) c3), (11, .pointer (some ⟨b5, 0, none⟩)), (12, .int .i64 (k3 : Int)), (15, .int .i64 r13.1), (16, .int .i64 r13.2), (17, .int .i64 r16), (18, .int .i64 r14), (24, .agg (List.toArray [.bool m.ins, .bool m.nl, .bool m.ck, .bool m.inv, .bool m.org, .bool m.aut, .bool m.vis, .bool m.paste, .bool m.focus, .bool m.sync, .bool m.keypad, .int .i64 m.mouse, .bool m.sgr, .bool r4.ins, .bool r4.nl, .bool r4.ck, .bool r4.inv, .bool r4.org, .bool r4.aut, .bool r4.vis, .bool r4.paste, .bool r4.focus, .bool r4.sync, .bool r4.keypad, .int .i64 r4.mouse, .bool r4.sgr])), (25, .int .i64 0), (34, .agg (List.toArray [.bool false, .bool true])), (35, .int .i64 1)]) (fun (_ : Unit) => [(some b5, .cells (List.toArray [.bool m.ins, .bool m.nl, .bool m.ck, .bool m.inv, .bool m.org, .bool m.aut, .bool m.vis, .bool m.paste, .bool m.focus, .bool m.sync, .bool m.keypad, .int .i64 m.mouse, .bool m.sgr]) 23 (0, 0))]) (fun _ => fun w => (True) ∧ RowV 1 encI a2 (numsS n) w) ?_ ?_
                    · skip
                      refine Sc.draw (by kernel_rfl) (fun _ h => St.lean [0] (by decide) (fun _ h => h) h rfl) ?_
                      refine Sd.take 0 rfl rfl rfl (by kernel_rfl) (by kernel_rfl) (by kernel_rfl) Cut.panic (Want.none rfl) (Y.loadN (vs := [.bool m.ins, .bool m.nl, .bool m.ck, .bool m.inv, .bool m.org, .bool m.aut, .bool m.vis, .bool m.paste, .bool m.focus, .bool m.sync, .bool m.keypad, .int .i64 m.mouse, .bool m.sgr]) 0 rfl rfl rfl rfl ag23 sz23) ?_
                      refine Sd.take 1 rfl rfl rfl (by kernel_rfl) (by kernel_rfl) (by kernel_rfl) Cut.panic (Want.none rfl) (Y.move rfl) ?_
                      refine Sd.take 2 rfl rfl rfl (by kernel_rfl) (by kernel_rfl) (by kernel_rfl) Cut.panic (Want.none rfl) (Y.move rfl) ?_
                      refine Sd.take 3 rfl rfl rfl (by kernel_rfl) (by kernel_rfl) (by kernel_rfl) Cut.panic (Want.none rfl) (Y.move rfl) ?_
                      refine Sd.take 4 rfl rfl rfl (by kernel_rfl) (by kernel_rfl) (by kernel_rfl) Cut.panic (Want.none rfl) (Y.elemAddr rfl rfl Try.underlying25 sz3 (fun w h => ((h.2) k3 _ (getD_some (0 : Int) (by omega))).1) (by omega) (by omega) (by simp : (sadr a2).off + ((k3 : Int)).toNat * 1 = (sadr a2).off + k3 * 1)) ?_
                      refine Sd.take 5 rfl rfl rfl (by kernel_rfl) (by kernel_rfl) (by kernel_rfl) Cut.panic (Want.none rfl) (Y.loadF1 rfl ag3 (fun w h => ((h.2) k3 _ (getD_some (0 : Int) (by omega))).2 0 _ rfl)) ?_
                      refine Sd.take 6 rfl rfl rfl (by kernel_rfl) (by kernel_rfl) (by kernel_rfl) Cut.panic (Want.none rfl) (Y.move rfl) ?_
                      refine Sd.all [7] (by kernel_rfl) (by decide) (all_cons ?_ all_nil)
                      refine Sp.callV (v := .int .i64 r16) rfl rfl rfl (Want.none rfl) (K.func rfl co20) (fun w hs => by rw [hr16]; exact rstate_c m true ((numsS n).getD k3 (0 : Int)) alt w ) ?_
                      refine Sd.take 8 rfl rfl rfl (by kernel_rfl) (by kernel_rfl) (by kernel_rfl) Cut.panic (Want.none rfl) (Y.assign rfl) ?_
                      refine Sd.done (by kernel_rfl) ?_
                      exact Sx.cut () trivial ⟨rfl, rfl, rfl, rfl, rfl, rfl, rfl, rfl, rfl, rfl, rfl, rfl, trivial⟩ [0] (by decide) rfl (fun _ h => h)
                    · intro _ _
                      show Sx _ _ _ [(3, .bool alt), (9, .slice a2 ((numsS n).length) c3), (11, .pointer (some ⟨b5, 0, none⟩)), (12, .int .i64 (k3 : Int)), (15, .int .i64 r13.1), (16, .int .i64 r13.2), (17, .int .i64 r16), (18, .int .i64 r14), (24, .agg (List.toArray [.bool m.ins, .bool m.nl, .bool m.ck, .bool m.inv, .bool m.org, .bool m.aut, .bool m.vis, .bool m.paste, .bool m.focus, .bool m.sync, .bool m.keypad, .int .i64 m.mouse, .bool m.sgr, .bool r4.ins, .bool r4.nl, .bool r4.ck, .bool r4.inv, .bool r4.org, .bool r4.aut, .bool r4.vis, .bool r4.paste, .bool r4.focus, .bool r4.sync, .bool r4.keypad, .int .i64 r4.mouse, .bool r4.sgr])), (25, .int .i64 0), (34, .agg (List.toArray [.bool false, .bool true])), (35, .int .i64 1)] [(some b5, .cells (List.toArray [.bool m.ins, .bool m.nl, .bool m.ck, .bool m.inv, .bool m.org, .bool m.aut, .bool m.vis, .bool m.paste, .bool m.focus, .bool m.sync, .bool m.keypad, .int .i64 m.mouse, .bool m.sgr]) 23 (0, 0))] _
                      refine Sx.next ?_
                      refine Sc.seq ?_
                      refine Sc.cut (fun (_ : Unit) => True) (fun (_ : Unit) => [(3, .bool alt), (9, .slice a2 ((numsS n).length) c3), (11, .pointer (some ⟨b5, 0, none⟩)), (12, .int .i64 (k3 : Int)), (24, .agg (List.toArray [.bool m.ins, .bool m.nl, .bool m.ck, .bool m.inv, .bool m.org, .bool m.aut, .bool m.vis, .bool m.paste, .bool m.focus, .bool m.sync, .bool m.keypad, .int .i64 m.mouse, .bool m.sgr, .bool r4.ins, .bool r4.nl, .bool r4.ck, .bool r4.inv, .bool r4.org, .bool r4.aut, .bool r4.vis, .bool r4.paste, .bool r4.focus, .bool r4.sync, .bool r4.keypad, .int .i64 r4.mouse, .bool r4.sgr])), (25, .int .i64 0), (34, .agg (List.toArray [.bool false, .bool true])), (35, .int .i64 1), (68, .bool ((decide (r13.1 ≠ r16)) || (decide (r13.2 ≠ r14))))]) (fun (_ : Unit) => [(some b5, .cells (List.toArray [.bool m.ins, .bool m.nl, .bool m.ck, .bool m.inv, .bool m.org, .bool m.aut, .bool m.vis, .bool m.paste, .bool m.focus, .bool m.sync, .bool m.keypad, .int .i64 m.mouse, .bool m.sgr]) 23 (0, 0))]) (fun _ => fun w => (True) ∧ RowV 1 encI a2 (numsS n) w) ?_ ?_
                      · skip
                        refine Sc.region ?_
                        refine Seg.y rfl rfl (Want.none rfl) (Y.move rfl) ?_
                        refine Seg.y rfl rfl (Want.none rfl) (Y.move rfl) ?_
                        refine Seg.y rfl rfl (Want.none rfl) (Y.binOp rfl rfl (B.ne _ _ _)) ?_
                        refine Seg.y rfl rfl (Want.none rfl) (Y.move rfl) ?_
                        rcases Bool.eq_false_or_eq_true (decide (r13.1 ≠ r16)) with g17 | g17
                        · skip
                          have g17p := of_decide_eq_true g17
                          refine Seg.skip rfl rfl (Skip.some 3 64 false rfl rfl rfl g17) ?_
                          refine Seg.skip rfl rfl (Skip.some 3 64 false rfl rfl rfl g17) ?_
                          refine Seg.skip rfl rfl (Skip.some 3 64 false rfl rfl rfl g17) ?_
                          refine Seg.y rfl rfl (Want.none rfl) (Y.pickT rfl g17 rfl) ?_
                          refine Seg.nil ?_
                          exact Sx.cut () trivial ⟨rfl, rfl, rfl, rfl, rfl, rfl, rfl, rfl, (someB (by first | (simp [h6, h6p, h9, h9p, h12, h15, h15p, g17, g17p]; done) | (simp_all; done) | ((simp [h6, h6p, h9, h9p, h12, h15, h15p, g17, g17p]) <;> grind))), trivial⟩ [0] (by decide) rfl (fun _ h => h)
                        · skip
                          have g17p : r13.1 = r16 := by simpa using g17
                          refine Seg.y rfl rfl (Want.some 3 64 false rfl rfl rfl g17) (Y.move rfl) ?_
                          refine Seg.y rfl rfl (Want.some 3 64 false rfl rfl rfl g17) (Y.move rfl) ?_
                          refine Seg.y rfl rfl (Want.some 3 64 false rfl rfl rfl g17) (Y.binOp rfl rfl (B.ne _ _ _)) ?_
                          refine Seg.y rfl rfl (Want.none rfl) (Y.pickF rfl g17 rfl) ?_
                          refine Seg.nil ?_
                          exact Sx.cut () trivial ⟨rfl, rfl, rfl, rfl, rfl, rfl, rfl, rfl, (someB (by first | (simp [h6, h6p, h9, h9p, h12, h15, h15p, g17, g17p]; done) | (simp_all; done) | ((simp [h6, h6p, h9, h9p, h12, h15, h15p, g17, g17p]) <;> grind))), trivial⟩ [0] (by decide) rfl (fun _ h => h)
                      · intro _ _
                        show Sx _ _ _ [(3, .bool alt), (9, .slice a2 ((numsS n).length) c3), (11, .pointer (some ⟨b5, 0, none⟩)), (12, .int .i64 (k3 : Int)), (24, .agg (List.toArray [.bool m.ins, .bool m.nl, .bool m.ck, .bool m.inv, .bool m.org, .bool m.aut, .bool m.vis, .bool m.paste, .bool m.focus, .bool m.sync, .bool m.keypad, .int .i64 m.mouse, .bool m.sgr, .bool r4.ins, .bool r4.nl, .bool r4.ck, .bool r4.inv, .bool r4.org, .bool r4.aut, .bool r4.vis, .bool r4.paste, .bool r4.focus, .bool r4.sync, .bool r4.keypad, .int .i64 r4.mouse, .bool r4.sgr])), (25, .int .i64 0), (34, .agg (List.toArray [.bool false, .bool true])), (35, .int .i64 1), (68, .bool ((decide (r13.1 ≠ r16)) || (decide (r13.2 ≠ r14))))] [(some b5, .cells (List.toArray [.bool m.ins, .bool m.nl, .bool m.ck, .bool m.inv, .bool m.org, .bool m.aut, .bool m.vis, .bool m.paste, .bool m.focus, .bool m.sync, .bool m.keypad, .int .i64 m.mouse, .bool m.sgr]) 23 (0, 0))] _
                        refine Sx.next ?_
                        refine Sc.cond rfl (fun h18 => ?_) (fun h18 => ?_)
                        · skip
                          refine Sc.seq ?_
                          refine Sc.region ?_
                          refine Seg.y rfl rfl (Want.none rfl) (Y.assign rfl) ?_
                          refine Seg.nil ?_
                          refine Sx.next ?_
                          refine Sc.ret ?_
                          refine Sx.block_ret ?_
                          refine Sx.next_ret ?_
                          refine Sx.loop_ret ?_
                          refine Sx.block_ret ?_
                          refine Sx.block_ret ?_
                          refine Sx.next_ret ?_
                          refine Sx.loop_ret ?_
                          refine Sx.block_ret ?_
                          refine Sx.block_ret ?_
                          refine Sx.next_ret ?_
                          refine Sx.loop_ret ?_
                          refine Sx.block_ret ?_
                          refine Sx.next_ret ?_
                          refine Sx.body (.inl rfl) (res1 rfl (Rv.tmp rfl)) (fun w hs => ?_)
                          refine RetV.eq ?_ hs
                          subst hr4
                          subst hr7
                          subst hr8
                          subst hr10
                          subst hr13
                          subst hr14
                          subst hr16
                          exfalso; simp_all [putS, stateS, checkS, MdEq_self, MdEq_zero]; done
                        · skip
                          refine Sc.skip ?_
                          refine Sx.block_normal ?_
                          refine Sx.next ?_
                          refine Sc.region ?_
                          refine Seg.y rfl rfl (Want.none rfl) (Y.binOp rfl rfl (B.add _ _ _ 2 (by decide))) ?_
                          refine Seg.y rfl rfl (Want.none rfl) (Y.move rfl) ?_
                          refine Seg.nil ?_
                          refine Sx.round ?_
                          refine Sr.succ ?_
                          refine Sc.seq ?_
                          refine Sc.region ?_
                          refine Seg.y rfl rfl (Want.none rfl) (Y.binOp (v := .bool false) rfl rfl (B.lt _ _ _)) ?_
                          refine Seg.nil ?_
                          refine Sx.next ?_
                          refine Sc.seq ?_
                          refine Sc.condF rfl rfl ?_
                          refine Sc.exit ?_
                          refine Sx.next_exit ?_
                          refine Sx.loop_exit ?_
                          refine Sx.block_exit ?_
                          refine Sx.block_normal ?_
                          refine Sx.next ?_
                          refine Sc.region ?_
                          refine Seg.y rfl rfl (Want.none rfl) (Y.move rfl) ?_
                          refine Seg.y rfl rfl (Want.none rfl) (Y.binOp rfl rfl (B.add _ _ _ ((k3 : Int) + 1) (wr_i64 (by omega)))) ?_
                          refine Seg.y rfl rfl (Want.none rfl) (Y.assign rfl) ?_
                          refine Seg.nil ?_
                          exact Sx.head (k3 + 1) (by first | omega | (simp at *; omega)) (by first | omega | (dsimp only; omega)) ⟨rfl, rfl, rfl, rfl, rfl, rfl, trivial⟩ [0] (by decide) rfl (fun _ h => h)
                  · skip
                    have h15p := of_decide_eq_false h15
                    refine Sc.skip ?_
                    refine Sx.next ?_
                    refine Sc.seq ?_
                    refine Sc.cut (fun (_ : Unit) => True) (fun (_ : Unit) => [(3, .bool alt), (9, .slice a2 ((numsS n).length) c3), (11, .pointer (some ⟨b5, 0, none⟩)), (12, .int .i64 (k3 : Int)), (24, .agg (List.toArray [.bool m.ins, .bool m.nl, .bool m.ck, .bool m.inv, .bool m.org, .bool m.aut, .bool m.vis, .bool m.paste, .bool m.focus, .bool m.sync, .bool m.keypad, .int .i64 m.mouse, .bool m.sgr, .bool r4.ins, .bool r4.nl, .bool r4.ck, .bool r4.inv, .bool r4.org, .bool r4.aut, .bool r4.vis, .bool r4.paste, .bool r4.focus, .bool r4.sync, .bool r4.keypad, .int .i64 r4.mouse, .bool r4.sgr])), (25, .int .i64 0), (34, .agg (List.toArray [.bool false, .bool true])), (35, .int .i64 1), (68, .bool ((decide (r13.1 ≠ 0)) || (decide (r13.2 ≠ r14))))]) (fun (_ : Unit) => [(some b5, .cells (List.toArray [.bool m.ins, .bool m.nl, .bool m.ck, .bool m.inv, .bool m.org, .bool m.aut, .bool m.vis, .bool m.paste, .bool m.focus, .bool m.sync, .bool m.keypad, .int .i64 m.mouse, .bool m.sgr]) 23 (0, 0))]) (fun _ => fun w => (True) ∧ RowV 1 encI a2 (numsS n) w) ?_ ?_
                    · skip
                      refine Sc.region ?_
                      refine Seg.y rfl rfl (Want.none rfl) (Y.move rfl) ?_
                      refine Seg.y rfl rfl (Want.none rfl) (Y.move rfl) ?_
                      refine Seg.y rfl rfl (Want.none rfl) (Y.binOp rfl rfl (B.ne _ _ _)) ?_
                      refine Seg.y rfl rfl (Want.none rfl) (Y.move rfl) ?_
                      rcases Bool.eq_false_or_eq_true (decide (r13.1 ≠ 0)) with g19 | g19
                      · skip
                        have g19p := of_decide_eq_true g19
                        refine Seg.skip rfl rfl (Skip.some 3 64 false rfl rfl rfl g19) ?_
                        refine Seg.skip rfl rfl (Skip.some 3 64 false rfl rfl rfl g19) ?_
                        refine Seg.skip rfl rfl (Skip.some 3 64 false rfl rfl rfl g19) ?_
                        refine Seg.y rfl rfl (Want.none rfl) (Y.pickT rfl g19 rfl) ?_
                        refine Seg.nil ?_
                        exact Sx.cut () trivial ⟨rfl, rfl, rfl, rfl, rfl, rfl, rfl, rfl, (someB (by first | (simp [h6, h6p, h9, h9p, h12, h15, h15p, g19, g19p]; done) | (simp_all; done) | ((simp [h6, h6p, h9, h9p, h12, h15, h15p, g19, g19p]) <;> grind))), trivial⟩ [0] (by decide) rfl (fun _ h => h)
                      · skip
                        have g19p : r13.1 = 0 := by simpa using g19
                        refine Seg.y rfl rfl (Want.some 3 64 false rfl rfl rfl g19) (Y.move rfl) ?_
                        refine Seg.y rfl rfl (Want.some 3 64 false rfl rfl rfl g19) (Y.move rfl) ?_
                        refine Seg.y rfl rfl (Want.some 3 64 false rfl rfl rfl g19) (Y.binOp rfl rfl (B.ne _ _ _)) ?_
                        refine Seg.y rfl rfl (Want.none rfl) (Y.pickF rfl g19 rfl) ?_
                        refine Seg.nil ?_
                        exact Sx.cut () trivial ⟨rfl, rfl, rfl, rfl, rfl, rfl, rfl, rfl, (someB (by first | (simp [h6, h6p, h9, h9p, h12, h15, h15p, g19, g19p]; done) | (simp_all; done) | ((simp [h6, h6p, h9, h9p, h12, h15, h15p, g19, g19p]) <;> grind))), trivial⟩ [0] (by decide) rfl (fun _ h => h)
                    · intro _ _
                      show Sx _ _ _ [(3, .bool alt), (9, .slice a2 ((numsS n).length) c3), (11, .pointer (some ⟨b5, 0, none⟩)), (12, .int .i64 (k3 : Int)), (24, .agg (List.toArray [.bool m.ins, .bool m.nl, .bool m.ck, .bool m.inv, .bool m.org, .bool m.aut, .bool m.vis, .bool m.paste, .bool m.focus, .bool m.sync, .bool m.keypad, .int .i64 m.mouse, .bool m.sgr, .bool r4.ins, .bool r4.nl, .bool r4.ck, .bool r4.inv, .bool r4.org, .bool r4.aut, .bool r4.vis, .bool r4.paste, .bool r4.focus, .bool r4.sync, .bool r4.keypad, .int .i64 r4.mouse, .bool r4.sgr])), (25, .int .i64 0), (34, .agg (List.toArray [.bool false, .bool true])), (35, .int .i64 1), (68, .bool ((decide (r13.1 ≠ 0)) || (decide (r13.2 ≠ r14))))] [(some b5, .cells (List.toArray [.bool m.ins, .bool m.nl, .bool m.ck, .bool m.inv, .bool m.org, .bool m.aut, .bool m.vis, .bool m.paste, .bool m.focus, .bool m.sync, .bool m.keypad, .int .i64 m.mouse, .bool m.sgr]) 23 (0, 0))] _
                      refine Sx.next ?_
                      refine Sc.cond rfl (fun h20 => ?_) (fun h20 => ?_)
                      · skip
                        refine Sc.seq ?_
                        refine Sc.region ?_
                        refine Seg.y rfl rfl (Want.none rfl) (Y.assign rfl) ?_
                        refine Seg.nil ?_
                        refine Sx.next ?_
                        refine Sc.ret ?_
                        refine Sx.block_ret ?_
                        refine Sx.next_ret ?_
                        refine Sx.loop_ret ?_
                        refine Sx.block_ret ?_
                        refine Sx.block_ret ?_
                        refine Sx.next_ret ?_
                        refine Sx.loop_ret ?_
                        refine Sx.block_ret ?_
                        refine Sx.block_ret ?_
                        refine Sx.next_ret ?_
                        refine Sx.loop_ret ?_
                        refine Sx.block_ret ?_
                        refine Sx.next_ret ?_
                        refine Sx.body (.inl rfl) (res1 rfl (Rv.tmp rfl)) (fun w hs => ?_)
                        refine RetV.eq ?_ hs
                        subst hr4
                        subst hr7
                        subst hr8
                        subst hr10
                        subst hr13
                        subst hr14
                        exfalso; simp_all [putS, stateS, checkS, MdEq_self, MdEq_zero]; done
                      · skip
                        refine Sc.skip ?_
                        refine Sx.block_normal ?_
                        refine Sx.next ?_
                        refine Sc.region ?_
                        refine Seg.y rfl rfl (Want.none rfl) (Y.binOp rfl rfl (B.add _ _ _ 2 (by decide))) ?_
                        refine Seg.y rfl rfl (Want.none rfl) (Y.move rfl) ?_
                        refine Seg.nil ?_
                        refine Sx.round ?_
                        refine Sr.succ ?_
                        refine Sc.seq ?_
                        refine Sc.region ?_
                        refine Seg.y rfl rfl (Want.none rfl) (Y.binOp (v := .bool false) rfl rfl (B.lt _ _ _)) ?_
                        refine Seg.nil ?_
                        refine Sx.next ?_
                        refine Sc.seq ?_
                        refine Sc.condF rfl rfl ?_
                        refine Sc.exit ?_
                        refine Sx.next_exit ?_
                        refine Sx.loop_exit ?_
                        refine Sx.block_exit ?_
                        refine Sx.block_normal ?_
                        refine Sx.next ?_
                        refine Sc.region ?_
                        refine Seg.y rfl rfl (Want.none rfl) (Y.move rfl) ?_
                        refine Seg.y rfl rfl (Want.none rfl) (Y.binOp rfl rfl (B.add _ _ _ ((k3 : Int) + 1) (wr_i64 (by omega)))) ?_
                        refine Seg.y rfl rfl (Want.none rfl) (Y.assign rfl) ?_
                        refine Seg.nil ?_
                        exact Sx.head (k3 + 1) (by first | omega | (simp at *; omega)) (by first | omega | (dsimp only; omega)) ⟨rfl, rfl, rfl, rfl, rfl, rfl, trivial⟩ [0] (by decide) rfl (fun _ h => h)
        · skip
          have h9p := of_decide_eq_false h9
          refine Sc.skip ?_
          refine Sx.next ?_
          refine Sc.seq ?_
          refine Sc.cut (fun (_ : Unit) => True) (fun (_ : Unit) => [(3, .bool alt), (9, .slice a2 ((numsS n).length) c3), (11, .pointer (some ⟨b5, 0, none⟩)), (12, .int .i64 (k3 : Int)), (24, .agg (List.toArray [.bool m.ins, .bool m.nl, .bool m.ck, .bool m.inv, .bool m.org, .bool m.aut, .bool m.vis, .bool m.paste, .bool m.focus, .bool m.sync, .bool m.keypad, .int .i64 m.mouse, .bool m.sgr, .bool r4.ins, .bool r4.nl, .bool r4.ck, .bool r4.inv, .bool r4.org, .bool r4.aut, .bool r4.vis, .bool r4.paste, .bool r4.focus, .bool r4.sync, .bool r4.keypad, .int .i64 r4.mouse, .bool r4.sgr])), (25, .int .i64 0), (34, .agg (List.toArray [.bool false, .bool true])), (35, .int .i64 0), (68, .bool ((decide (r7.1 ≠ 0)) || (decide (r7.2 ≠ r8))))]) (fun (_ : Unit) => [(some b5, .cells (List.toArray [.bool m.ins, .bool m.nl, .bool m.ck, .bool m.inv, .bool m.org, .bool m.aut, .bool m.vis, .bool m.paste, .bool m.focus, .bool m.sync, .bool m.keypad, .int .i64 m.mouse, .bool m.sgr]) 23 (0, 0))]) (fun _ => fun w => (True) ∧ RowV 1 encI a2 (numsS n) w) ?_ ?_
          · skip
            refine Sc.region ?_
            refine Seg.y rfl rfl (Want.none rfl) (Y.move rfl) ?_
            refine Seg.y rfl rfl (Want.none rfl) (Y.move rfl) ?_
            refine Seg.y rfl rfl (Want.none rfl) (Y.binOp rfl rfl (B.ne _ _ _)) ?_
            refine Seg.y rfl rfl (Want.none rfl) (Y.move rfl) ?_
            rcases Bool.eq_false_or_eq_true (decide (r7.1 ≠ 0)) with g21 | g21
            · skip
              have g21p := of_decide_eq_true g21
              refine Seg.skip rfl rfl (Skip.some 3 64 false rfl rfl rfl g21) ?_
              refine Seg.skip rfl rfl (Skip.some 3 64 false rfl rfl rfl g21) ?_
              refine Seg.skip rfl rfl (Skip.some 3 64 false rfl rfl rfl g21) ?_
              refine Seg.y rfl rfl (Want.none rfl) (Y.pickT rfl g21 rfl) ?_
              refine Seg.nil ?_
              exact Sx.cut () trivial ⟨rfl, rfl, rfl, rfl, rfl, rfl, rfl, rfl, (someB (by first | (simp [h6, h6p, h9, h9p, g21, g21p]; done) | (simp_all; done) | ((simp [h6, h6p, h9, h9p, g21, g21p]) <;> grind))), trivial⟩ [0] (by decide) rfl (fun _ h => h)
            · skip
              have g21p : r7.1 = 0 := by simpa using g21
              refine Seg.y rfl rfl (Want.some 3 64 false rfl rfl rfl g21) (Y.move rfl) ?_
              refine Seg.y rfl rfl (Want.some 3 64 false rfl rfl rfl g21) (Y.move rfl) ?_
              refine Seg.y rfl rfl (Want.some 3 64 false rfl rfl rfl g21) (Y.binOp rfl rfl (B.ne _ _ _)) ?_
              refine Seg.y rfl rfl (Want.none rfl) (Y.pickF rfl g21 rfl) ?_
              refine Seg.nil ?_
              exact Sx.cut () trivial ⟨rfl, rfl, rfl, rfl, rfl, rfl, rfl, rfl, (someB (by first | (simp [h6, h6p, h9, h9p, g21, g21p]; done) | (simp_all; done) | ((simp [h6, h6p, h9, h9p, g21, g21p]) <;> grind))), trivial⟩ [0] (by decide) rfl (fun _ h => h)
          · intro _ _
            show Sx _ _ _ [(3, .bool alt), (9, .slice a2 ((numsS n).length) c3), (11, .pointer (some ⟨b5, 0, none⟩)), (12, .int .i64 (k3 : Int)), (24, .agg (List.toArray [.bool m.ins, .bool m.nl, .bool m.ck, .bool m.inv, .bool m.org, .bool m.aut, .bool m.vis, .bool m.paste, .bool m.focus, .bool m.sync, .bool m.keypad, .int .i64 m.mouse, .bool m.sgr, .bool r4.ins, .bool r4.nl, .bool r4.ck, .bool r4.inv, .bool r4.org, .bool r4.aut, .bool r4.vis, .bool r4.paste, .bool r4.focus, .bool r4.sync, .bool r4.keypad, .int .i64 r4.mouse, .bool r4.sgr])), (25, .int .i64 0), (34, .agg (List.toArray [.bool false, .bool true])), (35, .int .i64 0), (68, .bool ((decide (r7.1 ≠ 0)) || (decide (r7.2 ≠ r8))))] [(some b5, .cells (List.toArray [.bool m.ins, .bool m.nl, .bool m.ck, .bool m.inv, .bool m.org, .bool m.aut, .bool m.vis, .bool m.paste, .bool m.focus, .bool m.sync, .bool m.keypad, .int .i64 m.mouse, .bool m.sgr]) 23 (0, 0))] _
            refine Sx.next ?_
            refine Sc.cond rfl (fun h22 => ?_) (fun h22 => ?_)
            · skip
              refine Sc.seq ?_
              refine Sc.region ?_
              refine Seg.y rfl rfl (Want.none rfl) (Y.assign rfl) ?_
              refine Seg.nil ?_
              refine Sx.next ?_
              refine Sc.ret ?_
              refine Sx.block_ret ?_
              refine Sx.next_ret ?_
              refine Sx.loop_ret ?_
              refine Sx.block_ret ?_
              refine Sx.block_ret ?_
              refine Sx.next_ret ?_
              refine Sx.loop_ret ?_
              refine Sx.block_ret ?_
              refine Sx.block_ret ?_
              refine Sx.next_ret ?_
              refine Sx.loop_ret ?_
              refine Sx.block_ret ?_
              refine Sx.next_ret ?_
              refine Sx.body (.inl rfl) (res1 rfl (Rv.tmp rfl)) (fun w hs => ?_)
              refine RetV.eq ?_ hs
              subst hr4
              subst hr7
              subst hr8
              exfalso; simp_all [putS, stateS, checkS, MdEq_self, MdEq_zero]; done
            · skip
              refine Sc.skip ?_
              refine Sx.block_normal ?_
              refine Sx.next ?_
              refine Sc.region ?_
              refine Seg.y rfl rfl (Want.none rfl) (Y.binOp rfl rfl (B.add _ _ _ 1 (by decide))) ?_
              refine Seg.y rfl rfl (Want.none rfl) (Y.move rfl) ?_
              refine Seg.nil ?_
              refine Sx.round ?_
              refine Sr.succ ?_
              refine Sc.seq ?_
              refine Sc.region ?_
              refine Seg.y rfl rfl (Want.none rfl) (Y.binOp (v := .bool true) rfl rfl (B.lt _ _ _)) ?_
              refine Seg.nil ?_
              refine Sx.next ?_
              refine Sc.seq ?_
              refine Sc.condT rfl rfl ?_
              refine Sc.skip ?_
              refine Sx.next ?_
              refine Sc.seq ?_
              refine Sc.block ?_
              refine Sc.seq ?_
              refine Sc.region ?_
              refine Seg.y rfl rfl (Want.none rfl) (Y.index (v := .bool true) rfl rfl (fun w => by kernel_rfl)) ?_
              refine Seg.y rfl rfl (Want.none rfl) (Y.assign rfl) ?_
              refine Seg.nil ?_
              refine Sx.next ?_
              refine Sc.seq ?_
              obtain ⟨r23, hr23⟩ : ∃ x, x = stateS m true ((numsS n).getD k3 (0 : Int)) alt := ⟨_, rfl⟩
              refine Sc.cut (fun (_ : Unit) => True) (fun (_ : Unit) => [(3, .bool alt), (9, .slice a2 ((numsS n).length) c3), (11, .pointer (some ⟨b5, 0, none⟩)), (12, .int .i64 (k3 : Int)), (14, .bool true), (15, .int .i64 r23.1), (16, .int .i64 r23.2), (24, .agg (List.toArray [.bool m.ins, .bool m.nl, .bool m.ck, .bool m.inv, .bool m.org, .bool m.aut, .bool m.vis, .bool m.paste, .bool m.focus, .bool m.sync, .bool m.keypad, .int .i64 m.mouse, .bool m.sgr, .bool r4.ins, .bool r4.nl, .bool r4.ck, .bool r4.inv, .bool r4.org, .bool r4.aut, .bool r4.vis, .bool r4.paste, .bool r4.focus, .bool r4.sync, .bool r4.keypad, .int .i64 r4.mouse, .bool r4.sgr])), (25, .int .i64 0), (34, .agg (List.toArray [.bool false, .bool true])), (35, .int .i64 1)]) (fun (_ : Unit) => [(some b5, .cells (List.toArray [.bool m.ins, .bool m.nl, .bool m.ck, .bool m.inv, .bool m.org, .bool m.aut, .bool m.vis, .bool m.paste, .bool m.focus, .bool m.sync, .bool m.keypad, .int .i64 m.mouse, .bool m.sgr]) 23 (0, 0))]) (fun _ => fun w => (True) ∧ RowV 1 encI a2 (numsS n) w) ?_ ?_
              · skip
                refine Sc.draw (by kernel_rfl) (fun _ h => St.lean [0] (by decide) (fun _ h => h) h rfl) ?_
                refine Sd.take 0 rfl rfl rfl (by kernel_rfl) (by kernel_rfl) (by kernel_rfl) Cut.panic (Want.none rfl) (Y.loadN (vs := [.bool m.ins, .bool m.nl, .bool m.ck, .bool m.inv, .bool m.org, .bool m.aut, .bool m.vis, .bool m.paste, .bool m.focus, .bool m.sync, .bool m.keypad, .int .i64 m.mouse, .bool m.sgr]) 0 rfl rfl rfl rfl ag23 sz23) ?_
                refine Sd.take 1 rfl rfl rfl (by kernel_rfl) (by kernel_rfl) (by kernel_rfl) Cut.panic (Want.none rfl) (Y.move rfl) ?_
                refine Sd.take 2 rfl rfl rfl (by kernel_rfl) (by kernel_rfl) (by kernel_rfl) Cut.panic (Want.none rfl) (Y.move rfl) ?_
                refine Sd.take 3 rfl rfl rfl (by kernel_rfl) (by kernel_rfl) (by kernel_rfl) Cut.panic (Want.none rfl) (Y.move rfl) ?_
                refine Sd.take 4 rfl rfl rfl (by kernel_rfl) (by kernel_rfl) (by kernel_rfl) Cut.panic (Want.none rfl) (Y.elemAddr rfl rfl Try.underlying25 sz3 (fun w h => ((h.2) k3 _ (getD_some (0 : Int) (by omega))).1) (by omega) (by omega) (by simp : (sadr a2).off + ((k3 : Int)).toNat * 1 = (sadr a2).off + k3 * 1)) ?_
                refine Sd.take 5 rfl rfl rfl (by kernel_rfl) (by kernel_rfl) (by kernel_rfl) Cut.panic (Want.none rfl) (Y.loadF1 rfl ag3 (fun w h => ((h.2) k3 _ (getD_some (0 : Int) (by omega))).2 0 _ rfl)) ?_
                refine Sd.take 6 rfl rfl rfl (by kernel_rfl) (by kernel_rfl) (by kernel_rfl) Cut.panic (Want.none rfl) (Y.move rfl) ?_
                refine Sd.all [7] (by kernel_rfl) (by decide) (all_cons ?_ all_nil)
                refine Sp.callV (v := .tuple (List.toArray [.int .i64 r23.1, .int .i64 r23.2])) rfl rfl rfl (Want.none rfl) (K.func rfl co19) (fun w hs => by rw [hr23]; exact state_c m true ((numsS n).getD k3 (0 : Int)) alt w ) ?_
                refine Sd.take 8 rfl rfl rfl (by kernel_rfl) (by kernel_rfl) (by kernel_rfl) Cut.panic (Want.none rfl) (Y.move rfl) ?_
                refine Sd.take 9 rfl rfl rfl (by kernel_rfl) (by kernel_rfl) (by kernel_rfl) Cut.panic (Want.none rfl) (Y.extract rfl rfl) ?_
                refine Sd.take 10 rfl rfl rfl (by kernel_rfl) (by kernel_rfl) (by kernel_rfl) Cut.panic (Want.none rfl) (Y.extract rfl rfl) ?_
                refine Sd.take 11 rfl rfl rfl (by kernel_rfl) (by kernel_rfl) (by kernel_rfl) Cut.panic (Want.none rfl) (Y.assign rfl) ?_
                refine Sd.take 12 rfl rfl rfl (by kernel_rfl) (by kernel_rfl) (by kernel_rfl) Cut.panic (Want.none rfl) (Y.assign rfl) ?_
                refine Sd.done (by kernel_rfl) ?_
                exact Sx.cut () trivial ⟨rfl, rfl, rfl, rfl, rfl, rfl, rfl, rfl, rfl, rfl, rfl, trivial⟩ [0] (by decide) rfl (fun _ h => h)
              · intro _ _
                show Sx _ _ _ [(3, .bool alt), (9, .slice a2 ((numsS n).length) c3), (11, .pointer (some ⟨b5, 0, none⟩)), (12, .int .i64 (k3 : Int)), (14, .bool true), (15, .int .i64 r23.1), (16, .int .i64 r23.2), (24, .agg (List.toArray [.bool m.ins, .bool m.nl, .bool m.ck, .bool m.inv, .bool m.org, .bool m.aut, .bool m.vis, .bool m.paste, .bool m.focus, .bool m.sync, .bool m.keypad, .int .i64 m.mouse, .bool m.sgr, .bool r4.ins, .bool r4.nl, .bool r4.ck, .bool r4.inv, .bool r4.org, .bool r4.aut, .bool r4.vis, .bool r4.paste, .bool r4.focus, .bool r4.sync, .bool r4.keypad, .int .i64 r4.mouse, .bool r4.sgr])), (25, .int .i64 0), (34, .agg (List.toArray [.bool false, .bool true])), (35, .int .i64 1)] [(some b5, .cells (List.toArray [.bool m.ins, .bool m.nl, .bool m.ck, .bool m.inv, .bool m.org, .bool m.aut, .bool m.vis, .bool m.paste, .bool m.focus, .bool m.sync, .bool m.keypad, .int .i64 m.mouse, .bool m.sgr]) 23 (0, 0))] _
                refine Sx.next ?_
                refine Sc.seq ?_
                refine Sc.region ?_
                refine Seg.y rfl rfl (Want.none rfl) (Y.loadN (vs := [.bool m.ins, .bool m.nl, .bool m.ck, .bool m.inv, .bool m.org, .bool m.aut, .bool m.vis, .bool m.paste, .bool m.focus, .bool m.sync, .bool m.keypad, .int .i64 m.mouse, .bool m.sgr]) 0 rfl rfl rfl rfl ag23 sz23) ?_
                obtain ⟨r24, hr24⟩ : ∃ x, x = checkS m := ⟨_, rfl⟩
                refine Seg.callV (v := .int .i64 r24) rfl rfl (Want.none rfl) (K.func rfl co12) (fun w hs => by rw [hr24]; exact rcheck_c m w ) ?_
                refine Seg.y rfl rfl (Want.none rfl) (Y.assign rfl) ?_
                refine Seg.y rfl rfl (Want.none rfl) (Y.assign rfl) ?_
                refine Seg.nil ?_
                refine Sx.next ?_
                refine Sc.seq ?_
                refine Sc.seq ?_
                refine Sc.region ?_
                refine Seg.y rfl rfl (Want.none rfl) (Y.move rfl) ?_
                refine Seg.y rfl rfl (Want.none rfl) (Y.binOp rfl rfl (B.eq _ _ _)) ?_
                refine Seg.nil ?_
                refine Sx.next ?_
                refine Sc.cond rfl (fun h25 => ?_) (fun h25 => ?_)
                · skip
                  have h25p := of_decide_eq_true h25
                  obtain ⟨r26, hr26⟩ : ∃ x, x = rstateS m true ((numsS n).getD k3 (0 : Int)) alt := ⟨_, rfl⟩
                  have hbr26 : 0 ≤ r26 ∧ r26 ≤ 2 := by rw [hr26]; exact rstate_bd _ _ _ _
                  refine Sc.cut (fun (_ : Unit) => True) (fun (_ : Unit) => [(3, .bool alt), (9, .slice a2 ((numsS n).length) c3), (11, .pointer (some ⟨b5, 0, none⟩)), (12, .int .i64 (k3 : Int)), (15, .int .i64 r23.1), (16, .int .i64 r23.2), (17, .int .i64 r26), (18, .int .i64 r24), (24, .agg (List.toArray [.bool m.ins, .bool m.nl, .bool m.ck, .bool m.inv, .bool m.org, .bool m.aut, .bool m.vis, .bool m.paste, .bool m.focus, .bool m.sync, .bool m.keypad, .int .i64 m.mouse, .bool m.sgr, .bool r4.ins, .bool r4.nl, .bool r4.ck, .bool r4.inv, .bool r4.org, .bool r4.aut, .bool r4.vis, .bool r4.paste, .bool r4.focus, .bool r4.sync, .bool r4.keypad, .int .i64 r4.mouse, .bool r4.sgr])), (25, .int .i64 0), (34, .agg (List.toArray [.bool false, .bool true])), (35, .int .i64 1)]) (fun (_ : Unit) => [(some b5, .cells (List.toArray [.bool m.ins, .bool m.nl, .bool m.ck, .bool m.inv, .bool m.org, .bool m.aut, .bool m.vis, .bool m.paste, .bool m.focus, .bool m.sync, .bool m.keypad, .int .i64 m.mouse, .bool m.sgr]) 23 (0, 0))]) (fun _ => fun w => (True) ∧ RowV 1 encI a2 (numsS n) w) ?_ ?_
                  · skip
                    refine Sc.draw (by kernel_rfl) (fun _ h => St.lean [0] (by decide) (fun _ h => h) h rfl) ?_
                    refine Sd.take 0 rfl rfl rfl (by kernel_rfl) (by kernel_rfl) (by kernel_rfl) Cut.panic (Want.none rfl) (Y.loadN (vs := [.bool m.ins, .bool m.nl, .bool m.ck, .bool m.inv, .bool m.org, .bool m.aut, .bool m.vis, .bool m.paste, .bool m.focus, .bool m.sync, .bool m.keypad, .int .i64 m.mouse, .bool m.sgr]) 0 rfl rfl rfl rfl ag23 sz23) ?_
                    refine Sd.take 1 rfl rfl rfl (by kernel_rfl) (by kernel_rfl) (by kernel_rfl) Cut.panic (Want.none rfl) (Y.move rfl) ?_
                    refine Sd.take 2 rfl rfl rfl (by kernel_rfl) (by kernel_rfl) (by kernel_rfl) Cut.panic (Want.none rfl) (Y.move rfl) ?_
                    refine Sd.take 3 rfl rfl rfl (by kernel_rfl) (by kernel_rfl) (by kernel_rfl) Cut.panic (Want.none rfl) (Y.move rfl) ?_
                    refine Sd.take 4 rfl rfl rfl (by kernel_rfl) (by kernel_rfl) (by kernel_rfl) Cut.panic (Want.none rfl) (Y.elemAddr rfl rfl Try.underlying25 sz3 (fun w h => ((h.2) k3 _ (getD_some (0 : Int) (by omega))).1) (by omega) (by omega) (by simp : (sadr a2).off + ((k3 : Int)).toNat * 1 = (sadr a2).off + k3 * 1)) ?_
                    refine Sd.take 5 rfl rfl rfl (by kernel_rfl) (by kernel_rfl) (by kernel_rfl) Cut.panic (Want.none rfl) (Y.loadF1 rfl ag3 (fun w h => ((h.2) k3 _ (getD_some (0 : Int) (by omega))).2 0 _ rfl)) ?_
                    refine Sd.take 6 rfl rfl rfl (by kernel_rfl) (by kernel_rfl) (by kernel_rfl) Cut.panic (Want.none rfl) (Y.move rfl) ?_
                    refine Sd.all [7] (by kernel_rfl) (by decide) (all_cons ?_ all_nil)
                    refine Sp.callV (v := .int .i64 r26) rfl rfl rfl (Want.none rfl) (K.func rfl co20) (fun w hs => by rw [hr26]; exact rstate_c m true ((numsS n).getD k3 (0 : Int)) alt w ) ?_
                    refine Sd.take 8 rfl rfl rfl (by kernel_rfl) (by kernel_rfl) (by kernel_rfl) Cut.panic (Want.none rfl) (Y.assign rfl) ?_
                    refine Sd.done (by kernel_rfl) ?_
                    exact Sx.cut () trivial ⟨rfl, rfl, rfl, rfl, rfl, rfl, rfl, rfl, rfl, rfl, rfl, rfl, trivial⟩ [0] (by decide) rfl (fun _ h => h)
                  · intro _ _
                    show Sx _ _ _ [(3, .bool alt), (9, .slice a2 ((numsS n).length) c3), (11, .pointer (some ⟨b5, 0, none⟩)), (12, .int .i64 (k3 : Int)), (15, .int .i64 r23.1), (16, .int .i64 r23.2), (17, .int .i64 r26), (18, .int .i64 r24), (24, .agg (List.toArray [.bool m.ins, .bool m.nl, .bool m.ck, .bool m.inv, .bool m.org, .bool m.aut, .bool m.vis, .bool m.paste, .bool m.focus, .bool m.sync, .bool m.keypad, .int .i64 m.mouse, .bool m.sgr, .bool r4.ins, .bool r4.nl, .bool r4.ck, .bool r4.inv, .bool r4.org, .bool r4.aut, .bool r4.vis, .bool r4.paste, .bool r4.focus, .bool r4.sync, .bool r4.keypad, .int .i64 r4.mouse, .bool r4.sgr])), (25, .int .i64 0), (34, .agg (List.toArray [.bool false, .bool true])), (35, .int .i64 1)] [(some b5, .cells (List.toArray [.bool m.ins, .bool m.nl, .bool m.ck, .bool m.inv, .bool m.org, .bool m.aut, .bool m.vis, .bool m.paste, .bool m.focus, .bool m.sync, .bool m.keypad, .int .i64 m.mouse, .bool m.sgr]) 23 (0, 0))] _
                    refine Sx.next ?_
                    refine Sc.seq ?_
                    refine Sc.cut (fun (_ : Unit) => True) (fun (_ : Unit) => [(3, .bool alt), (9, .slice a2 ((numsS n).length) c3), (11, .pointer (some ⟨b5, 0, none⟩)), (12, .int .i64 (k3 : Int)), (24, .agg (List.toArray [.bool m.ins, .bool m.nl, .bool m.ck, .bool m.inv, .bool m.org, .bool m.aut, .bool m.vis, .bool m.paste, .bool m.focus, .bool m.sync, .bool m.keypad, .int .i64 m.mouse, .bool m.sgr, .bool r4.ins, .bool r4.nl, .bool r4.ck, .bool r4.inv, .bool r4.org, .bool r4.aut, .bool r4.vis, .bool r4.paste, .bool r4.focus, .bool r4.sync, .bool r4.keypad, .int .i64 r4.mouse, .bool r4.sgr])), (25, .int .i64 0), (34, .agg (List.toArray [.bool false, .bool true])), (35, .int .i64 1), (68, .bool ((decide (r23.1 ≠ r26)) || (decide (r23.2 ≠ r24))))]) (fun (_ : Unit) => [(some b5, .cells (List.toArray [.bool m.ins, .bool m.nl, .bool m.ck, .bool m.inv, .bool m.org, .bool m.aut, .bool m.vis, .bool m.paste, .bool m.focus, .bool m.sync, .bool m.keypad, .int .i64 m.mouse, .bool m.sgr]) 23 (0, 0))]) (fun _ => fun w => (True) ∧ RowV 1 encI a2 (numsS n) w) ?_ ?_
                    · skip
                      refine Sc.region ?_
                      refine Seg.y rfl rfl (Want.none rfl) (Y.move rfl) ?_
                      refine Seg.y rfl rfl (Want.none rfl) (Y.move rfl) ?_
                      refine Seg.y rfl rfl (Want.none rfl) (Y.binOp rfl rfl (B.ne _ _ _)) ?_
                      refine Seg.y rfl rfl (Want.none rfl) (Y.move rfl) ?_
                      rcases Bool.eq_false_or_eq_true (decide (r23.1 ≠ r26)) with g27 | g27
                      · skip
                        have g27p := of_decide_eq_true g27
                        refine Seg.skip rfl rfl (Skip.some 3 64 false rfl rfl rfl g27) ?_
                        refine Seg.skip rfl rfl (Skip.some 3 64 false rfl rfl rfl g27) ?_
                        refine Seg.skip rfl rfl (Skip.some 3 64 false rfl rfl rfl g27) ?_
                        refine Seg.y rfl rfl (Want.none rfl) (Y.pickT rfl g27 rfl) ?_
                        refine Seg.nil ?_
                        exact Sx.cut () trivial ⟨rfl, rfl, rfl, rfl, rfl, rfl, rfl, rfl, (someB (by first | (simp [h6, h6p, h9, h9p, h22, h25, h25p, g27, g27p]; done) | (simp_all; done) | ((simp [h6, h6p, h9, h9p, h22, h25, h25p, g27, g27p]) <;> grind))), trivial⟩ [0] (by decide) rfl (fun _ h => h)
                      · skip
                        have g27p : r23.1 = r26 := by simpa using g27
                        refine Seg.y rfl rfl (Want.some 3 64 false rfl rfl rfl g27) (Y.move rfl) ?_
                        refine Seg.y rfl rfl (Want.some 3 64 false rfl rfl rfl g27) (Y.move rfl) ?_
                        refine Seg.y rfl rfl (Want.some 3 64 false rfl rfl rfl g27) (Y.binOp rfl rfl (B.ne _ _ _)) ?_
                        refine Seg.y rfl rfl (Want.none rfl) (Y.pickF rfl g27 rfl) ?_
                        refine Seg.nil ?_
                        exact Sx.cut () trivial ⟨rfl, rfl, rfl, rfl, rfl, rfl, rfl, rfl, (someB (by first | (simp [h6, h6p, h9, h9p, h22, h25, h25p, g27, g27p]; done) | (simp_all; done) | ((simp [h6, h6p, h9, h9p, h22, h25, h25p, g27, g27p]) <;> grind))), trivial⟩ [0] (by decide) rfl (fun _ h => h)
                    · intro _ _
                      show Sx _ _ _ [(3, .bool alt), (9, .slice a2 ((numsS n).length) c3), (11, .pointer (some ⟨b5, 0, none⟩)), (12, .int .i64 (k3 : Int)), (24, .agg (List.toArray [.bool m.ins, .bool m.nl, .bool m.ck, .bool m.inv, .bool m.org, .bool m.aut, .bool m.vis, .bool m.paste, .bool m.focus, .bool m.sync, .bool m.keypad, .int .i64 m.mouse, .bool m.sgr, .bool r4.ins, .bool r4.nl, .bool r4.ck, .bool r4.inv, .bool r4.org, .bool r4.aut, .bool r4.vis, .bool r4.paste, .bool r4.focus, .bool r4.sync, .bool r4.keypad, .int .i64 r4.mouse, .bool r4.sgr])), (25, .int .i64 0), (34, .agg (List.toArray [.bool false, .bool true])), (35, .int .i64 1), (68, .bool ((decide (r23.1 ≠ r26)) || (decide (r23.2 ≠ r24))))] [(some b5, .cells (List.toArray [.bool m.ins, .bool m.nl, .bool m.ck, .bool m.inv, .bool m.org, .bool m.aut, .bool m.vis, .bool m.paste, .bool m.focus, .bool m.sync, .bool m.keypad, .int .i64 m.mouse, .bool m.sgr]) 23 (0, 0))] _
                      refine Sx.next ?_
                      refine Sc.cond rfl (fun h28 => ?_) (fun h28 => ?_)
                      · skip
                        refine Sc.seq ?_
                        refine Sc.region ?_
                        refine Seg.y rfl rfl (Want.none rfl) (Y.assign rfl) ?_
                        refine Seg.nil ?_
                        refine Sx.next ?_
                        refine Sc.ret ?_
                        refine Sx.block_ret ?_
                        refine Sx.next_ret ?_
                        refine Sx.loop_ret ?_
                        refine Sx.block_ret ?_
                        refine Sx.block_ret ?_
                        refine Sx.next_ret ?_
                        refine Sx.loop_ret ?_
                        refine Sx.block_ret ?_
                        refine Sx.block_ret ?_
                        refine Sx.next_ret ?_
                        refine Sx.loop_ret ?_
                        refine Sx.block_ret ?_
                        refine Sx.next_ret ?_
                        refine Sx.body (.inl rfl) (res1 rfl (Rv.tmp rfl)) (fun w hs => ?_)
                        refine RetV.eq ?_ hs
                        subst hr4
                        subst hr7
                        subst hr8
                        subst hr23
                        subst hr24
                        subst hr26
                        exfalso; simp_all [putS, stateS, checkS, MdEq_self, MdEq_zero]; done
                      · skip
                        refine Sc.skip ?_
                        refine Sx.block_normal ?_
                        refine Sx.next ?_
                        refine Sc.region ?_
                        refine Seg.y rfl rfl (Want.none rfl) (Y.binOp rfl rfl (B.add _ _ _ 2 (by decide))) ?_
                        refine Seg.y rfl rfl (Want.none rfl) (Y.move rfl) ?_
                        refine Seg.nil ?_
                        refine Sx.round ?_
                        refine Sr.succ ?_
                        refine Sc.seq ?_
                        refine Sc.region ?_
                        refine Seg.y rfl rfl (Want.none rfl) (Y.binOp (v := .bool false) rfl rfl (B.lt _ _ _)) ?_
                        refine Seg.nil ?_
                        refine Sx.next ?_
                        refine Sc.seq ?_
                        refine Sc.condF rfl rfl ?_
                        refine Sc.exit ?_
                        refine Sx.next_exit ?_
                        refine Sx.loop_exit ?_
                        refine Sx.block_exit ?_
                        refine Sx.block_normal ?_
                        refine Sx.next ?_
                        refine Sc.region ?_
                        refine Seg.y rfl rfl (Want.none rfl) (Y.move rfl) ?_
                        refine Seg.y rfl rfl (Want.none rfl) (Y.binOp rfl rfl (B.add _ _ _ ((k3 : Int) + 1) (wr_i64 (by omega)))) ?_
                        refine Seg.y rfl rfl (Want.none rfl) (Y.assign rfl) ?_
                        refine Seg.nil ?_
                        exact Sx.head (k3 + 1) (by first | omega | (simp at *; omega)) (by first | omega | (dsimp only; omega)) ⟨rfl, rfl, rfl, rfl, rfl, rfl, trivial⟩ [0] (by decide) rfl (fun _ h => h)
                · skip
                  have h25p := of_decide_eq_false h25
                  refine Sc.skip ?_
                  refine Sx.next ?_
                  refine Sc.seq ?_
                  refine Sc.cut (fun (_ : Unit) => True) (fun (_ : Unit) => [(3, .bool alt), (9, .slice a2 ((numsS n).length) c3), (11, .pointer (some ⟨b5, 0, none⟩)), (12, .int .i64 (k3 : Int)), (24, .agg (List.toArray [.bool m.ins, .bool m.nl, .bool m.ck, .bool m.inv, .bool m.org, .bool m.aut, .bool m.vis, .bool m.paste, .bool m.focus, .bool m.sync, .bool m.keypad, .int .i64 m.mouse, .bool m.sgr, .bool r4.ins, .bool r4.nl, .bool r4.ck, .bool r4.inv, .bool r4.org, .bool r4.aut, .bool r4.vis, .bool r4.paste, .bool r4.focus, .bool r4.sync, .bool r4.keypad, .int .i64 r4.mouse, .bool r4.sgr])), (25, .int .i64 0), (34, .agg (List.toArray [.bool false, .bool true])), (35, .int .i64 1), (68, .bool ((decide (r23.1 ≠ 0)) || (decide (r23.2 ≠ r24))))]) (fun (_ : Unit) => [(some b5, .cells (List.toArray [.bool m.ins, .bool m.nl, .bool m.ck, .bool m.inv, .bool m.org, .bool m.aut, .bool m.vis, .bool m.paste, .bool m.focus, .bool m.sync, .bool m.keypad, .int .i64 m.mouse, .bool m.sgr]) 23 (0, 0))]) (fun _ => fun w => (True) ∧ RowV 1 encI a2 (numsS n) w) ?_ ?_
                  · skip
                    refine Sc.region ?_
                    refine Seg.y rfl rfl (Want.none rfl) (Y.move rfl) ?_
                    refine Seg.y rfl rfl (Want.none rfl) (Y.move rfl) ?_
                    refine Seg.y rfl rfl (Want.none rfl) (Y.binOp rfl rfl (B.ne _ _ _)) ?_
                    refine Seg.y rfl rfl (Want.none rfl) (Y.move rfl) ?_
                    rcases Bool.eq_false_or_eq_true (decide (r23.1 ≠ 0)) with g29 | g29
                    · skip
                      have g29p := of_decide_eq_true g29
                      refine Seg.skip rfl rfl (Skip.some 3 64 false rfl rfl rfl g29) ?_
                      refine Seg.skip rfl rfl (Skip.some 3 64 false rfl rfl rfl g29) ?_
                      refine Seg.skip rfl rfl (Skip.some 3 64 false rfl rfl rfl g29) ?_
                      refine Seg.y rfl rfl (Want.none rfl) (Y.pickT rfl g29 rfl) ?_
                      refine Seg.nil ?_
                      exact Sx.cut () trivial ⟨rfl, rfl, rfl, rfl, rfl, rfl, rfl, rfl, (someB (by first | (simp [h6, h6p, h9, h9p, h22, h25, h25p, g29, g29p]; done) | (simp_all; done) | ((simp [h6, h6p, h9, h9p, h22, h25, h25p, g29, g29p]) <;> grind))), trivial⟩ [0] (by decide) rfl (fun _ h => h)
                    · skip
                      have g29p : r23.1 = 0 := by simpa using g29
                      refine Seg.y rfl rfl (Want.some 3 64 false rfl rfl rfl g29) (Y.move rfl) ?_
                      refine Seg.y rfl rfl (Want.some 3 64 false rfl rfl rfl g29) (Y.move rfl) ?_
                      refine Seg.y rfl rfl (Want.some 3 64 false rfl rfl rfl g29) (Y.binOp rfl rfl (B.ne _ _ _)) ?_
                      refine Seg.y rfl rfl (Want.none rfl) (Y.pickF rfl g29 rfl) ?_
                      refine Seg.nil ?_
                      exact Sx.cut () trivial ⟨rfl, rfl, rfl, rfl, rfl, rfl, rfl, rfl, (someB (by first | (simp [h6, h6p, h9, h9p, h22, h25, h25p, g29, g29p]; done) | (simp_all; done) | ((simp [h6, h6p, h9, h9p, h22, h25, h25p, g29, g29p]) <;> grind))), trivial⟩ [0] (by decide) rfl (fun _ h => h)
                  · intro _ _
                    show Sx _ _ _ [(3, .bool alt), (9, .slice a2 ((numsS n).length) c3), (11, .pointer (some ⟨b5, 0, none⟩)), (12, .int .i64 (k3 : Int)), (24, .agg (List.toArray [.bool m.ins, .bool m.nl, .bool m.ck, .bool m.inv, .bool m.org, .bool m.aut, .bool m.vis, .bool m.paste, .bool m.focus, .bool m.sync, .bool m.keypad, .int .i64 m.mouse, .bool m.sgr, .bool r4.ins, .bool r4.nl, .bool r4.ck, .bool r4.inv, .bool r4.org, .bool r4.aut, .bool r4.vis, .bool r4.paste, .bool r4.focus, .bool r4.sync, .bool r4.keypad, .int .i64 r4.mouse, .bool r4.sgr])), (25, .int .i64 0), (34, .agg (List.toArray [.bool false, .bool true])), (35, .int .i64 1), (68, .bool ((decide (r23.1 ≠ 0)) || (decide (r23.2 ≠ r24))))] [(some b5, .cells (List.toArray [.bool m.ins, .bool m.nl, .bool m.ck, .bool m.inv, .bool m.org, .bool m.aut, .bool m.vis, .bool m.paste, .bool m.focus, .bool m.sync, .bool m.keypad, .int .i64 m.mouse, .bool m.sgr]) 23 (0, 0))] _
                    refine Sx.next ?_
                    refine Sc.cond rfl (fun h30 => ?_) (fun h30 => ?_)
                    · skip
                      refine Sc.seq ?_
                      refine Sc.region ?_
                      refine Seg.y rfl rfl (Want.none rfl) (Y.assign rfl) ?_
                      refine Seg.nil ?_
                      refine Sx.next ?_
                      refine Sc.ret ?_
                      refine Sx.block_ret ?_
                      refine Sx.next_ret ?_
                      refine Sx.loop_ret ?_
                      refine Sx.block_ret ?_
                      refine Sx.block_ret ?_
                      refine Sx.next_ret ?_
                      refine Sx.loop_ret ?_
                      refine Sx.block_ret ?_
                      refine Sx.block_ret ?_
                      refine Sx.next_ret ?_
                      refine Sx.loop_ret ?_
                      refine Sx.block_ret ?_
                      refine Sx.next_ret ?_
                      refine Sx.body (.inl rfl) (res1 rfl (Rv.tmp rfl)) (fun w hs => ?_)
                      refine RetV.eq ?_ hs
                      subst hr4
                      subst hr7
                      subst hr8
                      subst hr23
                      subst hr24
                      exfalso; simp_all [putS, stateS, checkS, MdEq_self, MdEq_zero]; done
                    · skip
                      refine Sc.skip ?_
                      refine Sx.block_normal ?_
                      refine Sx.next ?_
                      refine Sc.region ?_
                      refine Seg.y rfl rfl (Want.none rfl) (Y.binOp rfl rfl (B.add _ _ _ 2 (by decide))) ?_
                      refine Seg.y rfl rfl (Want.none rfl) (Y.move rfl) ?_
                      refine Seg.nil ?_
                      refine Sx.round ?_
                      refine Sr.succ ?_
                      refine Sc.seq ?_
                      refine Sc.region ?_
                      refine Seg.y rfl rfl (Want.none rfl) (Y.binOp (v := .bool false) rfl rfl (B.lt _ _ _)) ?_
                      refine Seg.nil ?_
                      refine Sx.next ?_
                      refine Sc.seq ?_
                      refine Sc.condF rfl rfl ?_
                      refine Sc.exit ?_
                      refine Sx.next_exit ?_
                      refine Sx.loop_exit ?_
                      refine Sx.block_exit ?_
                      refine Sx.block_normal ?_
                      refine Sx.next ?_
                      refine Sc.region ?_
                      refine Seg.y rfl rfl (Want.none rfl) (Y.move rfl) ?_
                      refine Seg.y rfl rfl (Want.none rfl) (Y.binOp rfl rfl (B.add _ _ _ ((k3 : Int) + 1) (wr_i64 (by omega)))) ?_
                      refine Seg.y rfl rfl (Want.none rfl) (Y.assign rfl) ?_
                      refine Seg.nil ?_
                      exact Sx.head (k3 + 1) (by first | omega | (simp at *; omega)) (by first | omega | (dsimp only; omega)) ⟨rfl, rfl, rfl, rfl, rfl, rfl, trivial⟩ [0] (by decide) rfl (fun _ h => h)
    · skip
      have h6p := of_decide_eq_false h6
      refine Sc.exit ?_
      refine Sx.next_exit ?_
      refine Sx.loop_exit ?_
      refine Sx.block_exit ?_
      refine Sx.block_normal ?_
      refine Sx.next ?_
      refine Sc.region ?_
      refine Seg.y rfl rfl (Want.none rfl) (Y.binOp rfl rfl (B.add _ _ _ 1 (by decide))) ?_
      refine Seg.y rfl rfl (Want.none rfl) (Y.move rfl) ?_
      refine Seg.nil ?_
      refine Sx.round ?_
      refine Sr.succ ?_
      refine Sc.seq ?_
      refine Sc.region ?_
      refine Seg.y rfl rfl (Want.none rfl) (Y.binOp (v := .bool true) rfl rfl (B.lt _ _ _)) ?_
      refine Seg.nil ?_
      refine Sx.next ?_
      refine Sc.seq ?_
      refine Sc.condT rfl rfl ?_
      refine Sc.skip ?_
      refine Sx.next ?_
      refine Sc.seq ?_
      refine Sc.block ?_
      refine Sc.seq ?_
      refine Sc.region ?_
      refine Seg.y rfl rfl (Want.none rfl) (Y.index (v := .agg (List.toArray [.bool r4.ins, .bool r4.nl, .bool r4.ck, .bool r4.inv, .bool r4.org, .bool r4.aut, .bool r4.vis, .bool r4.paste, .bool r4.focus, .bool r4.sync, .bool r4.keypad, .int .i64 r4.mouse, .bool r4.sgr])) rfl rfl (fun w => by kernel_rfl)) ?_
      refine Seg.chg rfl rfl (Want.none rfl) (C.alloc zv23 rfl) (fun b31 hb31 => ?_)
      refine Seg.chs rfl (Want.none rfl) (C.store (cs' := [.bool r4.ins, .bool r4.nl, .bool r4.ck, .bool r4.inv, .bool r4.org, .bool r4.aut, .bool r4.vis, .bool r4.paste, .bool r4.focus, .bool r4.sync, .bool r4.keypad, .int .i64 r4.mouse, .bool r4.sgr]) (vs := [.bool r4.ins, .bool r4.nl, .bool r4.ck, .bool r4.inv, .bool r4.org, .bool r4.aut, .bool r4.vis, .bool r4.paste, .bool r4.focus, .bool r4.sync, .bool r4.keypad, .int .i64 r4.mouse, .bool r4.sgr]) 0 rfl rfl rfl rfl rfl rfl rfl sz23) (fun _ _ => ?_)
      refine Seg.nil ?_
      refine Sx.next ?_
      refine Sc.seq ?_
      refine Sc.region ?_
      refine Seg.y rfl rfl (Want.none rfl) (Y.assign rfl) ?_
      refine Seg.nil ?_
      refine Sx.next ?_
      refine Sc.block ?_
      refine Sc.loop (fun (k4 : Nat) => k4 ≤ 22) (fun (k4 : Nat) => 22 - k4) (fun (k4 : Nat) => [(3, .bool alt), (9, .slice a2 ((numsS n).length) c3), (11, .pointer (some ⟨b31, 0, none⟩)), (12, .int .i64 (k4 : Int)), (24, .agg (List.toArray [.bool m.ins, .bool m.nl, .bool m.ck, .bool m.inv, .bool m.org, .bool m.aut, .bool m.vis, .bool m.paste, .bool m.focus, .bool m.sync, .bool m.keypad, .int .i64 m.mouse, .bool m.sgr, .bool r4.ins, .bool r4.nl, .bool r4.ck, .bool r4.inv, .bool r4.org, .bool r4.aut, .bool r4.vis, .bool r4.paste, .bool r4.focus, .bool r4.sync, .bool r4.keypad, .int .i64 r4.mouse, .bool r4.sgr])), (25, .int .i64 1)]) (fun (k4 : Nat) => [(some b31, .cells (List.toArray [.bool r4.ins, .bool r4.nl, .bool r4.ck, .bool r4.inv, .bool r4.org, .bool r4.aut, .bool r4.vis, .bool r4.paste, .bool r4.focus, .bool r4.sync, .bool r4.keypad, .int .i64 r4.mouse, .bool r4.sgr]) 23 (0, 0))]) (fun (k4 : Nat) => fun w => (True) ∧ RowV 1 encI a2 (numsS n) w) 0 (Nat.zero_le _) (by exact ⟨rfl, rfl, rfl, rfl, rfl, rfl, trivial⟩) [0] (by decide) rfl (fun _ h => h) ?_
      rintro k4 hJ1
      have hk4 := hJ1
      have hln4 := numsS_len n
      show Sc _ _ _ _ [(3, .bool alt), (9, .slice a2 ((numsS n).length) c3), (11, .pointer (some ⟨b31, 0, none⟩)), (12, .int .i64 (k4 : Int)), (24, .agg (List.toArray [.bool m.ins, .bool m.nl, .bool m.ck, .bool m.inv, .bool m.org, .bool m.aut, .bool m.vis, .bool m.paste, .bool m.focus, .bool m.sync, .bool m.keypad, .int .i64 m.mouse, .bool m.sgr, .bool r4.ins, .bool r4.nl, .bool r4.ck, .bool r4.inv, .bool r4.org, .bool r4.aut, .bool r4.vis, .bool r4.paste, .bool r4.focus, .bool r4.sync, .bool r4.keypad, .int .i64 r4.mouse, .bool r4.sgr])), (25, .int .i64 1)] [(some b31, .cells (List.toArray [.bool r4.ins, .bool r4.nl, .bool r4.ck, .bool r4.inv, .bool r4.org, .bool r4.aut, .bool r4.vis, .bool r4.paste, .bool r4.focus, .bool r4.sync, .bool r4.keypad, .int .i64 r4.mouse, .bool r4.sgr]) 23 (0, 0))] (fun w => (True) ∧ RowV 1 encI a2 (numsS n) w)
      refine Sc.seq ?_
      refine Sc.seq ?_
      refine Sc.region ?_
      refine Seg.y rfl rfl (Want.none rfl) (Y.move rfl) ?_
      refine Seg.y rfl rfl (Want.none rfl) (Y.move rfl) ?_
      refine Seg.y rfl rfl (Want.none rfl) (Y.bi rfl (fun w _ => run_len rfl Try.underlying25 w)) ?_
      refine Seg.y rfl rfl (Want.none rfl) (Y.binOp rfl rfl (B.lt _ _ _)) ?_
      refine Seg.nil ?_
      refine Sx.next ?_
      refine Sc.cond rfl (fun h32 => ?_) (fun h32 => ?_)
      · skip
        have h32p := of_decide_eq_true h32
        refine Sc.skip ?_
        refine Sx.next ?_
        refine Sc.seq ?_
        refine Sc.block ?_
        refine Sc.seq ?_
        refine Sc.region ?_
        refine Seg.y rfl rfl (Want.none rfl) (Y.build (v := .agg (List.toArray [.bool false, .bool true])) rfl (fun w => by kernel_rfl)) ?_
        refine Seg.y rfl rfl (Want.none rfl) (Y.move rfl) ?_
        refine Seg.nil ?_
        refine Sx.next ?_
        refine Sc.block ?_
        refine Sc.rounds 3 ?_
        refine Sr.succ ?_
        refine Sc.seq ?_
        refine Sc.region ?_
        refine Seg.y rfl rfl (Want.none rfl) (Y.binOp (v := .bool true) rfl rfl (B.lt _ _ _)) ?_
        refine Seg.nil ?_
        refine Sx.next ?_
        refine Sc.seq ?_
        refine Sc.condT rfl rfl ?_
        refine Sc.skip ?_
        refine Sx.next ?_
        refine Sc.seq ?_
        refine Sc.block ?_
        refine Sc.seq ?_
        refine Sc.region ?_
        refine Seg.y rfl rfl (Want.none rfl) (Y.index (v := .bool false) rfl rfl (fun w => by kernel_rfl)) ?_
        refine Seg.y rfl rfl (Want.none rfl) (Y.assign rfl) ?_
        refine Seg.nil ?_
        refine Sx.next ?_
        refine Sc.seq ?_
        obtain ⟨r33, hr33⟩ : ∃ x, x = stateS r4 false ((numsS n).getD k4 (0 : Int)) alt := ⟨_, rfl⟩
        refine Sc.cut (fun (_ : Unit) => True) (fun (_ : Unit) => [(3, .bool alt), (9, .slice a2 ((numsS n).length) c3), (11, .pointer (some ⟨b31, 0, none⟩)), (12, .int .i64 (k4 : Int)), (14, .bool false), (15, .int .i64 r33.1), (16, .int .i64 r33.2), (24, .agg (List.toArray [.bool m.ins, .bool m.nl, .bool m.ck, .bool m.inv, .bool m.org, .bool m.aut, .bool m.vis, .bool m.paste, .bool m.focus, .bool m.sync, .bool m.keypad, .int .i64 m.mouse, .bool m.sgr, .bool r4.ins, .bool r4.nl, .bool r4.ck, .bool r4.inv, .bool r4.org, .bool r4.aut, .bool r4.vis, .bool r4.paste, .bool r4.focus, .bool r4.sync, .bool r4.keypad, .int .i64 r4.mouse, .bool r4.sgr])), (25, .int .i64 1), (34, .agg (List.toArray [.bool false, .bool true])), (35, .int .i64 0)]) (fun (_ : Unit) => [(some b31, .cells (List.toArray [.bool r4.ins, .bool r4.nl, .bool r4.ck, .bool r4.inv, .bool r4.org, .bool r4.aut, .bool r4.vis, .bool r4.paste, .bool r4.focus, .bool r4.sync, .bool r4.keypad, .int .i64 r4.mouse, .bool r4.sgr]) 23 (0, 0))]) (fun _ => fun w => (True) ∧ RowV 1 encI a2 (numsS n) w) ?_ ?_
        · skip
          refine Sc.draw (by kernel_rfl) (fun _ h => St.lean [0] (by decide) (fun _ h => h) h rfl) ?_
          refine Sd.take 0 rfl rfl rfl (by kernel_rfl) (by kernel_rfl) (by kernel_rfl) Cut.panic (Want.none rfl) (Y.loadN (vs := [.bool r4.ins, .bool r4.nl, .bool r4.ck, .bool r4.inv, .bool r4.org, .bool r4.aut, .bool r4.vis, .bool r4.paste, .bool r4.focus, .bool r4.sync, .bool r4.keypad, .int .i64 r4.mouse, .bool r4.sgr]) 0 rfl rfl rfl rfl ag23 sz23) ?_
          refine Sd.take 1 rfl rfl rfl (by kernel_rfl) (by kernel_rfl) (by kernel_rfl) Cut.panic (Want.none rfl) (Y.move rfl) ?_
          refine Sd.take 2 rfl rfl rfl (by kernel_rfl) (by kernel_rfl) (by kernel_rfl) Cut.panic (Want.none rfl) (Y.move rfl) ?_
          refine Sd.take 3 rfl rfl rfl (by kernel_rfl) (by kernel_rfl) (by kernel_rfl) Cut.panic (Want.none rfl) (Y.move rfl) ?_
          refine Sd.take 4 rfl rfl rfl (by kernel_rfl) (by kernel_rfl) (by kernel_rfl) Cut.panic (Want.none rfl) (Y.elemAddr rfl rfl Try.underlying25 sz3 (fun w h => ((h.2) k4 _ (getD_some (0 : Int) (by omega))).1) (by omega) (by omega) (by simp : (sadr a2).off + ((k4 : Int)).toNat * 1 = (sadr a2).off + k4 * 1)) ?_
          refine Sd.take 5 rfl rfl rfl (by kernel_rfl) (by kernel_rfl) (by kernel_rfl) Cut.panic (Want.none rfl) (Y.loadF1 rfl ag3 (fun w h => ((h.2) k4 _ (getD_some (0 : Int) (by omega))).2 0 _ rfl)) ?_
          refine Sd.take 6 rfl rfl rfl (by kernel_rfl) (by kernel_rfl) (by kernel_rfl) Cut.panic (Want.none rfl) (Y.move rfl) ?_
          refine Sd.all [7] (by kernel_rfl) (by decide) (all_cons ?_ all_nil)
          refine Sp.callV (v := .tuple (List.toArray [.int .i64 r33.1, .int .i64 r33.2])) rfl rfl rfl (Want.none rfl) (K.func rfl co19) (fun w hs => by rw [hr33]; exact state_c r4 false ((numsS n).getD k4 (0 : Int)) alt w ) ?_
          refine Sd.take 8 rfl rfl rfl (by kernel_rfl) (by kernel_rfl) (by kernel_rfl) Cut.panic (Want.none rfl) (Y.move rfl) ?_
          refine Sd.take 9 rfl rfl rfl (by kernel_rfl) (by kernel_rfl) (by kernel_rfl) Cut.panic (Want.none rfl) (Y.extract rfl rfl) ?_
          refine Sd.take 10 rfl rfl rfl (by kernel_rfl) (by kernel_rfl) (by kernel_rfl) Cut.panic (Want.none rfl) (Y.extract rfl rfl) ?_
          refine Sd.take 11 rfl rfl rfl (by kernel_rfl) (by kernel_rfl) (by kernel_rfl) Cut.panic (Want.none rfl) (Y.assign rfl) ?_
          refine Sd.take 12 rfl rfl rfl (by kernel_rfl) (by kernel_rfl) (by kernel_rfl) Cut.panic (Want.none rfl) (Y.assign rfl) ?_
          refine Sd.done (by kernel_rfl) ?_
          exact Sx.cut () trivial ⟨rfl, rfl, rfl, rfl, rfl, rfl, rfl, rfl, rfl, rfl, rfl, trivial⟩ [0] (by decide) rfl (fun _ h => h)
        · intro _ _
          show Sx _ _ _ [(3, .bool alt), (9, .slice a2 ((numsS n).length) c3), (11, .pointer (some ⟨b31, 0, none⟩)), (12, .int .i64 (k4 : Int)), (14, .bool false), (15, .int .i64 r33.1), (16, .int .i64 r33.2), (24, .agg (List.toArray [.bool m.ins, .bool m.nl, .bool m.ck, .bool m.inv, .bool m.org, .bool m.aut, .bool m.vis, .bool m.paste, .bool m.focus, .bool m.sync, .bool m.keypad, .int .i64 m.mouse, .bool m.sgr, .bool r4.ins, .bool r4.nl, .bool r4.ck, .bool r4.inv, .bool r4.org, .bool r4.aut, .bool r4.vis, .bool r4.paste, .bool r4.focus, .bool r4.sync, .bool r4.keypad, .int .i64 r4.mouse, .bool r4.sgr])), (25, .int .i64 1), (34, .agg (List.toArray [.bool false, .bool true])), (35, .int .i64 0)] [(some b31, .cells (List.toArray [.bool r4.ins, .bool r4.nl, .bool r4.ck, .bool r4.inv, .bool r4.org, .bool r4.aut, .bool r4.vis, .bool r4.paste, .bool r4.focus, .bool r4.sync, .bool r4.keypad, .int .i64 r4.mouse, .bool r4.sgr]) 23 (0, 0))] _
          refine Sx.next ?_
          refine Sc.seq ?_
          refine Sc.region ?_
          refine Seg.y rfl rfl (Want.none rfl) (Y.loadN (vs := [.bool r4.ins, .bool r4.nl, .bool r4.ck, .bool r4.inv, .bool r4.org, .bool r4.aut, .bool r4.vis, .bool r4.paste, .bool r4.focus, .bool r4.sync, .bool r4.keypad, .int .i64 r4.mouse, .bool r4.sgr]) 0 rfl rfl rfl rfl ag23 sz23) ?_
          obtain ⟨r34, hr34⟩ : ∃ x, x = checkS r4 := ⟨_, rfl⟩
          refine Seg.callV (v := .int .i64 r34) rfl rfl (Want.none rfl) (K.func rfl co12) (fun w hs => by rw [hr34]; exact rcheck_c r4 w ) ?_
          refine Seg.y rfl rfl (Want.none rfl) (Y.assign rfl) ?_
          refine Seg.y rfl rfl (Want.none rfl) (Y.assign rfl) ?_
          refine Seg.nil ?_
          refine Sx.next ?_
          refine Sc.seq ?_
          refine Sc.seq ?_
          refine Sc.region ?_
          refine Seg.y rfl rfl (Want.none rfl) (Y.move rfl) ?_
          refine Seg.y rfl rfl (Want.none rfl) (Y.binOp rfl rfl (B.eq _ _ _)) ?_
          refine Seg.nil ?_
          refine Sx.next ?_
          refine Sc.cond rfl (fun h35 => ?_) (fun h35 => ?_)
          · skip
            have h35p := of_decide_eq_true h35
            obtain ⟨r36, hr36⟩ : ∃ x, x = rstateS r4 false ((numsS n).getD k4 (0 : Int)) alt := ⟨_, rfl⟩
            have hbr36 : 0 ≤ r36 ∧ r36 ≤ 2 := by rw [hr36]; exact rstate_bd _ _ _ _
            refine Sc.cut (fun (_ : Unit) => True) (fun (_ : Unit) => [(3, .bool alt), (9, .slice a2 ((numsS n).length) c3), (11, .pointer (some ⟨b31, 0, none⟩)), (12, .int .i64 (k4 : Int)), (15, .int .i64 r33.1), (16, .int .i64 r33.2), (17, .int .i64 r36), (18, .int .i64 r34), (24, .agg (List.toArray [.bool m.ins, .bool m.nl, .bool m.ck, .bool m.inv, .bool m.org, .bool m.aut, .bool m.vis, .bool m.paste, .bool m.focus, .bool m.sync, .bool m.keypad, .int .i64 m.mouse, .bool m.sgr, .bool r4.ins, .bool r4.nl, .bool r4.ck, .bool r4.inv, .bool r4.org, .bool r4.aut, .bool r4.vis, .bool r4.paste, .bool r4.focus, .bool r4.sync, .bool r4.keypad, .int .i64 r4.mouse, .bool r4.sgr])), (25, .int .i64 1), (34, .agg (List.toArray [.bool false, .bool true])), (35, .int .i64 0)]) (fun (_ : Unit) => [(some b31, .cells (List.toArray [.bool r4.ins, .bool r4.nl, .bool r4.ck, .bool r4.inv, .bool r4.org, .bool r4.aut, .bool r4.vis, .bool r4.paste, .bool r4.focus, .bool r4.sync, .bool r4.keypad, .int .i64 r4.mouse, .bool r4.sgr]) 23 (0, 0))]) (fun _ => fun w => (True) ∧ RowV 1 encI a2 (numsS n) w) ?_ ?_
            · skip
              refine Sc.draw (by kernel_rfl) (fun _ h => St.lean [0] (by decide) (fun _ h => h) h rfl) ?_
              refine Sd.take 0 rfl rfl rfl (by kernel_rfl) (by kernel_rfl) (by kernel_rfl) Cut.panic (Want.none rfl) (Y.loadN (vs := [.bool r4.ins, .bool r4.nl, .bool r4.ck, .bool r4.inv, .bool r4.org, .bool r4.aut, .bool r4.vis, .bool r4.paste, .bool r4.focus, .bool r4.sync, .bool r4.keypad, .int .i64 r4.mouse, .bool r4.sgr]) 0 rfl rfl rfl rfl ag23 sz23) ?_
              refine Sd.take 1 rfl rfl rfl (by kernel_rfl) (by kernel_rfl) (by kernel_rfl) Cut.panic (Want.none rfl) (Y.move rfl) ?_
              refine Sd.take 2 rfl rfl rfl (by kernel_rfl) (by kernel_rfl) (by kernel_rfl) Cut.panic (Want.none rfl) (Y.move rfl) ?_
              refine Sd.take 3 rfl rfl rfl (by kernel_rfl) (by kernel_rfl) (by kernel_rfl) Cut.panic (Want.none rfl) (Y.move rfl) ?_
              refine Sd.take 4 rfl rfl rfl (by kernel_rfl) (by kernel_rfl) (by kernel_rfl) Cut.panic (Want.none rfl) (Y.elemAddr rfl rfl Try.underlying25 sz3 (fun w h => ((h.2) k4 _ (getD_some (0 : Int) (by omega))).1) (by omega) (by omega) (by simp : (sadr a2).off + ((k4 : Int)).toNat * 1 = (sadr a2).off + k4 * 1)) ?_
              refine Sd.take 5 rfl rfl rfl (by kernel_rfl) (by kernel_rfl) (by kernel_rfl) Cut.panic (Want.none rfl) (Y.loadF1 rfl ag3 (fun w h => ((h.2) k4 _ (getD_some (0 : Int) (by omega))).2 0 _ rfl)) ?_
              refine Sd.take 6 rfl rfl rfl (by kernel_rfl) (by kernel_rfl) (by kernel_rfl) Cut.panic (Want.none rfl) (Y.move rfl) ?_
              refine Sd.all [7] (by kernel_rfl) (by decide) (all_cons ?_ all_nil)
              refine Sp.callV (v := .int .i64 r36) rfl rfl rfl (Want.none rfl) (K.func rfl co20) (fun w hs => by rw [hr36]; exact rstate_c r4 false ((numsS n).getD k4 (0 : Int)) alt w ) ?_
              refine Sd.take 8 rfl rfl rfl (by kernel_rfl) (by kernel_rfl) (by kernel_rfl) Cut.panic (Want.none rfl) (Y.assign rfl) ?_
              refine Sd.done (by kernel_rfl) ?_
              exact Sx.cut () trivial ⟨rfl, rfl, rfl, rfl, rfl, rfl, rfl, rfl, rfl, rfl, rfl, rfl, trivial⟩ [0] (by decide) rfl (fun _ h => h)
            · intro _ _
              show Sx _ _ _ [(3, .bool alt), (9, .slice a2 ((numsS n).length) c3), (11, .pointer (some ⟨b31, 0, none⟩)), (12, .int .i64 (k4 : Int)), (15, .int .i64 r33.1), (16, .int .i64 r33.2), (17, .int .i64 r36), (18, .int .i64 r34), (24, .agg (List.toArray [.bool m.ins, .bool m.nl, .bool m.ck, .bool m.inv, .bool m.org, .bool m.aut, .bool m.vis, .bool m.paste, .bool m.focus, .bool m.sync, .bool m.keypad, .int .i64 m.mouse, .bool m.sgr, .bool r4.ins, .bool r4.nl, .bool r4.ck, .bool r4.inv, .bool r4.org, .bool r4.aut, .bool r4.vis, .bool r4.paste, .bool r4.focus, .bool r4.sync, .bool r4.keypad, .int .i64 r4.mouse, .bool r4.sgr])), (25, .int .i64 1), (34, .agg (List.toArray [.bool false, .bool true])), (35, .int .i64 0)] [(some b31, .cells (List.toArray [.bool r4.ins, .bool r4.nl, .bool r4.ck, .bool r4.inv, .bool r4.org, .bool r4.aut, .bool r4.vis, .bool r4.paste, .bool r4.focus, .bool r4.sync, .bool r4.keypad, .int .i64 r4.mouse, .bool r4.sgr]) 23 (0, 0))] _
              refine Sx.next ?_
              refine Sc.seq ?_
              refine Sc.cut (fun (_ : Unit) => True) (fun (_ : Unit) => [(3, .bool alt), (9, .slice a2 ((numsS n).length) c3), (11, .pointer (some ⟨b31, 0, none⟩)), (12, .int .i64 (k4 : Int)), (24, .agg (List.toArray [.bool m.ins, .bool m.nl, .bool m.ck, .bool m.inv, .bool m.org, .bool m.aut, .bool m.vis, .bool m.paste, .bool m.focus, .bool m.sync, .bool m.keypad, .int .i64 m.mouse, .bool m.sgr, .bool r4.ins, .bool r4.nl, .bool r4.ck, .bool r4.inv, .bool r4.org, .bool r4.aut, .bool r4.vis, .bool r4.paste, .bool r4.focus, .bool r4.sync, .bool r4.keypad, .int .i64 r4.mouse, .bool r4.sgr])), (25, .int .i64 1), (34, .agg (List.toArray [.bool false, .bool true])), (35, .int .i64 0), (68, .bool ((decide (r33.1 ≠ r36)) || (decide (r33.2 ≠ r34))))]) (fun (_ : Unit) => [(some b31, .cells (List.toArray [.bool r4.ins, .bool r4.nl, .bool r4.ck, .bool r4.inv, .bool r4.org, .bool r4.aut, .bool r4.vis, .bool r4.paste, .bool r4.focus, .bool r4.sync, .bool r4.keypad, .int .i64 r4.mouse, .bool r4.sgr]) 23 (0, 0))]) (fun _ => fun w => (True) ∧ RowV 1 encI a2 (numsS n) w) ?_ ?_
              · skip
                refine Sc.region ?_
                refine Seg.y rfl rfl (Want.none rfl) (Y.move rfl) ?_
                refine Seg.y rfl rfl (Want.none rfl) (Y.move rfl) ?_
                refine Seg.y rfl rfl (Want.none rfl) (Y.binOp rfl rfl (B.ne _ _ _)) ?_
                refine Seg.y rfl rfl (Want.none rfl) (Y.move rfl) ?_
                rcases Bool.eq_false_or_eq_true (decide (r33.1 ≠ r36)) with g37 | g37
                · skip
                  have g37p := of_decide_eq_true g37
                  refine Seg.skip rfl rfl (Skip.some 3 64 false rfl rfl rfl g37) ?_
                  refine Seg.skip rfl rfl (Skip.some 3 64 false rfl rfl rfl g37) ?_
                  refine Seg.skip rfl rfl (Skip.some 3 64 false rfl rfl rfl g37) ?_
                  refine Seg.y rfl rfl (Want.none rfl) (Y.pickT rfl g37 rfl) ?_
                  refine Seg.nil ?_
                  exact Sx.cut () trivial ⟨rfl, rfl, rfl, rfl, rfl, rfl, rfl, rfl, (someB (by first | (simp [h6, h6p, h32, h32p, h35, h35p, g37, g37p]; done) | (simp_all; done) | ((simp [h6, h6p, h32, h32p, h35, h35p, g37, g37p]) <;> grind))), trivial⟩ [0] (by decide) rfl (fun _ h => h)
                · skip
                  have g37p : r33.1 = r36 := by simpa using g37
                  refine Seg.y rfl rfl (Want.some 3 64 false rfl rfl rfl g37) (Y.move rfl) ?_
                  refine Seg.y rfl rfl (Want.some 3 64 false rfl rfl rfl g37) (Y.move rfl) ?_
                  refine Seg.y rfl rfl (Want.some 3 64 false rfl rfl rfl g37) (Y.binOp rfl rfl (B.ne _ _ _)) ?_
                  refine Seg.y rfl rfl (Want.none rfl) (Y.pickF rfl g37 rfl) ?_
                  refine Seg.nil ?_
                  exact Sx.cut () trivial ⟨rfl, rfl, rfl, rfl, rfl, rfl, rfl, rfl, (someB (by first | (simp [h6, h6p, h32, h32p, h35, h35p, g37, g37p]; done) | (simp_all; done) | ((simp [h6, h6p, h32, h32p, h35, h35p, g37, g37p]) <;> grind))), trivial⟩ [0] (by decide) rfl (fun _ h => h)
              · intro _ _
                show Sx _ _ _ [(3, .bool alt), (9, .slice a2 ((numsS n).length) c3), (11, .pointer (some ⟨b31, 0, none⟩)), (12, .int .i64 (k4 : Int)), (24, .agg (List.toArray [.bool m.ins, .bool m.nl, .bool m.ck, .bool m.inv, .bool m.org, .bool m.aut, .bool m.vis, .bool m.paste, .bool m.focus, .bool m.sync, .bool m.keypad, .int .i64 m.mouse, .bool m.sgr, .bool r4.ins, .bool r4.nl, .bool r4.ck, .bool r4.inv, .bool r4.org, .bool r4.aut, .bool r4.vis, .bool r4.paste, .bool r4.focus, .bool r4.sync, .bool r4.keypad, .int .i64 r4.mouse, .bool r4.sgr])), (25, .int .i64 1), (34, .agg (List.toArray [.bool false, .bool true])), (35, .int .i64 0), (68, .bool ((decide (r33.1 ≠ r36)) || (decide (r33.2 ≠ r34))))] [(some b31, .cells (List.toArray [.bool r4.ins, .bool r4.nl, .bool r4.ck, .bool r4.inv, .bool r4.org, .bool r4.aut, .bool r4.vis, .bool r4.paste, .bool r4.focus, .bool r4.sync, .bool r4.keypad, .int .i64 r4.mouse, .bool r4.sgr]) 23 (0, 0))] _
                refine Sx.next ?_
                refine Sc.cond rfl (fun h38 => ?_) (fun h38 => ?_)
                · skip
                  refine Sc.seq ?_
                  refine Sc.region ?_
                  refine Seg.y rfl rfl (Want.none rfl) (Y.assign rfl) ?_
                  refine Seg.nil ?_
                  refine Sx.next ?_
                  refine Sc.ret ?_
                  refine Sx.block_ret ?_
                  refine Sx.next_ret ?_
                  refine Sx.loop_ret ?_
                  refine Sx.block_ret ?_
                  refine Sx.block_ret ?_
                  refine Sx.next_ret ?_
                  refine Sx.loop_ret ?_
                  refine Sx.block_ret ?_
                  refine Sx.block_ret ?_
                  refine Sx.next_ret ?_
                  refine Sx.loop_ret ?_
                  refine Sx.block_ret ?_
                  refine Sx.next_ret ?_
                  refine Sx.body (.inl rfl) (res1 rfl (Rv.tmp rfl)) (fun w hs => ?_)
                  refine RetV.eq ?_ hs
                  subst hr4
                  subst hr33
                  subst hr34
                  subst hr36
                  exfalso; simp_all [putS, stateS, checkS, MdEq_self, MdEq_zero]; done
                · skip
                  refine Sc.skip ?_
                  refine Sx.block_normal ?_
                  refine Sx.next ?_
                  refine Sc.region ?_
                  refine Seg.y rfl rfl (Want.none rfl) (Y.binOp rfl rfl (B.add _ _ _ 1 (by decide))) ?_
                  refine Seg.y rfl rfl (Want.none rfl) (Y.move rfl) ?_
                  refine Seg.nil ?_
                  refine Sx.round ?_
                  refine Sr.succ ?_
                  refine Sc.seq ?_
                  refine Sc.region ?_
                  refine Seg.y rfl rfl (Want.none rfl) (Y.binOp (v := .bool true) rfl rfl (B.lt _ _ _)) ?_
                  refine Seg.nil ?_
                  refine Sx.next ?_
                  refine Sc.seq ?_
                  refine Sc.condT rfl rfl ?_
                  refine Sc.skip ?_
                  refine Sx.next ?_
                  refine Sc.seq ?_
                  refine Sc.block ?_
                  refine Sc.seq ?_
                  refine Sc.region ?_
                  refine Seg.y rfl rfl (Want.none rfl) (Y.index (v := .bool true) rfl rfl (fun w => by kernel_rfl)) ?_
                  refine Seg.y rfl rfl (Want.none rfl) (Y.assign rfl) ?_
                  refine Seg.nil ?_
                  refine Sx.next ?_
                  refine Sc.seq ?_
                  obtain ⟨r39, hr39⟩ : ∃ x, x = stateS r4 true ((numsS n).getD k4 (0 : Int)) alt := ⟨_, rfl⟩
                  refine Sc.cut (fun (_ : Unit) => True) (fun (_ : Unit) => [(3, .bool alt), (9, .slice a2 ((numsS n).length) c3), (11, .pointer (some ⟨b31, 0, none⟩)), (12, .int .i64 (k4 : Int)), (14, .bool true), (15, .int .i64 r39.1), (16, .int .i64 r39.2), (24, .agg (List.toArray [.bool m.ins, .bool m.nl, .bool m.ck, .bool m.inv, .bool m.org, .bool m.aut, .bool m.vis, .bool m.paste, .bool m.focus, .bool m.sync, .bool m.keypad, .int .i64 m.mouse, .bool m.sgr, .bool r4.ins, .bool r4.nl, .bool r4.ck, .bool r4.inv, .bool r4.org, .bool r4.aut, .bool r4.vis, .bool r4.paste, .bool r4.focus, .bool r4.sync, .bool r4.keypad, .int .i64 r4.mouse, .bool r4.sgr])), (25, .int .i64 1), (34, .agg (List.toArray [.bool false, .bool true])), (35, .int .i64 1)]) (fun (_ : Unit) => [(some b31, .cells (List.toArray [.bool r4.ins, .bool r4.nl, .bool r4.ck, .bool r4.inv, .bool r4.org, .bool r4.aut, .bool r4.vis, .bool r4.paste, .bool r4.focus, .bool r4.sync, .bool r4.keypad, .int .i64 r4.mouse, .bool r4.sgr]) 23 (0, 0))]) (fun _ => fun w => (True) ∧ RowV 1 encI a2 (numsS n) w) ?_ ?_
                  · skip
                    refine Sc.draw (by kernel_rfl) (fun _ h => St.lean [0] (by decide) (fun _ h => h) h rfl) ?_
                    refine Sd.take 0 rfl rfl rfl (by kernel_rfl) (by kernel_rfl) (by kernel_rfl) Cut.panic (Want.none rfl) (Y.loadN (vs := [.bool r4.ins, .bool r4.nl, .bool r4.ck, .bool r4.inv, .bool r4.org, .bool r4.aut, .bool r4.vis, .bool r4.paste, .bool r4.focus, .bool r4.sync, .bool r4.keypad, .int .i64 r4.mouse, .bool r4.sgr]) 0 rfl rfl rfl rfl ag23 sz23) ?_
                    refine Sd.take 1 rfl rfl rfl (by kernel_rfl) (by kernel_rfl) (by kernel_rfl) Cut.panic (Want.none rfl) (Y.move rfl) ?_
                    refine Sd.take 2 rfl rfl rfl (by kernel_rfl) (by kernel_rfl) (by kernel_rfl) Cut.panic (Want.none rfl) (Y.move rfl) ?_
                    refine Sd.take 3 rfl rfl rfl (by kernel_rfl) (by kernel_rfl) (by kernel_rfl) Cut.panic (Want.none rfl) (Y.move rfl) ?_
                    refine Sd.take 4 rfl rfl rfl (by kernel_rfl) (by kernel_rfl) (by kernel_rfl) Cut.panic (Want.none rfl) (Y.elemAddr rfl rfl Try.underlying25 sz3 (fun w h => ((h.2) k4 _ (getD_some (0 : Int) (by omega))).1) (by omega) (by omega) (by simp : (sadr a2).off + ((k4 : Int)).toNat * 1 = (sadr a2).off + k4 * 1)) ?_
                    refine Sd.take 5 rfl rfl rfl (by kernel_rfl) (by kernel_rfl) (by kernel_rfl) Cut.panic (Want.none rfl) (Y.loadF1 rfl ag3 (fun w h => ((h.2) k4 _ (getD_some (0 : Int) (by omega))).2 0 _ rfl)) ?_
                    refine Sd.take 6 rfl rfl rfl (by kernel_rfl) (by kernel_rfl) (by kernel_rfl) Cut.panic (Want.none rfl) (Y.move rfl) ?_
                    refine Sd.all [7] (by kernel_rfl) (by decide) (all_cons ?_ all_nil)
                    refine Sp.callV (v := .tuple (List.toArray [.int .i64 r39.1, .int .i64 r39.2])) rfl rfl rfl (Want.none rfl) (K.func rfl co19) (fun w hs => by rw [hr39]; exact state_c r4 true ((numsS n).getD k4 (0 : Int)) alt w ) ?_
                    refine Sd.take 8 rfl rfl rfl (by kernel_rfl) (by kernel_rfl) (by kernel_rfl) Cut.panic (Want.none rfl) (Y.move rfl) ?_
                    refine Sd.take 9 rfl rfl rfl (by kernel_rfl) (by kernel_rfl) (by kernel_rfl) Cut.panic (Want.none rfl) (Y.extract rfl rfl) ?_
                    refine Sd.take 10 rfl rfl rfl (by kernel_rfl) (by kernel_rfl) (by kernel_rfl) Cut.panic (Want.none rfl) (Y.extract rfl rfl) ?_
                    refine Sd.take 11 rfl rfl rfl (by kernel_rfl) (by kernel_rfl) (by kernel_rfl) Cut.panic (Want.none rfl) (Y.assign rfl) ?_
                    refine Sd.take 12 rfl rfl rfl (by kernel_rfl) (by kernel_rfl) (by kernel_rfl) Cut.panic (Want.none rfl) (Y.assign rfl) ?_
                    refine Sd.done (by kernel_rfl) ?_
                    exact Sx.cut () trivial ⟨rfl, rfl, rfl, rfl, rfl, rfl, rfl, rfl, rfl, rfl, rfl, trivial⟩ [0] (by decide) rfl (fun _ h => h)
                  · intro _ _
                    show Sx _ _ _ [(3, .bool alt), (9, .slice a2 ((numsS n).length) c3), (11, .pointer (some ⟨b31, 0, none⟩)), (12, .int .i64 (k4 : Int)), (14, .bool true), (15, .int .i64 r39.1), (16, .int .i64 r39.2), (24, .agg (List.toArray [.bool m.ins, .bool m.nl, .bool m.ck, .bool m.inv, .bool m.org, .bool m.aut, .bool m.vis, .bool m.paste, .bool m.focus, .bool m.sync, .bool m.keypad, .int .i64 m.mouse, .bool m.sgr, .bool r4.ins, .bool r4.nl, .bool r4.ck, .bool r4.inv, .bool r4.org, .bool r4.aut, .bool r4.vis, .bool r4.paste, .bool r4.focus, .bool r4.sync, .bool r4.keypad, .int .i64 r4.mouse, .bool r4.sgr])), (25, .int .i64 1), (34, .agg (List.toArray [.bool false, .bool true])), (35, .int .i64 1)] [(some b31, .cells (List.toArray [.bool r4.ins, .bool r4.nl, .bool r4.ck, .bool r4.inv, .bool r4.org, .bool r4.aut, .bool r4.vis, .bool r4.paste, .bool r4.focus, .bool r4.sync, .bool r4.keypad, .int .i64 r4.mouse, .bool r4.sgr]) 23 (0, 0))] _
                    refine Sx.next ?_
                    refine Sc.seq ?_
                    refine Sc.region ?_
                    refine Seg.y rfl rfl (Want.none rfl) (Y.loadN (vs := [.bool r4.ins, .bool r4.nl, .bool r4.ck, .bool r4.inv, .bool r4.org, .bool r4.aut, .bool r4.vis, .bool r4.paste, .bool r4.focus, .bool r4.sync, .bool r4.keypad, .int .i64 r4.mouse, .bool r4.sgr]) 0 rfl rfl rfl rfl ag23 sz23) ?_
                    obtain ⟨r40, hr40⟩ : ∃ x, x = checkS r4 := ⟨_, rfl⟩
                    refine Seg.callV (v := .int .i64 r40) rfl rfl (Want.none rfl) (K.func rfl co12) (fun w hs => by rw [hr40]; exact rcheck_c r4 w ) ?_
                    refine Seg.y rfl rfl (Want.none rfl) (Y.assign rfl) ?_
                    refine Seg.y rfl rfl (Want.none rfl) (Y.assign rfl) ?_
                    refine Seg.nil ?_
                    refine Sx.next ?_
                    refine Sc.seq ?_
                    refine Sc.seq ?_
                    refine Sc.region ?_
                    refine Seg.y rfl rfl (Want.none rfl) (Y.move rfl) ?_
                    refine Seg.y rfl rfl (Want.none rfl) (Y.binOp rfl rfl (B.eq _ _ _)) ?_
                    refine Seg.nil ?_
                    refine Sx.next ?_
                    refine Sc.cond rfl (fun h41 => ?_) (fun h41 => ?_)
                    · skip
                      have h41p := of_decide_eq_true h41
                      obtain ⟨r42, hr42⟩ : ∃ x, x = rstateS r4 true ((numsS n).getD k4 (0 : Int)) alt := ⟨_, rfl⟩
                      have hbr42 : 0 ≤ r42 ∧ r42 ≤ 2 := by rw [hr42]; exact rstate_bd _ _ _ _
                      refine Sc.cut (fun (_ : Unit) => True) (fun (_ : Unit) => [(3, .bool alt), (9, .slice a2 ((numsS n).length) c3), (11, .pointer (some ⟨b31, 0, none⟩)), (12, .int .i64 (k4 : Int)), (15, .int .i64 r39.1), (16, .int .i64 r39.2), (17, .int .i64 r42), (18, .int .i64 r40), (24, .agg (List.toArray [.bool m.ins, .bool m.nl, .bool m.ck, .bool m.inv, .bool m.org, .bool m.aut, .bool m.vis, .bool m.paste, .bool m.focus, .bool m.sync, .bool m.keypad, .int .i64 m.mouse, .bool m.sgr, .bool r4.ins, .bool r4.nl, .bool r4.ck, .bool r4.inv, .bool r4.org, .bool r4.aut, .bool r4.vis, .bool r4.paste, .bool r4.focus, .bool r4.sync, .bool r4.keypad, .int .i64 r4.mouse, .bool r4.sgr])), (25, .int .i64 1), (34, .agg (List.toArray [.bool false, .bool true])), (35, .int .i64 1)]) (fun (_ : Unit) => [(some b31, .cells (List.toArray [.bool r4.ins, .bool r4.nl, .bool r4.ck, .bool r4.inv, .bool r4.org, .bool r4.aut, .bool r4.vis, .bool r4.paste, .bool r4.focus, .bool r4.sync, .bool r4.keypad, .int .i64 r4.mouse, .bool r4.sgr]) 23 (0, 0))]) (fun _ => fun w => (True) ∧ RowV 1 encI a2 (numsS n) w) ?_ ?_
                      · skip
                        refine Sc.draw (by kernel_rfl) (fun _ h => St.lean [0] (by decide) (fun _ h => h) h rfl) ?_
                        refine Sd.take 0 rfl rfl rfl (by kernel_rfl) (by kernel_rfl) (by kernel_rfl) Cut.panic (Want.none rfl) (Y.loadN (vs := [.bool r4.ins, .bool r4.nl, .bool r4.ck, .bool r4.inv, .bool r4.org, .bool r4.aut, .bool r4.vis, .bool r4.paste, .bool r4.focus, .bool r4.sync, .bool r4.keypad, .int .i64 r4.mouse, .bool r4.sgr]) 0 rfl rfl rfl rfl ag23 sz23) ?_
                        refine Sd.take 1 rfl rfl rfl (by kernel_rfl) (by kernel_rfl) (by kernel_rfl) Cut.panic (Want.none rfl) (Y.move rfl) ?_
                        refine Sd.take 2 rfl rfl rfl (by kernel_rfl) (by kernel_rfl) (by kernel_rfl) Cut.panic (Want.none rfl) (Y.move rfl) ?_
                        refine Sd.take 3 rfl rfl rfl (by kernel_rfl) (by kernel_rfl) (by kernel_rfl) Cut.panic (Want.none rfl) (Y.move rfl) ?_
                        refine Sd.take 4 rfl rfl rfl (by kernel_rfl) (by kernel_rfl) (by kernel_rfl) Cut.panic (Want.none rfl) (Y.elemAddr rfl rfl Try.underlying25 sz3 (fun w h => ((h.2) k4 _ (getD_some (0 : Int) (by omega))).1) (by omega) (by omega) (by simp : (sadr a2).off + ((k4 : Int)).toNat * 1 = (sadr a2).off + k4 * 1)) ?_
                        refine Sd.take 5 rfl rfl rfl (by kernel_rfl) (by kernel_rfl) (by kernel_rfl) Cut.panic (Want.none rfl) (Y.loadF1 rfl ag3 (fun w h => ((h.2) k4 _ (getD_some (0 : Int) (by omega))).2 0 _ rfl)) ?_
                        refine Sd.take 6 rfl rfl rfl (by kernel_rfl) (by kernel_rfl) (by kernel_rfl) Cut.panic (Want.none rfl) (Y.move rfl) ?_
                        refine Sd.all [7] (by kernel_rfl) (by decide) (all_cons ?_ all_nil)
                        refine Sp.callV (v := .int .i64 r42) rfl rfl rfl (Want.none rfl) (K.func rfl co20) (fun w hs => by rw [hr42]; exact rstate_c r4 true ((numsS n).getD k4 (0 : Int)) alt w ) ?_
                        refine Sd.take 8 rfl rfl rfl (by kernel_rfl) (by kernel_rfl) (by kernel_rfl) Cut.panic (Want.none rfl) (Y.assign rfl) ?_
                        refine Sd.done (by kernel_rfl) ?_
                        exact Sx.cut () trivial ⟨rfl, rfl, rfl, rfl, rfl, rfl, rfl, rfl, rfl, rfl, rfl, rfl, trivial⟩ [0] (by decide) rfl (fun _ h => h)
                      · intro _ _
                        show Sx _ _ _ [(3, .bool alt), (9, .slice a2 ((numsS n).length) c3), (11, .pointer (some ⟨b31, 0, none⟩)), (12, .int .i64 (k4 : Int)), (15, .int .i64 r39.1), (16, .int .i64 r39.2), (17, .int .i64 r42), (18, .int .i64 r40), (24, .agg (List.toArray [.bool m.ins, .bool m.nl, .bool m.ck, .bool m.inv, .bool m.org, .bool m.aut, .bool m.vis, .bool m.paste, .bool m.focus, .bool m.sync, .bool m.keypad, .int .i64 m.mouse, .bool m.sgr, .bool r4.ins, .bool r4.nl, .bool r4.ck, .bool r4.inv, .bool r4.org, .bool r4.aut, .bool r4.vis, .bool r4.paste, .bool r4.focus, .bool r4.sync, .bool r4.keypad, .int .i64 r4.mouse, .bool r4.sgr])), (25, .int .i64 1), (34, .agg (List.toArray [.bool false, .bool true])), (35, .int .i64 1)] [(some b31, .cells (List.toArray [.bool r4.ins, .bool r4.nl, .bool r4.ck, .bool r4.inv, .bool r4.org, .bool r4.aut, .bool r4.vis, .bool r4.paste, .bool r4.focus, .bool r4.sync, .bool r4.keypad, .int .i64 r4.mouse, .bool r4.sgr]) 23 (0, 0))] _
                        refine Sx.next ?_
                        refine Sc.seq ?_
                        refine Sc.cut (fun (_ : Unit) => True) (fun (_ : Unit) => [(3, .bool alt), (9, .slice a2 ((numsS n).length) c3), (11, .pointer (some ⟨b31, 0, none⟩)), (12, .int .i64 (k4 : Int)), (24, .agg (List.toArray [.bool m.ins, .bool m.nl, .bool m.ck, .bool m.inv, .bool m.org, .bool m.aut, .bool m.vis, .bool m.paste, .bool m.focus, .bool m.sync, .bool m.keypad, .int .i64 m.mouse, .bool m.sgr, .bool r4.ins, .bool r4.nl, .bool r4.ck, .bool r4.inv, .bool r4.org, .bool r4.aut, .bool r4.vis, .bool r4.paste, .bool r4.focus, .bool r4.sync, .bool r4.keypad, .int .i64 r4.mouse, .bool r4.sgr])), (25, .int .i64 1), (34, .agg (List.toArray [.bool false, .bool true])), (35, .int .i64 1), (68, .bool ((decide (r39.1 ≠ r42)) || (decide (r39.2 ≠ r40))))]) (fun (_ : Unit) => [(some b31, .cells (List.toArray [.bool r4.ins, .bool r4.nl, .bool r4.ck, .bool r4.inv, .bool r4.org, .bool r4.aut, .bool r4.vis, .bool r4.paste, .bool r4.focus, .bool r4.sync, .bool r4.keypad, .int .i64 r4.mouse, .bool r4.sgr]) 23 (0, 0))]) (fun _ => fun w => (True) ∧ RowV 1 encI a2 (numsS n) w) ?_ ?_
                        · skip
                          refine Sc.region ?_
                          refine Seg.y rfl rfl (Want.none rfl) (Y.move rfl) ?_
                          refine Seg.y rfl rfl (Want.none rfl) (Y.move rfl) ?_
                          refine Seg.y rfl rfl (Want.none rfl) (Y.binOp rfl rfl (B.ne _ _ _)) ?_
                          refine Seg.y rfl rfl (Want.none rfl) (Y.move rfl) ?_
                          rcases Bool.eq_false_or_eq_true (decide (r39.1 ≠ r42)) with g43 | g43
                          · skip
                            have g43p := of_decide_eq_true g43
                            refine Seg.skip rfl rfl (Skip.some 3 64 false rfl rfl rfl g43) ?_
                            refine Seg.skip rfl rfl (Skip.some 3 64 false rfl rfl rfl g43) ?_
                            refine Seg.skip rfl rfl (Skip.some 3 64 false rfl rfl rfl g43) ?_
                            refine Seg.y rfl rfl (Want.none rfl) (Y.pickT rfl g43 rfl) ?_
                            refine Seg.nil ?_
                            exact Sx.cut () trivial ⟨rfl, rfl, rfl, rfl, rfl, rfl, rfl, rfl, (someB (by first | (simp [h6, h6p, h32, h32p, h35, h35p, h38, h41, h41p, g43, g43p]; done) | (simp_all; done) | ((simp [h6, h6p, h32, h32p, h35, h35p, h38, h41, h41p, g43, g43p]) <;> grind))), trivial⟩ [0] (by decide) rfl (fun _ h => h)
                          · skip
                            have g43p : r39.1 = r42 := by simpa using g43
                            refine Seg.y rfl rfl (Want.some 3 64 false rfl rfl rfl g43) (Y.move rfl) ?_
                            refine Seg.y rfl rfl (Want.some 3 64 false rfl rfl rfl g43) (Y.move rfl) ?_
                            refine Seg.y rfl rfl (Want.some 3 64 false rfl rfl rfl g43) (Y.binOp rfl rfl (B.ne _ _ _)) ?_
                            refine Seg.y rfl rfl (Want.none rfl) (Y.pickF rfl g43 rfl) ?_
                            refine Seg.nil ?_
                            exact Sx.cut () trivial ⟨rfl, rfl, rfl, rfl, rfl, rfl, rfl, rfl, (someB (by first | (simp [h6, h6p, h32, h32p, h35, h35p, h38, h41, h41p, g43, g43p]; done) | (simp_all; done) | ((simp [h6, h6p, h32, h32p, h35, h35p, h38, h41, h41p, g43, g43p]) <;> grind))), trivial⟩ [0] (by decide) rfl (fun _ h => h)
                        · intro _ _
                          show Sx _ _ _ [(3, .bool alt), (9, .slice a2 ((numsS n).length) c3), (11, .pointer (some ⟨b31, 0, none⟩)), (12, .int .i64 (k4 : Int)), (24, .agg (List.toArray [.bool m.ins, .bool m.nl, .bool m.ck, .bool m.inv, .bool m.org, .bool m.aut, .bool m.vis, .bool m.paste, .bool m.focus, .bool m.sync, .bool m.keypad, .int .i64 m.mouse, .bool m.sgr, .bool r4.ins, .bool r4.nl, .bool r4.ck, .bool r4.inv, .bool r4.org, .bool r4.aut, .bool r4.vis, .bool r4.paste, .bool r4.focus, .bool r4.sync, .bool r4.keypad, .int .i64 r4.mouse, .bool r4.sgr])), (25, .int .i64 1), (34, .agg (List.toArray [.bool false, .bool true])), (35, .int .i64 1), (68, .bool ((decide (r39.1 ≠ r42)) || (decide (r39.2 ≠ r40))))] [(some b31, .cells (List.toArray [.bool r4.ins, .bool r4.nl, .bool r4.ck, .bool r4.inv, .bool r4.org, .bool r4.aut, .bool r4.vis, .bool r4.paste, .bool r4.focus, .bool r4.sync, .bool r4.keypad, .int .i64 r4.mouse, .bool r4.sgr]) 23 (0, 0))] _
                          refine Sx.next ?_
                          refine Sc.cond rfl (fun h44 => ?_) (fun h44 => ?_)
                          · skip
                            refine Sc.seq ?_
                            refine Sc.region ?_
                            refine Seg.y rfl rfl (Want.none rfl) (Y.assign rfl) ?_
                            refine Seg.nil ?_
                            refine Sx.next ?_
                            refine Sc.ret ?_
                            refine Sx.block_ret ?_
                            refine Sx.next_ret ?_
                            refine Sx.loop_ret ?_
                            refine Sx.block_ret ?_
                            refine Sx.block_ret ?_
                            refine Sx.next_ret ?_
                            refine Sx.loop_ret ?_
                            refine Sx.block_ret ?_
                            refine Sx.block_ret ?_
                            refine Sx.next_ret ?_
                            refine Sx.loop_ret ?_
                            refine Sx.block_ret ?_
                            refine Sx.next_ret ?_
                            refine Sx.body (.inl rfl) (res1 rfl (Rv.tmp rfl)) (fun w hs => ?_)
                            refine RetV.eq ?_ hs
                            subst hr4
                            subst hr33
                            subst hr34
                            subst hr36
                            subst hr39
                            subst hr40
                            subst hr42
                            exfalso; simp_all [putS, stateS, checkS, MdEq_self, MdEq_zero]; done
                          · skip
                            refine Sc.skip ?_
                            refine Sx.block_normal ?_
                            refine Sx.next ?_
                            refine Sc.region ?_
                            refine Seg.y rfl rfl (Want.none rfl) (Y.binOp rfl rfl (B.add _ _ _ 2 (by decide))) ?_
                            refine Seg.y rfl rfl (Want.none rfl) (Y.move rfl) ?_
                            refine Seg.nil ?_
                            refine Sx.round ?_
                            refine Sr.succ ?_
                            refine Sc.seq ?_
                            refine Sc.region ?_
                            refine Seg.y rfl rfl (Want.none rfl) (Y.binOp (v := .bool false) rfl rfl (B.lt _ _ _)) ?_
                            refine Seg.nil ?_
                            refine Sx.next ?_
                            refine Sc.seq ?_
                            refine Sc.condF rfl rfl ?_
                            refine Sc.exit ?_
                            refine Sx.next_exit ?_
                            refine Sx.loop_exit ?_
                            refine Sx.block_exit ?_
                            refine Sx.block_normal ?_
                            refine Sx.next ?_
                            refine Sc.region ?_
                            refine Seg.y rfl rfl (Want.none rfl) (Y.move rfl) ?_
                            refine Seg.y rfl rfl (Want.none rfl) (Y.binOp rfl rfl (B.add _ _ _ ((k4 : Int) + 1) (wr_i64 (by omega)))) ?_
                            refine Seg.y rfl rfl (Want.none rfl) (Y.assign rfl) ?_
                            refine Seg.nil ?_
                            exact Sx.head (k4 + 1) (by first | omega | (simp at *; omega)) (by first | omega | (dsimp only; omega)) ⟨rfl, rfl, rfl, rfl, rfl, rfl, trivial⟩ [0] (by decide) rfl (fun _ h => h)
                    · skip
                      have h41p := of_decide_eq_false h41
                      refine Sc.skip ?_
                      refine Sx.next ?_
                      refine Sc.seq ?_
                      refine Sc.cut (fun (_ : Unit) => True) (fun (_ : Unit) => [(3, .bool alt), (9, .slice a2 ((numsS n).length) c3), (11, .pointer (some ⟨b31, 0, none⟩)), (12, .int .i64 (k4 : Int)), (24, .agg (List.toArray [.bool m.ins, .bool m.nl, .bool m.ck, .bool m.inv, .bool m.org, .bool m.aut, .bool m.vis, .bool m.paste, .bool m.focus, .bool m.sync, .bool m.keypad, .int .i64 m.mouse, .bool m.sgr, .bool r4.ins, .bool r4.nl, .bool r4.ck, .bool r4.inv, .bool r4.org, .bool r4.aut, .bool r4.vis, .bool r4.paste, .bool r4.focus, .bool r4.sync, .bool r4.keypad, .int .i64 r4.mouse, .bool r4.sgr])), (25, .int .i64 1), (34, .agg (List.toArray [.bool false, .bool true])), (35, .int .i64 1), (68, .bool ((decide (r39.1 ≠ 0)) || (decide (r39.2 ≠ r40))))]) (fun (_ : Unit) => [(some b31, .cells (List.toArray [.bool r4.ins, .bool r4.nl, .bool r4.ck, .bool r4.inv, .bool r4.org, .bool r4.aut, .bool r4.vis, .bool r4.paste, .bool r4.focus, .bool r4.sync, .bool r4.keypad, .int .i64 r4.mouse, .bool r4.sgr]) 23 (0, 0))]) (fun _ => fun w => (True) ∧ RowV 1 encI a2 (numsS n) w) ?_ ?_
                      · skip
                        refine Sc.region ?_
                        refine Seg.y rfl rfl (Want.none rfl) (Y.move rfl) ?_
                        refine Seg.y rfl rfl (Want.none rfl) (Y.move rfl) ?_
                        refine Seg.y rfl rfl (Want.none rfl) (Y.binOp rfl rfl (B.ne _ _ _)) ?_
                        refine Seg.y rfl rfl (Want.none rfl) (Y.move rfl) ?_
                        rcases Bool.eq_false_or_eq_true (decide (r39.1 ≠ 0)) with g45 | g45
                        · skip
                          have g45p := of_decide_eq_true g45
                          refine Seg.skip rfl rfl (Skip.some 3 64 false rfl rfl rfl g45) ?_
                          refine Seg.skip rfl rfl (Skip.some 3 64 false rfl rfl rfl g45) ?_
                          refine Seg.skip rfl rfl (Skip.some 3 64 false rfl rfl rfl g45) ?_
                          refine Seg.y rfl rfl (Want.none rfl) (Y.pickT rfl g45 rfl) ?_
                          refine Seg.nil ?_
                          exact Sx.cut () trivial ⟨rfl, rfl, rfl, rfl, rfl, rfl, rfl, rfl, (someB (by first | (simp [h6, h6p, h32, h32p, h35, h35p, h38, h41, h41p, g45, g45p]; done) | (simp_all; done) | ((simp [h6, h6p, h32, h32p, h35, h35p, h38, h41, h41p, g45, g45p]) <;> grind))), trivial⟩ [0] (by decide) rfl (fun _ h => h)
                        · skip
                          have g45p : r39.1 = 0 := by simpa using g45
                          refine Seg.y rfl rfl (Want.some 3 64 false rfl rfl rfl g45) (Y.move rfl) ?_
                          refine Seg.y rfl rfl (Want.some 3 64 false rfl rfl rfl g45) (Y.move rfl) ?_
                          refine Seg.y rfl rfl (Want.some 3 64 false rfl rfl rfl g45) (Y.binOp rfl rfl (B.ne _ _ _)) ?_
                          refine Seg.y rfl rfl (Want.none rfl) (Y.pickF rfl g45 rfl) ?_
                          refine Seg.nil ?_
                          exact Sx.cut () trivial ⟨rfl, rfl, rfl, rfl, rfl, rfl, rfl, rfl, (someB (by first | (simp [h6, h6p, h32, h32p, h35, h35p, h38, h41, h41p, g45, g45p]; done) | (simp_all; done) | ((simp [h6, h6p, h32, h32p, h35, h35p, h38, h41, h41p, g45, g45p]) <;> grind))), trivial⟩ [0] (by decide) rfl (fun _ h => h)
                      · intro _ _
                        show Sx _ _ _ [(3, .bool alt), (9, .slice a2 ((numsS n).length) c3), (11, .pointer (some ⟨b31, 0, none⟩)), (12, .int .i64 (k4 : Int)), (24, .agg (List.toArray [.bool m.ins, .bool m.nl, .bool m.ck, .bool m.inv, .bool m.org, .bool m.aut, .bool m.vis, .bool m.paste, .bool m.focus, .bool m.sync, .bool m.keypad, .int .i64 m.mouse, .bool m.sgr, .bool r4.ins, .bool r4.nl, .bool r4.ck, .bool r4.inv, .bool r4.org, .bool r4.aut, .bool r4.vis, .bool r4.paste, .bool r4.focus, .bool r4.sync, .bool r4.keypad, .int .i64 r4.mouse, .bool r4.sgr])), (25, .int .i64 1), (34, .agg (List.toArray [.bool false, .bool true])), (35, .int .i64 1), (68, .bool ((decide (r39.1 ≠ 0)) || (decide (r39.2 ≠ r40))))] [(some b31, .cells (List.toArray [.bool r4.ins, .bool r4.nl, .bool r4.ck, .bool r4.inv, .bool r4.org, .bool r4.aut, .bool r4.vis, .bool r4.paste, .bool r4.focus, .bool r4.sync, .bool r4.keypad, .int .i64 r4.mouse, .bool r4.sgr]) 23 (0, 0))] _
                        refine Sx.next ?_
                        refine Sc.cond rfl (fun h46 => ?_) (fun h46 => ?_)
                        · skip
                          refine Sc.seq ?_
                          refine Sc.region ?_
                          refine Seg.y rfl rfl (Want.none rfl) (Y.assign rfl) ?_
                          refine Seg.nil ?_
                          refine Sx.next ?_
                          refine Sc.ret ?_
                          refine Sx.block_ret ?_
                          refine Sx.next_ret ?_
                          refine Sx.loop_ret ?_
                          refine Sx.block_ret ?_
                          refine Sx.block_ret ?_
                          refine Sx.next_ret ?_
                          refine Sx.loop_ret ?_
                          refine Sx.block_ret ?_
                          refine Sx.block_ret ?_
                          refine Sx.next_ret ?_
                          refine Sx.loop_ret ?_
                          refine Sx.block_ret ?_
                          refine Sx.next_ret ?_
                          refine Sx.body (.inl rfl) (res1 rfl (Rv.tmp rfl)) (fun w hs => ?_)
                          refine RetV.eq ?_ hs
                          subst hr4
                          subst hr33
                          subst hr34
                          subst hr36
                          subst hr39
                          subst hr40
                          exfalso; simp_all [putS, stateS, checkS, MdEq_self, MdEq_zero]; done
                        · skip
                          refine Sc.skip ?_
                          refine Sx.block_normal ?_
                          refine Sx.next ?_
                          refine Sc.region ?_
                          refine Seg.y rfl rfl (Want.none rfl) (Y.binOp rfl rfl (B.add _ _ _ 2 (by decide))) ?_
                          refine Seg.y rfl rfl (Want.none rfl) (Y.move rfl) ?_
                          refine Seg.nil ?_
                          refine Sx.round ?_
                          refine Sr.succ ?_
                          refine Sc.seq ?_
                          refine Sc.region ?_
                          refine Seg.y rfl rfl (Want.none rfl) (Y.binOp (v := .bool false) rfl rfl (B.lt _ _ _)) ?_
                          refine Seg.nil ?_
                          refine Sx.next ?_
                          refine Sc.seq ?_
                          refine Sc.condF rfl rfl ?_
                          refine Sc.exit ?_
                          refine Sx.next_exit ?_
                          refine Sx.loop_exit ?_
                          refine Sx.block_exit ?_
                          refine Sx.block_normal ?_
                          refine Sx.next ?_
                          refine Sc.region ?_
                          refine Seg.y rfl rfl (Want.none rfl) (Y.move rfl) ?_
                          refine Seg.y rfl rfl (Want.none rfl) (Y.binOp rfl rfl (B.add _ _ _ ((k4 : Int) + 1) (wr_i64 (by omega)))) ?_
                          refine Seg.y rfl rfl (Want.none rfl) (Y.assign rfl) ?_
                          refine Seg.nil ?_
                          exact Sx.head (k4 + 1) (by first | omega | (simp at *; omega)) (by first | omega | (dsimp only; omega)) ⟨rfl, rfl, rfl, rfl, rfl, rfl, trivial⟩ [0] (by decide) rfl (fun _ h => h)
          · skip
            have h35p := of_decide_eq_false h35
            refine Sc.skip ?_
            refine Sx.next ?_
            refine Sc.seq ?_
            refine Sc.cut (fun (_ : Unit) => True) (fun (_ : Unit) => [(3, .bool alt), (9, .slice a2 ((numsS n).length) c3), (11, .pointer (some ⟨b31, 0, none⟩)), (12, .int .i64 (k4 : Int)), (24, .agg (List.toArray [.bool m.ins, .bool m.nl, .bool m.ck, .bool m.inv, .bool m.org, .bool m.aut, .bool m.vis, .bool m.paste, .bool m.focus, .bool m.sync, .bool m.keypad, .int .i64 m.mouse, .bool m.sgr, .bool r4.ins, .bool r4.nl, .bool r4.ck, .bool r4.inv, .bool r4.org, .bool r4.aut, .bool r4.vis, .bool r4.paste, .bool r4.focus, .bool r4.sync, .bool r4.keypad, .int .i64 r4.mouse, .bool r4.sgr])), (25, .int .i64 1), (34, .agg (List.toArray [.bool false, .bool true])), (35, .int .i64 0), (68, .bool ((decide (r33.1 ≠ 0)) || (decide (r33.2 ≠ r34))))]) (fun (_ : Unit) => [(some b31, .cells (List.toArray [.bool r4.ins, .bool r4.nl, .bool r4.ck, .bool r4.inv, .bool r4.org, .bool r4.aut, .bool r4.vis, .bool r4.paste, .bool r4.focus, .bool r4.sync, .bool r4.keypad, .int .i64 r4.mouse, .bool r4.sgr]) 23 (0, 0))]) (fun _ => fun w => (True) ∧ RowV 1 encI a2 (numsS n) w) ?_ ?_
            · skip
              refine Sc.region ?_
              refine Seg.y rfl rfl (Want.none rfl) (Y.move rfl) ?_
              refine Seg.y rfl rfl (Want.none rfl) (Y.move rfl) ?_
              refine Seg.y rfl rfl (Want.none rfl) (Y.binOp rfl rfl (B.ne _ _ _)) ?_
              refine Seg.y rfl rfl (Want.none rfl) (Y.move rfl) ?_
              rcases Bool.eq_false_or_eq_true (decide (r33.1 ≠ 0)) with g47 | g47
              · skip
                have g47p := of_decide_eq_true g47
                refine Seg.skip rfl rfl (Skip.some 3 64 false rfl rfl rfl g47) ?_
                refine Seg.skip rfl rfl (Skip.some 3 64 false rfl rfl rfl g47) ?_
                refine Seg.skip rfl rfl (Skip.some 3 64 false rfl rfl rfl g47) ?_
                refine Seg.y rfl rfl (Want.none rfl) (Y.pickT rfl g47 rfl) ?_
                refine Seg.nil ?_
                exact Sx.cut () trivial ⟨rfl, rfl, rfl, rfl, rfl, rfl, rfl, rfl, (someB (by first | (simp [h6, h6p, h32, h32p, h35, h35p, g47, g47p]; done) | (simp_all; done) | ((simp [h6, h6p, h32, h32p, h35, h35p, g47, g47p]) <;> grind))), trivial⟩ [0] (by decide) rfl (fun _ h => h)
              · skip
                have g47p : r33.1 = 0 := by simpa using g47
                refine Seg.y rfl rfl (Want.some 3 64 false rfl rfl rfl g47) (Y.move rfl) ?_
                refine Seg.y rfl rfl (Want.some 3 64 false rfl rfl rfl g47) (Y.move rfl) ?_
                refine Seg.y rfl rfl (Want.some 3 64 false rfl rfl rfl g47) (Y.binOp rfl rfl (B.ne _ _ _)) ?_
                refine Seg.y rfl rfl (Want.none rfl) (Y.pickF rfl g47 rfl) ?_
                refine Seg.nil ?_
                exact Sx.cut () trivial ⟨rfl, rfl, rfl, rfl, rfl, rfl, rfl, rfl, (someB (by first | (simp [h6, h6p, h32, h32p, h35, h35p, g47, g47p]; done) | (simp_all; done) | ((simp [h6, h6p, h32, h32p, h35, h35p, g47, g47p]) <;> grind))), trivial⟩ [0] (by decide) rfl (fun _ h => h)
            · intro _ _
              show Sx _ _ _ [(3, .bool alt), (9, .slice a2 ((numsS n).length) c3), (11, .pointer (some ⟨b31, 0, none⟩)), (12, .int .i64 (k4 : Int)), (24, .agg (List.toArray [.bool m.ins, .bool m.nl, .bool m.ck, .bool m.inv, .bool m.org, .bool m.aut, .bool m.vis, .bool m.paste, .bool m.focus, .bool m.sync, .bool m.keypad, .int .i64 m.mouse, .bool m.sgr, .bool r4.ins, .bool r4.nl, .bool r4.ck, .bool r4.inv, .bool r4.org, .bool r4.aut, .bool r4.vis, .bool r4.paste, .bool r4.focus, .bool r4.sync, .bool r4.keypad, .int .i64 r4.mouse, .bool r4.sgr])), (25, .int .i64 1), (34, .agg (List.toArray [.bool false, .bool true])), (35, .int .i64 0), (68, .bool ((decide (r33.1 ≠ 0)) || (decide (r33.2 ≠ r34))))] [(some b31, .cells (List.toArray [.bool r4.ins, .bool r4.nl, .bool r4.ck, .bool r4.inv, .bool r4.org, .bool r4.aut, .bool r4.vis, .bool r4.paste, .bool r4.focus, .bool r4.sync, .bool r4.keypad, .int .i64 r4.mouse, .bool r4.sgr]) 23 (0, 0))] _
              refine Sx.next ?_
              refine Sc.cond rfl (fun h48 => ?_) (fun h48 => ?_)
              · skip
                refine Sc.seq ?_
                refine Sc.region ?_
                refine Seg.y rfl rfl (Want.none rfl) (Y.assign rfl) ?_
                refine Seg.nil ?_
                refine Sx.next ?_
                refine Sc.ret ?_
                refine Sx.block_ret ?_
                refine Sx.next_ret ?_
                refine Sx.loop_ret ?_
                refine Sx.block_ret ?_
                refine Sx.block_ret ?_
                refine Sx.next_ret ?_
                refine Sx.loop_ret ?_
                refine Sx.block_ret ?_
                refine Sx.block_ret ?_
                refine Sx.next_ret ?_
                refine Sx.loop_ret ?_
                refine Sx.block_ret ?_
                refine Sx.next_ret ?_
                refine Sx.body (.inl rfl) (res1 rfl (Rv.tmp rfl)) (fun w hs => ?_)
                refine RetV.eq ?_ hs
                subst hr4
                subst hr33
                subst hr34
                exfalso; simp_all [putS, stateS, checkS, MdEq_self, MdEq_zero]; done
              · skip
                refine Sc.skip ?_
                refine Sx.block_normal ?_
                refine Sx.next ?_
                refine Sc.region ?_
                refine Seg.y rfl rfl (Want.none rfl) (Y.binOp rfl rfl (B.add _ _ _ 1 (by decide))) ?_
                refine Seg.y rfl rfl (Want.none rfl) (Y.move rfl) ?_
                refine Seg.nil ?_
                refine Sx.round ?_
                refine Sr.succ ?_
                refine Sc.seq ?_
                refine Sc.region ?_
                refine Seg.y rfl rfl (Want.none rfl) (Y.binOp (v := .bool true) rfl rfl (B.lt _ _ _)) ?_
                refine Seg.nil ?_
                refine Sx.next ?_
                refine Sc.seq ?_
                refine Sc.condT rfl rfl ?_
                refine Sc.skip ?_
                refine Sx.next ?_
                refine Sc.seq ?_
                refine Sc.block ?_
                refine Sc.seq ?_
                refine Sc.region ?_
                refine Seg.y rfl rfl (Want.none rfl) (Y.index (v := .bool true) rfl rfl (fun w => by kernel_rfl)) ?_
                refine Seg.y rfl rfl (Want.none rfl) (Y.assign rfl) ?_
                refine Seg.nil ?_
                refine Sx.next ?_
                refine Sc.seq ?_
                obtain ⟨r49, hr49⟩ : ∃ x, x = stateS r4 true ((numsS n).getD k4 (0 : Int)) alt := ⟨_, rfl⟩
                refine Sc.cut (fun (_ : Unit) => True) (fun (_ : Unit) => [(3, .bool alt), (9, .slice a2 ((numsS n).length) c3), (11, .pointer (some ⟨b31, 0, none⟩)), (12, .int .i64 (k4 : Int)), (14, .bool true), (15, .int .i64 r49.1), (16, .int .i64 r49.2), (24, .agg (List.toArray [.bool m.ins, .bool m.nl, .bool m.ck, .bool m.inv, .bool m.org, .bool m.aut, .bool m.vis, .bool m.paste, .bool m.focus, .bool m.sync, .bool m.keypad, .int .i64 m.mouse, .bool m.sgr, .bool r4.ins, .bool r4.nl, .bool r4.ck, .bool r4.inv, .bool r4.org, .bool r4.aut, .bool r4.vis, .bool r4.paste, .bool r4.focus, .bool r4.sync, .bool r4.keypad, .int .i64 r4.mouse, .bool r4.sgr])), (25, .int .i64 1), (34, .agg (List.toArray [.bool false, .bool true])), (35, .int .i64 1)]) (fun (_ : Unit) => [(some b31, .cells (List.toArray [.bool r4.ins, .bool r4.nl, .bool r4.ck, .bool r4.inv, .bool r4.org, .bool r4.aut, .bool r4.vis, .bool r4.paste, .bool r4.focus, .bool r4.sync, .bool r4.keypad, .int .i64 r4.mouse, .bool r4.sgr]) 23 (0, 0))]) (fun _ => fun w => (True) ∧ RowV 1 encI a2 (numsS n) w) ?_ ?_
                · skip
                  refine Sc.draw (by kernel_rfl) (fun _ h => St.lean [0] (by decide) (fun _ h => h) h rfl) ?_
                  refine Sd.take 0 rfl rfl rfl (by kernel_rfl) (by kernel_rfl) (by kernel_rfl) Cut.panic (Want.none rfl) (Y.loadN (vs := [.bool r4.ins, .bool r4.nl, .bool r4.ck, .bool r4.inv, .bool r4.org, .bool r4.aut, .bool r4.vis, .bool r4.paste, .bool r4.focus, .bool r4.sync, .bool r4.keypad, .int .i64 r4.mouse, .bool r4.sgr]) 0 rfl rfl rfl rfl ag23 sz23) ?_
                  refine Sd.take 1 rfl rfl rfl (by kernel_rfl) (by kernel_rfl) (by kernel_rfl) Cut.panic (Want.none rfl) (Y.move rfl) ?_
                  refine Sd.take 2 rfl rfl rfl (by kernel_rfl) (by kernel_rfl) (by kernel_rfl) Cut.panic (Want.none rfl) (Y.move rfl) ?_
                  refine Sd.take 3 rfl rfl rfl (by kernel_rfl) (by kernel_rfl) (by kernel_rfl) Cut.panic (Want.none rfl) (Y.move rfl) ?_
                  refine Sd.take 4 rfl rfl rfl (by kernel_rfl) (by kernel_rfl) (by kernel_rfl) Cut.panic (Want.none rfl) (Y.elemAddr rfl rfl Try.underlying25 sz3 (fun w h => ((h.2) k4 _ (getD_some (0 : Int) (by omega))).1) (by omega) (by omega) (by simp : (sadr a2).off + ((k4 : Int)).toNat * 1 = (sadr a2).off + k4 * 1)) ?_
                  refine Sd.take 5 rfl rfl rfl (by kernel_rfl) (by kernel_rfl) (by kernel_rfl) Cut.panic (Want.none rfl) (Y.loadF1 rfl ag3 (fun w h => ((h.2) k4 _ (getD_some (0 : Int) (by omega))).2 0 _ rfl)) ?_
                  refine Sd.take 6 rfl rfl rfl (by kernel_rfl) (by kernel_rfl) (by kernel_rfl) Cut.panic (Want.none rfl) (Y.move rfl) ?_
                  refine Sd.all [7] (by kernel_rfl) (by decide) (all_cons ?_ all_nil)
                  refine Sp.callV (v := .tuple (List.toArray [.int .i64 r49.1, .int .i64 r49.2])) rfl rfl rfl (Want.none rfl) (K.func rfl co19) (fun w hs => by rw [hr49]; exact state_c r4 true ((numsS n).getD k4 (0 : Int)) alt w ) ?_
                  refine Sd.take 8 rfl rfl rfl (by kernel_rfl) (by kernel_rfl) (by kernel_rfl) Cut.panic (Want.none rfl) (Y.move rfl) ?_
                  refine Sd.take 9 rfl rfl rfl (by kernel_rfl) (by kernel_rfl) (by kernel_rfl) Cut.panic (Want.none rfl) (Y.extract rfl rfl) ?_
                  refine Sd.take 10 rfl rfl rfl (by kernel_rfl) (by kernel_rfl) (by kernel_rfl) Cut.panic (Want.none rfl) (Y.extract rfl rfl) ?_
                  refine Sd.take 11 rfl rfl rfl (by kernel_rfl) (by kernel_rfl) (by kernel_rfl) Cut.panic (Want.none rfl) (Y.assign rfl) ?_
                  refine Sd.take 12 rfl rfl rfl (by kernel_rfl) (by kernel_rfl) (by kernel_rfl) Cut.panic (Want.none rfl) (Y.assign rfl) ?_
                  refine Sd.done (by kernel_rfl) ?_
                  exact Sx.cut () trivial ⟨rfl, rfl, rfl, rfl, rfl, rfl, rfl, rfl, rfl, rfl, rfl, trivial⟩ [0] (by decide) rfl (fun _ h => h)
                · intro _ _
                  show Sx _ _ _ [(3, .bool alt), (9, .slice a2 ((numsS n).length) c3), (11, .pointer (some ⟨b31, 0, none⟩)), (12, .int .i64 (k4 : Int)), (14, .bool true), (15, .int .i64 r49.1), (16, .int .i64 r49.2), (24, .agg (List.toArray [.bool m.ins, .bool m.nl, .bool m.ck, .bool m.inv, .bool m.org, .bool m.aut, .bool m.vis, .bool m.paste, .bool m.focus, .bool m.sync, .bool m.keypad, .int .i64 m.mouse, .bool m.sgr, .bool r4.ins, .bool r4.nl, .bool r4.ck, .bool r4.inv, .bool r4.org, .bool r4.aut, .bool r4.vis, .bool r4.paste, .bool r4.focus, .bool r4.sync, .bool r4.keypad, .int .i64 r4.mouse, .bool r4.sgr])), (25, .int .i64 1), (34, .agg (List.toArray [.bool false, .bool true])), (35, .int .i64 1)] [(some b31, .cells (List.toArray [.bool r4.ins, .bool r4.nl, .bool r4.ck, .bool r4.inv, .bool r4.org, .bool r4.aut, .bool r4.vis, .bool r4.paste, .bool r4.focus, .bool r4.sync, .bool r4.keypad, .int .i64 r4.mouse, .bool r4.sgr]) 23 (0, 0))] _
                  refine Sx.next ?_
                  refine Sc.seq ?_
                  refine Sc.region ?_
                  refine Seg.y rfl rfl (Want.none rfl) (Y.loadN (vs := [.bool r4.ins, .bool r4.nl, .bool r4.ck, .bool r4.inv, .bool r4.org, .bool r4.aut, .bool r4.vis, .bool r4.paste, .bool r4.focus, .bool r4.sync, .bool r4.keypad, .int .i64 r4.mouse, .bool r4.sgr]) 0 rfl rfl rfl rfl ag23 sz23) ?_
                  obtain ⟨r50, hr50⟩ : ∃ x, x = checkS r4 := ⟨_, rfl⟩
                  refine Seg.callV (v := .int .i64 r50) rfl rfl (Want.none rfl) (K.func rfl co12) (fun w hs => by rw [hr50]; exact rcheck_c r4 w ) ?_
                  refine Seg.y rfl rfl (Want.none rfl) (Y.assign rfl) ?_
                  refine Seg.y rfl rfl (Want.none rfl) (Y.assign rfl) ?_
                  refine Seg.nil ?_
                  refine Sx.next ?_
                  refine Sc.seq ?_
                  refine Sc.seq ?_
                  refine Sc.region ?_
                  refine Seg.y rfl rfl (Want.none rfl) (Y.move rfl) ?_
                  refine Seg.y rfl rfl (Want.none rfl) (Y.binOp rfl rfl (B.eq _ _ _)) ?_
                  refine Seg.nil ?_
                  refine Sx.next ?_
                  refine Sc.cond rfl (fun h51 => ?_) (fun h51 => ?_)
                  · skip
                    have h51p := of_decide_eq_true h51
                    obtain ⟨r52, hr52⟩ : ∃ x, x = rstateS r4 true ((numsS n).getD k4 (0 : Int)) alt := ⟨_, rfl⟩
                    have hbr52 : 0 ≤ r52 ∧ r52 ≤ 2 := by rw [hr52]; exact rstate_bd _ _ _ _
                    refine Sc.cut (fun (_ : Unit) => True) (fun (_ : Unit) => [(3, .bool alt), (9, .slice a2 ((numsS n).length) c3), (11, .pointer (some ⟨b31, 0, none⟩)), (12, .int .i64 (k4 : Int)), (15, .int .i64 r49.1), (16, .int .i64 r49.2), (17, .int .i64 r52), (18, .int .i64 r50), (24, .agg (List.toArray [.bool m.ins, .bool m.nl, .bool m.ck, .bool m.inv, .bool m.org, .bool m.aut, .bool m.vis, .bool m.paste, .bool m.focus, .bool m.sync, .bool m.keypad, .int .i64 m.mouse, .bool m.sgr, .bool r4.ins, .bool r4.nl, .bool r4.ck, .bool r4.inv, .bool r4.org, .bool r4.aut, .bool r4.vis, .bool r4.paste, .bool r4.focus, .bool r4.sync, .bool r4.keypad, .int .i64 r4.mouse, .bool r4.sgr])), (25, .int .i64 1), (34, .agg (List.toArray [.bool false, .bool true])), (35, .int .i64 1)]) (fun (_ : Unit) => [(some b31, .cells (List.toArray [.bool r4.ins, .bool r4.nl, .bool r4.ck, .bool r4.inv, .bool r4.org, .bool r4.aut, .bool r4.vis, .bool r4.paste, .bool r4.focus, .bool r4.sync, .bool r4.keypad, .int .i64 r4.mouse, .bool r4.sgr]) 23 (0, 0))]) (fun _ => fun w => (True) ∧ RowV 1 encI a2 (numsS n) w) ?_ ?_
                    · skip
                      refine Sc.draw (by kernel_rfl) (fun _ h => St.lean [0] (by decide) (fun _ h => h) h rfl) ?_
                      refine Sd.take 0 rfl rfl rfl (by kernel_rfl) (by kernel_rfl) (by kernel_rfl) Cut.panic (Want.none rfl) (Y.loadN (vs := [.bool r4.ins, .bool r4.nl, .bool r4.ck, .bool r4.inv, .bool r4.org, .bool r4.aut, .bool r4.vis, .bool r4.paste, .bool r4.focus, .bool r4.sync, .bool r4.keypad, .int .i64 r4.mouse, .bool r4.sgr]) 0 rfl rfl rfl rfl ag23 sz23) ?_
                      refine Sd.take 1 rfl rfl rfl (by kernel_rfl) (by kernel_rfl) (by kernel_rfl) Cut.panic (Want.none rfl) (Y.move rfl) ?_
                      refine Sd.take 2 rfl rfl rfl (by kernel_rfl) (by kernel_rfl) (by kernel_rfl) Cut.panic (Want.none rfl) (Y.move rfl) ?_
                      refine Sd.take 3 rfl rfl rfl (by kernel_rfl) (by kernel_rfl) (by kernel_rfl) Cut.panic (Want.none rfl) (Y.move rfl) ?_
                      refine Sd.take 4 rfl rfl rfl (by kernel_rfl) (by kernel_rfl) (by kernel_rfl) Cut.panic (Want.none rfl) (Y.elemAddr rfl rfl Try.underlying25 sz3 (fun w h => ((h.2) k4 _ (getD_some (0 : Int) (by omega))).1) (by omega) (by omega) (by simp : (sadr a2).off + ((k4 : Int)).toNat * 1 = (sadr a2).off + k4 * 1)) ?_
                      refine Sd.take 5 rfl rfl rfl (by kernel_rfl) (by kernel_rfl) (by kernel_rfl) Cut.panic (Want.none rfl) (Y.loadF1 rfl ag3 (fun w h => ((h.2) k4 _ (getD_some (0 : Int) (by omega))).2 0 _ rfl)) ?_
                      refine Sd.take 6 rfl rfl rfl (by kernel_rfl) (by kernel_rfl) (by kernel_rfl) Cut.panic (Want.none rfl) (Y.move rfl) ?_
                      refine Sd.all [7] (by kernel_rfl) (by decide) (all_cons ?_ all_nil)
                      refine Sp.callV (v := .int .i64 r52) rfl rfl rfl (Want.none rfl) (K.func rfl co20) (fun w hs => by rw [hr52]; exact rstate_c r4 true ((numsS n).getD k4 (0 : Int)) alt w ) ?_
                      refine Sd.take 8 rfl rfl rfl (by kernel_rfl) (by kernel_rfl) (by kernel_rfl) Cut.panic (Want.none rfl) (Y.assign rfl) ?_
                      refine Sd.done (by kernel_rfl) ?_
                      exact Sx.cut () trivial ⟨rfl, rfl, rfl, rfl, rfl, rfl, rfl, rfl, rfl, rfl, rfl, rfl, trivial⟩ [0] (by decide) rfl (fun _ h => h)
                    · intro _ _
                      show Sx _ _ _ [(3, .bool alt), (9, .slice a2 ((numsS n).length) c3), (11, .pointer (some ⟨b31, 0, none⟩)), (12, .int .i64 (k4 : Int)), (15, .int .i64 r49.1), (16, .int .i64 r49.2), (17, .int .i64 r52), (18, .int .i64 r50), (24, .agg (List.toArray [.bool m.ins, .bool m.nl, .bool m.ck, .bool m.inv, .bool m.org, .bool m.aut, .bool m.vis, .bool m.paste, .bool m.focus, .bool m.sync, .bool m.keypad, .int .i64 m.mouse, .bool m.sgr, .bool r4.ins, .bool r4.nl, .bool r4.ck, .bool r4.inv, .bool r4.org, .bool r4.aut, .bool r4.vis, .bool r4.paste, .bool r4.focus, .bool r4.sync, .bool r4.keypad, .int .i64 r4.mouse, .bool r4.sgr])), (25, .int .i64 1), (34, .agg (List.toArray [.bool false, .bool true])), (35, .int .i64 1)] [(some b31, .cells (List.toArray [.bool r4.ins, .bool r4.nl, .bool r4.ck, .bool r4.inv, .bool r4.org, .bool r4.aut, .bool r4.vis, .bool r4.paste, .bool r4.focus, .bool r4.sync, .bool r4.keypad, .int .i64 r4.mouse, .bool r4.sgr]) 23 (0, 0))] _
                      refine Sx.next ?_
                      refine Sc.seq ?_
                      refine Sc.cut (fun (_ : Unit) => True) (fun (_ : Unit) => [(3, .bool alt), (9, .slice a2 ((numsS n).length) c3), (11, .pointer (some ⟨b31, 0, none⟩)), (12, .int .i64 (k4 : Int)), (24, .agg (List.toArray [.bool m.ins, .bool m.nl, .bool m.ck, .bool m.inv, .bool m.org, .bool m.aut, .bool m.vis, .bool m.paste, .bool m.focus, .bool m.sync, .bool m.keypad, .int .i64 m.mouse, .bool m.sgr, .bool r4.ins, .bool r4.nl, .bool r4.ck, .bool r4.inv, .bool r4.org, .bool r4.aut, .bool r4.vis, .bool r4.paste, .bool r4.focus, .bool r4.sync, .bool r4.keypad, .int .i64 r4.mouse, .bool r4.sgr])), (25, .int .i64 1), (34, .agg (List.toArray [.bool false, .bool true])), (35, .int .i64 1), (68, .bool ((decide (r49.1 ≠ r52)) || (decide (r49.2 ≠ r50))))]) (fun (_ : Unit) => [(some b31, .cells (List.toArray [.bool r4.ins, .bool r4.nl, .bool r4.ck, .bool r4.inv, .bool r4.org, .bool r4.aut, .bool r4.vis, .bool r4.paste, .bool r4.focus, .bool r4.sync, .bool r4.keypad, .int .i64 r4.mouse, .bool r4.sgr]) 23 (0, 0))]) (fun _ => fun w => (True) ∧ RowV 1 encI a2 (numsS n) w) ?_ ?_
                      · skip
                        refine Sc.region ?_
                        refine Seg.y rfl rfl (Want.none rfl) (Y.move rfl) ?_
                        refine Seg.y rfl rfl (Want.none rfl) (Y.move rfl) ?_
                        refine Seg.y rfl rfl (Want.none rfl) (Y.binOp rfl rfl (B.ne _ _ _)) ?_
                        refine Seg.y rfl rfl (Want.none rfl) (Y.move rfl) ?_
                        rcases Bool.eq_false_or_eq_true (decide (r49.1 ≠ r52)) with g53 | g53
                        · skip
                          have g53p := of_decide_eq_true g53
                          refine Seg.skip rfl rfl (Skip.some 3 64 false rfl rfl rfl g53) ?_
                          refine Seg.skip rfl rfl (Skip.some 3 64 false rfl rfl rfl g53) ?_
                          refine Seg.skip rfl rfl (Skip.some 3 64 false rfl rfl rfl g53) ?_
                          refine Seg.y rfl rfl (Want.none rfl) (Y.pickT rfl g53 rfl) ?_
                          refine Seg.nil ?_
                          exact Sx.cut () trivial ⟨rfl, rfl, rfl, rfl, rfl, rfl, rfl, rfl, (someB (by first | (simp [h6, h6p, h32, h32p, h35, h35p, h48, h51, h51p, g53, g53p]; done) | (simp_all; done) | ((simp [h6, h6p, h32, h32p, h35, h35p, h48, h51, h51p, g53, g53p]) <;> grind))), trivial⟩ [0] (by decide) rfl (fun _ h => h)
                        · skip
                          have g53p : r49.1 = r52 := by simpa using g53
                          refine Seg.y rfl rfl (Want.some 3 64 false rfl rfl rfl g53) (Y.move rfl) ?_
                          refine Seg.y rfl rfl (Want.some 3 64 false rfl rfl rfl g53) (Y.move rfl) ?_
                          refine Seg.y rfl rfl (Want.some 3 64 false rfl rfl rfl g53) (Y.binOp rfl rfl (B.ne _ _ _)) ?_
                          refine Seg.y rfl rfl (Want.none rfl) (Y.pickF rfl g53 rfl) ?_
                          refine Seg.nil ?_
                          exact Sx.cut () trivial ⟨rfl, rfl, rfl, rfl, rfl, rfl, rfl, rfl, (someB (by first | (simp [h6, h6p, h32, h32p, h35, h35p, h48, h51, h51p, g53, g53p]; done) | (simp_all; done) | ((simp [h6, h6p, h32, h32p, h35, h35p, h48, h51, h51p, g53, g53p]) <;> grind))), trivial⟩ [0] (by decide) rfl (fun _ h => h)
                      · intro _ _
                        show Sx _ _ _ [(3, .bool alt), (9, .slice a2 ((numsS n).length) c3), (11, .pointer (some ⟨b31, 0, none⟩)), (12, .int .i64 (k4 : Int)), (24, .agg (List.toArray [.bool m.ins, .bool m.nl, .bool m.ck, .bool m.inv, .bool m.org, .bool m.aut, .bool m.vis, .bool m.paste, .bool m.focus, .bool m.sync, .bool m.keypad, .int .i64 m.mouse, .bool m.sgr, .bool r4.ins, .bool r4.nl, .bool r4.ck, .bool r4.inv, .bool r4.org, .bool r4.aut, .bool r4.vis, .bool r4.paste, .bool r4.focus, .bool r4.sync, .bool r4.keypad, .int .i64 r4.mouse, .bool r4.sgr])), (25, .int .i64 1), (34, .agg (List.toArray [.bool false, .bool true])), (35, .int .i64 1), (68, .bool ((decide (r49.1 ≠ r52)) || (decide (r49.2 ≠ r50))))] [(some b31, .cells (List.toArray [.bool r4.ins, .bool r4.nl, .bool r4.ck, .bool r4.inv, .bool r4.org, .bool r4.aut, .bool r4.vis, .bool r4.paste, .bool r4.focus, .bool r4.sync, .bool r4.keypad, .int .i64 r4.mouse, .bool r4.sgr]) 23 (0, 0))] _
                        refine Sx.next ?_
                        refine Sc.cond rfl (fun h54 => ?_) (fun h54 => ?_)
                        · skip
                          refine Sc.seq ?_
                          refine Sc.region ?_
                          refine Seg.y rfl rfl (Want.none rfl) (Y.assign rfl) ?_
                          refine Seg.nil ?_
                          refine Sx.next ?_
                          refine Sc.ret ?_
                          refine Sx.block_ret ?_
                          refine Sx.next_ret ?_
                          refine Sx.loop_ret ?_
                          refine Sx.block_ret ?_
                          refine Sx.block_ret ?_
                          refine Sx.next_ret ?_
                          refine Sx.loop_ret ?_
                          refine Sx.block_ret ?_
                          refine Sx.block_ret ?_
                          refine Sx.next_ret ?_
                          refine Sx.loop_ret ?_
                          refine Sx.block_ret ?_
                          refine Sx.next_ret ?_
                          refine Sx.body (.inl rfl) (res1 rfl (Rv.tmp rfl)) (fun w hs => ?_)
                          refine RetV.eq ?_ hs
                          subst hr4
                          subst hr33
                          subst hr34
                          subst hr49
                          subst hr50
                          subst hr52
                          exfalso; simp_all [putS, stateS, checkS, MdEq_self, MdEq_zero]; done
                        · skip
                          refine Sc.skip ?_
                          refine Sx.block_normal ?_
                          refine Sx.next ?_
                          refine Sc.region ?_
                          refine Seg.y rfl rfl (Want.none rfl) (Y.binOp rfl rfl (B.add _ _ _ 2 (by decide))) ?_
                          refine Seg.y rfl rfl (Want.none rfl) (Y.move rfl) ?_
                          refine Seg.nil ?_
                          refine Sx.round ?_
                          refine Sr.succ ?_
                          refine Sc.seq ?_
                          refine Sc.region ?_
                          refine Seg.y rfl rfl (Want.none rfl) (Y.binOp (v := .bool false) rfl rfl (B.lt _ _ _)) ?_
                          refine Seg.nil ?_
                          refine Sx.next ?_
                          refine Sc.seq ?_
                          refine Sc.condF rfl rfl ?_
                          refine Sc.exit ?_
                          refine Sx.next_exit ?_
                          refine Sx.loop_exit ?_
                          refine Sx.block_exit ?_
                          refine Sx.block_normal ?_
                          refine Sx.next ?_
                          refine Sc.region ?_
                          refine Seg.y rfl rfl (Want.none rfl) (Y.move rfl) ?_
                          refine Seg.y rfl rfl (Want.none rfl) (Y.binOp rfl rfl (B.add _ _ _ ((k4 : Int) + 1) (wr_i64 (by omega)))) ?_
                          refine Seg.y rfl rfl (Want.none rfl) (Y.assign rfl) ?_
                          refine Seg.nil ?_
                          exact Sx.head (k4 + 1) (by first | omega | (simp at *; omega)) (by first | omega | (dsimp only; omega)) ⟨rfl, rfl, rfl, rfl, rfl, rfl, trivial⟩ [0] (by decide) rfl (fun _ h => h)
                  · skip
                    have h51p := of_decide_eq_false h51
                    refine Sc.skip ?_
                    refine Sx.next ?_
                    refine Sc.seq ?_
                    refine Sc.cut (fun (_ : Unit) => True) (fun (_ : Unit) => [(3, .bool alt), (9, .slice a2 ((numsS n).length) c3), (11, .pointer (some ⟨b31, 0, none⟩)), (12, .int .i64 (k4 : Int)), (24, .agg (List.toArray [.bool m.ins, .bool m.nl, .bool m.ck, .bool m.inv, .bool m.org, .bool m.aut, .bool m.vis, .bool m.paste, .bool m.focus, .bool m.sync, .bool m.keypad, .int .i64 m.mouse, .bool m.sgr, .bool r4.ins, .bool r4.nl, .bool r4.ck, .bool r4.inv, .bool r4.org, .bool r4.aut, .bool r4.vis, .bool r4.paste, .bool r4.focus, .bool r4.sync, .bool r4.keypad, .int .i64 r4.mouse, .bool r4.sgr])), (25, .int .i64 1), (34, .agg (List.toArray [.bool false, .bool true])), (35, .int .i64 1), (68, .bool ((decide (r49.1 ≠ 0)) || (decide (r49.2 ≠ r50))))]) (fun (_ : Unit) => [(some b31, .cells (List.toArray [.bool r4.ins, .bool r4.nl, .bool r4.ck, .bool r4.inv, .bool r4.org, .bool r4.aut, .bool r4.vis, .bool r4.paste, .bool r4.focus, .bool r4.sync, .bool r4.keypad, .int .i64 r4.mouse, .bool r4.sgr]) 23 (0, 0))]) (fun _ => fun w => (True) ∧ RowV 1 encI a2 (numsS n) w) ?_ ?_
                    · skip
                      refine Sc.region ?_
                      refine Seg.y rfl rfl (Want.none rfl) (Y.move rfl) ?_
                      refine Seg.y rfl rfl (Want.none rfl) (Y.move rfl) ?_
                      refine Seg.y rfl rfl (Want.none rfl) (Y.binOp rfl rfl (B.ne _ _ _)) ?_
                      refine Seg.y rfl rfl (Want.none rfl) (Y.move rfl) ?_
                      rcases Bool.eq_false_or_eq_true (decide (r49.1 ≠ 0)) with g55 | g55
                      · skip
                        have g55p := of_decide_eq_true g55
                        refine Seg.skip rfl rfl (Skip.some 3 64 false rfl rfl rfl g55) ?_
                        refine Seg.skip rfl rfl (Skip.some 3 64 false rfl rfl rfl g55) ?_
                        refine Seg.skip rfl rfl (Skip.some 3 64 false rfl rfl rfl g55) ?_
                        refine Seg.y rfl rfl (Want.none rfl) (Y.pickT rfl g55 rfl) ?_
                        refine Seg.nil ?_
                        exact Sx.cut () trivial ⟨rfl, rfl, rfl, rfl, rfl, rfl, rfl, rfl, (someB (by first | (simp [h6, h6p, h32, h32p, h35, h35p, h48, h51, h51p, g55, g55p]; done) | (simp_all; done) | ((simp [h6, h6p, h32, h32p, h35, h35p, h48, h51, h51p, g55, g55p]) <;> grind))), trivial⟩ [0] (by decide) rfl (fun _ h => h)
                      · skip
                        have g55p : r49.1 = 0 := by simpa using g55
                        refine Seg.y rfl rfl (Want.some 3 64 false rfl rfl rfl g55) (Y.move rfl) ?_
                        refine Seg.y rfl rfl (Want.some 3 64 false rfl rfl rfl g55) (Y.move rfl) ?_
                        refine Seg.y rfl rfl (Want.some 3 64 false rfl rfl rfl g55) (Y.binOp rfl rfl (B.ne _ _ _)) ?_
                        refine Seg.y rfl rfl (Want.none rfl) (Y.pickF rfl g55 rfl) ?_
                        refine Seg.nil ?_
                        exact Sx.cut () trivial ⟨rfl, rfl, rfl, rfl, rfl, rfl, rfl, rfl, (someB (by first | (simp [h6, h6p, h32, h32p, h35, h35p, h48, h51, h51p, g55, g55p]; done) | (simp_all; done) | ((simp [h6, h6p, h32, h32p, h35, h35p, h48, h51, h51p, g55, g55p]) <;> grind))), trivial⟩ [0] (by decide) rfl (fun _ h => h)
                    · intro _ _
                      show Sx _ _ _ [(3, .bool alt), (9, .slice a2 ((numsS n).length) c3), (11, .pointer (some ⟨b31, 0, none⟩)), (12, .int .i64 (k4 : Int)), (24, .agg (List.toArray [.bool m.ins, .bool m.nl, .bool m.ck, .bool m.inv, .bool m.org, .bool m.aut, .bool m.vis, .bool m.paste, .bool m.focus, .bool m.sync, .bool m.keypad, .int .i64 m.mouse, .bool m.sgr, .bool r4.ins, .bool r4.nl, .bool r4.ck, .bool r4.inv, .bool r4.org, .bool r4.aut, .bool r4.vis, .bool r4.paste, .bool r4.focus, .bool r4.sync, .bool r4.keypad, .int .i64 r4.mouse, .bool r4.sgr])), (25, .int .i64 1), (34, .agg (List.toArray [.bool false, .bool true])), (35, .int .i64 1), (68, .bool ((decide (r49.1 ≠ 0)) || (decide (r49.2 ≠ r50))))] [(some b31, .cells (List.toArray [.bool r4.ins, .bool r4.nl, .bool r4.ck, .bool r4.inv, .bool r4.org, .bool r4.aut, .bool r4.vis, .bool r4.paste, .bool r4.focus, .bool r4.sync, .bool r4.keypad, .int .i64 r4.mouse, .bool r4.sgr]) 23 (0, 0))] _
                      refine Sx.next ?_
                      refine Sc.cond rfl (fun h56 => ?_) (fun h56 => ?_)
                      · skip
                        refine Sc.seq ?_
                        refine Sc.region ?_
                        refine Seg.y rfl rfl (Want.none rfl) (Y.assign rfl) ?_
                        refine Seg.nil ?_
                        refine Sx.next ?_
                        refine Sc.ret ?_
                        refine Sx.block_ret ?_
                        refine Sx.next_ret ?_
                        refine Sx.loop_ret ?_
                        refine Sx.block_ret ?_
                        refine Sx.block_ret ?_
                        refine Sx.next_ret ?_
                        refine Sx.loop_ret ?_
                        refine Sx.block_ret ?_
                        refine Sx.block_ret ?_
                        refine Sx.next_ret ?_
                        refine Sx.loop_ret ?_
                        refine Sx.block_ret ?_
                        refine Sx.next_ret ?_
                        refine Sx.body (.inl rfl) (res1 rfl (Rv.tmp rfl)) (fun w hs => ?_)
                        refine RetV.eq ?_ hs
                        subst hr4
                        subst hr33
                        subst hr34
                        subst hr49
                        subst hr50
                        exfalso; simp_all [putS, stateS, checkS, MdEq_self, MdEq_zero]; done
                      · skip
                        refine Sc.skip ?_
                        refine Sx.block_normal ?_
                        refine Sx.next ?_
                        refine Sc.region ?_
                        refine Seg.y rfl rfl (Want.none rfl) (Y.binOp rfl rfl (B.add _ _ _ 2 (by decide))) ?_
                        refine Seg.y rfl rfl (Want.none rfl) (Y.move rfl) ?_
                        refine Seg.nil ?_
                        refine Sx.round ?_
                        refine Sr.succ ?_
                        refine Sc.seq ?_
                        refine Sc.region ?_
                        refine Seg.y rfl rfl (Want.none rfl) (Y.binOp (v := .bool false) rfl rfl (B.lt _ _ _)) ?_
                        refine Seg.nil ?_
                        refine Sx.next ?_
                        refine Sc.seq ?_
                        refine Sc.condF rfl rfl ?_
                        refine Sc.exit ?_
                        refine Sx.next_exit ?_
                        refine Sx.loop_exit ?_
                        refine Sx.block_exit ?_
                        refine Sx.block_normal ?_
                        refine Sx.next ?_
                        refine Sc.region ?_
                        refine Seg.y rfl rfl (Want.none rfl) (Y.move rfl) ?_
                        refine Seg.y rfl rfl (Want.none rfl) (Y.binOp rfl rfl (B.add _ _ _ ((k4 : Int) + 1) (wr_i64 (by omega)))) ?_
                        refine Seg.y rfl rfl (Want.none rfl) (Y.assign rfl) ?_
                        refine Seg.nil ?_
                        exact Sx.head (k4 + 1) (by first | omega | (simp at *; omega)) (by first | omega | (dsimp only; omega)) ⟨rfl, rfl, rfl, rfl, rfl, rfl, trivial⟩ [0] (by decide) rfl (fun _ h => h)
      · skip
        have h32p := of_decide_eq_false h32
        refine Sc.exit ?_
        refine Sx.next_exit ?_
        refine Sx.loop_exit ?_
        refine Sx.block_exit ?_
        refine Sx.block_normal ?_
        refine Sx.next ?_
        refine Sc.region ?_
        refine Seg.y rfl rfl (Want.none rfl) (Y.binOp rfl rfl (B.add _ _ _ 2 (by decide))) ?_
        refine Seg.y rfl rfl (Want.none rfl) (Y.move rfl) ?_
        refine Seg.nil ?_
        refine Sx.round ?_
        refine Sr.succ ?_
        refine Sc.seq ?_
        refine Sc.region ?_
        refine Seg.y rfl rfl (Want.none rfl) (Y.binOp (v := .bool false) rfl rfl (B.lt _ _ _)) ?_
        refine Seg.nil ?_
        refine Sx.next ?_
        refine Sc.seq ?_
        refine Sc.condF rfl rfl ?_
        refine Sc.exit ?_
        refine Sx.next_exit ?_
        refine Sx.loop_exit ?_
        refine Sx.block_exit ?_
        refine Sx.next ?_
        refine Sc.seq ?_
        refine Sc.region ?_
        refine Seg.callV (v := .bool true) rfl rfl (Want.none rfl) (K.func rfl co16) (fun w hs => works_c  w ) ?_
        refine Seg.y rfl rfl (Want.none rfl) (Y.assign rfl) ?_
        refine Seg.nil ?_
        refine Sx.next ?_
        refine Sc.ret ?_
        refine Sx.body (.inl rfl) (res1 rfl (Rv.tmp rfl)) (fun w hs => ?_)
        refine RetV.eq ?_ hs
        subst hr4
        rfl
end Go.Proofs.Ythmigjicibhheaa
