/- What the functions of the program and of the reference come to: one theorem a function (part 11). -/
import Derived.Test.YthmigjicibhheaaW10
namespace Go.Proofs.Ythmigjicibhheaa
open Go Go.RowKit Go.Eng
set_option maxRecDepth 100000
set_option linter.unusedVariables false
set_option linter.unusedSimpArgs false
theorem MdEq_self (m : Md) : MdEq m m = true := by simp [MdEq]
theorem MdEq_zero : MdEq Md.zero (⟨false, false, false, false, false, false, false, false, false, false, false, 0, false⟩ : Md) = true := by decide
theorem numsS_len (n : Int) : (numsS n).length = 22 := rfl

set_option maxHeartbeats 4000000 in
theorem modePuts_c (m : Md) (b : Int) (n : Int) (dec : Bool) (on : Bool) (w : World) (hb0 : 0 ≤ b ∧ b ≤ 65535) :
    Calls Try.prog 3 #[.agg (List.toArray [.bool m.ins, .bool m.nl, .bool m.ck, .bool m.inv, .bool m.org, .bool m.aut, .bool m.vis, .bool m.paste, .bool m.focus, .bool m.sync, .bool m.keypad, .int .i64 m.mouse, .bool m.sgr]), .int .u16 b, .int .i64 n, .bool dec, .bool on] w (RetV w (.bool true)) := by
  refine enter (F := fun w => True) [] Try.func3 rfl Try.ntmps3 (by simp) Fut.triv rfl ?_
  refine Sc.seq ?_
  refine Sc.region ?_
  refine Seg.chg rfl rfl (Want.none rfl) (C.box rfl) (fun b1 hb1 => ?_)
  refine Seg.y rfl rfl (Want.none rfl) (Y.assign rfl) ?_
  refine Seg.nil ?_
  refine Sx.next ?_
  refine Sc.seq ?_
  refine Sc.region ?_
  refine Seg.y rfl rfl (Want.none rfl) (Y.move rfl) ?_
  refine Seg.callR (val := fun ((a2, c3) : Option Addr × Nat) => .slice a2 ((numsS n).length) c3) (Φ := fun ((a2, c3) : Option Addr × Nat) => fun w => RowV 1 encI a2 (numsS n) w) rfl rfl (Want.none rfl) (K.func rfl co9) (fun w hs => nums_c n _ w hs.dc_lt   ) (fun ⟨a2, c3⟩ => ?_)
  refine Seg.y rfl rfl (Want.none rfl) (Y.assign rfl) ?_
  refine Seg.nil ?_
  refine Sx.next ?_
  refine Sc.seq ?_
  refine Sc.seq ?_
  obtain ⟨r4, hr4⟩ : ∃ x, x = ofS b := ⟨_, rfl⟩
  refine Sc.cut (fun (_ : Unit) => True) (fun (_ : Unit) => [(3, .bool dec), (4, .bool on), (11, .slice a2 ((numsS n).length) c3), (25, .agg (List.toArray [.bool m.ins, .bool m.nl, .bool m.ck, .bool m.inv, .bool m.org, .bool m.aut, .bool m.vis, .bool m.paste, .bool m.focus, .bool m.sync, .bool m.keypad, .int .i64 m.mouse, .bool m.sgr, .bool r4.ins, .bool r4.nl, .bool r4.ck, .bool r4.inv, .bool r4.org, .bool r4.aut, .bool r4.vis, .bool r4.paste, .bool r4.focus, .bool r4.sync, .bool r4.keypad, .int .i64 r4.mouse, .bool r4.sgr])), (26, .int .i64 0)]) (fun (_ : Unit) => []) (fun _ => fun w => (True) ∧ RowV 1 encI a2 (numsS n) w) ?_ ?_
  · skip
    refine Sc.draw (by kernel_rfl) (fun _ h => St.lean [0] (by decide) (fun _ h => h) h rfl) ?_
    refine Sd.take 0 rfl rfl rfl (by kernel_rfl) (by kernel_rfl) (by kernel_rfl) Cut.panic (Want.none rfl) (Y.loadN (vs := [.bool m.ins, .bool m.nl, .bool m.ck, .bool m.inv, .bool m.org, .bool m.aut, .bool m.vis, .bool m.paste, .bool m.focus, .bool m.sync, .bool m.keypad, .int .i64 m.mouse, .bool m.sgr]) 0 rfl rfl rfl rfl ag23 sz23) ?_
    refine Sd.take 1 rfl rfl rfl (by kernel_rfl) (by kernel_rfl) (by kernel_rfl) Cut.panic (Want.none rfl) (Y.move rfl) ?_
    refine Sd.take 4 rfl rfl rfl (by kernel_rfl) (by kernel_rfl) (by kernel_rfl) Cut.panic (Want.none rfl) (Y.move rfl) ?_
    refine Sd.all [2] (by kernel_rfl) (by decide) (all_cons ?_ all_nil)
    refine Sp.callV (v := .agg (List.toArray [.bool r4.ins, .bool r4.nl, .bool r4.ck, .bool r4.inv, .bool r4.org, .bool r4.aut, .bool r4.vis, .bool r4.paste, .bool r4.focus, .bool r4.sync, .bool r4.keypad, .int .i64 r4.mouse, .bool r4.sgr])) rfl rfl rfl (Want.none rfl) (K.func rfl co10) (fun w hs => by rw [hr4]; exact of_c b w (by first | assumption | omega)) ?_
    refine Sd.take 3 rfl rfl rfl (by kernel_rfl) (by kernel_rfl) (by kernel_rfl) Cut.panic (Want.none rfl) (Y.build (v := .agg (List.toArray [.bool m.ins, .bool m.nl, .bool m.ck, .bool m.inv, .bool m.org, .bool m.aut, .bool m.vis, .bool m.paste, .bool m.focus, .bool m.sync, .bool m.keypad, .int .i64 m.mouse, .bool m.sgr, .bool r4.ins, .bool r4.nl, .bool r4.ck, .bool r4.inv, .bool r4.org, .bool r4.aut, .bool r4.vis, .bool r4.paste, .bool r4.focus, .bool r4.sync, .bool r4.keypad, .int .i64 r4.mouse, .bool r4.sgr])) rfl (fun w => by kernel_rfl)) ?_
    refine Sd.done (by kernel_rfl) ?_
    exact Sx.cut () trivial ⟨rfl, rfl, rfl, rfl, rfl, trivial⟩ [] (by decide) rfl (fun _ h => h)
  · intro _ _
    show Sx _ _ _ [(3, .bool dec), (4, .bool on), (11, .slice a2 ((numsS n).length) c3), (25, .agg (List.toArray [.bool m.ins, .bool m.nl, .bool m.ck, .bool m.inv, .bool m.org, .bool m.aut, .bool m.vis, .bool m.paste, .bool m.focus, .bool m.sync, .bool m.keypad, .int .i64 m.mouse, .bool m.sgr, .bool r4.ins, .bool r4.nl, .bool r4.ck, .bool r4.inv, .bool r4.org, .bool r4.aut, .bool r4.vis, .bool r4.paste, .bool r4.focus, .bool r4.sync, .bool r4.keypad, .int .i64 r4.mouse, .bool r4.sgr])), (26, .int .i64 0)] [] _
    refine Sx.next ?_
    refine Sc.block ?_
    refine Sc.rounds 3 ?_
    refine Sr.succ ?_
    refine Sc.seq ?_
    refine Sc.region ?_
    refine Seg.y rfl rfl (Want.none rfl) (Y.binOp (v := .bool true) rfl rfl (B.lt _ _ _)) ?_
    refine Seg.nil ?_
    refine Sx.next ?_
    refine Sc.seq ?_
    refine Sc.condT rfl rfl ?_
    refine Sc.skip ?_
    refine Sx.next ?_
    refine Sc.seq ?_
    refine Sc.block ?_
    refine Sc.seq ?_
    refine Sc.region ?_
    refine Seg.y rfl rfl (Want.none rfl) (Y.index (v := .agg (List.toArray [.bool m.ins, .bool m.nl, .bool m.ck, .bool m.inv, .bool m.org, .bool m.aut, .bool m.vis, .bool m.paste, .bool m.focus, .bool m.sync, .bool m.keypad, .int .i64 m.mouse, .bool m.sgr])) rfl rfl (fun w => by kernel_rfl)) ?_
    refine Seg.chg rfl rfl (Want.none rfl) (C.alloc zv23 rfl) (fun b5 hb5 => ?_)
    refine Seg.chs rfl (Want.none rfl) (C.store (cs' := [.bool m.ins, .bool m.nl, .bool m.ck, .bool m.inv, .bool m.org, .bool m.aut, .bool m.vis, .bool m.paste, .bool m.focus, .bool m.sync, .bool m.keypad, .int .i64 m.mouse, .bool m.sgr]) (vs := [.bool m.ins, .bool m.nl, .bool m.ck, .bool m.inv, .bool m.org, .bool m.aut, .bool m.vis, .bool m.paste, .bool m.focus, .bool m.sync, .bool m.keypad, .int .i64 m.mouse, .bool m.sgr]) 0 rfl rfl rfl rfl rfl rfl rfl sz23) (fun _ _ => ?_)
    refine Seg.nil ?_
    refine Sx.next ?_
    refine Sc.seq ?_
    refine Sc.seq ?_
    obtain ⟨r6, hr6⟩ : ∃ x, x = checkS m := ⟨_, rfl⟩
    obtain ⟨r7, hr7⟩ : ∃ x, x = checkS m := ⟨_, rfl⟩
    refine Sc.cut (fun (_ : Unit) => True) (fun (_ : Unit) => [(3, .bool dec), (4, .bool on), (11, .slice a2 ((numsS n).length) c3), (13, .pointer (some ⟨b5, 0, none⟩)), (25, .agg (List.toArray [.bool m.ins, .bool m.nl, .bool m.ck, .bool m.inv, .bool m.org, .bool m.aut, .bool m.vis, .bool m.paste, .bool m.focus, .bool m.sync, .bool m.keypad, .int .i64 m.mouse, .bool m.sgr, .bool r4.ins, .bool r4.nl, .bool r4.ck, .bool r4.inv, .bool r4.org, .bool r4.aut, .bool r4.vis, .bool r4.paste, .bool r4.focus, .bool r4.sync, .bool r4.keypad, .int .i64 r4.mouse, .bool r4.sgr])), (26, .int .i64 0), (33, .bool (decide (r6 ≠ r7)))]) (fun (_ : Unit) => [(some b5, .cells (List.toArray [.bool m.ins, .bool m.nl, .bool m.ck, .bool m.inv, .bool m.org, .bool m.aut, .bool m.vis, .bool m.paste, .bool m.focus, .bool m.sync, .bool m.keypad, .int .i64 m.mouse, .bool m.sgr]) 23 (0, 0))]) (fun _ => fun w => (True) ∧ RowV 1 encI a2 (numsS n) w) ?_ ?_
    · skip
      refine Sc.draw (by kernel_rfl) (fun _ h => St.lean [0] (by decide) (fun _ h => h) h rfl) ?_
      refine Sd.take 0 rfl rfl rfl (by kernel_rfl) (by kernel_rfl) (by kernel_rfl) Cut.panic (Want.none rfl) (Y.loadN (vs := [.bool m.ins, .bool m.nl, .bool m.ck, .bool m.inv, .bool m.org, .bool m.aut, .bool m.vis, .bool m.paste, .bool m.focus, .bool m.sync, .bool m.keypad, .int .i64 m.mouse, .bool m.sgr]) 0 rfl rfl rfl rfl ag23 sz23) ?_
      refine Sd.take 2 rfl rfl rfl (by kernel_rfl) (by kernel_rfl) (by kernel_rfl) Cut.panic (Want.none rfl) (Y.loadN (vs := [.bool m.ins, .bool m.nl, .bool m.ck, .bool m.inv, .bool m.org, .bool m.aut, .bool m.vis, .bool m.paste, .bool m.focus, .bool m.sync, .bool m.keypad, .int .i64 m.mouse, .bool m.sgr]) 0 rfl rfl rfl rfl ag23 sz23) ?_
      refine Sd.all [1] (by kernel_rfl) (by decide) (all_cons ?_ all_nil)
      refine Sp.callV (v := .int .i64 r6) rfl rfl rfl (Want.none rfl) (K.func rfl co11) (fun w hs => by rw [hr6]; exact check_c m w ) ?_
      refine Sd.all [3] (by kernel_rfl) (by decide) (all_cons ?_ all_nil)
      refine Sp.callV (v := .int .i64 r7) rfl rfl rfl (Want.none rfl) (K.func rfl co12) (fun w hs => by rw [hr7]; exact rcheck_c m w ) ?_
      refine Sd.take 4 rfl rfl rfl (by kernel_rfl) (by kernel_rfl) (by kernel_rfl) Cut.panic (Want.none rfl) (Y.binOp rfl rfl (B.ne _ _ _)) ?_
      refine Sd.done (by kernel_rfl) ?_
      exact Sx.cut () trivial ⟨rfl, rfl, rfl, rfl, rfl, rfl, rfl, trivial⟩ [0] (by decide) rfl (fun _ h => h)
    · intro _ _
      show Sx _ _ _ [(3, .bool dec), (4, .bool on), (11, .slice a2 ((numsS n).length) c3), (13, .pointer (some ⟨b5, 0, none⟩)), (25, .agg (List.toArray [.bool m.ins, .bool m.nl, .bool m.ck, .bool m.inv, .bool m.org, .bool m.aut, .bool m.vis, .bool m.paste, .bool m.focus, .bool m.sync, .bool m.keypad, .int .i64 m.mouse, .bool m.sgr, .bool r4.ins, .bool r4.nl, .bool r4.ck, .bool r4.inv, .bool r4.org, .bool r4.aut, .bool r4.vis, .bool r4.paste, .bool r4.focus, .bool r4.sync, .bool r4.keypad, .int .i64 r4.mouse, .bool r4.sgr])), (26, .int .i64 0), (33, .bool (decide (r6 ≠ r7)))] [(some b5, .cells (List.toArray [.bool m.ins, .bool m.nl, .bool m.ck, .bool m.inv, .bool m.org, .bool m.aut, .bool m.vis, .bool m.paste, .bool m.focus, .bool m.sync, .bool m.keypad, .int .i64 m.mouse, .bool m.sgr]) 23 (0, 0))] _
      refine Sx.next ?_
      refine Sc.cond rfl (fun h8 => ?_) (fun h8 => ?_)
      · skip
        have h8p := of_decide_eq_true h8
        refine Sc.seq ?_
        refine Sc.region ?_
        refine Seg.y rfl rfl (Want.none rfl) (Y.assign rfl) ?_
        refine Seg.nil ?_
        refine Sx.next ?_
        refine Sc.ret ?_
        refine Sx.next_ret ?_
        refine Sx.block_ret ?_
        refine Sx.next_ret ?_
        refine Sx.loop_ret ?_
        refine Sx.block_ret ?_
        refine Sx.next_ret ?_
        refine Sx.body (.inl rfl) (res1 rfl (Rv.tmp rfl)) (fun w hs => ?_)
        refine RetV.eq ?_ hs
        subst hr4
        subst hr6
        subst hr7
        exfalso; simp_all [putS, stateS, checkS, MdEq_self, MdEq_zero]; done
      · skip
        have h8p : r6 = r7 := by simpa using h8
        refine Sc.skip ?_
        refine Sx.next ?_
        refine Sc.seq ?_
        refine Sc.region ?_
        refine Seg.y rfl rfl (Want.none rfl) (Y.assign rfl) ?_
        refine Seg.nil ?_
        refine Sx.next ?_
        refine Sc.block ?_
        refine Sc.loop (fun (k1 : Nat) => k1 ≤ 22) (fun (k1 : Nat) => 22 - k1) (fun (k1 : Nat) => [(3, .bool dec), (4, .bool on), (11, .slice a2 ((numsS n).length) c3), (13, .pointer (some ⟨b5, 0, none⟩)), (14, .int .i64 (k1 : Int)), (25, .agg (List.toArray [.bool m.ins, .bool m.nl, .bool m.ck, .bool m.inv, .bool m.org, .bool m.aut, .bool m.vis, .bool m.paste, .bool m.focus, .bool m.sync, .bool m.keypad, .int .i64 m.mouse, .bool m.sgr, .bool r4.ins, .bool r4.nl, .bool r4.ck, .bool r4.inv, .bool r4.org, .bool r4.aut, .bool r4.vis, .bool r4.paste, .bool r4.focus, .bool r4.sync, .bool r4.keypad, .int .i64 r4.mouse, .bool r4.sgr])), (26, .int .i64 0)]) (fun (k1 : Nat) => [(some b5, .cells (List.toArray [.bool m.ins, .bool m.nl, .bool m.ck, .bool m.inv, .bool m.org, .bool m.aut, .bool m.vis, .bool m.paste, .bool m.focus, .bool m.sync, .bool m.keypad, .int .i64 m.mouse, .bool m.sgr]) 23 (0, 0))]) (fun (k1 : Nat) => fun w => (True) ∧ RowV 1 encI a2 (numsS n) w) 0 (Nat.zero_le _) (by exact ⟨rfl, rfl, rfl, rfl, rfl, rfl, rfl, trivial⟩) [0] (by decide) rfl (fun _ h => h) ?_
        rintro k1 hJ1
        have hk1 := hJ1
        have hln1 := numsS_len n
        show Sc _ _ _ _ [(3, .bool dec), (4, .bool on), (11, .slice a2 ((numsS n).length) c3), (13, .pointer (some ⟨b5, 0, none⟩)), (14, .int .i64 (k1 : Int)), (25, .agg (List.toArray [.bool m.ins, .bool m.nl, .bool m.ck, .bool m.inv, .bool m.org, .bool m.aut, .bool m.vis, .bool m.paste, .bool m.focus, .bool m.sync, .bool m.keypad, .int .i64 m.mouse, .bool m.sgr, .bool r4.ins, .bool r4.nl, .bool r4.ck, .bool r4.inv, .bool r4.org, .bool r4.aut, .bool r4.vis, .bool r4.paste, .bool r4.focus, .bool r4.sync, .bool r4.keypad, .int .i64 r4.mouse, .bool r4.sgr])), (26, .int .i64 0)] [(some b5, .cells (List.toArray [.bool m.ins, .bool m.nl, .bool m.ck, .bool m.inv, .bool m.org, .bool m.aut, .bool m.vis, .bool m.paste, .bool m.focus, .bool m.sync, .bool m.keypad, .int .i64 m.mouse, .bool m.sgr]) 23 (0, 0))] (fun w => (True) ∧ RowV 1 encI a2 (numsS n) w)
        refine Sc.seq ?_
        refine Sc.seq ?_
        refine Sc.region ?_
        refine Seg.y rfl rfl (Want.none rfl) (Y.move rfl) ?_
        refine Seg.y rfl rfl (Want.none rfl) (Y.move rfl) ?_
        refine Seg.y rfl rfl (Want.none rfl) (Y.bi rfl (fun w _ => run_len rfl Try.underlying25 w)) ?_
        refine Seg.y rfl rfl (Want.none rfl) (Y.binOp rfl rfl (B.lt _ _ _)) ?_
        refine Seg.nil ?_
        refine Sx.next ?_
        refine Sc.cond rfl (fun h9 => ?_) (fun h9 => ?_)
        · skip
          have h9p := of_decide_eq_true h9
          refine Sc.skip ?_
          refine Sx.next ?_
          refine Sc.seq ?_
          refine Sc.block ?_
          refine Sc.seq ?_
          obtain ⟨r10, hr10⟩ : ∃ x, x = putS m dec ((numsS n).getD k1 (0 : Int)) on := ⟨_, rfl⟩
          refine Sc.cut (fun (b11 : Nat) => w.heap.size ≤ b11) (fun (b11 : Nat) => [(3, .bool dec), (4, .bool on), (11, .slice a2 ((numsS n).length) c3), (13, .pointer (some ⟨b5, 0, none⟩)), (14, .int .i64 (k1 : Int)), (15, .pointer (some ⟨b11, 0, none⟩)), (16, .bool r10.2.1), (17, .int .i64 r10.2.2), (25, .agg (List.toArray [.bool m.ins, .bool m.nl, .bool m.ck, .bool m.inv, .bool m.org, .bool m.aut, .bool m.vis, .bool m.paste, .bool m.focus, .bool m.sync, .bool m.keypad, .int .i64 m.mouse, .bool m.sgr, .bool r4.ins, .bool r4.nl, .bool r4.ck, .bool r4.inv, .bool r4.org, .bool r4.aut, .bool r4.vis, .bool r4.paste, .bool r4.focus, .bool r4.sync, .bool r4.keypad, .int .i64 r4.mouse, .bool r4.sgr])), (26, .int .i64 0)]) (fun (b11 : Nat) => [(some b11, .cells (List.toArray [.bool r10.1.ins, .bool r10.1.nl, .bool r10.1.ck, .bool r10.1.inv, .bool r10.1.org, .bool r10.1.aut, .bool r10.1.vis, .bool r10.1.paste, .bool r10.1.focus, .bool r10.1.sync, .bool r10.1.keypad, .int .i64 r10.1.mouse, .bool r10.1.sgr]) 23 (0, 0)), (some b5, .cells (List.toArray [.bool m.ins, .bool m.nl, .bool m.ck, .bool m.inv, .bool m.org, .bool m.aut, .bool m.vis, .bool m.paste, .bool m.focus, .bool m.sync, .bool m.keypad, .int .i64 m.mouse, .bool m.sgr]) 23 (0, 0))]) (fun _ => fun w => (True) ∧ RowV 1 encI a2 (numsS n) w) ?_ ?_
          · skip
            refine Sc.draw (by kernel_rfl) (fun _ h => St.lean [0] (by decide) (fun _ h => h) h rfl) ?_
            refine Sd.take 0 rfl rfl rfl (by kernel_rfl) (by kernel_rfl) (by kernel_rfl) Cut.panic (Want.none rfl) (Y.loadN (vs := [.bool m.ins, .bool m.nl, .bool m.ck, .bool m.inv, .bool m.org, .bool m.aut, .bool m.vis, .bool m.paste, .bool m.focus, .bool m.sync, .bool m.keypad, .int .i64 m.mouse, .bool m.sgr]) 0 rfl rfl rfl rfl ag23 sz23) ?_
            refine Sd.take 1 rfl rfl rfl (by kernel_rfl) (by kernel_rfl) (by kernel_rfl) Cut.panic (Want.none rfl) (Y.move rfl) ?_
            refine Sd.take 2 rfl rfl rfl (by kernel_rfl) (by kernel_rfl) (by kernel_rfl) Cut.panic (Want.none rfl) (Y.move rfl) ?_
            refine Sd.take 3 rfl rfl rfl (by kernel_rfl) (by kernel_rfl) (by kernel_rfl) Cut.panic (Want.none rfl) (Y.move rfl) ?_
            refine Sd.take 4 rfl rfl rfl (by kernel_rfl) (by kernel_rfl) (by kernel_rfl) Cut.panic (Want.none rfl) (Y.elemAddr rfl rfl Try.underlying25 sz3 (fun w h => ((h.2) k1 _ (getD_some (0 : Int) (by omega))).1) (by omega) (by omega) (by simp : (sadr a2).off + ((k1 : Int)).toNat * 1 = (sadr a2).off + k1 * 1)) ?_
            refine Sd.take 5 rfl rfl rfl (by kernel_rfl) (by kernel_rfl) (by kernel_rfl) Cut.panic (Want.none rfl) (Y.loadF1 rfl ag3 (fun w h => ((h.2) k1 _ (getD_some (0 : Int) (by omega))).2 0 _ rfl)) ?_
            refine Sd.take 6 rfl rfl rfl (by kernel_rfl) (by kernel_rfl) (by kernel_rfl) Cut.panic (Want.none rfl) (Y.move rfl) ?_
            refine Sd.all [7, 12] (by kernel_rfl) (by decide) (all_cons ?_ (all_cons ?_ all_nil))
            · skip
              refine Sp.callV (v := .tuple (List.toArray [.agg (List.toArray [.bool r10.1.ins, .bool r10.1.nl, .bool r10.1.ck, .bool r10.1.inv, .bool r10.1.org, .bool r10.1.aut, .bool r10.1.vis, .bool r10.1.paste, .bool r10.1.focus, .bool r10.1.sync, .bool r10.1.keypad, .int .i64 r10.1.mouse, .bool r10.1.sgr]), .bool r10.2.1, .int .i64 r10.2.2])) rfl rfl rfl (Want.none rfl) (K.func rfl co13) (fun w hs => by rw [hr10]; exact put_c m dec ((numsS n).getD k1 (0 : Int)) on w ) ?_
              refine Sd.take 8 rfl rfl rfl (by kernel_rfl) (by kernel_rfl) (by kernel_rfl) Cut.panic (Want.none rfl) (Y.move rfl) ?_
              refine Sd.take 9 rfl rfl rfl (by kernel_rfl) (by kernel_rfl) (by kernel_rfl) Cut.panic (Want.none rfl) (Y.extract rfl rfl) ?_
              refine Sd.take 10 rfl rfl rfl (by kernel_rfl) (by kernel_rfl) (by kernel_rfl) Cut.panic (Want.none rfl) (Y.extract rfl rfl) ?_
              refine Sd.take 11 rfl rfl rfl (by kernel_rfl) (by kernel_rfl) (by kernel_rfl) Cut.panic (Want.none rfl) (Y.extract rfl rfl) ?_
              refine Sd.all [12] (by kernel_rfl) (by decide) (all_cons ?_ all_nil)
              refine Sp.chg rfl rfl rfl (Want.none rfl) (C.alloc zv23 rfl) (fun _ _ _ h => St.lean [1] (by decide) (fun _ h => h) h rfl) (fun b11 hb11 => ?_)
              refine Sd.all [13] (by kernel_rfl) (by decide) (all_cons ?_ all_nil)
              refine Sp.chgs rfl rfl (Want.none rfl) (C.store (cs' := [.bool r10.1.ins, .bool r10.1.nl, .bool r10.1.ck, .bool r10.1.inv, .bool r10.1.org, .bool r10.1.aut, .bool r10.1.vis, .bool r10.1.paste, .bool r10.1.focus, .bool r10.1.sync, .bool r10.1.keypad, .int .i64 r10.1.mouse, .bool r10.1.sgr]) (vs := [.bool r10.1.ins, .bool r10.1.nl, .bool r10.1.ck, .bool r10.1.inv, .bool r10.1.org, .bool r10.1.aut, .bool r10.1.vis, .bool r10.1.paste, .bool r10.1.focus, .bool r10.1.sync, .bool r10.1.keypad, .int .i64 r10.1.mouse, .bool r10.1.sgr]) 0 rfl rfl rfl rfl rfl rfl rfl sz23) (fun _ _ _ h => St.lean [1] (by decide) (fun _ h => h) h rfl) (fun _ _ => ?_)
              refine Sd.take 14 rfl rfl rfl (by kernel_rfl) (by kernel_rfl) (by kernel_rfl) Cut.panic (Want.none rfl) (Y.assign rfl) ?_
              refine Sd.take 15 rfl rfl rfl (by kernel_rfl) (by kernel_rfl) (by kernel_rfl) Cut.panic (Want.none rfl) (Y.assign rfl) ?_
              refine Sd.done (by kernel_rfl) ?_
              exact Sx.cut b11 hb11 ⟨rfl, rfl, rfl, rfl, rfl, rfl, rfl, rfl, rfl, rfl, trivial⟩ [0, 1] (by decide) rfl (fun _ h => h)
            refine Sp.chg rfl rfl rfl (Want.none rfl) (C.alloc zv23 rfl) (fun _ _ _ h => St.lean [1] (by decide) (fun _ h => h) h rfl) (fun b11 hb11 => ?_)
            refine Sd.all [7] (by kernel_rfl) (by decide) (all_cons ?_ all_nil)
            refine Sp.callV (v := .tuple (List.toArray [.agg (List.toArray [.bool r10.1.ins, .bool r10.1.nl, .bool r10.1.ck, .bool r10.1.inv, .bool r10.1.org, .bool r10.1.aut, .bool r10.1.vis, .bool r10.1.paste, .bool r10.1.focus, .bool r10.1.sync, .bool r10.1.keypad, .int .i64 r10.1.mouse, .bool r10.1.sgr]), .bool r10.2.1, .int .i64 r10.2.2])) rfl rfl rfl (Want.none rfl) (K.func rfl co13) (fun w hs => by rw [hr10]; exact put_c m dec ((numsS n).getD k1 (0 : Int)) on w ) ?_
            refine Sd.take 8 rfl rfl rfl (by kernel_rfl) (by kernel_rfl) (by kernel_rfl) Cut.panic (Want.none rfl) (Y.move rfl) ?_
            refine Sd.take 9 rfl rfl rfl (by kernel_rfl) (by kernel_rfl) (by kernel_rfl) Cut.panic (Want.none rfl) (Y.extract rfl rfl) ?_
            refine Sd.take 10 rfl rfl rfl (by kernel_rfl) (by kernel_rfl) (by kernel_rfl) Cut.panic (Want.none rfl) (Y.extract rfl rfl) ?_
            refine Sd.take 11 rfl rfl rfl (by kernel_rfl) (by kernel_rfl) (by kernel_rfl) Cut.panic (Want.none rfl) (Y.extract rfl rfl) ?_
            refine Sd.all [13] (by kernel_rfl) (by decide) (all_cons ?_ all_nil)
            refine Sp.chgs rfl rfl (Want.none rfl) (C.store (cs' := [.bool r10.1.ins, .bool r10.1.nl, .bool r10.1.ck, .bool r10.1.inv, .bool r10.1.org, .bool r10.1.aut, .bool r10.1.vis, .bool r10.1.paste, .bool r10.1.focus, .bool r10.1.sync, .bool r10.1.keypad, .int .i64 r10.1.mouse, .bool r10.1.sgr]) (vs := [.bool r10.1.ins, .bool r10.1.nl, .bool r10.1.ck, .bool r10.1.inv, .bool r10.1.org, .bool r10.1.aut, .bool r10.1.vis, .bool r10.1.paste, .bool r10.1.focus, .bool r10.1.sync, .bool r10.1.keypad, .int .i64 r10.1.mouse, .bool r10.1.sgr]) 0 rfl rfl rfl rfl rfl rfl rfl sz23) (fun _ _ _ h => St.lean [1] (by decide) (fun _ h => h) h rfl) (fun _ _ => ?_)
            refine Sd.take 14 rfl rfl rfl (by kernel_rfl) (by kernel_rfl) (by kernel_rfl) Cut.panic (Want.none rfl) (Y.assign rfl) ?_
            refine Sd.take 15 rfl rfl rfl (by kernel_rfl) (by kernel_rfl) (by kernel_rfl) Cut.panic (Want.none rfl) (Y.assign rfl) ?_
            refine Sd.done (by kernel_rfl) ?_
            exact Sx.cut b11 hb11 ⟨rfl, rfl, rfl, rfl, rfl, rfl, rfl, rfl, rfl, rfl, trivial⟩ [0, 1] (by decide) rfl (fun _ h => h)
          · rintro b11 hb11
            show Sx _ _ _ [(3, .bool dec), (4, .bool on), (11, .slice a2 ((numsS n).length) c3), (13, .pointer (some ⟨b5, 0, none⟩)), (14, .int .i64 (k1 : Int)), (15, .pointer (some ⟨b11, 0, none⟩)), (16, .bool r10.2.1), (17, .int .i64 r10.2.2), (25, .agg (List.toArray [.bool m.ins, .bool m.nl, .bool m.ck, .bool m.inv, .bool m.org, .bool m.aut, .bool m.vis, .bool m.paste, .bool m.focus, .bool m.sync, .bool m.keypad, .int .i64 m.mouse, .bool m.sgr, .bool r4.ins, .bool r4.nl, .bool r4.ck, .bool r4.inv, .bool r4.org, .bool r4.aut, .bool r4.vis, .bool r4.paste, .bool r4.focus, .bool r4.sync, .bool r4.keypad, .int .i64 r4.mouse, .bool r4.sgr])), (26, .int .i64 0)] [(some b11, .cells (List.toArray [.bool r10.1.ins, .bool r10.1.nl, .bool r10.1.ck, .bool r10.1.inv, .bool r10.1.org, .bool r10.1.aut, .bool r10.1.vis, .bool r10.1.paste, .bool r10.1.focus, .bool r10.1.sync, .bool r10.1.keypad, .int .i64 r10.1.mouse, .bool r10.1.sgr]) 23 (0, 0)), (some b5, .cells (List.toArray [.bool m.ins, .bool m.nl, .bool m.ck, .bool m.inv, .bool m.org, .bool m.aut, .bool m.vis, .bool m.paste, .bool m.focus, .bool m.sync, .bool m.keypad, .int .i64 m.mouse, .bool m.sgr]) 23 (0, 0))] _
            refine Sx.next ?_
            refine Sc.seq ?_
            obtain ⟨r12, hr12⟩ : ∃ x, x = rputS m dec ((numsS n).getD k1 (0 : Int)) on := ⟨_, rfl⟩
            refine Sc.cut (fun (b13 : Nat) => w.heap.size ≤ b13) (fun (b13 : Nat) => [(3, .bool dec), (4, .bool on), (11, .slice a2 ((numsS n).length) c3), (13, .pointer (some ⟨b5, 0, none⟩)), (14, .int .i64 (k1 : Int)), (15, .pointer (some ⟨b11, 0, none⟩)), (16, .bool r10.2.1), (17, .int .i64 r10.2.2), (18, .pointer (some ⟨b13, 0, none⟩)), (19, .bool r12.2), (25, .agg (List.toArray [.bool m.ins, .bool m.nl, .bool m.ck, .bool m.inv, .bool m.org, .bool m.aut, .bool m.vis, .bool m.paste, .bool m.focus, .bool m.sync, .bool m.keypad, .int .i64 m.mouse, .bool m.sgr, .bool r4.ins, .bool r4.nl, .bool r4.ck, .bool r4.inv, .bool r4.org, .bool r4.aut, .bool r4.vis, .bool r4.paste, .bool r4.focus, .bool r4.sync, .bool r4.keypad, .int .i64 r4.mouse, .bool r4.sgr])), (26, .int .i64 0)]) (fun (b13 : Nat) => [(some b13, .cells (List.toArray [.bool r12.1.ins, .bool r12.1.nl, .bool r12.1.ck, .bool r12.1.inv, .bool r12.1.org, .bool r12.1.aut, .bool r12.1.vis, .bool r12.1.paste, .bool r12.1.focus, .bool r12.1.sync, .bool r12.1.keypad, .int .i64 r12.1.mouse, .bool r12.1.sgr]) 23 (0, 0)), (some b11, .cells (List.toArray [.bool r10.1.ins, .bool r10.1.nl, .bool r10.1.ck, .bool r10.1.inv, .bool r10.1.org, .bool r10.1.aut, .bool r10.1.vis, .bool r10.1.paste, .bool r10.1.focus, .bool r10.1.sync, .bool r10.1.keypad, .int .i64 r10.1.mouse, .bool r10.1.sgr]) 23 (0, 0)), (some b5, .cells (List.toArray [.bool m.ins, .bool m.nl, .bool m.ck, .bool m.inv, .bool m.org, .bool m.aut, .bool m.vis, .bool m.paste, .bool m.focus, .bool m.sync, .bool m.keypad, .int .i64 m.mouse, .bool m.sgr]) 23 (0, 0))]) (fun _ => fun w => (True) ∧ RowV 1 encI a2 (numsS n) w) ?_ ?_
            · skip
              refine Sc.draw (by kernel_rfl) (fun _ h => St.lean [0, 1] (by decide) (fun _ h => h) h rfl) ?_
              refine Sd.take 0 rfl rfl rfl (by kernel_rfl) (by kernel_rfl) (by kernel_rfl) Cut.panic (Want.none rfl) (Y.loadN (vs := [.bool m.ins, .bool m.nl, .bool m.ck, .bool m.inv, .bool m.org, .bool m.aut, .bool m.vis, .bool m.paste, .bool m.focus, .bool m.sync, .bool m.keypad, .int .i64 m.mouse, .bool m.sgr]) 1 rfl rfl rfl rfl ag23 sz23) ?_
              refine Sd.take 1 rfl rfl rfl (by kernel_rfl) (by kernel_rfl) (by kernel_rfl) Cut.panic (Want.none rfl) (Y.move rfl) ?_
              refine Sd.take 2 rfl rfl rfl (by kernel_rfl) (by kernel_rfl) (by kernel_rfl) Cut.panic (Want.none rfl) (Y.move rfl) ?_
              refine Sd.take 3 rfl rfl rfl (by kernel_rfl) (by kernel_rfl) (by kernel_rfl) Cut.panic (Want.none rfl) (Y.move rfl) ?_
              refine Sd.take 4 rfl rfl rfl (by kernel_rfl) (by kernel_rfl) (by kernel_rfl) Cut.panic (Want.none rfl) (Y.elemAddr rfl rfl Try.underlying25 sz3 (fun w h => ((h.2) k1 _ (getD_some (0 : Int) (by omega))).1) (by omega) (by omega) (by simp : (sadr a2).off + ((k1 : Int)).toNat * 1 = (sadr a2).off + k1 * 1)) ?_
              refine Sd.take 5 rfl rfl rfl (by kernel_rfl) (by kernel_rfl) (by kernel_rfl) Cut.panic (Want.none rfl) (Y.loadF1 rfl ag3 (fun w h => ((h.2) k1 _ (getD_some (0 : Int) (by omega))).2 0 _ rfl)) ?_
              refine Sd.take 6 rfl rfl rfl (by kernel_rfl) (by kernel_rfl) (by kernel_rfl) Cut.panic (Want.none rfl) (Y.move rfl) ?_
              refine Sd.all [7, 11] (by kernel_rfl) (by decide) (all_cons ?_ (all_cons ?_ all_nil))
              · skip
                refine Sp.callV (v := .tuple (List.toArray [.agg (List.toArray [.bool r12.1.ins, .bool r12.1.nl, .bool r12.1.ck, .bool r12.1.inv, .bool r12.1.org, .bool r12.1.aut, .bool r12.1.vis, .bool r12.1.paste, .bool r12.1.focus, .bool r12.1.sync, .bool r12.1.keypad, .int .i64 r12.1.mouse, .bool r12.1.sgr]), .bool r12.2])) rfl rfl rfl (Want.none rfl) (K.func rfl co14) (fun w hs => by rw [hr12]; exact rput_c m dec ((numsS n).getD k1 (0 : Int)) on w ) ?_
                refine Sd.take 8 rfl rfl rfl (by kernel_rfl) (by kernel_rfl) (by kernel_rfl) Cut.panic (Want.none rfl) (Y.move rfl) ?_
                refine Sd.take 9 rfl rfl rfl (by kernel_rfl) (by kernel_rfl) (by kernel_rfl) Cut.panic (Want.none rfl) (Y.extract rfl rfl) ?_
                refine Sd.take 10 rfl rfl rfl (by kernel_rfl) (by kernel_rfl) (by kernel_rfl) Cut.panic (Want.none rfl) (Y.extract rfl rfl) ?_
                refine Sd.all [11] (by kernel_rfl) (by decide) (all_cons ?_ all_nil)
                refine Sp.chg rfl rfl rfl (Want.none rfl) (C.alloc zv23 rfl) (fun _ _ _ h => St.lean [1, 2] (by decide) (fun _ h => h) h rfl) (fun b13 hb13 => ?_)
                refine Sd.all [12] (by kernel_rfl) (by decide) (all_cons ?_ all_nil)
                refine Sp.chgs rfl rfl (Want.none rfl) (C.store (cs' := [.bool r12.1.ins, .bool r12.1.nl, .bool r12.1.ck, .bool r12.1.inv, .bool r12.1.org, .bool r12.1.aut, .bool r12.1.vis, .bool r12.1.paste, .bool r12.1.focus, .bool r12.1.sync, .bool r12.1.keypad, .int .i64 r12.1.mouse, .bool r12.1.sgr]) (vs := [.bool r12.1.ins, .bool r12.1.nl, .bool r12.1.ck, .bool r12.1.inv, .bool r12.1.org, .bool r12.1.aut, .bool r12.1.vis, .bool r12.1.paste, .bool r12.1.focus, .bool r12.1.sync, .bool r12.1.keypad, .int .i64 r12.1.mouse, .bool r12.1.sgr]) 0 rfl rfl rfl rfl rfl rfl rfl sz23) (fun _ _ _ h => St.lean [1, 2] (by decide) (fun _ h => h) h rfl) (fun _ _ => ?_)
                refine Sd.take 13 rfl rfl rfl (by kernel_rfl) (by kernel_rfl) (by kernel_rfl) Cut.panic (Want.none rfl) (Y.assign rfl) ?_
                refine Sd.done (by kernel_rfl) ?_
                exact Sx.cut b13 hb13 ⟨rfl, rfl, rfl, rfl, rfl, rfl, rfl, rfl, rfl, rfl, rfl, rfl, trivial⟩ [0, 1, 2] (by decide) rfl (fun _ h => h)
              refine Sp.chg rfl rfl rfl (Want.none rfl) (C.alloc zv23 rfl) (fun _ _ _ h => St.lean [1, 2] (by decide) (fun _ h => h) h rfl) (fun b13 hb13 => ?_)
              refine Sd.all [7] (by kernel_rfl) (by decide) (all_cons ?_ all_nil)
              refine Sp.callV (v := .tuple (List.toArray [.agg (List.toArray [.bool r12.1.ins, .bool r12.1.nl, .bool r12.1.ck, .bool r12.1.inv, .bool r12.1.org, .bool r12.1.aut, .bool r12.1.vis, .bool r12.1.paste, .bool r12.1.focus, .bool r12.1.sync, .bool r12.1.keypad, .int .i64 r12.1.mouse, .bool r12.1.sgr]), .bool r12.2])) rfl rfl rfl (Want.none rfl) (K.func rfl co14) (fun w hs => by rw [hr12]; exact rput_c m dec ((numsS n).getD k1 (0 : Int)) on w ) ?_
              refine Sd.take 8 rfl rfl rfl (by kernel_rfl) (by kernel_rfl) (by kernel_rfl) Cut.panic (Want.none rfl) (Y.move rfl) ?_
              refine Sd.take 9 rfl rfl rfl (by kernel_rfl) (by kernel_rfl) (by kernel_rfl) Cut.panic (Want.none rfl) (Y.extract rfl rfl) ?_
              refine Sd.take 10 rfl rfl rfl (by kernel_rfl) (by kernel_rfl) (by kernel_rfl) Cut.panic (Want.none rfl) (Y.extract rfl rfl) ?_
              refine Sd.all [12] (by kernel_rfl) (by decide) (all_cons ?_ all_nil)
              refine Sp.chgs rfl rfl (Want.none rfl) (C.store (cs' := [.bool r12.1.ins, .bool r12.1.nl, .bool r12.1.ck, .bool r12.1.inv, .bool r12.1.org, .bool r12.1.aut, .bool r12.1.vis, .bool r12.1.paste, .bool r12.1.focus, .bool r12.1.sync, .bool r12.1.keypad, .int .i64 r12.1.mouse, .bool r12.1.sgr]) (vs := [.bool r12.1.ins, .bool r12.1.nl, .bool r12.1.ck, .bool r12.1.inv, .bool r12.1.org, .bool r12.1.aut, .bool r12.1.vis, .bool r12.1.paste, .bool r12.1.focus, .bool r12.1.sync, .bool r12.1.keypad, .int .i64 r12.1.mouse, .bool r12.1.sgr]) 0 rfl rfl rfl rfl rfl rfl rfl sz23) (fun _ _ _ h => St.lean [1, 2] (by decide) (fun _ h => h) h rfl) (fun _ _ => ?_)
              refine Sd.take 13 rfl rfl rfl (by kernel_rfl) (by kernel_rfl) (by kernel_rfl) Cut.panic (Want.none rfl) (Y.assign rfl) ?_
              refine Sd.done (by kernel_rfl) ?_
              exact Sx.cut b13 hb13 ⟨rfl, rfl, rfl, rfl, rfl, rfl, rfl, rfl, rfl, rfl, rfl, rfl, trivial⟩ [0, 1, 2] (by decide) rfl (fun _ h => h)
            · rintro b13 hb13
              show Sx _ _ _ [(3, .bool dec), (4, .bool on), (11, .slice a2 ((numsS n).length) c3), (13, .pointer (some ⟨b5, 0, none⟩)), (14, .int .i64 (k1 : Int)), (15, .pointer (some ⟨b11, 0, none⟩)), (16, .bool r10.2.1), (17, .int .i64 r10.2.2), (18, .pointer (some ⟨b13, 0, none⟩)), (19, .bool r12.2), (25, .agg (List.toArray [.bool m.ins, .bool m.nl, .bool m.ck, .bool m.inv, .bool m.org, .bool m.aut, .bool m.vis, .bool m.paste, .bool m.focus, .bool m.sync, .bool m.keypad, .int .i64 m.mouse, .bool m.sgr, .bool r4.ins, .bool r4.nl, .bool r4.ck, .bool r4.inv, .bool r4.org, .bool r4.aut, .bool r4.vis, .bool r4.paste, .bool r4.focus, .bool r4.sync, .bool r4.keypad, .int .i64 r4.mouse, .bool r4.sgr])), (26, .int .i64 0)] [(some b13, .cells (List.toArray [.bool r12.1.ins, .bool r12.1.nl, .bool r12.1.ck, .bool r12.1.inv, .bool r12.1.org, .bool r12.1.aut, .bool r12.1.vis, .bool r12.1.paste, .bool r12.1.focus, .bool r12.1.sync, .bool r12.1.keypad, .int .i64 r12.1.mouse, .bool r12.1.sgr]) 23 (0, 0)), (some b11, .cells (List.toArray [.bool r10.1.ins, .bool r10.1.nl, .bool r10.1.ck, .bool r10.1.inv, .bool r10.1.org, .bool r10.1.aut, .bool r10.1.vis, .bool r10.1.paste, .bool r10.1.focus, .bool r10.1.sync, .bool r10.1.keypad, .int .i64 r10.1.mouse, .bool r10.1.sgr]) 23 (0, 0)), (some b5, .cells (List.toArray [.bool m.ins, .bool m.nl, .bool m.ck, .bool m.inv, .bool m.org, .bool m.aut, .bool m.vis, .bool m.paste, .bool m.focus, .bool m.sync, .bool m.keypad, .int .i64 m.mouse, .bool m.sgr]) 23 (0, 0))] _
              refine Sx.next ?_
              refine Sc.seq ?_
              refine Sc.seq ?_
              refine Sc.region ?_
              refine Seg.y rfl rfl (Want.none rfl) (Y.loadN (vs := [.bool m.ins, .bool m.nl, .bool m.ck, .bool m.inv, .bool m.org, .bool m.aut, .bool m.vis, .bool m.paste, .bool m.focus, .bool m.sync, .bool m.keypad, .int .i64 m.mouse, .bool m.sgr]) 2 rfl rfl rfl rfl ag23 sz23) ?_
              obtain ⟨r14, hr14⟩ : ∃ x, x = rightS m := ⟨_, rfl⟩
              refine Seg.callV (v := .bool r14) rfl rfl (Want.none rfl) (K.func rfl co15) (fun w hs => by rw [hr14]; exact right_c m w ) ?_
              refine Seg.y rfl rfl (Want.none rfl) (Y.unOp rfl (U.not _)) ?_
              refine Seg.nil ?_
              refine Sx.next ?_
              refine Sc.cond rfl (fun h15 => ?_) (fun h15 => ?_)
              · skip
                have h15p : (r14) = false := by simpa using h15
                refine Sc.seq ?_
                refine Sc.seq ?_
                refine Sc.cut (fun (_ : Unit) => True) (fun (_ : Unit) => [(3, .bool dec), (4, .bool on), (11, .slice a2 ((numsS n).length) c3), (13, .pointer (some ⟨b5, 0, none⟩)), (14, .int .i64 (k1 : Int)), (25, .agg (List.toArray [.bool m.ins, .bool m.nl, .bool m.ck, .bool m.inv, .bool m.org, .bool m.aut, .bool m.vis, .bool m.paste, .bool m.focus, .bool m.sync, .bool m.keypad, .int .i64 m.mouse, .bool m.sgr, .bool r4.ins, .bool r4.nl, .bool r4.ck, .bool r4.inv, .bool r4.org, .bool r4.aut, .bool r4.vis, .bool r4.paste, .bool r4.focus, .bool r4.sync, .bool r4.keypad, .int .i64 r4.mouse, .bool r4.sgr])), (26, .int .i64 0), (75, .bool (((decide (r10.2.2 ≠ 260)) || r10.2.1) || (!(MdEq r10.1 (⟨false, false, false, false, false, false, false, false, false, false, false, 0, false⟩ : Md)))))]) (fun (_ : Unit) => [(some b5, .cells (List.toArray [.bool m.ins, .bool m.nl, .bool m.ck, .bool m.inv, .bool m.org, .bool m.aut, .bool m.vis, .bool m.paste, .bool m.focus, .bool m.sync, .bool m.keypad, .int .i64 m.mouse, .bool m.sgr]) 23 (0, 0))]) (fun _ => fun w => (True) ∧ RowV 1 encI a2 (numsS n) w) ?_ ?_
                · skip
                  refine Sc.region ?_
                  refine Seg.y rfl rfl (Want.none rfl) (Y.move rfl) ?_
                  refine Seg.y rfl rfl (Want.none rfl) (Y.binOp rfl rfl (B.ne _ _ _)) ?_
                  refine Seg.y rfl rfl (Want.none rfl) (Y.move rfl) ?_
                  rcases Bool.eq_false_or_eq_true (decide (r10.2.2 ≠ 260)) with g16 | g16
                  · skip
                    have g16p := of_decide_eq_true g16
                    refine Seg.skip rfl rfl (Skip.some 2 68 false rfl rfl rfl g16) ?_
                    refine Seg.y rfl rfl (Want.none rfl) (Y.pickT rfl g16 rfl) ?_
                    refine Seg.y rfl rfl (Want.none rfl) (Y.move rfl) ?_
                    refine Seg.skip rfl rfl (Skip.some 5 71 false rfl rfl rfl rfl) ?_
                    refine Seg.skip rfl rfl (Skip.some 5 71 false rfl rfl rfl rfl) ?_
                    refine Seg.skip rfl rfl (Skip.some 5 71 false rfl rfl rfl rfl) ?_
                    refine Seg.y rfl rfl (Want.none rfl) (Y.pickT rfl rfl rfl) ?_
                    refine Seg.nil ?_
                    exact Sx.cut () trivial ⟨rfl, rfl, rfl, rfl, rfl, rfl, rfl, (someB (by first | (simp [h8, h8p, h9, h9p, h15, h15p, g16, g16p]; done) | (simp_all; done) | ((simp [h8, h8p, h9, h9p, h15, h15p, g16, g16p]) <;> grind))), trivial⟩ [2] (by decide) rfl (fun _ h => h)
                  · skip
                    have g16p : r10.2.2 = 260 := by simpa using g16
                    refine Seg.y rfl rfl (Want.some 2 68 false rfl rfl rfl g16) (Y.move rfl) ?_
                    refine Seg.y rfl rfl (Want.none rfl) (Y.pickF rfl g16 rfl) ?_
                    refine Seg.y rfl rfl (Want.none rfl) (Y.move rfl) ?_
                    rcases Bool.eq_false_or_eq_true (r10.2.1) with g17 | g17
                    · skip
                      refine Seg.skip rfl rfl (Skip.some 5 71 false rfl rfl rfl g17) ?_
                      refine Seg.skip rfl rfl (Skip.some 5 71 false rfl rfl rfl g17) ?_
                      refine Seg.skip rfl rfl (Skip.some 5 71 false rfl rfl rfl g17) ?_
                      refine Seg.y rfl rfl (Want.none rfl) (Y.pickT rfl g17 rfl) ?_
                      refine Seg.nil ?_
                      exact Sx.cut () trivial ⟨rfl, rfl, rfl, rfl, rfl, rfl, rfl, (someB (by first | (simp [h8, h8p, h9, h9p, h15, h15p, g16, g16p, g17]; done) | (simp_all; done) | ((simp [h8, h8p, h9, h9p, h15, h15p, g16, g16p, g17]) <;> grind))), trivial⟩ [2] (by decide) rfl (fun _ h => h)
                    · skip
                      refine Seg.y rfl rfl (Want.some 5 71 false rfl rfl rfl g17) (Y.loadN (vs := [.bool r10.1.ins, .bool r10.1.nl, .bool r10.1.ck, .bool r10.1.inv, .bool r10.1.org, .bool r10.1.aut, .bool r10.1.vis, .bool r10.1.paste, .bool r10.1.focus, .bool r10.1.sync, .bool r10.1.keypad, .int .i64 r10.1.mouse, .bool r10.1.sgr]) 1 rfl rfl rfl rfl ag23 sz23) ?_
                      refine Seg.y rfl rfl (Want.some 5 71 false rfl rfl rfl g17) (Y.build (v := .agg (List.toArray [.bool false, .bool false, .bool false, .bool false, .bool false, .bool false, .bool false, .bool false, .bool false, .bool false, .bool false, .int .i64 0, .bool false])) rfl (fun w => by kernel_rfl)) ?_
                      refine Seg.y rfl rfl (Want.some 5 71 false rfl rfl rfl g17) (Y.binOp rfl rfl (B.neS gq23 (Eqs.struct (n := 1) (b := MdEq r10.1 (⟨false, false, false, false, false, false, false, false, false, false, false, 0, false⟩ : Md)) Try.underlying23 sd23 (EqF.cons (b := r10.1.ins == false) rfl ag4 rfl rfl (Eqs.mono (m := 1) (Eqs.bool Try.underlying4) (by decide)) (EqF.cons (b := r10.1.nl == false) rfl ag4 rfl rfl (Eqs.mono (m := 1) (Eqs.bool Try.underlying4) (by decide)) (EqF.cons (b := r10.1.ck == false) rfl ag4 rfl rfl (Eqs.mono (m := 1) (Eqs.bool Try.underlying4) (by decide)) (EqF.cons (b := r10.1.inv == false) rfl ag4 rfl rfl (Eqs.mono (m := 1) (Eqs.bool Try.underlying4) (by decide)) (EqF.cons (b := r10.1.org == false) rfl ag4 rfl rfl (Eqs.mono (m := 1) (Eqs.bool Try.underlying4) (by decide)) (EqF.cons (b := r10.1.aut == false) rfl ag4 rfl rfl (Eqs.mono (m := 1) (Eqs.bool Try.underlying4) (by decide)) (EqF.cons (b := r10.1.vis == false) rfl ag4 rfl rfl (Eqs.mono (m := 1) (Eqs.bool Try.underlying4) (by decide)) (EqF.cons (b := r10.1.paste == false) rfl ag4 rfl rfl (Eqs.mono (m := 1) (Eqs.bool Try.underlying4) (by decide)) (EqF.cons (b := r10.1.focus == false) rfl ag4 rfl rfl (Eqs.mono (m := 1) (Eqs.bool Try.underlying4) (by decide)) (EqF.cons (b := r10.1.sync == false) rfl ag4 rfl rfl (Eqs.mono (m := 1) (Eqs.bool Try.underlying4) (by decide)) (EqF.cons (b := r10.1.keypad == false) rfl ag4 rfl rfl (Eqs.mono (m := 1) (Eqs.bool Try.underlying4) (by decide)) (EqF.cons (b := decide (r10.1.mouse = 0)) rfl ag3 rfl rfl (Eqs.mono (m := 1) (Eqs.int Try.underlying3) (by decide)) (EqF.cons (b := r10.1.sgr == false) rfl ag4 rfl rfl (Eqs.mono (m := 1) (Eqs.bool Try.underlying4) (by decide)) (EqF.nil))))))))))))))) rfl)) ?_
                      refine Seg.y rfl rfl (Want.none rfl) (Y.pickF rfl g17 rfl) ?_
                      refine Seg.nil ?_
                      exact Sx.cut () trivial ⟨rfl, rfl, rfl, rfl, rfl, rfl, rfl, (someB (by first | (simp [h8, h8p, h9, h9p, h15, h15p, g16, g16p, g17]; done) | (simp_all; done) | ((simp [h8, h8p, h9, h9p, h15, h15p, g16, g16p, g17]) <;> grind))), trivial⟩ [2] (by decide) rfl (fun _ h => h)
                · intro _ _
                  show Sx _ _ _ [(3, .bool dec), (4, .bool on), (11, .slice a2 ((numsS n).length) c3), (13, .pointer (some ⟨b5, 0, none⟩)), (14, .int .i64 (k1 : Int)), (25, .agg (List.toArray [.bool m.ins, .bool m.nl, .bool m.ck, .bool m.inv, .bool m.org, .bool m.aut, .bool m.vis, .bool m.paste, .bool m.focus, .bool m.sync, .bool m.keypad, .int .i64 m.mouse, .bool m.sgr, .bool r4.ins, .bool r4.nl, .bool r4.ck, .bool r4.inv, .bool r4.org, .bool r4.aut, .bool r4.vis, .bool r4.paste, .bool r4.focus, .bool r4.sync, .bool r4.keypad, .int .i64 r4.mouse, .bool r4.sgr])), (26, .int .i64 0), (75, .bool (((decide (r10.2.2 ≠ 260)) || r10.2.1) || (!(MdEq r10.1 (⟨false, false, false, false, false, false, false, false, false, false, false, 0, false⟩ : Md)))))] [(some b5, .cells (List.toArray [.bool m.ins, .bool m.nl, .bool m.ck, .bool m.inv, .bool m.org, .bool m.aut, .bool m.vis, .bool m.paste, .bool m.focus, .bool m.sync, .bool m.keypad, .int .i64 m.mouse, .bool m.sgr]) 23 (0, 0))] _
                  refine Sx.next ?_
                  refine Sc.cond rfl (fun h18 => ?_) (fun h18 => ?_)
                  · skip
                    refine Sc.seq ?_
                    refine Sc.region ?_
                    refine Seg.y rfl rfl (Want.none rfl) (Y.assign rfl) ?_
                    refine Seg.nil ?_
                    refine Sx.next ?_
                    refine Sc.ret ?_
                    refine Sx.next_ret ?_
                    refine Sx.next_ret ?_
                    refine Sx.block_ret ?_
                    refine Sx.next_ret ?_
                    refine Sx.loop_ret ?_
                    refine Sx.block_ret ?_
                    refine Sx.block_ret ?_
                    refine Sx.next_ret ?_
                    refine Sx.loop_ret ?_
                    refine Sx.block_ret ?_
                    refine Sx.next_ret ?_
                    refine Sx.body (.inl rfl) (res1 rfl (Rv.tmp rfl)) (fun w hs => ?_)
                    refine RetV.eq ?_ hs
                    subst hr4
                    subst hr6
                    subst hr7
                    subst hr10
                    subst hr12
                    subst hr14
                    exfalso; simp_all [putS, stateS, checkS, MdEq_self, MdEq_zero]; done
                  · skip
                    refine Sc.skip ?_
                    refine Sx.next ?_
                    refine Sc.exit ?_
                    refine Sx.next_exit ?_
                    refine Sx.block_exit ?_
                    refine Sx.next ?_
                    refine Sc.region ?_
                    refine Seg.y rfl rfl (Want.none rfl) (Y.move rfl) ?_
                    refine Seg.y rfl rfl (Want.none rfl) (Y.binOp rfl rfl (B.add _ _ _ ((k1 : Int) + 1) (wr_i64 (by omega)))) ?_
                    refine Seg.y rfl rfl (Want.none rfl) (Y.assign rfl) ?_
                    refine Seg.nil ?_
                    exact Sx.head (k1 + 1) (by first | omega | (simp at *; omega)) (by first | omega | (dsimp only; omega)) ⟨rfl, rfl, rfl, rfl, rfl, rfl, rfl, trivial⟩ [0] (by decide) rfl (fun _ h => h)
              · skip
                have h15p : (r14) = true := by simpa using h15
                refine Sc.skip ?_
                refine Sx.next ?_
                refine Sc.seq ?_
                refine Sc.cut (fun (_ : Unit) => True) (fun (_ : Unit) => [(3, .bool dec), (4, .bool on), (11, .slice a2 ((numsS n).length) c3), (13, .pointer (some ⟨b5, 0, none⟩)), (14, .int .i64 (k1 : Int)), (25, .agg (List.toArray [.bool m.ins, .bool m.nl, .bool m.ck, .bool m.inv, .bool m.org, .bool m.aut, .bool m.vis, .bool m.paste, .bool m.focus, .bool m.sync, .bool m.keypad, .int .i64 m.mouse, .bool m.sgr, .bool r4.ins, .bool r4.nl, .bool r4.ck, .bool r4.inv, .bool r4.org, .bool r4.aut, .bool r4.vis, .bool r4.paste, .bool r4.focus, .bool r4.sync, .bool r4.keypad, .int .i64 r4.mouse, .bool r4.sgr])), (26, .int .i64 0), (87, .bool (((decide (r10.2.2 ≠ 0)) || (!(MdEq r10.1 r12.1))) || (!(r10.2.1 == r12.2))))]) (fun (_ : Unit) => [(some b5, .cells (List.toArray [.bool m.ins, .bool m.nl, .bool m.ck, .bool m.inv, .bool m.org, .bool m.aut, .bool m.vis, .bool m.paste, .bool m.focus, .bool m.sync, .bool m.keypad, .int .i64 m.mouse, .bool m.sgr]) 23 (0, 0))]) (fun _ => fun w => (True) ∧ RowV 1 encI a2 (numsS n) w) ?_ ?_
                · skip
                  refine Sc.region ?_
                  refine Seg.y rfl rfl (Want.none rfl) (Y.move rfl) ?_
                  refine Seg.y rfl rfl (Want.none rfl) (Y.binOp rfl rfl (B.ne _ _ _)) ?_
                  refine Seg.y rfl rfl (Want.none rfl) (Y.move rfl) ?_
                  rcases Bool.eq_false_or_eq_true (decide (r10.2.2 ≠ 0)) with g19 | g19
                  · skip
                    have g19p := of_decide_eq_true g19
                    refine Seg.skip rfl rfl (Skip.some 2 78 false rfl rfl rfl g19) ?_
                    refine Seg.skip rfl rfl (Skip.some 2 78 false rfl rfl rfl g19) ?_
                    refine Seg.skip rfl rfl (Skip.some 2 78 false rfl rfl rfl g19) ?_
                    refine Seg.y rfl rfl (Want.none rfl) (Y.pickT rfl g19 rfl) ?_
                    refine Seg.y rfl rfl (Want.none rfl) (Y.move rfl) ?_
                    refine Seg.skip rfl rfl (Skip.some 7 83 false rfl rfl rfl rfl) ?_
                    refine Seg.skip rfl rfl (Skip.some 7 83 false rfl rfl rfl rfl) ?_
                    refine Seg.skip rfl rfl (Skip.some 7 83 false rfl rfl rfl rfl) ?_
                    refine Seg.y rfl rfl (Want.none rfl) (Y.pickT rfl rfl rfl) ?_
                    refine Seg.nil ?_
                    exact Sx.cut () trivial ⟨rfl, rfl, rfl, rfl, rfl, rfl, rfl, (someB (by first | (simp [h8, h8p, h9, h9p, h15, h15p, g19, g19p]; done) | (simp_all; done) | ((simp [h8, h8p, h9, h9p, h15, h15p, g19, g19p]) <;> grind))), trivial⟩ [2] (by decide) rfl (fun _ h => h)
                  · skip
                    have g19p : r10.2.2 = 0 := by simpa using g19
                    refine Seg.y rfl rfl (Want.some 2 78 false rfl rfl rfl g19) (Y.loadN (vs := [.bool r10.1.ins, .bool r10.1.nl, .bool r10.1.ck, .bool r10.1.inv, .bool r10.1.org, .bool r10.1.aut, .bool r10.1.vis, .bool r10.1.paste, .bool r10.1.focus, .bool r10.1.sync, .bool r10.1.keypad, .int .i64 r10.1.mouse, .bool r10.1.sgr]) 1 rfl rfl rfl rfl ag23 sz23) ?_
                    refine Seg.y rfl rfl (Want.some 2 78 false rfl rfl rfl g19) (Y.loadN (vs := [.bool r12.1.ins, .bool r12.1.nl, .bool r12.1.ck, .bool r12.1.inv, .bool r12.1.org, .bool r12.1.aut, .bool r12.1.vis, .bool r12.1.paste, .bool r12.1.focus, .bool r12.1.sync, .bool r12.1.keypad, .int .i64 r12.1.mouse, .bool r12.1.sgr]) 0 rfl rfl rfl rfl ag23 sz23) ?_
                    refine Seg.y rfl rfl (Want.some 2 78 false rfl rfl rfl g19) (Y.binOp rfl rfl (B.neS gq23 (Eqs.struct (n := 1) (b := MdEq r10.1 r12.1) Try.underlying23 sd23 (EqF.cons (b := r10.1.ins == r12.1.ins) rfl ag4 rfl rfl (Eqs.mono (m := 1) (Eqs.bool Try.underlying4) (by decide)) (EqF.cons (b := r10.1.nl == r12.1.nl) rfl ag4 rfl rfl (Eqs.mono (m := 1) (Eqs.bool Try.underlying4) (by decide)) (EqF.cons (b := r10.1.ck == r12.1.ck) rfl ag4 rfl rfl (Eqs.mono (m := 1) (Eqs.bool Try.underlying4) (by decide)) (EqF.cons (b := r10.1.inv == r12.1.inv) rfl ag4 rfl rfl (Eqs.mono (m := 1) (Eqs.bool Try.underlying4) (by decide)) (EqF.cons (b := r10.1.org == r12.1.org) rfl ag4 rfl rfl (Eqs.mono (m := 1) (Eqs.bool Try.underlying4) (by decide)) (EqF.cons (b := r10.1.aut == r12.1.aut) rfl ag4 rfl rfl (Eqs.mono (m := 1) (Eqs.bool Try.underlying4) (by decide)) (EqF.cons (b := r10.1.vis == r12.1.vis) rfl ag4 rfl rfl (Eqs.mono (m := 1) (Eqs.bool Try.underlying4) (by decide)) (EqF.cons (b := r10.1.paste == r12.1.paste) rfl ag4 rfl rfl (Eqs.mono (m := 1) (Eqs.bool Try.underlying4) (by decide)) (EqF.cons (b := r10.1.focus == r12.1.focus) rfl ag4 rfl rfl (Eqs.mono (m := 1) (Eqs.bool Try.underlying4) (by decide)) (EqF.cons (b := r10.1.sync == r12.1.sync) rfl ag4 rfl rfl (Eqs.mono (m := 1) (Eqs.bool Try.underlying4) (by decide)) (EqF.cons (b := r10.1.keypad == r12.1.keypad) rfl ag4 rfl rfl (Eqs.mono (m := 1) (Eqs.bool Try.underlying4) (by decide)) (EqF.cons (b := decide (r10.1.mouse = r12.1.mouse)) rfl ag3 rfl rfl (Eqs.mono (m := 1) (Eqs.int Try.underlying3) (by decide)) (EqF.cons (b := r10.1.sgr == r12.1.sgr) rfl ag4 rfl rfl (Eqs.mono (m := 1) (Eqs.bool Try.underlying4) (by decide)) (EqF.nil))))))))))))))) rfl)) ?_
                    refine Seg.y rfl rfl (Want.none rfl) (Y.pickF rfl g19 rfl) ?_
                    refine Seg.y rfl rfl (Want.none rfl) (Y.move rfl) ?_
                    rcases Bool.eq_false_or_eq_true (!(MdEq r10.1 r12.1)) with g20 | g20
                    · skip
                      have g20p : (MdEq r10.1 r12.1) = false := by simpa using g20
                      refine Seg.skip rfl rfl (Skip.some 7 83 false rfl rfl rfl g20) ?_
                      refine Seg.skip rfl rfl (Skip.some 7 83 false rfl rfl rfl g20) ?_
                      refine Seg.skip rfl rfl (Skip.some 7 83 false rfl rfl rfl g20) ?_
                      refine Seg.y rfl rfl (Want.none rfl) (Y.pickT rfl g20 rfl) ?_
                      refine Seg.nil ?_
                      exact Sx.cut () trivial ⟨rfl, rfl, rfl, rfl, rfl, rfl, rfl, (someB (by first | (simp [h8, h8p, h9, h9p, h15, h15p, g19, g19p, g20, g20p]; done) | (simp_all; done) | ((simp [h8, h8p, h9, h9p, h15, h15p, g19, g19p, g20, g20p]) <;> grind))), trivial⟩ [2] (by decide) rfl (fun _ h => h)
                    · skip
                      have g20p : (MdEq r10.1 r12.1) = true := by simpa using g20
                      refine Seg.y rfl rfl (Want.some 7 83 false rfl rfl rfl g20) (Y.move rfl) ?_
                      refine Seg.y rfl rfl (Want.some 7 83 false rfl rfl rfl g20) (Y.move rfl) ?_
                      refine Seg.y rfl rfl (Want.some 7 83 false rfl rfl rfl g20) (Y.binOp rfl rfl (B.neB _ _ Try.underlying4)) ?_
                      refine Seg.y rfl rfl (Want.none rfl) (Y.pickF rfl g20 rfl) ?_
                      refine Seg.nil ?_
                      exact Sx.cut () trivial ⟨rfl, rfl, rfl, rfl, rfl, rfl, rfl, (someB (by first | (simp [h8, h8p, h9, h9p, h15, h15p, g19, g19p, g20, g20p]; done) | (simp_all; done) | ((simp [h8, h8p, h9, h9p, h15, h15p, g19, g19p, g20, g20p]) <;> grind))), trivial⟩ [2] (by decide) rfl (fun _ h => h)
                · intro _ _
                  show Sx _ _ _ [(3, .bool dec), (4, .bool on), (11, .slice a2 ((numsS n).length) c3), (13, .pointer (some ⟨b5, 0, none⟩)), (14, .int .i64 (k1 : Int)), (25, .agg (List.toArray [.bool m.ins, .bool m.nl, .bool m.ck, .bool m.inv, .bool m.org, .bool m.aut, .bool m.vis, .bool m.paste, .bool m.focus, .bool m.sync, .bool m.keypad, .int .i64 m.mouse, .bool m.sgr, .bool r4.ins, .bool r4.nl, .bool r4.ck, .bool r4.inv, .bool r4.org, .bool r4.aut, .bool r4.vis, .bool r4.paste, .bool r4.focus, .bool r4.sync, .bool r4.keypad, .int .i64 r4.mouse, .bool r4.sgr])), (26, .int .i64 0), (87, .bool (((decide (r10.2.2 ≠ 0)) || (!(MdEq r10.1 r12.1))) || (!(r10.2.1 == r12.2))))] [(some b5, .cells (List.toArray [.bool m.ins, .bool m.nl, .bool m.ck, .bool m.inv, .bool m.org, .bool m.aut, .bool m.vis, .bool m.paste, .bool m.focus, .bool m.sync, .bool m.keypad, .int .i64 m.mouse, .bool m.sgr]) 23 (0, 0))] _
                  refine Sx.next ?_
                  refine Sc.cond rfl (fun h21 => ?_) (fun h21 => ?_)
                  · skip
                    refine Sc.seq ?_
                    refine Sc.region ?_
                    refine Seg.y rfl rfl (Want.none rfl) (Y.assign rfl) ?_
                    refine Seg.nil ?_
                    refine Sx.next ?_
                    refine Sc.ret ?_
                    refine Sx.block_ret ?_
                    refine Sx.next_ret ?_
                    refine Sx.loop_ret ?_
                    refine Sx.block_ret ?_
                    refine Sx.block_ret ?_
                    refine Sx.next_ret ?_
                    refine Sx.loop_ret ?_
                    refine Sx.block_ret ?_
                    refine Sx.next_ret ?_
                    refine Sx.body (.inl rfl) (res1 rfl (Rv.tmp rfl)) (fun w hs => ?_)
                    refine RetV.eq ?_ hs
                    subst hr4
                    subst hr6
                    subst hr7
                    subst hr10
                    subst hr12
                    subst hr14
                    exfalso; simp_all [putS, stateS, checkS, MdEq_self, MdEq_zero]; done
                  · skip
                    refine Sc.skip ?_
                    refine Sx.block_normal ?_
                    refine Sx.next ?_
                    refine Sc.region ?_
                    refine Seg.y rfl rfl (Want.none rfl) (Y.move rfl) ?_
                    refine Seg.y rfl rfl (Want.none rfl) (Y.binOp rfl rfl (B.add _ _ _ ((k1 : Int) + 1) (wr_i64 (by omega)))) ?_
                    refine Seg.y rfl rfl (Want.none rfl) (Y.assign rfl) ?_
                    refine Seg.nil ?_
                    exact Sx.head (k1 + 1) (by first | omega | (simp at *; omega)) (by first | omega | (dsimp only; omega)) ⟨rfl, rfl, rfl, rfl, rfl, rfl, rfl, trivial⟩ [0] (by decide) rfl (fun _ h => h)
        · skip
          have h9p := of_decide_eq_false h9
          refine Sc.exit ?_
          refine Sx.next_exit ?_
          refine Sx.loop_exit ?_
          refine Sx.block_exit ?_
          refine Sx.block_normal ?_
          refine Sx.next ?_
          refine Sc.region ?_
          refine Seg.y rfl rfl (Want.none rfl) (Y.binOp rfl rfl (B.add _ _ _ 1 (by decide))) ?_
          refine Seg.y rfl rfl (Want.none rfl) (Y.move rfl) ?_
          refine Seg.nil ?_
          refine Sx.round ?_
          refine Sr.succ ?_
          refine Sc.seq ?_
          refine Sc.region ?_
          refine Seg.y rfl rfl (Want.none rfl) (Y.binOp (v := .bool true) rfl rfl (B.lt _ _ _)) ?_
          refine Seg.nil ?_
          refine Sx.next ?_
          refine Sc.seq ?_
          refine Sc.condT rfl rfl ?_
          refine Sc.skip ?_
          refine Sx.next ?_
          refine Sc.seq ?_
          refine Sc.block ?_
          refine Sc.seq ?_
          refine Sc.region ?_
          refine Seg.y rfl rfl (Want.none rfl) (Y.index (v := .agg (List.toArray [.bool r4.ins, .bool r4.nl, .bool r4.ck, .bool r4.inv, .bool r4.org, .bool r4.aut, .bool r4.vis, .bool r4.paste, .bool r4.focus, .bool r4.sync, .bool r4.keypad, .int .i64 r4.mouse, .bool r4.sgr])) rfl rfl (fun w => by kernel_rfl)) ?_
          refine Seg.chg rfl rfl (Want.none rfl) (C.alloc zv23 rfl) (fun b22 hb22 => ?_)
          refine Seg.chs rfl (Want.none rfl) (C.store (cs' := [.bool r4.ins, .bool r4.nl, .bool r4.ck, .bool r4.inv, .bool r4.org, .bool r4.aut, .bool r4.vis, .bool r4.paste, .bool r4.focus, .bool r4.sync, .bool r4.keypad, .int .i64 r4.mouse, .bool r4.sgr]) (vs := [.bool r4.ins, .bool r4.nl, .bool r4.ck, .bool r4.inv, .bool r4.org, .bool r4.aut, .bool r4.vis, .bool r4.paste, .bool r4.focus, .bool r4.sync, .bool r4.keypad, .int .i64 r4.mouse, .bool r4.sgr]) 0 rfl rfl rfl rfl rfl rfl rfl sz23) (fun _ _ => ?_)
          refine Seg.nil ?_
          refine Sx.next ?_
          refine Sc.seq ?_
          refine Sc.seq ?_
          obtain ⟨r23, hr23⟩ : ∃ x, x = checkS r4 := ⟨_, rfl⟩
          obtain ⟨r24, hr24⟩ : ∃ x, x = checkS r4 := ⟨_, rfl⟩
          refine Sc.cut (fun (_ : Unit) => True) (fun (_ : Unit) => [(3, .bool dec), (4, .bool on), (11, .slice a2 ((numsS n).length) c3), (13, .pointer (some ⟨b22, 0, none⟩)), (25, .agg (List.toArray [.bool m.ins, .bool m.nl, .bool m.ck, .bool m.inv, .bool m.org, .bool m.aut, .bool m.vis, .bool m.paste, .bool m.focus, .bool m.sync, .bool m.keypad, .int .i64 m.mouse, .bool m.sgr, .bool r4.ins, .bool r4.nl, .bool r4.ck, .bool r4.inv, .bool r4.org, .bool r4.aut, .bool r4.vis, .bool r4.paste, .bool r4.focus, .bool r4.sync, .bool r4.keypad, .int .i64 r4.mouse, .bool r4.sgr])), (26, .int .i64 1), (33, .bool (decide (r23 ≠ r24)))]) (fun (_ : Unit) => [(some b22, .cells (List.toArray [.bool r4.ins, .bool r4.nl, .bool r4.ck, .bool r4.inv, .bool r4.org, .bool r4.aut, .bool r4.vis, .bool r4.paste, .bool r4.focus, .bool r4.sync, .bool r4.keypad, .int .i64 r4.mouse, .bool r4.sgr]) 23 (0, 0))]) (fun _ => fun w => (True) ∧ RowV 1 encI a2 (numsS n) w) ?_ ?_
          · skip
            refine Sc.draw (by kernel_rfl) (fun _ h => St.lean [0, 1] (by decide) (fun _ h => h) h rfl) ?_
            refine Sd.take 0 rfl rfl rfl (by kernel_rfl) (by kernel_rfl) (by kernel_rfl) Cut.panic (Want.none rfl) (Y.loadN (vs := [.bool r4.ins, .bool r4.nl, .bool r4.ck, .bool r4.inv, .bool r4.org, .bool r4.aut, .bool r4.vis, .bool r4.paste, .bool r4.focus, .bool r4.sync, .bool r4.keypad, .int .i64 r4.mouse, .bool r4.sgr]) 0 rfl rfl rfl rfl ag23 sz23) ?_
            refine Sd.take 2 rfl rfl rfl (by kernel_rfl) (by kernel_rfl) (by kernel_rfl) Cut.panic (Want.none rfl) (Y.loadN (vs := [.bool r4.ins, .bool r4.nl, .bool r4.ck, .bool r4.inv, .bool r4.org, .bool r4.aut, .bool r4.vis, .bool r4.paste, .bool r4.focus, .bool r4.sync, .bool r4.keypad, .int .i64 r4.mouse, .bool r4.sgr]) 0 rfl rfl rfl rfl ag23 sz23) ?_
            refine Sd.all [1] (by kernel_rfl) (by decide) (all_cons ?_ all_nil)
            refine Sp.callV (v := .int .i64 r23) rfl rfl rfl (Want.none rfl) (K.func rfl co11) (fun w hs => by rw [hr23]; exact check_c r4 w ) ?_
            refine Sd.all [3] (by kernel_rfl) (by decide) (all_cons ?_ all_nil)
            refine Sp.callV (v := .int .i64 r24) rfl rfl rfl (Want.none rfl) (K.func rfl co12) (fun w hs => by rw [hr24]; exact rcheck_c r4 w ) ?_
            refine Sd.take 4 rfl rfl rfl (by kernel_rfl) (by kernel_rfl) (by kernel_rfl) Cut.panic (Want.none rfl) (Y.binOp rfl rfl (B.ne _ _ _)) ?_
            refine Sd.done (by kernel_rfl) ?_
            exact Sx.cut () trivial ⟨rfl, rfl, rfl, rfl, rfl, rfl, rfl, trivial⟩ [0] (by decide) rfl (fun _ h => h)
          · intro _ _
            show Sx _ _ _ [(3, .bool dec), (4, .bool on), (11, .slice a2 ((numsS n).length) c3), (13, .pointer (some ⟨b22, 0, none⟩)), (25, .agg (List.toArray [.bool m.ins, .bool m.nl, .bool m.ck, .bool m.inv, .bool m.org, .bool m.aut, .bool m.vis, .bool m.paste, .bool m.focus, .bool m.sync, .bool m.keypad, .int .i64 m.mouse, .bool m.sgr, .bool r4.ins, .bool r4.nl, .bool r4.ck, .bool r4.inv, .bool r4.org, .bool r4.aut, .bool r4.vis, .bool r4.paste, .bool r4.focus, .bool r4.sync, .bool r4.keypad, .int .i64 r4.mouse, .bool r4.sgr])), (26, .int .i64 1), (33, .bool (decide (r23 ≠ r24)))] [(some b22, .cells (List.toArray [.bool r4.ins, .bool r4.nl, .bool r4.ck, .bool r4.inv, .bool r4.org, .bool r4.aut, .bool r4.vis, .bool r4.paste, .bool r4.focus, .bool r4.sync, .bool r4.keypad, .int .i64 r4.mouse, .bool r4.sgr]) 23 (0, 0))] _
            refine Sx.next ?_
            refine Sc.cond rfl (fun h25 => ?_) (fun h25 => ?_)
            · skip
              have h25p := of_decide_eq_true h25
              refine Sc.seq ?_
              refine Sc.region ?_
              refine Seg.y rfl rfl (Want.none rfl) (Y.assign rfl) ?_
              refine Seg.nil ?_
              refine Sx.next ?_
              refine Sc.ret ?_
              refine Sx.next_ret ?_
              refine Sx.block_ret ?_
              refine Sx.next_ret ?_
              refine Sx.loop_ret ?_
              refine Sx.block_ret ?_
              refine Sx.next_ret ?_
              refine Sx.body (.inl rfl) (res1 rfl (Rv.tmp rfl)) (fun w hs => ?_)
              refine RetV.eq ?_ hs
              subst hr4
              subst hr6
              subst hr7
              subst hr23
              subst hr24
              exfalso; simp_all [putS, stateS, checkS, MdEq_self, MdEq_zero]; done
            · skip
              have h25p : r23 = r24 := by simpa using h25
              refine Sc.skip ?_
              refine Sx.next ?_
              refine Sc.seq ?_
              refine Sc.region ?_
              refine Seg.y rfl rfl (Want.none rfl) (Y.assign rfl) ?_
              refine Seg.nil ?_
              refine Sx.next ?_
              refine Sc.block ?_
              refine Sc.loop (fun (k2 : Nat) => k2 ≤ 22) (fun (k2 : Nat) => 22 - k2) (fun (k2 : Nat) => [(3, .bool dec), (4, .bool on), (11, .slice a2 ((numsS n).length) c3), (13, .pointer (some ⟨b22, 0, none⟩)), (14, .int .i64 (k2 : Int)), (25, .agg (List.toArray [.bool m.ins, .bool m.nl, .bool m.ck, .bool m.inv, .bool m.org, .bool m.aut, .bool m.vis, .bool m.paste, .bool m.focus, .bool m.sync, .bool m.keypad, .int .i64 m.mouse, .bool m.sgr, .bool r4.ins, .bool r4.nl, .bool r4.ck, .bool r4.inv, .bool r4.org, .bool r4.aut, .bool r4.vis, .bool r4.paste, .bool r4.focus, .bool r4.sync, .bool r4.keypad, .int .i64 r4.mouse, .bool r4.sgr])), (26, .int .i64 1)]) (fun (k2 : Nat) => [(some b22, .cells (List.toArray [.bool r4.ins, .bool r4.nl, .bool r4.ck, .bool r4.inv, .bool r4.org, .bool r4.aut, .bool r4.vis, .bool r4.paste, .bool r4.focus, .bool r4.sync, .bool r4.keypad, .int .i64 r4.mouse, .bool r4.sgr]) 23 (0, 0))]) (fun (k2 : Nat) => fun w => (True) ∧ RowV 1 encI a2 (numsS n) w) 0 (Nat.zero_le _) (by exact ⟨rfl, rfl, rfl, rfl, rfl, rfl, rfl, trivial⟩) [0] (by decide) rfl (fun _ h => h) ?_
              rintro k2 hJ1
              have hk2 := hJ1
              have hln2 := numsS_len n
              show Sc _ _ _ _ [(3, .bool dec), (4, .bool on), (11, .slice a2 ((numsS n).length) c3), (13, .pointer (some ⟨b22, 0, none⟩)), (14, .int .i64 (k2 : Int)), (25, .agg (List.toArray [.bool m.ins, .bool m.nl, .bool m.ck, .bool m.inv, .bool m.org, .bool m.aut, .bool m.vis, .bool m.paste, .bool m.focus, .bool m.sync, .bool m.keypad, .int .i64 m.mouse, .bool m.sgr, .bool r4.ins, .bool r4.nl, .bool r4.ck, .bool r4.inv, .bool r4.org, .bool r4.aut, .bool r4.vis, .bool r4.paste, .bool r4.focus, .bool r4.sync, .bool r4.keypad, .int .i64 r4.mouse, .bool r4.sgr])), (26, .int .i64 1)] [(some b22, .cells (List.toArray [.bool r4.ins, .bool r4.nl, .bool r4.ck, .bool r4.inv, .bool r4.org, .bool r4.aut, .bool r4.vis, .bool r4.paste, .bool r4.focus, .bool r4.sync, .bool r4.keypad, .int .i64 r4.mouse, .bool r4.sgr]) 23 (0, 0))] (fun w => (True) ∧ RowV 1 encI a2 (numsS n) w)
              refine Sc.seq ?_
              refine Sc.seq ?_
              refine Sc.region ?_
              refine Seg.y rfl rfl (Want.none rfl) (Y.move rfl) ?_
              refine Seg.y rfl rfl (Want.none rfl) (Y.move rfl) ?_
              refine Seg.y rfl rfl (Want.none rfl) (Y.bi rfl (fun w _ => run_len rfl Try.underlying25 w)) ?_
              refine Seg.y rfl rfl (Want.none rfl) (Y.binOp rfl rfl (B.lt _ _ _)) ?_
              refine Seg.nil ?_
              refine Sx.next ?_
              refine Sc.cond rfl (fun h26 => ?_) (fun h26 => ?_)
              · skip
                have h26p := of_decide_eq_true h26
                refine Sc.skip ?_
                refine Sx.next ?_
                refine Sc.seq ?_
                refine Sc.block ?_
                refine Sc.seq ?_
                obtain ⟨r27, hr27⟩ : ∃ x, x = putS r4 dec ((numsS n).getD k2 (0 : Int)) on := ⟨_, rfl⟩
                refine Sc.cut (fun (b28 : Nat) => w.heap.size ≤ b28) (fun (b28 : Nat) => [(3, .bool dec), (4, .bool on), (11, .slice a2 ((numsS n).length) c3), (13, .pointer (some ⟨b22, 0, none⟩)), (14, .int .i64 (k2 : Int)), (15, .pointer (some ⟨b28, 0, none⟩)), (16, .bool r27.2.1), (17, .int .i64 r27.2.2), (25, .agg (List.toArray [.bool m.ins, .bool m.nl, .bool m.ck, .bool m.inv, .bool m.org, .bool m.aut, .bool m.vis, .bool m.paste, .bool m.focus, .bool m.sync, .bool m.keypad, .int .i64 m.mouse, .bool m.sgr, .bool r4.ins, .bool r4.nl, .bool r4.ck, .bool r4.inv, .bool r4.org, .bool r4.aut, .bool r4.vis, .bool r4.paste, .bool r4.focus, .bool r4.sync, .bool r4.keypad, .int .i64 r4.mouse, .bool r4.sgr])), (26, .int .i64 1)]) (fun (b28 : Nat) => [(some b28, .cells (List.toArray [.bool r27.1.ins, .bool r27.1.nl, .bool r27.1.ck, .bool r27.1.inv, .bool r27.1.org, .bool r27.1.aut, .bool r27.1.vis, .bool r27.1.paste, .bool r27.1.focus, .bool r27.1.sync, .bool r27.1.keypad, .int .i64 r27.1.mouse, .bool r27.1.sgr]) 23 (0, 0)), (some b22, .cells (List.toArray [.bool r4.ins, .bool r4.nl, .bool r4.ck, .bool r4.inv, .bool r4.org, .bool r4.aut, .bool r4.vis, .bool r4.paste, .bool r4.focus, .bool r4.sync, .bool r4.keypad, .int .i64 r4.mouse, .bool r4.sgr]) 23 (0, 0))]) (fun _ => fun w => (True) ∧ RowV 1 encI a2 (numsS n) w) ?_ ?_
                · skip
                  refine Sc.draw (by kernel_rfl) (fun _ h => St.lean [0] (by decide) (fun _ h => h) h rfl) ?_
                  refine Sd.take 0 rfl rfl rfl (by kernel_rfl) (by kernel_rfl) (by kernel_rfl) Cut.panic (Want.none rfl) (Y.loadN (vs := [.bool r4.ins, .bool r4.nl, .bool r4.ck, .bool r4.inv, .bool r4.org, .bool r4.aut, .bool r4.vis, .bool r4.paste, .bool r4.focus, .bool r4.sync, .bool r4.keypad, .int .i64 r4.mouse, .bool r4.sgr]) 0 rfl rfl rfl rfl ag23 sz23) ?_
                  refine Sd.take 1 rfl rfl rfl (by kernel_rfl) (by kernel_rfl) (by kernel_rfl) Cut.panic (Want.none rfl) (Y.move rfl) ?_
                  refine Sd.take 2 rfl rfl rfl (by kernel_rfl) (by kernel_rfl) (by kernel_rfl) Cut.panic (Want.none rfl) (Y.move rfl) ?_
                  refine Sd.take 3 rfl rfl rfl (by kernel_rfl) (by kernel_rfl) (by kernel_rfl) Cut.panic (Want.none rfl) (Y.move rfl) ?_
                  refine Sd.take 4 rfl rfl rfl (by kernel_rfl) (by kernel_rfl) (by kernel_rfl) Cut.panic (Want.none rfl) (Y.elemAddr rfl rfl Try.underlying25 sz3 (fun w h => ((h.2) k2 _ (getD_some (0 : Int) (by omega))).1) (by omega) (by omega) (by simp : (sadr a2).off + ((k2 : Int)).toNat * 1 = (sadr a2).off + k2 * 1)) ?_
                  refine Sd.take 5 rfl rfl rfl (by kernel_rfl) (by kernel_rfl) (by kernel_rfl) Cut.panic (Want.none rfl) (Y.loadF1 rfl ag3 (fun w h => ((h.2) k2 _ (getD_some (0 : Int) (by omega))).2 0 _ rfl)) ?_
                  refine Sd.take 6 rfl rfl rfl (by kernel_rfl) (by kernel_rfl) (by kernel_rfl) Cut.panic (Want.none rfl) (Y.move rfl) ?_
                  refine Sd.all [7, 12] (by kernel_rfl) (by decide) (all_cons ?_ (all_cons ?_ all_nil))
                  · skip
                    refine Sp.callV (v := .tuple (List.toArray [.agg (List.toArray [.bool r27.1.ins, .bool r27.1.nl, .bool r27.1.ck, .bool r27.1.inv, .bool r27.1.org, .bool r27.1.aut, .bool r27.1.vis, .bool r27.1.paste, .bool r27.1.focus, .bool r27.1.sync, .bool r27.1.keypad, .int .i64 r27.1.mouse, .bool r27.1.sgr]), .bool r27.2.1, .int .i64 r27.2.2])) rfl rfl rfl (Want.none rfl) (K.func rfl co13) (fun w hs => by rw [hr27]; exact put_c r4 dec ((numsS n).getD k2 (0 : Int)) on w ) ?_
                    refine Sd.take 8 rfl rfl rfl (by kernel_rfl) (by kernel_rfl) (by kernel_rfl) Cut.panic (Want.none rfl) (Y.move rfl) ?_
                    refine Sd.take 9 rfl rfl rfl (by kernel_rfl) (by kernel_rfl) (by kernel_rfl) Cut.panic (Want.none rfl) (Y.extract rfl rfl) ?_
                    refine Sd.take 10 rfl rfl rfl (by kernel_rfl) (by kernel_rfl) (by kernel_rfl) Cut.panic (Want.none rfl) (Y.extract rfl rfl) ?_
                    refine Sd.take 11 rfl rfl rfl (by kernel_rfl) (by kernel_rfl) (by kernel_rfl) Cut.panic (Want.none rfl) (Y.extract rfl rfl) ?_
                    refine Sd.all [12] (by kernel_rfl) (by decide) (all_cons ?_ all_nil)
                    refine Sp.chg rfl rfl rfl (Want.none rfl) (C.alloc zv23 rfl) (fun _ _ _ h => St.lean [1] (by decide) (fun _ h => h) h rfl) (fun b28 hb28 => ?_)
                    refine Sd.all [13] (by kernel_rfl) (by decide) (all_cons ?_ all_nil)
                    refine Sp.chgs rfl rfl (Want.none rfl) (C.store (cs' := [.bool r27.1.ins, .bool r27.1.nl, .bool r27.1.ck, .bool r27.1.inv, .bool r27.1.org, .bool r27.1.aut, .bool r27.1.vis, .bool r27.1.paste, .bool r27.1.focus, .bool r27.1.sync, .bool r27.1.keypad, .int .i64 r27.1.mouse, .bool r27.1.sgr]) (vs := [.bool r27.1.ins, .bool r27.1.nl, .bool r27.1.ck, .bool r27.1.inv, .bool r27.1.org, .bool r27.1.aut, .bool r27.1.vis, .bool r27.1.paste, .bool r27.1.focus, .bool r27.1.sync, .bool r27.1.keypad, .int .i64 r27.1.mouse, .bool r27.1.sgr]) 0 rfl rfl rfl rfl rfl rfl rfl sz23) (fun _ _ _ h => St.lean [1] (by decide) (fun _ h => h) h rfl) (fun _ _ => ?_)
                    refine Sd.take 14 rfl rfl rfl (by kernel_rfl) (by kernel_rfl) (by kernel_rfl) Cut.panic (Want.none rfl) (Y.assign rfl) ?_
                    refine Sd.take 15 rfl rfl rfl (by kernel_rfl) (by kernel_rfl) (by kernel_rfl) Cut.panic (Want.none rfl) (Y.assign rfl) ?_
                    refine Sd.done (by kernel_rfl) ?_
                    exact Sx.cut b28 hb28 ⟨rfl, rfl, rfl, rfl, rfl, rfl, rfl, rfl, rfl, rfl, trivial⟩ [0, 1] (by decide) rfl (fun _ h => h)
                  refine Sp.chg rfl rfl rfl (Want.none rfl) (C.alloc zv23 rfl) (fun _ _ _ h => St.lean [1] (by decide) (fun _ h => h) h rfl) (fun b28 hb28 => ?_)
                  refine Sd.all [7] (by kernel_rfl) (by decide) (all_cons ?_ all_nil)
                  refine Sp.callV (v := .tuple (List.toArray [.agg (List.toArray [.bool r27.1.ins, .bool r27.1.nl, .bool r27.1.ck, .bool r27.1.inv, .bool r27.1.org, .bool r27.1.aut, .bool r27.1.vis, .bool r27.1.paste, .bool r27.1.focus, .bool r27.1.sync, .bool r27.1.keypad, .int .i64 r27.1.mouse, .bool r27.1.sgr]), .bool r27.2.1, .int .i64 r27.2.2])) rfl rfl rfl (Want.none rfl) (K.func rfl co13) (fun w hs => by rw [hr27]; exact put_c r4 dec ((numsS n).getD k2 (0 : Int)) on w ) ?_
                  refine Sd.take 8 rfl rfl rfl (by kernel_rfl) (by kernel_rfl) (by kernel_rfl) Cut.panic (Want.none rfl) (Y.move rfl) ?_
                  refine Sd.take 9 rfl rfl rfl (by kernel_rfl) (by kernel_rfl) (by kernel_rfl) Cut.panic (Want.none rfl) (Y.extract rfl rfl) ?_
                  refine Sd.take 10 rfl rfl rfl (by kernel_rfl) (by kernel_rfl) (by kernel_rfl) Cut.panic (Want.none rfl) (Y.extract rfl rfl) ?_
                  refine Sd.take 11 rfl rfl rfl (by kernel_rfl) (by kernel_rfl) (by kernel_rfl) Cut.panic (Want.none rfl) (Y.extract rfl rfl) ?_
                  refine Sd.all [13] (by kernel_rfl) (by decide) (all_cons ?_ all_nil)
                  refine Sp.chgs rfl rfl (Want.none rfl) (C.store (cs' := [.bool r27.1.ins, .bool r27.1.nl, .bool r27.1.ck, .bool r27.1.inv, .bool r27.1.org, .bool r27.1.aut, .bool r27.1.vis, .bool r27.1.paste, .bool r27.1.focus, .bool r27.1.sync, .bool r27.1.keypad, .int .i64 r27.1.mouse, .bool r27.1.sgr]) (vs := [.bool r27.1.ins, .bool r27.1.nl, .bool r27.1.ck, .bool r27.1.inv, .bool r27.1.org, .bool r27.1.aut, .bool r27.1.vis, .bool r27.1.paste, .bool r27.1.focus, .bool r27.1.sync, .bool r27.1.keypad, .int .i64 r27.1.mouse, .bool r27.1.sgr]) 0 rfl rfl rfl rfl rfl rfl rfl sz23) (fun _ _ _ h => St.lean [1] (by decide) (fun _ h => h) h rfl) (fun _ _ => ?_)
                  refine Sd.take 14 rfl rfl rfl (by kernel_rfl) (by kernel_rfl) (by kernel_rfl) Cut.panic (Want.none rfl) (Y.assign rfl) ?_
                  refine Sd.take 15 rfl rfl rfl (by kernel_rfl) (by kernel_rfl) (by kernel_rfl) Cut.panic (Want.none rfl) (Y.assign rfl) ?_
                  refine Sd.done (by kernel_rfl) ?_
                  exact Sx.cut b28 hb28 ⟨rfl, rfl, rfl, rfl, rfl, rfl, rfl, rfl, rfl, rfl, trivial⟩ [0, 1] (by decide) rfl (fun _ h => h)
                · rintro b28 hb28
                  show Sx _ _ _ [(3, .bool dec), (4, .bool on), (11, .slice a2 ((numsS n).length) c3), (13, .pointer (some ⟨b22, 0, none⟩)), (14, .int .i64 (k2 : Int)), (15, .pointer (some ⟨b28, 0, none⟩)), (16, .bool r27.2.1), (17, .int .i64 r27.2.2), (25, .agg (List.toArray [.bool m.ins, .bool m.nl, .bool m.ck, .bool m.inv, .bool m.org, .bool m.aut, .bool m.vis, .bool m.paste, .bool m.focus, .bool m.sync, .bool m.keypad, .int .i64 m.mouse, .bool m.sgr, .bool r4.ins, .bool r4.nl, .bool r4.ck, .bool r4.inv, .bool r4.org, .bool r4.aut, .bool r4.vis, .bool r4.paste, .bool r4.focus, .bool r4.sync, .bool r4.keypad, .int .i64 r4.mouse, .bool r4.sgr])), (26, .int .i64 1)] [(some b28, .cells (List.toArray [.bool r27.1.ins, .bool r27.1.nl, .bool r27.1.ck, .bool r27.1.inv, .bool r27.1.org, .bool r27.1.aut, .bool r27.1.vis, .bool r27.1.paste, .bool r27.1.focus, .bool r27.1.sync, .bool r27.1.keypad, .int .i64 r27.1.mouse, .bool r27.1.sgr]) 23 (0, 0)), (some b22, .cells (List.toArray [.bool r4.ins, .bool r4.nl, .bool r4.ck, .bool r4.inv, .bool r4.org, .bool r4.aut, .bool r4.vis, .bool r4.paste, .bool r4.focus, .bool r4.sync, .bool r4.keypad, .int .i64 r4.mouse, .bool r4.sgr]) 23 (0, 0))] _
                  refine Sx.next ?_
                  refine Sc.seq ?_
                  obtain ⟨r29, hr29⟩ : ∃ x, x = rputS r4 dec ((numsS n).getD k2 (0 : Int)) on := ⟨_, rfl⟩
                  refine Sc.cut (fun (b30 : Nat) => w.heap.size ≤ b30) (fun (b30 : Nat) => [(3, .bool dec), (4, .bool on), (11, .slice a2 ((numsS n).length) c3), (13, .pointer (some ⟨b22, 0, none⟩)), (14, .int .i64 (k2 : Int)), (15, .pointer (some ⟨b28, 0, none⟩)), (16, .bool r27.2.1), (17, .int .i64 r27.2.2), (18, .pointer (some ⟨b30, 0, none⟩)), (19, .bool r29.2), (25, .agg (List.toArray [.bool m.ins, .bool m.nl, .bool m.ck, .bool m.inv, .bool m.org, .bool m.aut, .bool m.vis, .bool m.paste, .bool m.focus, .bool m.sync, .bool m.keypad, .int .i64 m.mouse, .bool m.sgr, .bool r4.ins, .bool r4.nl, .bool r4.ck, .bool r4.inv, .bool r4.org, .bool r4.aut, .bool r4.vis, .bool r4.paste, .bool r4.focus, .bool r4.sync, .bool r4.keypad, .int .i64 r4.mouse, .bool r4.sgr])), (26, .int .i64 1)]) (fun (b30 : Nat) => [(some b30, .cells (List.toArray [.bool r29.1.ins, .bool r29.1.nl, .bool r29.1.ck, .bool r29.1.inv, .bool r29.1.org, .bool r29.1.aut, .bool r29.1.vis, .bool r29.1.paste, .bool r29.1.focus, .bool r29.1.sync, .bool r29.1.keypad, .int .i64 r29.1.mouse, .bool r29.1.sgr]) 23 (0, 0)), (some b28, .cells (List.toArray [.bool r27.1.ins, .bool r27.1.nl, .bool r27.1.ck, .bool r27.1.inv, .bool r27.1.org, .bool r27.1.aut, .bool r27.1.vis, .bool r27.1.paste, .bool r27.1.focus, .bool r27.1.sync, .bool r27.1.keypad, .int .i64 r27.1.mouse, .bool r27.1.sgr]) 23 (0, 0)), (some b22, .cells (List.toArray [.bool r4.ins, .bool r4.nl, .bool r4.ck, .bool r4.inv, .bool r4.org, .bool r4.aut, .bool r4.vis, .bool r4.paste, .bool r4.focus, .bool r4.sync, .bool r4.keypad, .int .i64 r4.mouse, .bool r4.sgr]) 23 (0, 0))]) (fun _ => fun w => (True) ∧ RowV 1 encI a2 (numsS n) w) ?_ ?_
                  · skip
                    refine Sc.draw (by kernel_rfl) (fun _ h => St.lean [0, 1] (by decide) (fun _ h => h) h rfl) ?_
                    refine Sd.take 0 rfl rfl rfl (by kernel_rfl) (by kernel_rfl) (by kernel_rfl) Cut.panic (Want.none rfl) (Y.loadN (vs := [.bool r4.ins, .bool r4.nl, .bool r4.ck, .bool r4.inv, .bool r4.org, .bool r4.aut, .bool r4.vis, .bool r4.paste, .bool r4.focus, .bool r4.sync, .bool r4.keypad, .int .i64 r4.mouse, .bool r4.sgr]) 1 rfl rfl rfl rfl ag23 sz23) ?_
                    refine Sd.take 1 rfl rfl rfl (by kernel_rfl) (by kernel_rfl) (by kernel_rfl) Cut.panic (Want.none rfl) (Y.move rfl) ?_
                    refine Sd.take 2 rfl rfl rfl (by kernel_rfl) (by kernel_rfl) (by kernel_rfl) Cut.panic (Want.none rfl) (Y.move rfl) ?_
                    refine Sd.take 3 rfl rfl rfl (by kernel_rfl) (by kernel_rfl) (by kernel_rfl) Cut.panic (Want.none rfl) (Y.move rfl) ?_
                    refine Sd.take 4 rfl rfl rfl (by kernel_rfl) (by kernel_rfl) (by kernel_rfl) Cut.panic (Want.none rfl) (Y.elemAddr rfl rfl Try.underlying25 sz3 (fun w h => ((h.2) k2 _ (getD_some (0 : Int) (by omega))).1) (by omega) (by omega) (by simp : (sadr a2).off + ((k2 : Int)).toNat * 1 = (sadr a2).off + k2 * 1)) ?_
                    refine Sd.take 5 rfl rfl rfl (by kernel_rfl) (by kernel_rfl) (by kernel_rfl) Cut.panic (Want.none rfl) (Y.loadF1 rfl ag3 (fun w h => ((h.2) k2 _ (getD_some (0 : Int) (by omega))).2 0 _ rfl)) ?_
                    refine Sd.take 6 rfl rfl rfl (by kernel_rfl) (by kernel_rfl) (by kernel_rfl) Cut.panic (Want.none rfl) (Y.move rfl) ?_
                    refine Sd.all [7, 11] (by kernel_rfl) (by decide) (all_cons ?_ (all_cons ?_ all_nil))
                    · skip
                      refine Sp.callV (v := .tuple (List.toArray [.agg (List.toArray [.bool r29.1.ins, .bool r29.1.nl, .bool r29.1.ck, .bool r29.1.inv, .bool r29.1.org, .bool r29.1.aut, .bool r29.1.vis, .bool r29.1.paste, .bool r29.1.focus, .bool r29.1.sync, .bool r29.1.keypad, .int .i64 r29.1.mouse, .bool r29.1.sgr]), .bool r29.2])) rfl rfl rfl (Want.none rfl) (K.func rfl co14) (fun w hs => by rw [hr29]; exact rput_c r4 dec ((numsS n).getD k2 (0 : Int)) on w ) ?_
                      refine Sd.take 8 rfl rfl rfl (by kernel_rfl) (by kernel_rfl) (by kernel_rfl) Cut.panic (Want.none rfl) (Y.move rfl) ?_
                      refine Sd.take 9 rfl rfl rfl (by kernel_rfl) (by kernel_rfl) (by kernel_rfl) Cut.panic (Want.none rfl) (Y.extract rfl rfl) ?_
                      refine Sd.take 10 rfl rfl rfl (by kernel_rfl) (by kernel_rfl) (by kernel_rfl) Cut.panic (Want.none rfl) (Y.extract rfl rfl) ?_
                      refine Sd.all [11] (by kernel_rfl) (by decide) (all_cons ?_ all_nil)
                      refine Sp.chg rfl rfl rfl (Want.none rfl) (C.alloc zv23 rfl) (fun _ _ _ h => St.lean [1, 2] (by decide) (fun _ h => h) h rfl) (fun b30 hb30 => ?_)
                      refine Sd.all [12] (by kernel_rfl) (by decide) (all_cons ?_ all_nil)
                      refine Sp.chgs rfl rfl (Want.none rfl) (C.store (cs' := [.bool r29.1.ins, .bool r29.1.nl, .bool r29.1.ck, .bool r29.1.inv, .bool r29.1.org, .bool r29.1.aut, .bool r29.1.vis, .bool r29.1.paste, .bool r29.1.focus, .bool r29.1.sync, .bool r29.1.keypad, .int .i64 r29.1.mouse, .bool r29.1.sgr]) (vs := [.bool r29.1.ins, .bool r29.1.nl, .bool r29.1.ck, .bool r29.1.inv, .bool r29.1.org, .bool r29.1.aut, .bool r29.1.vis, .bool r29.1.paste, .bool r29.1.focus, .bool r29.1.sync, .bool r29.1.keypad, .int .i64 r29.1.mouse, .bool r29.1.sgr]) 0 rfl rfl rfl rfl rfl rfl rfl sz23) (fun _ _ _ h => St.lean [1, 2] (by decide) (fun _ h => h) h rfl) (fun _ _ => ?_)
                      refine Sd.take 13 rfl rfl rfl (by kernel_rfl) (by kernel_rfl) (by kernel_rfl) Cut.panic (Want.none rfl) (Y.assign rfl) ?_
                      refine Sd.done (by kernel_rfl) ?_
                      exact Sx.cut b30 hb30 ⟨rfl, rfl, rfl, rfl, rfl, rfl, rfl, rfl, rfl, rfl, rfl, rfl, trivial⟩ [0, 1, 2] (by decide) rfl (fun _ h => h)
                    refine Sp.chg rfl rfl rfl (Want.none rfl) (C.alloc zv23 rfl) (fun _ _ _ h => St.lean [1, 2] (by decide) (fun _ h => h) h rfl) (fun b30 hb30 => ?_)
                    refine Sd.all [7] (by kernel_rfl) (by decide) (all_cons ?_ all_nil)
                    refine Sp.callV (v := .tuple (List.toArray [.agg (List.toArray [.bool r29.1.ins, .bool r29.1.nl, .bool r29.1.ck, .bool r29.1.inv, .bool r29.1.org, .bool r29.1.aut, .bool r29.1.vis, .bool r29.1.paste, .bool r29.1.focus, .bool r29.1.sync, .bool r29.1.keypad, .int .i64 r29.1.mouse, .bool r29.1.sgr]), .bool r29.2])) rfl rfl rfl (Want.none rfl) (K.func rfl co14) (fun w hs => by rw [hr29]; exact rput_c r4 dec ((numsS n).getD k2 (0 : Int)) on w ) ?_
                    refine Sd.take 8 rfl rfl rfl (by kernel_rfl) (by kernel_rfl) (by kernel_rfl) Cut.panic (Want.none rfl) (Y.move rfl) ?_
                    refine Sd.take 9 rfl rfl rfl (by kernel_rfl) (by kernel_rfl) (by kernel_rfl) Cut.panic (Want.none rfl) (Y.extract rfl rfl) ?_
                    refine Sd.take 10 rfl rfl rfl (by kernel_rfl) (by kernel_rfl) (by kernel_rfl) Cut.panic (Want.none rfl) (Y.extract rfl rfl) ?_
                    refine Sd.all [12] (by kernel_rfl) (by decide) (all_cons ?_ all_nil)
                    refine Sp.chgs rfl rfl (Want.none rfl) (C.store (cs' := [.bool r29.1.ins, .bool r29.1.nl, .bool r29.1.ck, .bool r29.1.inv, .bool r29.1.org, .bool r29.1.aut, .bool r29.1.vis, .bool r29.1.paste, .bool r29.1.focus, .bool r29.1.sync, .bool r29.1.keypad, .int .i64 r29.1.mouse, .bool r29.1.sgr]) (vs := [.bool r29.1.ins, .bool r29.1.nl, .bool r29.1.ck, .bool r29.1.inv, .bool r29.1.org, .bool r29.1.aut, .bool r29.1.vis, .bool r29.1.paste, .bool r29.1.focus, .bool r29.1.sync, .bool r29.1.keypad, .int .i64 r29.1.mouse, .bool r29.1.sgr]) 0 rfl rfl rfl rfl rfl rfl rfl sz23) (fun _ _ _ h => St.lean [1, 2] (by decide) (fun _ h => h) h rfl) (fun _ _ => ?_)
                    refine Sd.take 13 rfl rfl rfl (by kernel_rfl) (by kernel_rfl) (by kernel_rfl) Cut.panic (Want.none rfl) (Y.assign rfl) ?_
                    refine Sd.done (by kernel_rfl) ?_
                    exact Sx.cut b30 hb30 ⟨rfl, rfl, rfl, rfl, rfl, rfl, rfl, rfl, rfl, rfl, rfl, rfl, trivial⟩ [0, 1, 2] (by decide) rfl (fun _ h => h)
                  · rintro b30 hb30
                    show Sx _ _ _ [(3, .bool dec), (4, .bool on), (11, .slice a2 ((numsS n).length) c3), (13, .pointer (some ⟨b22, 0, none⟩)), (14, .int .i64 (k2 : Int)), (15, .pointer (some ⟨b28, 0, none⟩)), (16, .bool r27.2.1), (17, .int .i64 r27.2.2), (18, .pointer (some ⟨b30, 0, none⟩)), (19, .bool r29.2), (25, .agg (List.toArray [.bool m.ins, .bool m.nl, .bool m.ck, .bool m.inv, .bool m.org, .bool m.aut, .bool m.vis, .bool m.paste, .bool m.focus, .bool m.sync, .bool m.keypad, .int .i64 m.mouse, .bool m.sgr, .bool r4.ins, .bool r4.nl, .bool r4.ck, .bool r4.inv, .bool r4.org, .bool r4.aut, .bool r4.vis, .bool r4.paste, .bool r4.focus, .bool r4.sync, .bool r4.keypad, .int .i64 r4.mouse, .bool r4.sgr])), (26, .int .i64 1)] [(some b30, .cells (List.toArray [.bool r29.1.ins, .bool r29.1.nl, .bool r29.1.ck, .bool r29.1.inv, .bool r29.1.org, .bool r29.1.aut, .bool r29.1.vis, .bool r29.1.paste, .bool r29.1.focus, .bool r29.1.sync, .bool r29.1.keypad, .int .i64 r29.1.mouse, .bool r29.1.sgr]) 23 (0, 0)), (some b28, .cells (List.toArray [.bool r27.1.ins, .bool r27.1.nl, .bool r27.1.ck, .bool r27.1.inv, .bool r27.1.org, .bool r27.1.aut, .bool r27.1.vis, .bool r27.1.paste, .bool r27.1.focus, .bool r27.1.sync, .bool r27.1.keypad, .int .i64 r27.1.mouse, .bool r27.1.sgr]) 23 (0, 0)), (some b22, .cells (List.toArray [.bool r4.ins, .bool r4.nl, .bool r4.ck, .bool r4.inv, .bool r4.org, .bool r4.aut, .bool r4.vis, .bool r4.paste, .bool r4.focus, .bool r4.sync, .bool r4.keypad, .int .i64 r4.mouse, .bool r4.sgr]) 23 (0, 0))] _
                    refine Sx.next ?_
                    refine Sc.seq ?_
                    refine Sc.seq ?_
                    refine Sc.region ?_
                    refine Seg.y rfl rfl (Want.none rfl) (Y.loadN (vs := [.bool r4.ins, .bool r4.nl, .bool r4.ck, .bool r4.inv, .bool r4.org, .bool r4.aut, .bool r4.vis, .bool r4.paste, .bool r4.focus, .bool r4.sync, .bool r4.keypad, .int .i64 r4.mouse, .bool r4.sgr]) 2 rfl rfl rfl rfl ag23 sz23) ?_
                    obtain ⟨r31, hr31⟩ : ∃ x, x = rightS r4 := ⟨_, rfl⟩
                    refine Seg.callV (v := .bool r31) rfl rfl (Want.none rfl) (K.func rfl co15) (fun w hs => by rw [hr31]; exact right_c r4 w ) ?_
                    refine Seg.y rfl rfl (Want.none rfl) (Y.unOp rfl (U.not _)) ?_
                    refine Seg.nil ?_
                    refine Sx.next ?_
                    refine Sc.cond rfl (fun h32 => ?_) (fun h32 => ?_)
                    · skip
                      have h32p : (r31) = false := by simpa using h32
                      refine Sc.seq ?_
                      refine Sc.seq ?_
                      refine Sc.cut (fun (_ : Unit) => True) (fun (_ : Unit) => [(3, .bool dec), (4, .bool on), (11, .slice a2 ((numsS n).length) c3), (13, .pointer (some ⟨b22, 0, none⟩)), (14, .int .i64 (k2 : Int)), (25, .agg (List.toArray [.bool m.ins, .bool m.nl, .bool m.ck, .bool m.inv, .bool m.org, .bool m.aut, .bool m.vis, .bool m.paste, .bool m.focus, .bool m.sync, .bool m.keypad, .int .i64 m.mouse, .bool m.sgr, .bool r4.ins, .bool r4.nl, .bool r4.ck, .bool r4.inv, .bool r4.org, .bool r4.aut, .bool r4.vis, .bool r4.paste, .bool r4.focus, .bool r4.sync, .bool r4.keypad, .int .i64 r4.mouse, .bool r4.sgr])), (26, .int .i64 1), (75, .bool (((decide (r27.2.2 ≠ 260)) || r27.2.1) || (!(MdEq r27.1 (⟨false, false, false, false, false, false, false, false, false, false, false, 0, false⟩ : Md)))))]) (fun (_ : Unit) => [(some b22, .cells (List.toArray [.bool r4.ins, .bool r4.nl, .bool r4.ck, .bool r4.inv, .bool r4.org, .bool r4.aut, .bool r4.vis, .bool r4.paste, .bool r4.focus, .bool r4.sync, .bool r4.keypad, .int .i64 r4.mouse, .bool r4.sgr]) 23 (0, 0))]) (fun _ => fun w => (True) ∧ RowV 1 encI a2 (numsS n) w) ?_ ?_
                      · skip
                        refine Sc.region ?_
                        refine Seg.y rfl rfl (Want.none rfl) (Y.move rfl) ?_
                        refine Seg.y rfl rfl (Want.none rfl) (Y.binOp rfl rfl (B.ne _ _ _)) ?_
                        refine Seg.y rfl rfl (Want.none rfl) (Y.move rfl) ?_
                        rcases Bool.eq_false_or_eq_true (decide (r27.2.2 ≠ 260)) with g33 | g33
                        · skip
                          have g33p := of_decide_eq_true g33
                          refine Seg.skip rfl rfl (Skip.some 2 68 false rfl rfl rfl g33) ?_
                          refine Seg.y rfl rfl (Want.none rfl) (Y.pickT rfl g33 rfl) ?_
                          refine Seg.y rfl rfl (Want.none rfl) (Y.move rfl) ?_
                          refine Seg.skip rfl rfl (Skip.some 5 71 false rfl rfl rfl rfl) ?_
                          refine Seg.skip rfl rfl (Skip.some 5 71 false rfl rfl rfl rfl) ?_
                          refine Seg.skip rfl rfl (Skip.some 5 71 false rfl rfl rfl rfl) ?_
                          refine Seg.y rfl rfl (Want.none rfl) (Y.pickT rfl rfl rfl) ?_
                          refine Seg.nil ?_
                          exact Sx.cut () trivial ⟨rfl, rfl, rfl, rfl, rfl, rfl, rfl, (someB (by first | (simp [h8, h8p, h9, h9p, h25, h25p, h26, h26p, h32, h32p, g33, g33p]; done) | (simp_all; done) | ((simp [h8, h8p, h9, h9p, h25, h25p, h26, h26p, h32, h32p, g33, g33p]) <;> grind))), trivial⟩ [2] (by decide) rfl (fun _ h => h)
                        · skip
                          have g33p : r27.2.2 = 260 := by simpa using g33
                          refine Seg.y rfl rfl (Want.some 2 68 false rfl rfl rfl g33) (Y.move rfl) ?_
                          refine Seg.y rfl rfl (Want.none rfl) (Y.pickF rfl g33 rfl) ?_
                          refine Seg.y rfl rfl (Want.none rfl) (Y.move rfl) ?_
                          rcases Bool.eq_false_or_eq_true (r27.2.1) with g34 | g34
                          · skip
                            refine Seg.skip rfl rfl (Skip.some 5 71 false rfl rfl rfl g34) ?_
                            refine Seg.skip rfl rfl (Skip.some 5 71 false rfl rfl rfl g34) ?_
                            refine Seg.skip rfl rfl (Skip.some 5 71 false rfl rfl rfl g34) ?_
                            refine Seg.y rfl rfl (Want.none rfl) (Y.pickT rfl g34 rfl) ?_
                            refine Seg.nil ?_
                            exact Sx.cut () trivial ⟨rfl, rfl, rfl, rfl, rfl, rfl, rfl, (someB (by first | (simp [h8, h8p, h9, h9p, h25, h25p, h26, h26p, h32, h32p, g33, g33p, g34]; done) | (simp_all; done) | ((simp [h8, h8p, h9, h9p, h25, h25p, h26, h26p, h32, h32p, g33, g33p, g34]) <;> grind))), trivial⟩ [2] (by decide) rfl (fun _ h => h)
                          · skip
                            refine Seg.y rfl rfl (Want.some 5 71 false rfl rfl rfl g34) (Y.loadN (vs := [.bool r27.1.ins, .bool r27.1.nl, .bool r27.1.ck, .bool r27.1.inv, .bool r27.1.org, .bool r27.1.aut, .bool r27.1.vis, .bool r27.1.paste, .bool r27.1.focus, .bool r27.1.sync, .bool r27.1.keypad, .int .i64 r27.1.mouse, .bool r27.1.sgr]) 1 rfl rfl rfl rfl ag23 sz23) ?_
                            refine Seg.y rfl rfl (Want.some 5 71 false rfl rfl rfl g34) (Y.build (v := .agg (List.toArray [.bool false, .bool false, .bool false, .bool false, .bool false, .bool false, .bool false, .bool false, .bool false, .bool false, .bool false, .int .i64 0, .bool false])) rfl (fun w => by kernel_rfl)) ?_
                            refine Seg.y rfl rfl (Want.some 5 71 false rfl rfl rfl g34) (Y.binOp rfl rfl (B.neS gq23 (Eqs.struct (n := 1) (b := MdEq r27.1 (⟨false, false, false, false, false, false, false, false, false, false, false, 0, false⟩ : Md)) Try.underlying23 sd23 (EqF.cons (b := r27.1.ins == false) rfl ag4 rfl rfl (Eqs.mono (m := 1) (Eqs.bool Try.underlying4) (by decide)) (EqF.cons (b := r27.1.nl == false) rfl ag4 rfl rfl (Eqs.mono (m := 1) (Eqs.bool Try.underlying4) (by decide)) (EqF.cons (b := r27.1.ck == false) rfl ag4 rfl rfl (Eqs.mono (m := 1) (Eqs.bool Try.underlying4) (by decide)) (EqF.cons (b := r27.1.inv == false) rfl ag4 rfl rfl (Eqs.mono (m := 1) (Eqs.bool Try.underlying4) (by decide)) (EqF.cons (b := r27.1.org == false) rfl ag4 rfl rfl (Eqs.mono (m := 1) (Eqs.bool Try.underlying4) (by decide)) (EqF.cons (b := r27.1.aut == false) rfl ag4 rfl rfl (Eqs.mono (m := 1) (Eqs.bool Try.underlying4) (by decide)) (EqF.cons (b := r27.1.vis == false) rfl ag4 rfl rfl (Eqs.mono (m := 1) (Eqs.bool Try.underlying4) (by decide)) (EqF.cons (b := r27.1.paste == false) rfl ag4 rfl rfl (Eqs.mono (m := 1) (Eqs.bool Try.underlying4) (by decide)) (EqF.cons (b := r27.1.focus == false) rfl ag4 rfl rfl (Eqs.mono (m := 1) (Eqs.bool Try.underlying4) (by decide)) (EqF.cons (b := r27.1.sync == false) rfl ag4 rfl rfl (Eqs.mono (m := 1) (Eqs.bool Try.underlying4) (by decide)) (EqF.cons (b := r27.1.keypad == false) rfl ag4 rfl rfl (Eqs.mono (m := 1) (Eqs.bool Try.underlying4) (by decide)) (EqF.cons (b := decide (r27.1.mouse = 0)) rfl ag3 rfl rfl (Eqs.mono (m := 1) (Eqs.int Try.underlying3) (by decide)) (EqF.cons (b := r27.1.sgr == false) rfl ag4 rfl rfl (Eqs.mono (m := 1) (Eqs.bool Try.underlying4) (by decide)) (EqF.nil))))))))))))))) rfl)) ?_
                            refine Seg.y rfl rfl (Want.none rfl) (Y.pickF rfl g34 rfl) ?_
                            refine Seg.nil ?_
                            exact Sx.cut () trivial ⟨rfl, rfl, rfl, rfl, rfl, rfl, rfl, (someB (by first | (simp [h8, h8p, h9, h9p, h25, h25p, h26, h26p, h32, h32p, g33, g33p, g34]; done) | (simp_all; done) | ((simp [h8, h8p, h9, h9p, h25, h25p, h26, h26p, h32, h32p, g33, g33p, g34]) <;> grind))), trivial⟩ [2] (by decide) rfl (fun _ h => h)
                      · intro _ _
                        show Sx _ _ _ [(3, .bool dec), (4, .bool on), (11, .slice a2 ((numsS n).length) c3), (13, .pointer (some ⟨b22, 0, none⟩)), (14, .int .i64 (k2 : Int)), (25, .agg (List.toArray [.bool m.ins, .bool m.nl, .bool m.ck, .bool m.inv, .bool m.org, .bool m.aut, .bool m.vis, .bool m.paste, .bool m.focus, .bool m.sync, .bool m.keypad, .int .i64 m.mouse, .bool m.sgr, .bool r4.ins, .bool r4.nl, .bool r4.ck, .bool r4.inv, .bool r4.org, .bool r4.aut, .bool r4.vis, .bool r4.paste, .bool r4.focus, .bool r4.sync, .bool r4.keypad, .int .i64 r4.mouse, .bool r4.sgr])), (26, .int .i64 1), (75, .bool (((decide (r27.2.2 ≠ 260)) || r27.2.1) || (!(MdEq r27.1 (⟨false, false, false, false, false, false, false, false, false, false, false, 0, false⟩ : Md)))))] [(some b22, .cells (List.toArray [.bool r4.ins, .bool r4.nl, .bool r4.ck, .bool r4.inv, .bool r4.org, .bool r4.aut, .bool r4.vis, .bool r4.paste, .bool r4.focus, .bool r4.sync, .bool r4.keypad, .int .i64 r4.mouse, .bool r4.sgr]) 23 (0, 0))] _
                        refine Sx.next ?_
                        refine Sc.cond rfl (fun h35 => ?_) (fun h35 => ?_)
                        · skip
                          refine Sc.seq ?_
                          refine Sc.region ?_
                          refine Seg.y rfl rfl (Want.none rfl) (Y.assign rfl) ?_
                          refine Seg.nil ?_
                          refine Sx.next ?_
                          refine Sc.ret ?_
                          refine Sx.next_ret ?_
                          refine Sx.next_ret ?_
                          refine Sx.block_ret ?_
                          refine Sx.next_ret ?_
                          refine Sx.loop_ret ?_
                          refine Sx.block_ret ?_
                          refine Sx.block_ret ?_
                          refine Sx.next_ret ?_
                          refine Sx.loop_ret ?_
                          refine Sx.block_ret ?_
                          refine Sx.next_ret ?_
                          refine Sx.body (.inl rfl) (res1 rfl (Rv.tmp rfl)) (fun w hs => ?_)
                          refine RetV.eq ?_ hs
                          subst hr4
                          subst hr6
                          subst hr7
                          subst hr23
                          subst hr24
                          subst hr27
                          subst hr29
                          subst hr31
                          exfalso; simp_all [putS, stateS, checkS, MdEq_self, MdEq_zero]; done
                        · skip
                          refine Sc.skip ?_
                          refine Sx.next ?_
                          refine Sc.exit ?_
                          refine Sx.next_exit ?_
                          refine Sx.block_exit ?_
                          refine Sx.next ?_
                          refine Sc.region ?_
                          refine Seg.y rfl rfl (Want.none rfl) (Y.move rfl) ?_
                          refine Seg.y rfl rfl (Want.none rfl) (Y.binOp rfl rfl (B.add _ _ _ ((k2 : Int) + 1) (wr_i64 (by omega)))) ?_
                          refine Seg.y rfl rfl (Want.none rfl) (Y.assign rfl) ?_
                          refine Seg.nil ?_
                          exact Sx.head (k2 + 1) (by first | omega | (simp at *; omega)) (by first | omega | (dsimp only; omega)) ⟨rfl, rfl, rfl, rfl, rfl, rfl, rfl, trivial⟩ [0] (by decide) rfl (fun _ h => h)
                    · skip
                      have h32p : (r31) = true := by simpa using h32
                      refine Sc.skip ?_
                      refine Sx.next ?_
                      refine Sc.seq ?_
                      refine Sc.cut (fun (_ : Unit) => True) (fun (_ : Unit) => [(3, .bool dec), (4, .bool on), (11, .slice a2 ((numsS n).length) c3), (13, .pointer (some ⟨b22, 0, none⟩)), (14, .int .i64 (k2 : Int)), (25, .agg (List.toArray [.bool m.ins, .bool m.nl, .bool m.ck, .bool m.inv, .bool m.org, .bool m.aut, .bool m.vis, .bool m.paste, .bool m.focus, .bool m.sync, .bool m.keypad, .int .i64 m.mouse, .bool m.sgr, .bool r4.ins, .bool r4.nl, .bool r4.ck, .bool r4.inv, .bool r4.org, .bool r4.aut, .bool r4.vis, .bool r4.paste, .bool r4.focus, .bool r4.sync, .bool r4.keypad, .int .i64 r4.mouse, .bool r4.sgr])), (26, .int .i64 1), (87, .bool (((decide (r27.2.2 ≠ 0)) || (!(MdEq r27.1 r29.1))) || (!(r27.2.1 == r29.2))))]) (fun (_ : Unit) => [(some b22, .cells (List.toArray [.bool r4.ins, .bool r4.nl, .bool r4.ck, .bool r4.inv, .bool r4.org, .bool r4.aut, .bool r4.vis, .bool r4.paste, .bool r4.focus, .bool r4.sync, .bool r4.keypad, .int .i64 r4.mouse, .bool r4.sgr]) 23 (0, 0))]) (fun _ => fun w => (True) ∧ RowV 1 encI a2 (numsS n) w) ?_ ?_
                      · skip
                        refine Sc.region ?_
                        refine Seg.y rfl rfl (Want.none rfl) (Y.move rfl) ?_
                        refine Seg.y rfl rfl (Want.none rfl) (Y.binOp rfl rfl (B.ne _ _ _)) ?_
                        refine Seg.y rfl rfl (Want.none rfl) (Y.move rfl) ?_
                        rcases Bool.eq_false_or_eq_true (decide (r27.2.2 ≠ 0)) with g36 | g36
                        · skip
                          have g36p := of_decide_eq_true g36
                          refine Seg.skip rfl rfl (Skip.some 2 78 false rfl rfl rfl g36) ?_
                          refine Seg.skip rfl rfl (Skip.some 2 78 false rfl rfl rfl g36) ?_
                          refine Seg.skip rfl rfl (Skip.some 2 78 false rfl rfl rfl g36) ?_
                          refine Seg.y rfl rfl (Want.none rfl) (Y.pickT rfl g36 rfl) ?_
                          refine Seg.y rfl rfl (Want.none rfl) (Y.move rfl) ?_
                          refine Seg.skip rfl rfl (Skip.some 7 83 false rfl rfl rfl rfl) ?_
                          refine Seg.skip rfl rfl (Skip.some 7 83 false rfl rfl rfl rfl) ?_
                          refine Seg.skip rfl rfl (Skip.some 7 83 false rfl rfl rfl rfl) ?_
                          refine Seg.y rfl rfl (Want.none rfl) (Y.pickT rfl rfl rfl) ?_
                          refine Seg.nil ?_
                          exact Sx.cut () trivial ⟨rfl, rfl, rfl, rfl, rfl, rfl, rfl, (someB (by first | (simp [h8, h8p, h9, h9p, h25, h25p, h26, h26p, h32, h32p, g36, g36p]; done) | (simp_all; done) | ((simp [h8, h8p, h9, h9p, h25, h25p, h26, h26p, h32, h32p, g36, g36p]) <;> grind))), trivial⟩ [2] (by decide) rfl (fun _ h => h)
                        · skip
                          have g36p : r27.2.2 = 0 := by simpa using g36
                          refine Seg.y rfl rfl (Want.some 2 78 false rfl rfl rfl g36) (Y.loadN (vs := [.bool r27.1.ins, .bool r27.1.nl, .bool r27.1.ck, .bool r27.1.inv, .bool r27.1.org, .bool r27.1.aut, .bool r27.1.vis, .bool r27.1.paste, .bool r27.1.focus, .bool r27.1.sync, .bool r27.1.keypad, .int .i64 r27.1.mouse, .bool r27.1.sgr]) 1 rfl rfl rfl rfl ag23 sz23) ?_
                          refine Seg.y rfl rfl (Want.some 2 78 false rfl rfl rfl g36) (Y.loadN (vs := [.bool r29.1.ins, .bool r29.1.nl, .bool r29.1.ck, .bool r29.1.inv, .bool r29.1.org, .bool r29.1.aut, .bool r29.1.vis, .bool r29.1.paste, .bool r29.1.focus, .bool r29.1.sync, .bool r29.1.keypad, .int .i64 r29.1.mouse, .bool r29.1.sgr]) 0 rfl rfl rfl rfl ag23 sz23) ?_
                          refine Seg.y rfl rfl (Want.some 2 78 false rfl rfl rfl g36) (Y.binOp rfl rfl (B.neS gq23 (Eqs.struct (n := 1) (b := MdEq r27.1 r29.1) Try.underlying23 sd23 (EqF.cons (b := r27.1.ins == r29.1.ins) rfl ag4 rfl rfl (Eqs.mono (m := 1) (Eqs.bool Try.underlying4) (by decide)) (EqF.cons (b := r27.1.nl == r29.1.nl) rfl ag4 rfl rfl (Eqs.mono (m := 1) (Eqs.bool Try.underlying4) (by decide)) (EqF.cons (b := r27.1.ck == r29.1.ck) rfl ag4 rfl rfl (Eqs.mono (m := 1) (Eqs.bool Try.underlying4) (by decide)) (EqF.cons (b := r27.1.inv == r29.1.inv) rfl ag4 rfl rfl (Eqs.mono (m := 1) (Eqs.bool Try.underlying4) (by decide)) (EqF.cons (b := r27.1.org == r29.1.org) rfl ag4 rfl rfl (Eqs.mono (m := 1) (Eqs.bool Try.underlying4) (by decide)) (EqF.cons (b := r27.1.aut == r29.1.aut) rfl ag4 rfl rfl (Eqs.mono (m := 1) (Eqs.bool Try.underlying4) (by decide)) (EqF.cons (b := r27.1.vis == r29.1.vis) rfl ag4 rfl rfl (Eqs.mono (m := 1) (Eqs.bool Try.underlying4) (by decide)) (EqF.cons (b := r27.1.paste == r29.1.paste) rfl ag4 rfl rfl (Eqs.mono (m := 1) (Eqs.bool Try.underlying4) (by decide)) (EqF.cons (b := r27.1.focus == r29.1.focus) rfl ag4 rfl rfl (Eqs.mono (m := 1) (Eqs.bool Try.underlying4) (by decide)) (EqF.cons (b := r27.1.sync == r29.1.sync) rfl ag4 rfl rfl (Eqs.mono (m := 1) (Eqs.bool Try.underlying4) (by decide)) (EqF.cons (b := r27.1.keypad == r29.1.keypad) rfl ag4 rfl rfl (Eqs.mono (m := 1) (Eqs.bool Try.underlying4) (by decide)) (EqF.cons (b := decide (r27.1.mouse = r29.1.mouse)) rfl ag3 rfl rfl (Eqs.mono (m := 1) (Eqs.int Try.underlying3) (by decide)) (EqF.cons (b := r27.1.sgr == r29.1.sgr) rfl ag4 rfl rfl (Eqs.mono (m := 1) (Eqs.bool Try.underlying4) (by decide)) (EqF.nil))))))))))))))) rfl)) ?_
                          refine Seg.y rfl rfl (Want.none rfl) (Y.pickF rfl g36 rfl) ?_
                          refine Seg.y rfl rfl (Want.none rfl) (Y.move rfl) ?_
                          rcases Bool.eq_false_or_eq_true (!(MdEq r27.1 r29.1)) with g37 | g37
                          · skip
                            have g37p : (MdEq r27.1 r29.1) = false := by simpa using g37
                            refine Seg.skip rfl rfl (Skip.some 7 83 false rfl rfl rfl g37) ?_
                            refine Seg.skip rfl rfl (Skip.some 7 83 false rfl rfl rfl g37) ?_
                            refine Seg.skip rfl rfl (Skip.some 7 83 false rfl rfl rfl g37) ?_
                            refine Seg.y rfl rfl (Want.none rfl) (Y.pickT rfl g37 rfl) ?_
                            refine Seg.nil ?_
                            exact Sx.cut () trivial ⟨rfl, rfl, rfl, rfl, rfl, rfl, rfl, (someB (by first | (simp [h8, h8p, h9, h9p, h25, h25p, h26, h26p, h32, h32p, g36, g36p, g37, g37p]; done) | (simp_all; done) | ((simp [h8, h8p, h9, h9p, h25, h25p, h26, h26p, h32, h32p, g36, g36p, g37, g37p]) <;> grind))), trivial⟩ [2] (by decide) rfl (fun _ h => h)
                          · skip
                            have g37p : (MdEq r27.1 r29.1) = true := by simpa using g37
                            refine Seg.y rfl rfl (Want.some 7 83 false rfl rfl rfl g37) (Y.move rfl) ?_
                            refine Seg.y rfl rfl (Want.some 7 83 false rfl rfl rfl g37) (Y.move rfl) ?_
                            refine Seg.y rfl rfl (Want.some 7 83 false rfl rfl rfl g37) (Y.binOp rfl rfl (B.neB _ _ Try.underlying4)) ?_
                            refine Seg.y rfl rfl (Want.none rfl) (Y.pickF rfl g37 rfl) ?_
                            refine Seg.nil ?_
                            exact Sx.cut () trivial ⟨rfl, rfl, rfl, rfl, rfl, rfl, rfl, (someB (by first | (simp [h8, h8p, h9, h9p, h25, h25p, h26, h26p, h32, h32p, g36, g36p, g37, g37p]; done) | (simp_all; done) | ((simp [h8, h8p, h9, h9p, h25, h25p, h26, h26p, h32, h32p, g36, g36p, g37, g37p]) <;> grind))), trivial⟩ [2] (by decide) rfl (fun _ h => h)
                      · intro _ _
                        show Sx _ _ _ [(3, .bool dec), (4, .bool on), (11, .slice a2 ((numsS n).length) c3), (13, .pointer (some ⟨b22, 0, none⟩)), (14, .int .i64 (k2 : Int)), (25, .agg (List.toArray [.bool m.ins, .bool m.nl, .bool m.ck, .bool m.inv, .bool m.org, .bool m.aut, .bool m.vis, .bool m.paste, .bool m.focus, .bool m.sync, .bool m.keypad, .int .i64 m.mouse, .bool m.sgr, .bool r4.ins, .bool r4.nl, .bool r4.ck, .bool r4.inv, .bool r4.org, .bool r4.aut, .bool r4.vis, .bool r4.paste, .bool r4.focus, .bool r4.sync, .bool r4.keypad, .int .i64 r4.mouse, .bool r4.sgr])), (26, .int .i64 1), (87, .bool (((decide (r27.2.2 ≠ 0)) || (!(MdEq r27.1 r29.1))) || (!(r27.2.1 == r29.2))))] [(some b22, .cells (List.toArray [.bool r4.ins, .bool r4.nl, .bool r4.ck, .bool r4.inv, .bool r4.org, .bool r4.aut, .bool r4.vis, .bool r4.paste, .bool r4.focus, .bool r4.sync, .bool r4.keypad, .int .i64 r4.mouse, .bool r4.sgr]) 23 (0, 0))] _
                        refine Sx.next ?_
                        refine Sc.cond rfl (fun h38 => ?_) (fun h38 => ?_)
                        · skip
                          refine Sc.seq ?_
                          refine Sc.region ?_
                          refine Seg.y rfl rfl (Want.none rfl) (Y.assign rfl) ?_
                          refine Seg.nil ?_
                          refine Sx.next ?_
                          refine Sc.ret ?_
                          refine Sx.block_ret ?_
                          refine Sx.next_ret ?_
                          refine Sx.loop_ret ?_
                          refine Sx.block_ret ?_
                          refine Sx.block_ret ?_
                          refine Sx.next_ret ?_
                          refine Sx.loop_ret ?_
                          refine Sx.block_ret ?_
                          refine Sx.next_ret ?_
                          refine Sx.body (.inl rfl) (res1 rfl (Rv.tmp rfl)) (fun w hs => ?_)
                          refine RetV.eq ?_ hs
                          subst hr4
                          subst hr6
                          subst hr7
                          subst hr23
                          subst hr24
                          subst hr27
                          subst hr29
                          subst hr31
                          exfalso; simp_all [putS, stateS, checkS, MdEq_self, MdEq_zero]; done
                        · skip
                          refine Sc.skip ?_
                          refine Sx.block_normal ?_
                          refine Sx.next ?_
                          refine Sc.region ?_
                          refine Seg.y rfl rfl (Want.none rfl) (Y.move rfl) ?_
                          refine Seg.y rfl rfl (Want.none rfl) (Y.binOp rfl rfl (B.add _ _ _ ((k2 : Int) + 1) (wr_i64 (by omega)))) ?_
                          refine Seg.y rfl rfl (Want.none rfl) (Y.assign rfl) ?_
                          refine Seg.nil ?_
                          exact Sx.head (k2 + 1) (by first | omega | (simp at *; omega)) (by first | omega | (dsimp only; omega)) ⟨rfl, rfl, rfl, rfl, rfl, rfl, rfl, trivial⟩ [0] (by decide) rfl (fun _ h => h)
              · skip
                have h26p := of_decide_eq_false h26
                refine Sc.exit ?_
                refine Sx.next_exit ?_
                refine Sx.loop_exit ?_
                refine Sx.block_exit ?_
                refine Sx.block_normal ?_
                refine Sx.next ?_
                refine Sc.region ?_
                refine Seg.y rfl rfl (Want.none rfl) (Y.binOp rfl rfl (B.add _ _ _ 2 (by decide))) ?_
                refine Seg.y rfl rfl (Want.none rfl) (Y.move rfl) ?_
                refine Seg.nil ?_
                refine Sx.round ?_
                refine Sr.succ ?_
                refine Sc.seq ?_
                refine Sc.region ?_
                refine Seg.y rfl rfl (Want.none rfl) (Y.binOp (v := .bool false) rfl rfl (B.lt _ _ _)) ?_
                refine Seg.nil ?_
                refine Sx.next ?_
                refine Sc.seq ?_
                refine Sc.condF rfl rfl ?_
                refine Sc.exit ?_
                refine Sx.next_exit ?_
                refine Sx.loop_exit ?_
                refine Sx.block_exit ?_
                refine Sx.next ?_
                refine Sc.seq ?_
                refine Sc.region ?_
                refine Seg.callV (v := .bool true) rfl rfl (Want.none rfl) (K.func rfl co16) (fun w hs => works_c  w ) ?_
                refine Seg.y rfl rfl (Want.none rfl) (Y.move rfl) ?_
                refine Seg.callV (v := .agg (List.toArray [.bool newS.ins, .bool newS.nl, .bool newS.ck, .bool newS.inv, .bool newS.org, .bool newS.aut, .bool newS.vis, .bool newS.paste, .bool newS.focus, .bool newS.sync, .bool newS.keypad, .int .i64 newS.mouse, .bool newS.sgr])) rfl rfl (Want.some 1 90 true rfl rfl rfl rfl) (K.func rfl co17) (fun w hs => new_c  w ) ?_
                refine Seg.callV (v := .agg (List.toArray [.bool newS.ins, .bool newS.nl, .bool newS.ck, .bool newS.inv, .bool newS.org, .bool newS.aut, .bool newS.vis, .bool newS.paste, .bool newS.focus, .bool newS.sync, .bool newS.keypad, .int .i64 newS.mouse, .bool newS.sgr])) rfl rfl (Want.some 1 90 true rfl rfl rfl rfl) (K.func rfl co18) (fun w hs => rnew_c  w ) ?_
                refine Seg.y rfl rfl (Want.some 1 90 true rfl rfl rfl rfl) (Y.binOp rfl rfl (B.eqS gq23 (Eqs.struct (n := 1) (b := MdEq newS newS) Try.underlying23 sd23 (EqF.cons (b := newS.ins == newS.ins) rfl ag4 rfl rfl (Eqs.mono (m := 1) (Eqs.bool Try.underlying4) (by decide)) (EqF.cons (b := newS.nl == newS.nl) rfl ag4 rfl rfl (Eqs.mono (m := 1) (Eqs.bool Try.underlying4) (by decide)) (EqF.cons (b := newS.ck == newS.ck) rfl ag4 rfl rfl (Eqs.mono (m := 1) (Eqs.bool Try.underlying4) (by decide)) (EqF.cons (b := newS.inv == newS.inv) rfl ag4 rfl rfl (Eqs.mono (m := 1) (Eqs.bool Try.underlying4) (by decide)) (EqF.cons (b := newS.org == newS.org) rfl ag4 rfl rfl (Eqs.mono (m := 1) (Eqs.bool Try.underlying4) (by decide)) (EqF.cons (b := newS.aut == newS.aut) rfl ag4 rfl rfl (Eqs.mono (m := 1) (Eqs.bool Try.underlying4) (by decide)) (EqF.cons (b := newS.vis == newS.vis) rfl ag4 rfl rfl (Eqs.mono (m := 1) (Eqs.bool Try.underlying4) (by decide)) (EqF.cons (b := newS.paste == newS.paste) rfl ag4 rfl rfl (Eqs.mono (m := 1) (Eqs.bool Try.underlying4) (by decide)) (EqF.cons (b := newS.focus == newS.focus) rfl ag4 rfl rfl (Eqs.mono (m := 1) (Eqs.bool Try.underlying4) (by decide)) (EqF.cons (b := newS.sync == newS.sync) rfl ag4 rfl rfl (Eqs.mono (m := 1) (Eqs.bool Try.underlying4) (by decide)) (EqF.cons (b := newS.keypad == newS.keypad) rfl ag4 rfl rfl (Eqs.mono (m := 1) (Eqs.bool Try.underlying4) (by decide)) (EqF.cons (b := decide (newS.mouse = newS.mouse)) rfl ag3 rfl rfl (Eqs.mono (m := 1) (Eqs.int Try.underlying3) (by decide)) (EqF.cons (b := newS.sgr == newS.sgr) rfl ag4 rfl rfl (Eqs.mono (m := 1) (Eqs.bool Try.underlying4) (by decide)) (EqF.nil))))))))))))))) rfl)) ?_
                refine Seg.y rfl rfl (Want.none rfl) (Y.pickT rfl rfl rfl) ?_
                refine Seg.y rfl rfl (Want.none rfl) (Y.assign rfl) ?_
                refine Seg.nil ?_
                refine Sx.next ?_
                refine Sc.ret ?_
                refine Sx.body (.inl rfl) (res1 rfl (Rv.tmp rfl)) (fun w hs => ?_)
                refine RetV.eq ?_ hs
                subst hr4
                subst hr6
                subst hr7
                subst hr23
                subst hr24
                exact congrArg Value.bool (by first | decide +kernel | (simp_all [putS, stateS, checkS, MdEq_self, MdEq_zero]; done))
end Go.Proofs.Ythmigjicibhheaa
