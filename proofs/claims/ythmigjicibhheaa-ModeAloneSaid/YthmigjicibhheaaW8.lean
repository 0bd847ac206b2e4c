/- What the functions of the program and of the reference come to: one theorem a function (part 8). -/
import Derived.Test.YthmigjicibhheaaW7
namespace Go.Proofs.Ythmigjicibhheaa
open Go Go.RowKit Go.Eng
set_option maxRecDepth 100000
set_option linter.unusedVariables false
set_option linter.unusedSimpArgs false
def ractG (m : Md) (dec : Bool) (n : Int) : List Ac :=
  if rstateS m dec n false = rstateS newS dec n false then [] else [⟨if dec then 37 else 36, n, 2 - rstateS m dec n false, ⟨0, 0⟩, ByteArray.empty⟩]
def ractsTo (m : Md) (dec : Bool) (k : Nat) : List Ac := ((numbersS dec).take k).flatMap (ractG m dec)
def ractionsS (m : Md) : List Ac := ractsTo m false 2 ++ ractsTo m true 13 ++ (if m.keypad then [⟨14, 1, 0, ⟨0, 0⟩, ByteArray.empty⟩] else [])
theorem ract_step (m : Md) (dec : Bool) (k : Nat) (h : k < (numbersS dec).length) : ractsTo m dec (k + 1) = ractsTo m dec k ++ ractG m dec ((numbersS dec).getD k 0) := by
  unfold ractsTo
  rw [List.take_succ_eq_append_getElem h, List.flatMap_append]
  simp [List.getD_eq_getElem?_getD, h]

set_option maxHeartbeats 4000000 in
theorem ractions_c (m : Md) (Dc : List Nat) (w : World) (hD : ∀ k ∈ Dc, k < w.heap.size)  :
    Calls Try.prog 23 #[.agg (List.toArray [.bool m.ins, .bool m.nl, .bool m.ck, .bool m.inv, .bool m.org, .bool m.aut, .bool m.vis, .bool m.paste, .bool m.focus, .bool m.sync, .bool m.keypad, .int .i64 m.mouse, .bool m.sgr])] w (Ret Dc [] w (fun ((y0, y1) : Option Addr × Nat) => .slice y0 ((ractionsS m).length) y1) (fun ((y0, y1) : Option Addr × Nat) => fun w => RowV 6 encAc y0 (ractionsS m) w)) := by
  refine enter (F := fun w => True) Dc Try.func23 rfl Try.ntmps23 hD Fut.triv rfl ?_
  refine Sc.seq ?_
  refine Sc.region ?_
  refine Seg.chg rfl rfl (Want.none rfl) (C.box rfl) (fun b1 hb1 => ?_)
  refine Seg.y rfl rfl (Want.none rfl) (Y.assign rfl) ?_
  refine Seg.nil ?_
  refine Sx.next ?_
  refine Sc.seq ?_
  refine Sc.region ?_
  refine Seg.y rfl rfl (Want.none rfl) (Y.assign rfl) ?_
  refine Seg.nil ?_
  refine Sx.next ?_
  refine Sc.seq ?_
  refine Sc.seq ?_
  refine Sc.region ?_
  refine Seg.y rfl rfl (Want.none rfl) (Y.build (v := .agg (List.toArray [.bool false, .bool true])) rfl (fun w => by kernel_rfl)) ?_
  refine Seg.y rfl rfl (Want.none rfl) (Y.move rfl) ?_
  refine Seg.nil ?_
  refine Sx.next ?_
  refine Sc.block ?_
  refine Sc.rounds 3 ?_
  refine Sr.succ ?_
  refine Sc.seq ?_
  refine Sc.region ?_
  refine Seg.y rfl rfl (Want.none rfl) (Y.binOp (v := .bool true) rfl rfl (B.lt _ _ _)) ?_
  refine Seg.nil ?_
  refine Sx.next ?_
  refine Sc.seq ?_
  refine Sc.condT rfl rfl ?_
  refine Sc.skip ?_
  refine Sx.next ?_
  refine Sc.seq ?_
  refine Sc.block ?_
  refine Sc.seq ?_
  refine Sc.region ?_
  refine Seg.y rfl rfl (Want.none rfl) (Y.index (v := .bool false) rfl rfl (fun w => by kernel_rfl)) ?_
  refine Seg.y rfl rfl (Want.none rfl) (Y.assign rfl) ?_
  refine Seg.nil ?_
  refine Sx.next ?_
  refine Sc.seq ?_
  refine Sc.region ?_
  refine Seg.y rfl rfl (Want.none rfl) (Y.move rfl) ?_
  refine Seg.callR (val := fun ((a2, c3) : Option Addr × Nat) => .slice a2 ((numbersS false).length) c3) (Φ := fun ((a2, c3) : Option Addr × Nat) => fun w => RowV 1 encI a2 (numbersS false) w) rfl rfl (Want.none rfl) (K.func rfl co25) (fun w hs => numbers_c false _ w hs.dc_lt   ) (fun ⟨a2, c3⟩ => ?_)
  refine Seg.y rfl rfl (Want.none rfl) (Y.assign rfl) ?_
  refine Seg.nil ?_
  refine Sx.next ?_
  refine Sc.seq ?_
  refine Sc.region ?_
  refine Seg.y rfl rfl (Want.none rfl) (Y.assign rfl) ?_
  refine Seg.nil ?_
  refine Sx.next ?_
  refine Sc.block ?_
  refine Sc.ghost (.cells (List.toArray []) 53 (0, 0)) ?_
  refine Sc.loop (fun ((k0, obf, frf, spf) : Nat × Option Nat × Nat × List Value) => k0 ≤ (numbersS false).length ∧ ([] ++ ractsTo m false k0).length ≤ 0 + k0 ∧ App w 6 ([] ++ ractsTo m false k0).length (obf, frf, spf)) (fun ((k0, obf, frf, spf) : Nat × Option Nat × Nat × List Value) => (numbersS false).length - k0) (fun ((k0, obf, frf, spf) : Nat × Option Nat × Nat × List Value) => [(1, .pointer (some ⟨b1, 0, none⟩)), (3, .slice (obf.map mkA) (([] ++ ractsTo m false k0).length) (([] ++ ractsTo m false k0).length + frf)), (5, .bool false), (6, .slice a2 ((numbersS false).length) c3), (7, .int .i64 (k0 : Int)), (10, .agg (List.toArray [.bool false, .bool true])), (11, .int .i64 0)]) (fun ((k0, obf, frf, spf) : Nat × Option Nat × Nat × List Value) => [(obf, .cells (List.toArray (List.flatMap encAc ([] ++ ractsTo m false k0) ++ spf)) 53 (0, 0)), (some b1, .cells (List.toArray [.bool m.ins, .bool m.nl, .bool m.ck, .bool m.inv, .bool m.org, .bool m.aut, .bool m.vis, .bool m.paste, .bool m.focus, .bool m.sync, .bool m.keypad, .int .i64 m.mouse, .bool m.sgr]) 23 (0, 0))]) (fun ((k0, obf, frf, spf) : Nat × Option Nat × Nat × List Value) => fun w => (True) ∧ RowV 1 encI a2 (numbersS false) w) (0, none, 0, []) ⟨Nat.zero_le _, by simp [ractsTo], by rw [show [] ++ ractsTo m false 0 = [] from by simp [ractsTo]]; exact (App.nil _ _)⟩ (by exact ⟨rfl, (someV (by (rw [show [] ++ ractsTo m false 0 = [] from by simp [ractsTo]]) <;> rfl)), rfl, rfl, rfl, rfl, rfl, trivial⟩) [0, 1] (by decide) (by dsimp only; (rw [show [] ++ ractsTo m false 0 = [] from by simp [ractsTo]]) <;> rfl) (fun _ h => h) ?_
  rintro ⟨k0, obf, frf, spf⟩ hJ1
  obtain ⟨hkk0, hlenk0, hAf⟩ := hJ1
  have hnk0 : (numbersS false).length = 2 := rfl
  show Sc _ _ _ _ [(1, .pointer (some ⟨b1, 0, none⟩)), (3, .slice (obf.map mkA) (([] ++ ractsTo m false k0).length) (([] ++ ractsTo m false k0).length + frf)), (5, .bool false), (6, .slice a2 ((numbersS false).length) c3), (7, .int .i64 (k0 : Int)), (10, .agg (List.toArray [.bool false, .bool true])), (11, .int .i64 0)] [(obf, .cells (List.toArray (List.flatMap encAc ([] ++ ractsTo m false k0) ++ spf)) 53 (0, 0)), (some b1, .cells (List.toArray [.bool m.ins, .bool m.nl, .bool m.ck, .bool m.inv, .bool m.org, .bool m.aut, .bool m.vis, .bool m.paste, .bool m.focus, .bool m.sync, .bool m.keypad, .int .i64 m.mouse, .bool m.sgr]) 23 (0, 0))] (fun w => (True) ∧ RowV 1 encI a2 (numbersS false) w)
  refine Sc.seq ?_
  refine Sc.seq ?_
  refine Sc.region ?_
  refine Seg.y rfl rfl (Want.none rfl) (Y.move rfl) ?_
  refine Seg.y rfl rfl (Want.none rfl) (Y.move rfl) ?_
  refine Seg.y rfl rfl (Want.none rfl) (Y.bi rfl (fun w _ => run_len rfl Try.underlying25 w)) ?_
  refine Seg.y rfl rfl (Want.none rfl) (Y.binOp rfl rfl (B.lt _ _ _)) ?_
  refine Seg.nil ?_
  refine Sx.next ?_
  refine Sc.cond rfl (fun h4 => ?_) (fun h4 => ?_)
  · skip
    have h4p := of_decide_eq_true h4
    refine Sc.skip ?_
    refine Sx.next ?_
    refine Sc.seq ?_
    refine Sc.block ?_
    refine Sc.seq ?_
    obtain ⟨r5, hr5⟩ : ∃ x, x = rstateS m false ((numbersS false).getD k0 (0 : Int)) false := ⟨_, rfl⟩
    have hbr5 : 0 ≤ r5 ∧ r5 ≤ 2 := by rw [hr5]; exact rstate_bd _ _ _ _
    refine Sc.cut (fun (_ : Unit) => True) (fun (_ : Unit) => [(1, .pointer (some ⟨b1, 0, none⟩)), (3, .slice (obf.map mkA) (([] ++ ractsTo m false k0).length) (([] ++ ractsTo m false k0).length + frf)), (5, .bool false), (6, .slice a2 ((numbersS false).length) c3), (7, .int .i64 (k0 : Int)), (8, .int .i64 r5), (10, .agg (List.toArray [.bool false, .bool true])), (11, .int .i64 0)]) (fun (_ : Unit) => [(obf, .cells (List.toArray (List.flatMap encAc ([] ++ ractsTo m false k0) ++ spf)) 53 (0, 0)), (some b1, .cells (List.toArray [.bool m.ins, .bool m.nl, .bool m.ck, .bool m.inv, .bool m.org, .bool m.aut, .bool m.vis, .bool m.paste, .bool m.focus, .bool m.sync, .bool m.keypad, .int .i64 m.mouse, .bool m.sgr]) 23 (0, 0))]) (fun _ => fun w => (True) ∧ RowV 1 encI a2 (numbersS false) w) ?_ ?_
    · skip
      refine Sc.draw (by kernel_rfl) (fun _ h => St.lean [0, 1] (by decide) (fun _ h => h) h rfl) ?_
      refine Sd.take 0 rfl rfl rfl (by kernel_rfl) (by kernel_rfl) (by kernel_rfl) Cut.panic (Want.none rfl) (Y.loadN (vs := [.bool m.ins, .bool m.nl, .bool m.ck, .bool m.inv, .bool m.org, .bool m.aut, .bool m.vis, .bool m.paste, .bool m.focus, .bool m.sync, .bool m.keypad, .int .i64 m.mouse, .bool m.sgr]) 1 rfl rfl rfl rfl ag23 sz23) ?_
      refine Sd.take 1 rfl rfl rfl (by kernel_rfl) (by kernel_rfl) (by kernel_rfl) Cut.panic (Want.none rfl) (Y.move rfl) ?_
      refine Sd.take 2 rfl rfl rfl (by kernel_rfl) (by kernel_rfl) (by kernel_rfl) Cut.panic (Want.none rfl) (Y.move rfl) ?_
      refine Sd.take 3 rfl rfl rfl (by kernel_rfl) (by kernel_rfl) (by kernel_rfl) Cut.panic (Want.none rfl) (Y.move rfl) ?_
      refine Sd.take 4 rfl rfl rfl (by kernel_rfl) (by kernel_rfl) (by kernel_rfl) Cut.panic (Want.none rfl) (Y.elemAddr rfl rfl Try.underlying25 sz3 (fun w h => ((h.2) k0 _ (getD_some (0 : Int) (by omega))).1) (by omega) (by omega) (by simp : (sadr a2).off + ((k0 : Int)).toNat * 1 = (sadr a2).off + k0 * 1)) ?_
      refine Sd.take 5 rfl rfl rfl (by kernel_rfl) (by kernel_rfl) (by kernel_rfl) Cut.panic (Want.none rfl) (Y.loadF1 rfl ag3 (fun w h => ((h.2) k0 _ (getD_some (0 : Int) (by omega))).2 0 _ rfl)) ?_
      refine Sd.all [6] (by kernel_rfl) (by decide) (all_cons ?_ all_nil)
      refine Sp.callV (v := .int .i64 r5) rfl rfl rfl (Want.none rfl) (K.func rfl co20) (fun w hs => by rw [hr5]; exact rstate_c m false ((numbersS false).getD k0 (0 : Int)) false w ) ?_
      refine Sd.take 7 rfl rfl rfl (by kernel_rfl) (by kernel_rfl) (by kernel_rfl) Cut.panic (Want.none rfl) (Y.assign rfl) ?_
      refine Sd.done (by kernel_rfl) ?_
      exact Sx.cut () trivial ⟨rfl, rfl, rfl, rfl, rfl, rfl, rfl, rfl, trivial⟩ [0, 1] (by decide) rfl (fun _ h => h)
    · intro _ _
      show Sx _ _ _ [(1, .pointer (some ⟨b1, 0, none⟩)), (3, .slice (obf.map mkA) (([] ++ ractsTo m false k0).length) (([] ++ ractsTo m false k0).length + frf)), (5, .bool false), (6, .slice a2 ((numbersS false).length) c3), (7, .int .i64 (k0 : Int)), (8, .int .i64 r5), (10, .agg (List.toArray [.bool false, .bool true])), (11, .int .i64 0)] [(obf, .cells (List.toArray (List.flatMap encAc ([] ++ ractsTo m false k0) ++ spf)) 53 (0, 0)), (some b1, .cells (List.toArray [.bool m.ins, .bool m.nl, .bool m.ck, .bool m.inv, .bool m.org, .bool m.aut, .bool m.vis, .bool m.paste, .bool m.focus, .bool m.sync, .bool m.keypad, .int .i64 m.mouse, .bool m.sgr]) 23 (0, 0))] _
      refine Sx.next ?_
      refine Sc.seq ?_
      refine Sc.seq ?_
      obtain ⟨r6, hr6⟩ : ∃ x, x = rstateS newS false ((numbersS false).getD k0 (0 : Int)) false := ⟨_, rfl⟩
      have hbr6 : 0 ≤ r6 ∧ r6 ≤ 2 := by rw [hr6]; exact rstate_bd _ _ _ _
      refine Sc.cut (fun (_ : Unit) => True) (fun (_ : Unit) => [(1, .pointer (some ⟨b1, 0, none⟩)), (3, .slice (obf.map mkA) (([] ++ ractsTo m false k0).length) (([] ++ ractsTo m false k0).length + frf)), (5, .bool false), (6, .slice a2 ((numbersS false).length) c3), (7, .int .i64 (k0 : Int)), (8, .int .i64 r5), (10, .agg (List.toArray [.bool false, .bool true])), (11, .int .i64 0), (37, .bool (decide (r5 = r6)))]) (fun (_ : Unit) => [(obf, .cells (List.toArray (List.flatMap encAc ([] ++ ractsTo m false k0) ++ spf)) 53 (0, 0)), (some b1, .cells (List.toArray [.bool m.ins, .bool m.nl, .bool m.ck, .bool m.inv, .bool m.org, .bool m.aut, .bool m.vis, .bool m.paste, .bool m.focus, .bool m.sync, .bool m.keypad, .int .i64 m.mouse, .bool m.sgr]) 23 (0, 0))]) (fun _ => fun w => (True) ∧ RowV 1 encI a2 (numbersS false) w) ?_ ?_
      · skip
        refine Sc.draw (by kernel_rfl) (fun _ h => St.lean [0, 1] (by decide) (fun _ h => h) h rfl) ?_
        refine Sd.take 0 rfl rfl rfl (by kernel_rfl) (by kernel_rfl) (by kernel_rfl) Cut.panic (Want.none rfl) (Y.move rfl) ?_
        refine Sd.take 2 rfl rfl rfl (by kernel_rfl) (by kernel_rfl) (by kernel_rfl) Cut.panic (Want.none rfl) (Y.move rfl) ?_
        refine Sd.take 3 rfl rfl rfl (by kernel_rfl) (by kernel_rfl) (by kernel_rfl) Cut.panic (Want.none rfl) (Y.move rfl) ?_
        refine Sd.take 4 rfl rfl rfl (by kernel_rfl) (by kernel_rfl) (by kernel_rfl) Cut.panic (Want.none rfl) (Y.move rfl) ?_
        refine Sd.take 5 rfl rfl rfl (by kernel_rfl) (by kernel_rfl) (by kernel_rfl) Cut.panic (Want.none rfl) (Y.elemAddr rfl rfl Try.underlying25 sz3 (fun w h => ((h.2) k0 _ (getD_some (0 : Int) (by omega))).1) (by omega) (by omega) (by simp : (sadr a2).off + ((k0 : Int)).toNat * 1 = (sadr a2).off + k0 * 1)) ?_
        refine Sd.take 6 rfl rfl rfl (by kernel_rfl) (by kernel_rfl) (by kernel_rfl) Cut.panic (Want.none rfl) (Y.loadF1 rfl ag3 (fun w h => ((h.2) k0 _ (getD_some (0 : Int) (by omega))).2 0 _ rfl)) ?_
        refine Sd.all [1] (by kernel_rfl) (by decide) (all_cons ?_ all_nil)
        refine Sp.callV (v := .agg (List.toArray [.bool newS.ins, .bool newS.nl, .bool newS.ck, .bool newS.inv, .bool newS.org, .bool newS.aut, .bool newS.vis, .bool newS.paste, .bool newS.focus, .bool newS.sync, .bool newS.keypad, .int .i64 newS.mouse, .bool newS.sgr])) rfl rfl rfl (Want.none rfl) (K.func rfl co18) (fun w hs => rnew_c  w ) ?_
        refine Sd.all [7] (by kernel_rfl) (by decide) (all_cons ?_ all_nil)
        refine Sp.callV (v := .int .i64 r6) rfl rfl rfl (Want.none rfl) (K.func rfl co20) (fun w hs => by rw [hr6]; exact rstate_c newS false ((numbersS false).getD k0 (0 : Int)) false w ) ?_
        refine Sd.take 8 rfl rfl rfl (by kernel_rfl) (by kernel_rfl) (by kernel_rfl) Cut.panic (Want.none rfl) (Y.binOp rfl rfl (B.eq _ _ _)) ?_
        refine Sd.done (by kernel_rfl) ?_
        exact Sx.cut () trivial ⟨rfl, rfl, rfl, rfl, rfl, rfl, rfl, rfl, rfl, trivial⟩ [0, 1] (by decide) rfl (fun _ h => h)
      · intro _ _
        show Sx _ _ _ [(1, .pointer (some ⟨b1, 0, none⟩)), (3, .slice (obf.map mkA) (([] ++ ractsTo m false k0).length) (([] ++ ractsTo m false k0).length + frf)), (5, .bool false), (6, .slice a2 ((numbersS false).length) c3), (7, .int .i64 (k0 : Int)), (8, .int .i64 r5), (10, .agg (List.toArray [.bool false, .bool true])), (11, .int .i64 0), (37, .bool (decide (r5 = r6)))] [(obf, .cells (List.toArray (List.flatMap encAc ([] ++ ractsTo m false k0) ++ spf)) 53 (0, 0)), (some b1, .cells (List.toArray [.bool m.ins, .bool m.nl, .bool m.ck, .bool m.inv, .bool m.org, .bool m.aut, .bool m.vis, .bool m.paste, .bool m.focus, .bool m.sync, .bool m.keypad, .int .i64 m.mouse, .bool m.sgr]) 23 (0, 0))] _
        refine Sx.next ?_
        refine Sc.cond rfl (fun h7 => ?_) (fun h7 => ?_)
        · skip
          have h7p := of_decide_eq_true h7
          refine Sc.exit ?_
          refine Sx.next_exit ?_
          refine Sx.block_exit ?_
          refine Sx.next ?_
          refine Sc.region ?_
          refine Seg.y rfl rfl (Want.none rfl) (Y.move rfl) ?_
          refine Seg.y rfl rfl (Want.none rfl) (Y.binOp rfl rfl (B.add _ _ _ ((k0 : Int) + 1) (wr_i64 (by omega)))) ?_
          refine Seg.y rfl rfl (Want.none rfl) (Y.assign rfl) ?_
          refine Seg.nil ?_
          have hs1 := ract_step m false k0 (by omega)
          rw [ractG, if_pos (by rw [← hr5, ← hr6]; exact h7p)] at hs1
          have e : [] ++ ractsTo m false (k0 + 1) = [] ++ ractsTo m false k0 := by rw [hs1]; simp [hr5]
          have hle : ([] ++ ractsTo m false (k0 + 1)).length ≤ 0 + (k0 + 1) := by rw [e]; first | omega | (simp only [List.length_append, List.length_cons, List.length_nil] at *; omega)
          exact Sx.head (k0 + 1, obf, frf, spf) ⟨by omega, hle, by rw [e]; exact hAf⟩ (by first | omega | (dsimp only; omega)) ⟨rfl, (someV (by rw [e])), rfl, rfl, rfl, rfl, rfl, trivial⟩ [0, 1] (by decide) (by dsimp only; rw [e]; rfl) (fun _ h => h)
        · skip
          have h7p := of_decide_eq_false h7
          refine Sc.skip ?_
          refine Sx.next ?_
          refine Sc.seq ?_
          refine Sc.region ?_
          refine Seg.y rfl rfl (Want.none rfl) (Y.move rfl) ?_
          refine Seg.y rfl rfl (Want.none rfl) (Y.move rfl) ?_
          refine Seg.y rfl rfl (Want.none rfl) (Y.elemAddr rfl rfl Try.underlying25 sz3 (fun w h => ((h.2) k0 _ (getD_some (0 : Int) (by omega))).1) (by omega) (by omega) (by simp : (sadr a2).off + ((k0 : Int)).toNat * 1 = (sadr a2).off + k0 * 1)) ?_
          refine Seg.y rfl rfl (Want.none rfl) (Y.loadF1 rfl ag3 (fun w h => ((h.2) k0 _ (getD_some (0 : Int) (by omega))).2 0 _ rfl)) ?_
          refine Seg.y rfl rfl (Want.none rfl) (Y.move rfl) ?_
          refine Seg.y rfl rfl (Want.none rfl) (Y.binOp rfl rfl (B.sub _ _ _ (2 - r5) (wr_i64 (by omega)))) ?_
          refine Seg.y rfl rfl (Want.none rfl) (Y.build (v := .agg (List.toArray [.int .i64 36, .int .i64 ((numbersS false).getD k0 (0 : Int)), .int .i64 (2 - r5), .int .i64 0, .int .i64 0, .string ByteArray.empty])) rfl (fun w => by kernel_rfl)) ?_
          refine Seg.chg rfl rfl (Want.none rfl) (C.alloc zv53 rfl) (fun b8 hb8 => ?_)
          refine Seg.chs rfl (Want.none rfl) (C.store (cs' := [.int .i64 36, .int .i64 ((numbersS false).getD k0 (0 : Int)), .int .i64 (2 - r5), .int .i64 0, .int .i64 0, .string ByteArray.empty]) (vs := [.int .i64 36, .int .i64 ((numbersS false).getD k0 (0 : Int)), .int .i64 (2 - r5), .int .i64 0, .int .i64 0, .string ByteArray.empty]) 0 rfl rfl rfl rfl rfl rfl rfl sz53) (fun _ _ => ?_)
          refine Seg.nil ?_
          refine Sx.next ?_
          refine Sc.seq ?_
          refine Sc.seq ?_
          refine Sc.region ?_
          refine Seg.y rfl rfl (Want.none rfl) (Y.move rfl) ?_
          refine Seg.nil ?_
          refine Sx.next ?_
          refine Sc.condF rfl rfl ?_
          refine Sc.skip ?_
          refine Sx.next ?_
          refine Sc.region ?_
          refine Seg.y rfl rfl (Want.none rfl) (Y.move rfl) ?_
          refine Seg.y rfl rfl (Want.none rfl) (Y.loadN (vs := [.int .i64 36, .int .i64 ((numbersS false).getD k0 (0 : Int)), .int .i64 (2 - r5), .int .i64 0, .int .i64 0, .string ByteArray.empty]) 0 rfl rfl rfl rfl ag53 sz53) ?_
          refine Seg.chg rfl rfl (Want.none rfl) (C.buildSlice (e := 53) (cs := [.int .i64 36, .int .i64 ((numbersS false).getD k0 (0 : Int)), .int .i64 (2 - r5), .int .i64 0, .int .i64 0, .string ByteArray.empty]) rfl (fun w => by kernel_rfl)) (fun b9 hb9 => ?_)
          refine Seg.freeze 0 rfl hb9 ?_
          refine Seg.chg rfl rfl (Want.none rfl) (C.appendL (enc := encAc) (acc := ([] ++ ractsTo m false k0)) (bs := [(⟨36, ((numbersS false).getD k0 (0 : Int)), 2 - r5, (⟨0, 0⟩ : Co), ByteArray.empty⟩ : Ac)]) (spare := spf) (free := frf) (ob := obf) 1 (fun _ => rfl) (fun _ => rfl) rfl rfl rfl hAf (fun w hs => (fun h => .inr ⟨_, _, rfl, blk_cells (o := 0) (n := 6) (h.2) rfl⟩) hs.fut.now) Try.underlying44 Try.underlying44 sz53 zv53 rfl inf53 (by first | omega | (simp only [List.length_cons, List.length_nil]; omega) | (simp only [List.length_append, List.length_cons, List.length_nil] at *; omega)) (by first | omega | (simp only [List.length_cons, List.length_nil]; omega) | (simp only [List.length_append, List.length_cons, List.length_nil] at *; omega))) (fun ⟨ob10, fr10, sp10⟩ hA10 => ?_)
          refine Seg.y rfl rfl (Want.none rfl) (Y.assign rfl) ?_
          refine Seg.nil ?_
          refine Sx.block_normal ?_
          refine Sx.next ?_
          refine Sc.region ?_
          refine Seg.y rfl rfl (Want.none rfl) (Y.move rfl) ?_
          refine Seg.y rfl rfl (Want.none rfl) (Y.binOp rfl rfl (B.add _ _ _ ((k0 : Int) + 1) (wr_i64 (by omega)))) ?_
          refine Seg.y rfl rfl (Want.none rfl) (Y.assign rfl) ?_
          refine Seg.nil ?_
          have hs1 := ract_step m false k0 (by omega)
          rw [ractG, if_neg (by rw [← hr5, ← hr6]; exact h7p)] at hs1
          have e : [] ++ ractsTo m false (k0 + 1) = [] ++ ractsTo m false k0 ++ [(⟨36, ((numbersS false).getD k0 (0 : Int)), 2 - r5, (⟨0, 0⟩ : Co), ByteArray.empty⟩ : Ac)] := by rw [hs1]; simp [hr5]
          have hle : ([] ++ ractsTo m false (k0 + 1)).length ≤ 0 + (k0 + 1) := by rw [e]; first | omega | (simp only [List.length_append, List.length_cons, List.length_nil] at *; omega)
          exact Sx.head (k0 + 1, ob10, fr10, sp10) ⟨by omega, hle, by rw [e]; exact hA10⟩ (by first | omega | (dsimp only; omega)) ⟨rfl, (someV (by rw [e])), rfl, rfl, rfl, rfl, rfl, trivial⟩ [1, 2] (by decide) (by dsimp only; rw [e]; rfl) (fun _ h => h.1)
  · skip
    have h4p := of_decide_eq_false h4
    refine Sc.exit ?_
    refine Sx.next_exit ?_
    refine Sx.loop_exit ?_
    refine Sx.block_exit ?_
    refine Sx.block_normal ?_
    refine Sx.next ?_
    refine Sc.region ?_
    refine Seg.y rfl rfl (Want.none rfl) (Y.binOp rfl rfl (B.add _ _ _ 1 (by decide))) ?_
    refine Seg.y rfl rfl (Want.none rfl) (Y.move rfl) ?_
    refine Seg.nil ?_
    refine Sx.round ?_
    refine Sr.succ ?_
    refine Sc.seq ?_
    refine Sc.region ?_
    refine Seg.y rfl rfl (Want.none rfl) (Y.binOp (v := .bool true) rfl rfl (B.lt _ _ _)) ?_
    refine Seg.nil ?_
    refine Sx.next ?_
    refine Sc.seq ?_
    refine Sc.condT rfl rfl ?_
    refine Sc.skip ?_
    refine Sx.next ?_
    refine Sc.seq ?_
    refine Sc.block ?_
    refine Sc.seq ?_
    refine Sc.region ?_
    refine Seg.y rfl rfl (Want.none rfl) (Y.index (v := .bool true) rfl rfl (fun w => by kernel_rfl)) ?_
    refine Seg.y rfl rfl (Want.none rfl) (Y.assign rfl) ?_
    refine Seg.nil ?_
    refine Sx.next ?_
    refine Sc.seq ?_
    refine Sc.region ?_
    refine Seg.y rfl rfl (Want.none rfl) (Y.move rfl) ?_
    refine Seg.callR (val := fun ((a11, c12) : Option Addr × Nat) => .slice a11 ((numbersS true).length) c12) (Φ := fun ((a11, c12) : Option Addr × Nat) => fun w => RowV 1 encI a11 (numbersS true) w) rfl rfl (Want.none rfl) (K.func rfl co25) (fun w hs => numbers_c true _ w hs.dc_lt   ) (fun ⟨a11, c12⟩ => ?_)
    refine Seg.y rfl rfl (Want.none rfl) (Y.assign rfl) ?_
    refine Seg.nil ?_
    refine Sx.next ?_
    refine Sc.seq ?_
    refine Sc.region ?_
    refine Seg.y rfl rfl (Want.none rfl) (Y.assign rfl) ?_
    refine Seg.nil ?_
    refine Sx.next ?_
    refine Sc.block ?_
    refine Sc.loop (fun ((k1, obt, frt, spt) : Nat × Option Nat × Nat × List Value) => k1 ≤ (numbersS true).length ∧ ([] ++ ractsTo m false k0 ++ ractsTo m true k1).length ≤ 2 + k1 ∧ App w 6 ([] ++ ractsTo m false k0 ++ ractsTo m true k1).length (obt, frt, spt)) (fun ((k1, obt, frt, spt) : Nat × Option Nat × Nat × List Value) => (numbersS true).length - k1) (fun ((k1, obt, frt, spt) : Nat × Option Nat × Nat × List Value) => [(1, .pointer (some ⟨b1, 0, none⟩)), (3, .slice (obt.map mkA) (([] ++ ractsTo m false k0 ++ ractsTo m true k1).length) (([] ++ ractsTo m false k0 ++ ractsTo m true k1).length + frt)), (5, .bool true), (6, .slice a11 ((numbersS true).length) c12), (7, .int .i64 (k1 : Int)), (10, .agg (List.toArray [.bool false, .bool true])), (11, .int .i64 1)]) (fun ((k1, obt, frt, spt) : Nat × Option Nat × Nat × List Value) => [(obt, .cells (List.toArray (List.flatMap encAc ([] ++ ractsTo m false k0 ++ ractsTo m true k1) ++ spt)) 53 (0, 0)), (some b1, .cells (List.toArray [.bool m.ins, .bool m.nl, .bool m.ck, .bool m.inv, .bool m.org, .bool m.aut, .bool m.vis, .bool m.paste, .bool m.focus, .bool m.sync, .bool m.keypad, .int .i64 m.mouse, .bool m.sgr]) 23 (0, 0))]) (fun ((k1, obt, frt, spt) : Nat × Option Nat × Nat × List Value) => fun w => ((True) ∧ RowV 1 encI a2 (numbersS false) w) ∧ RowV 1 encI a11 (numbersS true) w) (0, obf, frf, spf) ⟨Nat.zero_le _, (by rw [show [] ++ ractsTo m false k0 ++ ractsTo m true 0 = [] ++ ractsTo m false k0 from by simp [ractsTo]]; omega), by rw [show [] ++ ractsTo m false k0 ++ ractsTo m true 0 = [] ++ ractsTo m false k0 from by simp [ractsTo]]; exact hAf⟩ (by exact ⟨rfl, (someV (by (rw [show [] ++ ractsTo m false k0 ++ ractsTo m true 0 = [] ++ ractsTo m false k0 from by simp [ractsTo]]) <;> rfl)), rfl, rfl, rfl, rfl, rfl, trivial⟩) [0, 1] (by decide) (by dsimp only; (rw [show [] ++ ractsTo m false k0 ++ ractsTo m true 0 = [] ++ ractsTo m false k0 from by simp [ractsTo]]) <;> rfl) (fun _ h => h) ?_
    rintro ⟨k1, obt, frt, spt⟩ hJ1
    obtain ⟨hkk1, hlenk1, hAt⟩ := hJ1
    have hnk1 : (numbersS true).length = 13 := rfl
    have hk0e : k0 = 2 := by omega
    show Sc _ _ _ _ [(1, .pointer (some ⟨b1, 0, none⟩)), (3, .slice (obt.map mkA) (([] ++ ractsTo m false k0 ++ ractsTo m true k1).length) (([] ++ ractsTo m false k0 ++ ractsTo m true k1).length + frt)), (5, .bool true), (6, .slice a11 ((numbersS true).length) c12), (7, .int .i64 (k1 : Int)), (10, .agg (List.toArray [.bool false, .bool true])), (11, .int .i64 1)] [(obt, .cells (List.toArray (List.flatMap encAc ([] ++ ractsTo m false k0 ++ ractsTo m true k1) ++ spt)) 53 (0, 0)), (some b1, .cells (List.toArray [.bool m.ins, .bool m.nl, .bool m.ck, .bool m.inv, .bool m.org, .bool m.aut, .bool m.vis, .bool m.paste, .bool m.focus, .bool m.sync, .bool m.keypad, .int .i64 m.mouse, .bool m.sgr]) 23 (0, 0))] (fun w => ((True) ∧ RowV 1 encI a2 (numbersS false) w) ∧ RowV 1 encI a11 (numbersS true) w)
    refine Sc.seq ?_
    refine Sc.seq ?_
    refine Sc.region ?_
    refine Seg.y rfl rfl (Want.none rfl) (Y.move rfl) ?_
    refine Seg.y rfl rfl (Want.none rfl) (Y.move rfl) ?_
    refine Seg.y rfl rfl (Want.none rfl) (Y.bi rfl (fun w _ => run_len rfl Try.underlying25 w)) ?_
    refine Seg.y rfl rfl (Want.none rfl) (Y.binOp rfl rfl (B.lt _ _ _)) ?_
    refine Seg.nil ?_
    refine Sx.next ?_
    refine Sc.cond rfl (fun h13 => ?_) (fun h13 => ?_)
    · skip
      have h13p := of_decide_eq_true h13
      refine Sc.skip ?_
      refine Sx.next ?_
      refine Sc.seq ?_
      refine Sc.block ?_
      refine Sc.seq ?_
      obtain ⟨r14, hr14⟩ : ∃ x, x = rstateS m true ((numbersS true).getD k1 (0 : Int)) false := ⟨_, rfl⟩
      have hbr14 : 0 ≤ r14 ∧ r14 ≤ 2 := by rw [hr14]; exact rstate_bd _ _ _ _
      refine Sc.cut (fun (_ : Unit) => True) (fun (_ : Unit) => [(1, .pointer (some ⟨b1, 0, none⟩)), (3, .slice (obt.map mkA) (([] ++ ractsTo m false k0 ++ ractsTo m true k1).length) (([] ++ ractsTo m false k0 ++ ractsTo m true k1).length + frt)), (5, .bool true), (6, .slice a11 ((numbersS true).length) c12), (7, .int .i64 (k1 : Int)), (8, .int .i64 r14), (10, .agg (List.toArray [.bool false, .bool true])), (11, .int .i64 1)]) (fun (_ : Unit) => [(obt, .cells (List.toArray (List.flatMap encAc ([] ++ ractsTo m false k0 ++ ractsTo m true k1) ++ spt)) 53 (0, 0)), (some b1, .cells (List.toArray [.bool m.ins, .bool m.nl, .bool m.ck, .bool m.inv, .bool m.org, .bool m.aut, .bool m.vis, .bool m.paste, .bool m.focus, .bool m.sync, .bool m.keypad, .int .i64 m.mouse, .bool m.sgr]) 23 (0, 0))]) (fun _ => fun w => ((True) ∧ RowV 1 encI a2 (numbersS false) w) ∧ RowV 1 encI a11 (numbersS true) w) ?_ ?_
      · skip
        refine Sc.draw (by kernel_rfl) (fun _ h => St.lean [0, 1] (by decide) (fun _ h => h) h rfl) ?_
        refine Sd.take 0 rfl rfl rfl (by kernel_rfl) (by kernel_rfl) (by kernel_rfl) Cut.panic (Want.none rfl) (Y.loadN (vs := [.bool m.ins, .bool m.nl, .bool m.ck, .bool m.inv, .bool m.org, .bool m.aut, .bool m.vis, .bool m.paste, .bool m.focus, .bool m.sync, .bool m.keypad, .int .i64 m.mouse, .bool m.sgr]) 1 rfl rfl rfl rfl ag23 sz23) ?_
        refine Sd.take 1 rfl rfl rfl (by kernel_rfl) (by kernel_rfl) (by kernel_rfl) Cut.panic (Want.none rfl) (Y.move rfl) ?_
        refine Sd.take 2 rfl rfl rfl (by kernel_rfl) (by kernel_rfl) (by kernel_rfl) Cut.panic (Want.none rfl) (Y.move rfl) ?_
        refine Sd.take 3 rfl rfl rfl (by kernel_rfl) (by kernel_rfl) (by kernel_rfl) Cut.panic (Want.none rfl) (Y.move rfl) ?_
        refine Sd.take 4 rfl rfl rfl (by kernel_rfl) (by kernel_rfl) (by kernel_rfl) Cut.panic (Want.none rfl) (Y.elemAddr rfl rfl Try.underlying25 sz3 (fun w h => ((h.2) k1 _ (getD_some (0 : Int) (by omega))).1) (by omega) (by omega) (by simp : (sadr a11).off + ((k1 : Int)).toNat * 1 = (sadr a11).off + k1 * 1)) ?_
        refine Sd.take 5 rfl rfl rfl (by kernel_rfl) (by kernel_rfl) (by kernel_rfl) Cut.panic (Want.none rfl) (Y.loadF1 rfl ag3 (fun w h => ((h.2) k1 _ (getD_some (0 : Int) (by omega))).2 0 _ rfl)) ?_
        refine Sd.all [6] (by kernel_rfl) (by decide) (all_cons ?_ all_nil)
        refine Sp.callV (v := .int .i64 r14) rfl rfl rfl (Want.none rfl) (K.func rfl co20) (fun w hs => by rw [hr14]; exact rstate_c m true ((numbersS true).getD k1 (0 : Int)) false w ) ?_
        refine Sd.take 7 rfl rfl rfl (by kernel_rfl) (by kernel_rfl) (by kernel_rfl) Cut.panic (Want.none rfl) (Y.assign rfl) ?_
        refine Sd.done (by kernel_rfl) ?_
        exact Sx.cut () trivial ⟨rfl, rfl, rfl, rfl, rfl, rfl, rfl, rfl, trivial⟩ [0, 1] (by decide) rfl (fun _ h => h)
      · intro _ _
        show Sx _ _ _ [(1, .pointer (some ⟨b1, 0, none⟩)), (3, .slice (obt.map mkA) (([] ++ ractsTo m false k0 ++ ractsTo m true k1).length) (([] ++ ractsTo m false k0 ++ ractsTo m true k1).length + frt)), (5, .bool true), (6, .slice a11 ((numbersS true).length) c12), (7, .int .i64 (k1 : Int)), (8, .int .i64 r14), (10, .agg (List.toArray [.bool false, .bool true])), (11, .int .i64 1)] [(obt, .cells (List.toArray (List.flatMap encAc ([] ++ ractsTo m false k0 ++ ractsTo m true k1) ++ spt)) 53 (0, 0)), (some b1, .cells (List.toArray [.bool m.ins, .bool m.nl, .bool m.ck, .bool m.inv, .bool m.org, .bool m.aut, .bool m.vis, .bool m.paste, .bool m.focus, .bool m.sync, .bool m.keypad, .int .i64 m.mouse, .bool m.sgr]) 23 (0, 0))] _
        refine Sx.next ?_
        refine Sc.seq ?_
        refine Sc.seq ?_
        obtain ⟨r15, hr15⟩ : ∃ x, x = rstateS newS true ((numbersS true).getD k1 (0 : Int)) false := ⟨_, rfl⟩
        have hbr15 : 0 ≤ r15 ∧ r15 ≤ 2 := by rw [hr15]; exact rstate_bd _ _ _ _
        refine Sc.cut (fun (_ : Unit) => True) (fun (_ : Unit) => [(1, .pointer (some ⟨b1, 0, none⟩)), (3, .slice (obt.map mkA) (([] ++ ractsTo m false k0 ++ ractsTo m true k1).length) (([] ++ ractsTo m false k0 ++ ractsTo m true k1).length + frt)), (5, .bool true), (6, .slice a11 ((numbersS true).length) c12), (7, .int .i64 (k1 : Int)), (8, .int .i64 r14), (10, .agg (List.toArray [.bool false, .bool true])), (11, .int .i64 1), (37, .bool (decide (r14 = r15)))]) (fun (_ : Unit) => [(obt, .cells (List.toArray (List.flatMap encAc ([] ++ ractsTo m false k0 ++ ractsTo m true k1) ++ spt)) 53 (0, 0)), (some b1, .cells (List.toArray [.bool m.ins, .bool m.nl, .bool m.ck, .bool m.inv, .bool m.org, .bool m.aut, .bool m.vis, .bool m.paste, .bool m.focus, .bool m.sync, .bool m.keypad, .int .i64 m.mouse, .bool m.sgr]) 23 (0, 0))]) (fun _ => fun w => ((True) ∧ RowV 1 encI a2 (numbersS false) w) ∧ RowV 1 encI a11 (numbersS true) w) ?_ ?_
        · skip
          refine Sc.draw (by kernel_rfl) (fun _ h => St.lean [0, 1] (by decide) (fun _ h => h) h rfl) ?_
          refine Sd.take 0 rfl rfl rfl (by kernel_rfl) (by kernel_rfl) (by kernel_rfl) Cut.panic (Want.none rfl) (Y.move rfl) ?_
          refine Sd.take 2 rfl rfl rfl (by kernel_rfl) (by kernel_rfl) (by kernel_rfl) Cut.panic (Want.none rfl) (Y.move rfl) ?_
          refine Sd.take 3 rfl rfl rfl (by kernel_rfl) (by kernel_rfl) (by kernel_rfl) Cut.panic (Want.none rfl) (Y.move rfl) ?_
          refine Sd.take 4 rfl rfl rfl (by kernel_rfl) (by kernel_rfl) (by kernel_rfl) Cut.panic (Want.none rfl) (Y.move rfl) ?_
          refine Sd.take 5 rfl rfl rfl (by kernel_rfl) (by kernel_rfl) (by kernel_rfl) Cut.panic (Want.none rfl) (Y.elemAddr rfl rfl Try.underlying25 sz3 (fun w h => ((h.2) k1 _ (getD_some (0 : Int) (by omega))).1) (by omega) (by omega) (by simp : (sadr a11).off + ((k1 : Int)).toNat * 1 = (sadr a11).off + k1 * 1)) ?_
          refine Sd.take 6 rfl rfl rfl (by kernel_rfl) (by kernel_rfl) (by kernel_rfl) Cut.panic (Want.none rfl) (Y.loadF1 rfl ag3 (fun w h => ((h.2) k1 _ (getD_some (0 : Int) (by omega))).2 0 _ rfl)) ?_
          refine Sd.all [1] (by kernel_rfl) (by decide) (all_cons ?_ all_nil)
          refine Sp.callV (v := .agg (List.toArray [.bool newS.ins, .bool newS.nl, .bool newS.ck, .bool newS.inv, .bool newS.org, .bool newS.aut, .bool newS.vis, .bool newS.paste, .bool newS.focus, .bool newS.sync, .bool newS.keypad, .int .i64 newS.mouse, .bool newS.sgr])) rfl rfl rfl (Want.none rfl) (K.func rfl co18) (fun w hs => rnew_c  w ) ?_
          refine Sd.all [7] (by kernel_rfl) (by decide) (all_cons ?_ all_nil)
          refine Sp.callV (v := .int .i64 r15) rfl rfl rfl (Want.none rfl) (K.func rfl co20) (fun w hs => by rw [hr15]; exact rstate_c newS true ((numbersS true).getD k1 (0 : Int)) false w ) ?_
          refine Sd.take 8 rfl rfl rfl (by kernel_rfl) (by kernel_rfl) (by kernel_rfl) Cut.panic (Want.none rfl) (Y.binOp rfl rfl (B.eq _ _ _)) ?_
          refine Sd.done (by kernel_rfl) ?_
          exact Sx.cut () trivial ⟨rfl, rfl, rfl, rfl, rfl, rfl, rfl, rfl, rfl, trivial⟩ [0, 1] (by decide) rfl (fun _ h => h)
        · intro _ _
          show Sx _ _ _ [(1, .pointer (some ⟨b1, 0, none⟩)), (3, .slice (obt.map mkA) (([] ++ ractsTo m false k0 ++ ractsTo m true k1).length) (([] ++ ractsTo m false k0 ++ ractsTo m true k1).length + frt)), (5, .bool true), (6, .slice a11 ((numbersS true).length) c12), (7, .int .i64 (k1 : Int)), (8, .int .i64 r14), (10, .agg (List.toArray [.bool false, .bool true])), (11, .int .i64 1), (37, .bool (decide (r14 = r15)))] [(obt, .cells (List.toArray (List.flatMap encAc ([] ++ ractsTo m false k0 ++ ractsTo m true k1) ++ spt)) 53 (0, 0)), (some b1, .cells (List.toArray [.bool m.ins, .bool m.nl, .bool m.ck, .bool m.inv, .bool m.org, .bool m.aut, .bool m.vis, .bool m.paste, .bool m.focus, .bool m.sync, .bool m.keypad, .int .i64 m.mouse, .bool m.sgr]) 23 (0, 0))] _
          refine Sx.next ?_
          refine Sc.cond rfl (fun h16 => ?_) (fun h16 => ?_)
          · skip
            have h16p := of_decide_eq_true h16
            refine Sc.exit ?_
            refine Sx.next_exit ?_
            refine Sx.block_exit ?_
            refine Sx.next ?_
            refine Sc.region ?_
            refine Seg.y rfl rfl (Want.none rfl) (Y.move rfl) ?_
            refine Seg.y rfl rfl (Want.none rfl) (Y.binOp rfl rfl (B.add _ _ _ ((k1 : Int) + 1) (wr_i64 (by omega)))) ?_
            refine Seg.y rfl rfl (Want.none rfl) (Y.assign rfl) ?_
            refine Seg.nil ?_
            have hs1 := ract_step m true k1 (by omega)
            rw [ractG, if_pos (by rw [← hr14, ← hr15]; exact h16p)] at hs1
            have e : [] ++ ractsTo m false k0 ++ ractsTo m true (k1 + 1) = [] ++ ractsTo m false k0 ++ ractsTo m true k1 := by rw [hs1]; simp [hr14]
            have hle : ([] ++ ractsTo m false k0 ++ ractsTo m true (k1 + 1)).length ≤ 2 + (k1 + 1) := by rw [e]; first | omega | (simp only [List.length_append, List.length_cons, List.length_nil] at *; omega)
            exact Sx.head (k1 + 1, obt, frt, spt) ⟨by omega, hle, by rw [e]; exact hAt⟩ (by first | omega | (dsimp only; omega)) ⟨rfl, (someV (by rw [e])), rfl, rfl, rfl, rfl, rfl, trivial⟩ [0, 1] (by decide) (by dsimp only; rw [e]; rfl) (fun _ h => h)
          · skip
            have h16p := of_decide_eq_false h16
            refine Sc.skip ?_
            refine Sx.next ?_
            refine Sc.seq ?_
            refine Sc.region ?_
            refine Seg.y rfl rfl (Want.none rfl) (Y.move rfl) ?_
            refine Seg.y rfl rfl (Want.none rfl) (Y.move rfl) ?_
            refine Seg.y rfl rfl (Want.none rfl) (Y.elemAddr rfl rfl Try.underlying25 sz3 (fun w h => ((h.2) k1 _ (getD_some (0 : Int) (by omega))).1) (by omega) (by omega) (by simp : (sadr a11).off + ((k1 : Int)).toNat * 1 = (sadr a11).off + k1 * 1)) ?_
            refine Seg.y rfl rfl (Want.none rfl) (Y.loadF1 rfl ag3 (fun w h => ((h.2) k1 _ (getD_some (0 : Int) (by omega))).2 0 _ rfl)) ?_
            refine Seg.y rfl rfl (Want.none rfl) (Y.move rfl) ?_
            refine Seg.y rfl rfl (Want.none rfl) (Y.binOp rfl rfl (B.sub _ _ _ (2 - r14) (wr_i64 (by omega)))) ?_
            refine Seg.y rfl rfl (Want.none rfl) (Y.build (v := .agg (List.toArray [.int .i64 36, .int .i64 ((numbersS true).getD k1 (0 : Int)), .int .i64 (2 - r14), .int .i64 0, .int .i64 0, .string ByteArray.empty])) rfl (fun w => by kernel_rfl)) ?_
            refine Seg.chg rfl rfl (Want.none rfl) (C.alloc zv53 rfl) (fun b17 hb17 => ?_)
            refine Seg.chs rfl (Want.none rfl) (C.store (cs' := [.int .i64 36, .int .i64 ((numbersS true).getD k1 (0 : Int)), .int .i64 (2 - r14), .int .i64 0, .int .i64 0, .string ByteArray.empty]) (vs := [.int .i64 36, .int .i64 ((numbersS true).getD k1 (0 : Int)), .int .i64 (2 - r14), .int .i64 0, .int .i64 0, .string ByteArray.empty]) 0 rfl rfl rfl rfl rfl rfl rfl sz53) (fun _ _ => ?_)
            refine Seg.nil ?_
            refine Sx.next ?_
            refine Sc.seq ?_
            refine Sc.seq ?_
            refine Sc.region ?_
            refine Seg.y rfl rfl (Want.none rfl) (Y.move rfl) ?_
            refine Seg.nil ?_
            refine Sx.next ?_
            refine Sc.condT rfl rfl ?_
            refine Sc.region ?_
            refine Seg.y rfl rfl (Want.none rfl) (Y.fieldAddr rfl (A.field Try.underlying53 rfl sz3 rfl rfl)) ?_
            refine Seg.chs rfl (Want.none rfl) (C.store (cs' := [.int .i64 37, .int .i64 ((numbersS true).getD k1 (0 : Int)), .int .i64 (2 - r14), .int .i64 0, .int .i64 0, .string ByteArray.empty]) (vs := [.int .i64 37]) 0 rfl rfl rfl rfl rfl rfl rfl sz3) (fun _ _ => ?_)
            refine Seg.nil ?_
            refine Sx.next ?_
            refine Sc.region ?_
            refine Seg.y rfl rfl (Want.none rfl) (Y.move rfl) ?_
            refine Seg.y rfl rfl (Want.none rfl) (Y.loadN (vs := [.int .i64 37, .int .i64 ((numbersS true).getD k1 (0 : Int)), .int .i64 (2 - r14), .int .i64 0, .int .i64 0, .string ByteArray.empty]) 0 rfl rfl rfl rfl ag53 sz53) ?_
            refine Seg.chg rfl rfl (Want.none rfl) (C.buildSlice (e := 53) (cs := [.int .i64 37, .int .i64 ((numbersS true).getD k1 (0 : Int)), .int .i64 (2 - r14), .int .i64 0, .int .i64 0, .string ByteArray.empty]) rfl (fun w => by kernel_rfl)) (fun b18 hb18 => ?_)
            refine Seg.freeze 0 rfl hb18 ?_
            refine Seg.chg rfl rfl (Want.none rfl) (C.appendL (enc := encAc) (acc := ([] ++ ractsTo m false k0 ++ ractsTo m true k1)) (bs := [(⟨37, ((numbersS true).getD k1 (0 : Int)), 2 - r14, (⟨0, 0⟩ : Co), ByteArray.empty⟩ : Ac)]) (spare := spt) (free := frt) (ob := obt) 1 (fun _ => rfl) (fun _ => rfl) rfl rfl rfl hAt (fun w hs => (fun h => .inr ⟨_, _, rfl, blk_cells (o := 0) (n := 6) (h.2) rfl⟩) hs.fut.now) Try.underlying44 Try.underlying44 sz53 zv53 rfl inf53 (by first | omega | (simp only [List.length_cons, List.length_nil]; omega) | (simp only [List.length_append, List.length_cons, List.length_nil] at *; omega)) (by first | omega | (simp only [List.length_cons, List.length_nil]; omega) | (simp only [List.length_append, List.length_cons, List.length_nil] at *; omega))) (fun ⟨ob19, fr19, sp19⟩ hA19 => ?_)
            refine Seg.y rfl rfl (Want.none rfl) (Y.assign rfl) ?_
            refine Seg.nil ?_
            refine Sx.block_normal ?_
            refine Sx.next ?_
            refine Sc.region ?_
            refine Seg.y rfl rfl (Want.none rfl) (Y.move rfl) ?_
            refine Seg.y rfl rfl (Want.none rfl) (Y.binOp rfl rfl (B.add _ _ _ ((k1 : Int) + 1) (wr_i64 (by omega)))) ?_
            refine Seg.y rfl rfl (Want.none rfl) (Y.assign rfl) ?_
            refine Seg.nil ?_
            have hs1 := ract_step m true k1 (by omega)
            rw [ractG, if_neg (by rw [← hr14, ← hr15]; exact h16p)] at hs1
            have e : [] ++ ractsTo m false k0 ++ ractsTo m true (k1 + 1) = [] ++ ractsTo m false k0 ++ ractsTo m true k1 ++ [(⟨37, ((numbersS true).getD k1 (0 : Int)), 2 - r14, (⟨0, 0⟩ : Co), ByteArray.empty⟩ : Ac)] := by rw [hs1]; simp [hr14]
            have hle : ([] ++ ractsTo m false k0 ++ ractsTo m true (k1 + 1)).length ≤ 2 + (k1 + 1) := by rw [e]; first | omega | (simp only [List.length_append, List.length_cons, List.length_nil] at *; omega)
            exact Sx.head (k1 + 1, ob19, fr19, sp19) ⟨by omega, hle, by rw [e]; exact hA19⟩ (by first | omega | (dsimp only; omega)) ⟨rfl, (someV (by rw [e])), rfl, rfl, rfl, rfl, rfl, trivial⟩ [1, 2] (by decide) (by dsimp only; rw [e]; rfl) (fun _ h => h.1)
    · skip
      have h13p := of_decide_eq_false h13
      refine Sc.exit ?_
      refine Sx.next_exit ?_
      refine Sx.loop_exit ?_
      refine Sx.block_exit ?_
      refine Sx.block_normal ?_
      refine Sx.next ?_
      refine Sc.region ?_
      refine Seg.y rfl rfl (Want.none rfl) (Y.binOp rfl rfl (B.add _ _ _ 2 (by decide))) ?_
      refine Seg.y rfl rfl (Want.none rfl) (Y.move rfl) ?_
      refine Seg.nil ?_
      refine Sx.round ?_
      refine Sr.succ ?_
      refine Sc.seq ?_
      refine Sc.region ?_
      refine Seg.y rfl rfl (Want.none rfl) (Y.binOp (v := .bool false) rfl rfl (B.lt _ _ _)) ?_
      refine Seg.nil ?_
      refine Sx.next ?_
      refine Sc.seq ?_
      refine Sc.condF rfl rfl ?_
      refine Sc.exit ?_
      refine Sx.next_exit ?_
      refine Sx.loop_exit ?_
      refine Sx.block_exit ?_
      refine Sx.next ?_
      refine Sc.seq ?_
      refine Sc.seq ?_
      refine Sc.region ?_
      refine Seg.y rfl rfl (Want.none rfl) (Y.fieldAddr rfl (A.field Try.underlying23 rfl sz4 rfl rfl)) ?_
      refine Seg.y rfl rfl (Want.none rfl) (Y.load1 1 rfl rfl rfl ag4) ?_
      refine Seg.nil ?_
      refine Sx.next ?_
      refine Sc.cond rfl (fun h20 => ?_) (fun h20 => ?_)
      · skip
        refine Sc.region ?_
        refine Seg.y rfl rfl (Want.none rfl) (Y.move rfl) ?_
        refine Seg.y rfl rfl (Want.none rfl) (Y.build (v := .agg (List.toArray [.int .i64 14, .int .i64 1, .int .i64 0, .int .i64 0, .int .i64 0, .string ByteArray.empty])) rfl (fun w => by kernel_rfl)) ?_
        refine Seg.chg rfl rfl (Want.none rfl) (C.buildSlice (e := 53) (cs := [.int .i64 14, .int .i64 1, .int .i64 0, .int .i64 0, .int .i64 0, .string ByteArray.empty]) rfl (fun w => by kernel_rfl)) (fun b21 hb21 => ?_)
        refine Seg.freeze 0 rfl hb21 ?_
        refine Seg.chg rfl rfl (Want.none rfl) (C.appendL (enc := encAc) (acc := ([] ++ ractsTo m false k0 ++ ractsTo m true k1)) (bs := [(⟨14, 1, 0, (⟨0, 0⟩ : Co), ByteArray.empty⟩ : Ac)]) (spare := spt) (free := frt) (ob := obt) 0 (fun _ => rfl) (fun _ => rfl) rfl rfl rfl hAt (fun w hs => (fun h => .inr ⟨_, _, rfl, blk_cells (o := 0) (n := 6) (h.2) rfl⟩) hs.fut.now) Try.underlying44 Try.underlying44 sz53 zv53 rfl inf53 (by first | omega | (simp only [List.length_cons, List.length_nil]; omega) | (simp only [List.length_append, List.length_cons, List.length_nil] at *; omega)) (by first | omega | (simp only [List.length_cons, List.length_nil]; omega) | (simp only [List.length_append, List.length_cons, List.length_nil] at *; omega))) (fun ⟨ob22, fr22, sp22⟩ hA22 => ?_)
        refine Seg.y rfl rfl (Want.none rfl) (Y.assign rfl) ?_
        refine Seg.nil ?_
        refine Sx.next ?_
        refine Sc.seq ?_
        refine Sc.region ?_
        refine Seg.y rfl rfl (Want.none rfl) (Y.move rfl) ?_
        refine Seg.y rfl rfl (Want.none rfl) (Y.assign rfl) ?_
        refine Seg.nil ?_
        refine Sx.next ?_
        refine Sc.ret ?_
        refine Sx.body (.inl rfl) (res1 rfl (Rv.tmp rfl)) (fun w hs => ?_)
        have hk1e : k1 = 13 := by omega
        have e : ractionsS m = [] ++ ractsTo m false k0 ++ ractsTo m true k1 ++ [(⟨14, 1, 0, (⟨0, 0⟩ : Co), ByteArray.empty⟩ : Ac)] := by rw [hk0e, hk1e]; simp [ractionsS, h4, h4p, h13, h13p, h20]
        exact Ret.eq (ob22.map mkA, ([] ++ ractsTo m false k0 ++ ractsTo m true k1 ++ [(⟨14, 1, 0, (⟨0, 0⟩ : Co), ByteArray.empty⟩ : Ac)]).length + fr22) (by rw [e]) hs (fun w _ hn => by rw [e]; exact row_out hn 0 rfl hA22 (fun _ => rfl))
      · skip
        refine Sc.skip ?_
        refine Sx.next ?_
        refine Sc.seq ?_
        refine Sc.region ?_
        refine Seg.y rfl rfl (Want.none rfl) (Y.move rfl) ?_
        refine Seg.y rfl rfl (Want.none rfl) (Y.assign rfl) ?_
        refine Seg.nil ?_
        refine Sx.next ?_
        refine Sc.ret ?_
        refine Sx.body (.inl rfl) (res1 rfl (Rv.tmp rfl)) (fun w hs => ?_)
        have hk1e : k1 = 13 := by omega
        have e : ractionsS m = [] ++ ractsTo m false k0 ++ ractsTo m true k1 := by rw [hk0e, hk1e]; simp [ractionsS, h4, h4p, h13, h13p, h20]
        exact Ret.eq (obt.map mkA, ([] ++ ractsTo m false k0 ++ ractsTo m true k1).length + frt) (by rw [e]) hs (fun w _ hn => by rw [e]; exact row_out hn 0 rfl hAt (fun _ => rfl))
end Go.Proofs.Ythmigjicibhheaa
