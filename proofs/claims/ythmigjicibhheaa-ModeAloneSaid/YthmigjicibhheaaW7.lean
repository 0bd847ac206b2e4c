/- What the functions of the program and of the reference come to: one theorem a function (part 7). -/
import Derived.Test.YthmigjicibhheaaW6
namespace Go.Proofs.Ythmigjicibhheaa
open Go Go.RowKit Go.Eng
set_option maxRecDepth 100000
set_option linter.unusedVariables false
set_option linter.unusedSimpArgs false
def stepAct (m : Md) : Nat → List Ac
  | 0 => if m.ins == newS.ins then [] else [⟨36, 4, 2 - toldS m.ins, ⟨0, 0⟩, ByteArray.empty⟩]
  | 1 => if m.nl == newS.nl then [] else [⟨36, 20, 2 - toldS m.nl, ⟨0, 0⟩, ByteArray.empty⟩]
  | 2 => if m.ck == newS.ck then [] else [⟨37, 1, 2 - toldS m.ck, ⟨0, 0⟩, ByteArray.empty⟩]
  | 3 => if m.inv == newS.inv then [] else [⟨37, 5, 2 - toldS m.inv, ⟨0, 0⟩, ByteArray.empty⟩]
  | 4 => if m.org == newS.org then [] else [⟨37, 6, 2 - toldS m.org, ⟨0, 0⟩, ByteArray.empty⟩]
  | 5 => if m.aut == newS.aut then [] else [⟨37, 7, 2 - toldS m.aut, ⟨0, 0⟩, ByteArray.empty⟩]
  | 6 => if m.vis == newS.vis then [] else [⟨37, 25, 2 - toldS m.vis, ⟨0, 0⟩, ByteArray.empty⟩]
  | 7 => if m.focus == newS.focus then [] else [⟨37, 1004, 2 - toldS m.focus, ⟨0, 0⟩, ByteArray.empty⟩]
  | 8 => if m.sgr == newS.sgr then [] else [⟨37, 1006, 2 - toldS m.sgr, ⟨0, 0⟩, ByteArray.empty⟩]
  | 9 => if m.paste == newS.paste then [] else [⟨37, 2004, 2 - toldS m.paste, ⟨0, 0⟩, ByteArray.empty⟩]
  | 10 => if m.sync == newS.sync then [] else [⟨37, 2026, 2 - toldS m.sync, ⟨0, 0⟩, ByteArray.empty⟩]
  | _ => []
def actsTo (m : Md) : Nat → List Ac
  | 0 => []
  | k + 1 => actsTo m k ++ stepAct m k
def actionsS (m : Md) : List Ac × Int :=
  if checkS m = 0 then (actsTo m 11 ++ (if m.mouse ≠ 0 then [⟨37, m.mouse, 1, ⟨0, 0⟩, ByteArray.empty⟩] else []) ++ (if m.keypad then [⟨14, 1, 0, ⟨0, 0⟩, ByteArray.empty⟩] else []), 0) else ([], checkS m)
theorem lt11 (k : Nat) (h : k < 11) : k = 0 ∨ k = 1 ∨ k = 2 ∨ k = 3 ∨ k = 4 ∨ k = 5 ∨ k = 6 ∨ k = 7 ∨ k = 8 ∨ k = 9 ∨ k = 10 := by omega

set_option maxHeartbeats 4000000 in
theorem actions_c (m : Md) (Dc : List Nat) (w : World) (hD : ∀ k ∈ Dc, k < w.heap.size)  :
    Calls Try.prog 21 #[.agg (List.toArray [.bool m.ins, .bool m.nl, .bool m.ck, .bool m.inv, .bool m.org, .bool m.aut, .bool m.vis, .bool m.paste, .bool m.focus, .bool m.sync, .bool m.keypad, .int .i64 m.mouse, .bool m.sgr])] w (Ret Dc [] w (fun ((y0, y1) : Option Addr × Nat) => .tuple (List.toArray [.slice y0 ((actionsS m).1.length) y1, .int .i64 ((actionsS m).2)])) (fun ((y0, y1) : Option Addr × Nat) => fun w => RowV 6 encAc y0 (actionsS m).1 w)) := by
  refine enter (F := fun w => True) Dc Try.func21 rfl Try.ntmps21 hD Fut.triv rfl ?_
  refine Sc.seq ?_
  refine Sc.region ?_
  refine Seg.chg rfl rfl (Want.none rfl) (C.box rfl) (fun b1 hb1 => ?_)
  refine Seg.y rfl rfl (Want.none rfl) (Y.assign rfl) ?_
  refine Seg.y rfl rfl (Want.none rfl) (Y.assign rfl) ?_
  refine Seg.nil ?_
  refine Sx.next ?_
  refine Sc.seq ?_
  refine Sc.seq ?_
  refine Sc.region ?_
  refine Seg.y rfl rfl (Want.none rfl) (Y.loadN (vs := [.bool m.ins, .bool m.nl, .bool m.ck, .bool m.inv, .bool m.org, .bool m.aut, .bool m.vis, .bool m.paste, .bool m.focus, .bool m.sync, .bool m.keypad, .int .i64 m.mouse, .bool m.sgr]) 0 rfl rfl rfl rfl ag23 sz23) ?_
  obtain ⟨r2, hr2⟩ : ∃ x, x = checkS m := ⟨_, rfl⟩
  refine Seg.callV (v := .int .i64 r2) rfl rfl (Want.none rfl) (K.func rfl co11) (fun w hs => by rw [hr2]; exact check_c m w ) ?_
  refine Seg.y rfl rfl (Want.none rfl) (Y.assign rfl) ?_
  refine Seg.nil ?_
  refine Sx.next ?_
  refine Sc.seq ?_
  refine Sc.region ?_
  refine Seg.y rfl rfl (Want.none rfl) (Y.move rfl) ?_
  refine Seg.y rfl rfl (Want.none rfl) (Y.binOp rfl rfl (B.ne _ _ _)) ?_
  refine Seg.nil ?_
  refine Sx.next ?_
  refine Sc.cond rfl (fun h3 => ?_) (fun h3 => ?_)
  · skip
    have h3p := of_decide_eq_true h3
    refine Sc.seq ?_
    refine Sc.region ?_
    refine Seg.y rfl rfl (Want.none rfl) (Y.move rfl) ?_
    refine Seg.y rfl rfl (Want.none rfl) (Y.assign rfl) ?_
    refine Seg.y rfl rfl (Want.none rfl) (Y.assign rfl) ?_
    refine Seg.nil ?_
    refine Sx.next ?_
    refine Sc.ret ?_
    refine Sx.next_ret ?_
    refine Sx.body (.inl rfl) (res2 rfl (Rv.tmp rfl) (Rv.tmp rfl)) (fun w hs => ?_)
    subst hr2
    have e : actionsS m = ([], checkS m) := by simp [actionsS, h3, h3p]
    exact Ret.eq (none, 0) (by rw [e]; rfl) hs (fun w _ _ => by rw [e]; exact RowV.nil)
  · skip
    have h3p : r2 = 0 := by simpa using h3
    refine Sc.skip ?_
    refine Sx.next ?_
    refine Sc.seq ?_
    refine Sc.region ?_
    refine Seg.callV (v := .agg (List.toArray [.bool newS.ins, .bool newS.nl, .bool newS.ck, .bool newS.inv, .bool newS.org, .bool newS.aut, .bool newS.vis, .bool newS.paste, .bool newS.focus, .bool newS.sync, .bool newS.keypad, .int .i64 newS.mouse, .bool newS.sgr])) rfl rfl (Want.none rfl) (K.func rfl co17) (fun w hs => new_c  w ) ?_
    refine Seg.chg rfl rfl (Want.none rfl) (C.alloc zv23 rfl) (fun b4 hb4 => ?_)
    refine Seg.chs rfl (Want.none rfl) (C.store (cs' := [.bool newS.ins, .bool newS.nl, .bool newS.ck, .bool newS.inv, .bool newS.org, .bool newS.aut, .bool newS.vis, .bool newS.paste, .bool newS.focus, .bool newS.sync, .bool newS.keypad, .int .i64 newS.mouse, .bool newS.sgr]) (vs := [.bool newS.ins, .bool newS.nl, .bool newS.ck, .bool newS.inv, .bool newS.org, .bool newS.aut, .bool newS.vis, .bool newS.paste, .bool newS.focus, .bool newS.sync, .bool newS.keypad, .int .i64 newS.mouse, .bool newS.sgr]) 0 rfl rfl rfl rfl rfl rfl rfl sz23) (fun _ _ => ?_)
    refine Seg.nil ?_
    refine Sx.next ?_
    refine Sc.seq ?_
    refine Sc.seq ?_
    refine Sc.region ?_
    refine Seg.callR (val := fun (b5 : Nat) => .slice (some ⟨b5, 0, none⟩) 11 11) (Φ := fun (b5 : Nat) => fun w => w.heap[b5]? = some (.cells (List.toArray [.bool false, .int .i64 4, .func (.func 35) #[] #[], .bool false, .int .i64 20, .func (.func 36) #[] #[], .bool true, .int .i64 1, .func (.func 37) #[] #[], .bool true, .int .i64 5, .func (.func 38) #[] #[], .bool true, .int .i64 6, .func (.func 39) #[] #[], .bool true, .int .i64 7, .func (.func 40) #[] #[], .bool true, .int .i64 25, .func (.func 41) #[] #[], .bool true, .int .i64 1004, .func (.func 42) #[] #[], .bool true, .int .i64 1006, .func (.func 43) #[] #[], .bool true, .int .i64 2004, .func (.func 44) #[] #[], .bool true, .int .i64 2026, .func (.func 45) #[] #[]]) 77 (0, 0))) rfl rfl (Want.none rfl) (K.func rfl co33) (fun w hs => modes_c  _ w hs.dc_lt   ) (fun b5 => ?_)
    refine Seg.y rfl rfl (Want.none rfl) (Y.bi rfl (fun w _ => run_len rfl Try.underlying74 w)) ?_
    refine Seg.y rfl rfl (Want.none rfl) (Y.move rfl) ?_
    refine Seg.nil ?_
    refine Sx.next ?_
    refine Sc.block ?_
    refine Sc.ghost (.cells (List.toArray []) 53 (0, 0)) ?_
    refine Sc.loop (fun ((k, ob, fr, sp) : Nat × Option Nat × Nat × List Value) => k ≤ 11 ∧ (actsTo m k).length ≤ k ∧ App w 6 (actsTo m k).length (ob, fr, sp)) (fun ((k, ob, fr, sp) : Nat × Option Nat × Nat × List Value) => 11 - k) (fun ((k, ob, fr, sp) : Nat × Option Nat × Nat × List Value) => [(1, .pointer (some ⟨b1, 0, none⟩)), (2, .slice (ob.map mkA) ((actsTo m k).length) ((actsTo m k).length + fr)), (5, .pointer (some ⟨b4, 0, none⟩)), (16, .slice (some ⟨b5, 0, none⟩) 11 11), (17, .int .i64 11), (18, .int .i64 (k : Int))]) (fun ((k, ob, fr, sp) : Nat × Option Nat × Nat × List Value) => [(ob, .cells (List.toArray (List.flatMap encAc (actsTo m k) ++ sp)) 53 (0, 0)), (some b4, .cells (List.toArray [.bool newS.ins, .bool newS.nl, .bool newS.ck, .bool newS.inv, .bool newS.org, .bool newS.aut, .bool newS.vis, .bool newS.paste, .bool newS.focus, .bool newS.sync, .bool newS.keypad, .int .i64 newS.mouse, .bool newS.sgr]) 23 (0, 0)), (some b1, .cells (List.toArray [.bool m.ins, .bool m.nl, .bool m.ck, .bool m.inv, .bool m.org, .bool m.aut, .bool m.vis, .bool m.paste, .bool m.focus, .bool m.sync, .bool m.keypad, .int .i64 m.mouse, .bool m.sgr]) 23 (0, 0))]) (fun ((k, ob, fr, sp) : Nat × Option Nat × Nat × List Value) => fun w => (True) ∧ w.heap[b5]? = some (.cells (List.toArray [.bool false, .int .i64 4, .func (.func 35) #[] #[], .bool false, .int .i64 20, .func (.func 36) #[] #[], .bool true, .int .i64 1, .func (.func 37) #[] #[], .bool true, .int .i64 5, .func (.func 38) #[] #[], .bool true, .int .i64 6, .func (.func 39) #[] #[], .bool true, .int .i64 7, .func (.func 40) #[] #[], .bool true, .int .i64 25, .func (.func 41) #[] #[], .bool true, .int .i64 1004, .func (.func 42) #[] #[], .bool true, .int .i64 1006, .func (.func 43) #[] #[], .bool true, .int .i64 2004, .func (.func 44) #[] #[], .bool true, .int .i64 2026, .func (.func 45) #[] #[]]) 77 (0, 0))) (0, none, 0, []) ⟨Nat.zero_le _, Nat.zero_le _, App.nil _ _⟩ (by exact ⟨rfl, rfl, rfl, rfl, rfl, rfl, trivial⟩) [0, 1, 2] (by decide) rfl (fun _ h => h) ?_
    rintro ⟨k, ob, fr, sp⟩ hJ0
    obtain ⟨hk, hlen, hA⟩ := hJ0
    show Sc _ _ _ _ [(1, .pointer (some ⟨b1, 0, none⟩)), (2, .slice (ob.map mkA) ((actsTo m k).length) ((actsTo m k).length + fr)), (5, .pointer (some ⟨b4, 0, none⟩)), (16, .slice (some ⟨b5, 0, none⟩) 11 11), (17, .int .i64 11), (18, .int .i64 (k : Int))] [(ob, .cells (List.toArray (List.flatMap encAc (actsTo m k) ++ sp)) 53 (0, 0)), (some b4, .cells (List.toArray [.bool newS.ins, .bool newS.nl, .bool newS.ck, .bool newS.inv, .bool newS.org, .bool newS.aut, .bool newS.vis, .bool newS.paste, .bool newS.focus, .bool newS.sync, .bool newS.keypad, .int .i64 newS.mouse, .bool newS.sgr]) 23 (0, 0)), (some b1, .cells (List.toArray [.bool m.ins, .bool m.nl, .bool m.ck, .bool m.inv, .bool m.org, .bool m.aut, .bool m.vis, .bool m.paste, .bool m.focus, .bool m.sync, .bool m.keypad, .int .i64 m.mouse, .bool m.sgr]) 23 (0, 0))] (fun w => (True) ∧ w.heap[b5]? = some (.cells (List.toArray [.bool false, .int .i64 4, .func (.func 35) #[] #[], .bool false, .int .i64 20, .func (.func 36) #[] #[], .bool true, .int .i64 1, .func (.func 37) #[] #[], .bool true, .int .i64 5, .func (.func 38) #[] #[], .bool true, .int .i64 6, .func (.func 39) #[] #[], .bool true, .int .i64 7, .func (.func 40) #[] #[], .bool true, .int .i64 25, .func (.func 41) #[] #[], .bool true, .int .i64 1004, .func (.func 42) #[] #[], .bool true, .int .i64 1006, .func (.func 43) #[] #[], .bool true, .int .i64 2004, .func (.func 44) #[] #[], .bool true, .int .i64 2026, .func (.func 45) #[] #[]]) 77 (0, 0)))
    refine Sc.seq ?_
    refine Sc.region ?_
    refine Seg.y rfl rfl (Want.none rfl) (Y.binOp rfl rfl (B.lt _ _ _)) ?_
    refine Seg.nil ?_
    refine Sx.next ?_
    refine Sc.seq ?_
    refine Sc.cond rfl (fun h6 => ?_) (fun h6 => ?_)
    · skip
      have h6p := of_decide_eq_true h6
      refine Sc.skip ?_
      refine Sx.next ?_
      refine Sc.seq ?_
      refine Sc.block ?_
      refine Sc.seq ?_
      refine Sc.region ?_
      rcases lt11 k (by omega) with rfl | rfl | rfl | rfl | rfl | rfl | rfl | rfl | rfl | rfl | rfl
      · skip
        refine Seg.y rfl rfl (Want.none rfl) (Y.indexAddr rfl rfl (A.index Try.underlying74 sz77 (by decide) (by decide) rfl)) ?_
        refine Seg.y rfl rfl (Want.none rfl) (Y.loadFN (vs := [.bool false, .int .i64 4, .func (.func 35) #[] #[]]) rfl ag77 sz77 rfl (fun w h => blk_cells (n := 3) (h.2) rfl)) ?_
        refine Seg.chg rfl rfl (Want.none rfl) (C.alloc zv77 rfl) (fun b7 hb7 => ?_)
        refine Seg.chs rfl (Want.none rfl) (C.store (cs' := [.bool false, .int .i64 4, .func (.func 35) #[] #[]]) (vs := [.bool false, .int .i64 4, .func (.func 35) #[] #[]]) 0 rfl rfl rfl rfl rfl rfl rfl sz77) (fun _ _ => ?_)
        refine Seg.nil ?_
        refine Sx.next ?_
        refine Sc.seq ?_
        refine Sc.region ?_
        refine Seg.y rfl rfl (Want.none rfl) (Y.fieldAddr rfl (A.field Try.underlying77 rfl sz64 rfl rfl)) ?_
        refine Seg.y rfl rfl (Want.none rfl) (Y.load1 0 rfl rfl rfl ag64) ?_
        refine Seg.callV (v := .pointer (some ⟨b1, 0, none⟩)) rfl rfl (Want.none rfl) (K.value rfl rfl co35) (fun w hs => field1_c b1 w ) ?_
        refine Seg.y rfl rfl (Want.none rfl) (Y.nilCheck rfl) ?_
        refine Seg.y rfl rfl (Want.none rfl) (Y.load1 3 rfl rfl rfl ag4) ?_
        refine Seg.y rfl rfl (Want.none rfl) (Y.assign rfl) ?_
        refine Seg.nil ?_
        refine Sx.next ?_
        refine Sc.seq ?_
        refine Sc.seq ?_
        refine Sc.region ?_
        refine Seg.y rfl rfl (Want.none rfl) (Y.move rfl) ?_
        refine Seg.y rfl rfl (Want.none rfl) (Y.fieldAddr rfl (A.field Try.underlying77 rfl sz64 rfl rfl)) ?_
        refine Seg.y rfl rfl (Want.none rfl) (Y.load1 0 rfl rfl rfl ag64) ?_
        refine Seg.callV (v := .pointer (some ⟨b4, 0, none⟩)) rfl rfl (Want.none rfl) (K.value rfl rfl co35) (fun w hs => field1_c b4 w ) ?_
        refine Seg.y rfl rfl (Want.none rfl) (Y.nilCheck rfl) ?_
        refine Seg.y rfl rfl (Want.none rfl) (Y.load1 2 rfl rfl rfl ag4) ?_
        refine Seg.y rfl rfl (Want.none rfl) (Y.binOp rfl rfl (B.eqB _ _ Try.underlying4)) ?_
        refine Seg.nil ?_
        refine Sx.next ?_
        refine Sc.cond rfl (fun h8 => ?_) (fun h8 => ?_)
        · skip
          refine Sc.exit ?_
          refine Sx.next_exit ?_
          refine Sx.block_exit ?_
          refine Sx.next ?_
          refine Sc.region ?_
          refine Seg.y rfl rfl (Want.none rfl) (Y.binOp rfl rfl (B.add _ _ _ 1 (by decide))) ?_
          refine Seg.y rfl rfl (Want.none rfl) (Y.move rfl) ?_
          refine Seg.nil ?_
          have e : actsTo m 1 = actsTo m 0 := by simp [actsTo, stepAct, hr2, h3, h3p, h6, h6p, h8]
          have hle : (actsTo m 1).length ≤ 1 := by rw [e]; first | omega | (simp only [List.length_append, List.length_cons, List.length_nil]; omega)
          exact Sx.head (1, ob, fr, sp) ⟨by omega, hle, by rw [e]; exact hA⟩ (by first | omega | (dsimp only; omega)) ⟨rfl, (someV (by rw [e])), rfl, rfl, rfl, rfl, trivial⟩ [1, 2, 3] (by decide) (by dsimp only; rw [e]; rfl) (fun _ h => h)
        · skip
          refine Sc.skip ?_
          refine Sx.next ?_
          refine Sc.seq ?_
          obtain ⟨r9, hr9⟩ : ∃ x, x = toldS m.ins := ⟨_, rfl⟩
          have hbr9 : 1 ≤ r9 ∧ r9 ≤ 2 := by rw [hr9]; exact told_bd _
          refine Sc.cut (fun (b10 : Nat) => w.heap.size ≤ b10) (fun (b10 : Nat) => [(1, .pointer (some ⟨b1, 0, none⟩)), (2, .slice (ob.map mkA) ((actsTo m 0).length) ((actsTo m 0).length + fr)), (5, .pointer (some ⟨b4, 0, none⟩)), (7, .pointer (some ⟨b7, 0, none⟩)), (9, .pointer (some ⟨b10, 0, none⟩)), (16, .slice (some ⟨b5, 0, none⟩) 11 11), (17, .int .i64 11), (18, .int .i64 0)]) (fun (b10 : Nat) => [(some b10, .cells (List.toArray [.int .i64 36, .int .i64 4, .int .i64 (2 - r9), .int .i64 0, .int .i64 0, .string ByteArray.empty]) 53 (0, 0)), (some b7, .cells (List.toArray [.bool false, .int .i64 4, .func (.func 35) #[] #[]]) 77 (0, 0)), (ob, .cells (List.toArray (List.flatMap encAc (actsTo m 0) ++ sp)) 53 (0, 0)), (some b4, .cells (List.toArray [.bool newS.ins, .bool newS.nl, .bool newS.ck, .bool newS.inv, .bool newS.org, .bool newS.aut, .bool newS.vis, .bool newS.paste, .bool newS.focus, .bool newS.sync, .bool newS.keypad, .int .i64 newS.mouse, .bool newS.sgr]) 23 (0, 0)), (some b1, .cells (List.toArray [.bool m.ins, .bool m.nl, .bool m.ck, .bool m.inv, .bool m.org, .bool m.aut, .bool m.vis, .bool m.paste, .bool m.focus, .bool m.sync, .bool m.keypad, .int .i64 m.mouse, .bool m.sgr]) 23 (0, 0))]) (fun _ => fun w => (True) ∧ w.heap[b5]? = some (.cells (List.toArray [.bool false, .int .i64 4, .func (.func 35) #[] #[], .bool false, .int .i64 20, .func (.func 36) #[] #[], .bool true, .int .i64 1, .func (.func 37) #[] #[], .bool true, .int .i64 5, .func (.func 38) #[] #[], .bool true, .int .i64 6, .func (.func 39) #[] #[], .bool true, .int .i64 7, .func (.func 40) #[] #[], .bool true, .int .i64 25, .func (.func 41) #[] #[], .bool true, .int .i64 1004, .func (.func 42) #[] #[], .bool true, .int .i64 1006, .func (.func 43) #[] #[], .bool true, .int .i64 2004, .func (.func 44) #[] #[], .bool true, .int .i64 2026, .func (.func 45) #[] #[]]) 77 (0, 0))) ?_ ?_
          · skip
            refine Sc.draw (by kernel_rfl) (fun _ h => St.lean [0, 1, 2, 3] (by decide) (fun _ h => h) h rfl) ?_
            refine Sd.take 0 rfl rfl rfl (by kernel_rfl) (by kernel_rfl) (by kernel_rfl) Cut.panic (Want.none rfl) (Y.fieldAddr rfl (A.field Try.underlying77 rfl sz3 rfl rfl)) ?_
            refine Sd.take 1 rfl rfl rfl (by kernel_rfl) (by kernel_rfl) (by kernel_rfl) Cut.panic (Want.none rfl) (Y.load1 0 rfl rfl rfl ag3) ?_
            refine Sd.take 2 rfl rfl rfl (by kernel_rfl) (by kernel_rfl) (by kernel_rfl) Cut.panic (Want.none rfl) (Y.move rfl) ?_
            refine Sd.all [3, 6] (by kernel_rfl) (by decide) (all_cons ?_ (all_cons ?_ all_nil))
            · skip
              refine Sp.callV (v := .int .i64 r9) rfl rfl rfl (Want.none rfl) (K.func rfl co32) (fun w hs => by rw [hr9]; exact told_c m.ins w ) ?_
              refine Sd.take 4 rfl rfl rfl (by kernel_rfl) (by kernel_rfl) (by kernel_rfl) Cut.panic (Want.none rfl) (Y.binOp rfl rfl (B.sub _ _ _ (2 - r9) (wr_i64 (by omega)))) ?_
              refine Sd.take 5 rfl rfl rfl (by kernel_rfl) (by kernel_rfl) (by kernel_rfl) Cut.panic (Want.none rfl) (Y.build (v := .agg (List.toArray [.int .i64 36, .int .i64 4, .int .i64 (2 - r9), .int .i64 0, .int .i64 0, .string ByteArray.empty])) rfl (fun w => by kernel_rfl)) ?_
              refine Sd.all [6] (by kernel_rfl) (by decide) (all_cons ?_ all_nil)
              refine Sp.chg rfl rfl rfl (Want.none rfl) (C.alloc zv53 rfl) (fun _ _ _ h => St.lean [1, 2, 3, 4] (by decide) (fun _ h => h) h rfl) (fun b10 hb10 => ?_)
              refine Sd.all [7] (by kernel_rfl) (by decide) (all_cons ?_ all_nil)
              refine Sp.chgs rfl rfl (Want.none rfl) (C.store (cs' := [.int .i64 36, .int .i64 4, .int .i64 (2 - r9), .int .i64 0, .int .i64 0, .string ByteArray.empty]) (vs := [.int .i64 36, .int .i64 4, .int .i64 (2 - r9), .int .i64 0, .int .i64 0, .string ByteArray.empty]) 0 rfl rfl rfl rfl rfl rfl rfl sz53) (fun _ _ _ h => St.lean [1, 2, 3, 4] (by decide) (fun _ h => h) h rfl) (fun _ _ => ?_)
              refine Sd.done (by kernel_rfl) ?_
              exact Sx.cut b10 hb10 ⟨rfl, rfl, rfl, rfl, rfl, rfl, rfl, rfl, trivial⟩ [0, 1, 2, 3, 4] (by decide) rfl (fun _ h => h)
            refine Sp.chg rfl rfl rfl (Want.none rfl) (C.alloc zv53 rfl) (fun _ _ _ h => St.lean [1, 2, 3, 4] (by decide) (fun _ h => h) h rfl) (fun b10 hb10 => ?_)
            refine Sd.all [3] (by kernel_rfl) (by decide) (all_cons ?_ all_nil)
            refine Sp.callV (v := .int .i64 r9) rfl rfl rfl (Want.none rfl) (K.func rfl co32) (fun w hs => by rw [hr9]; exact told_c m.ins w ) ?_
            refine Sd.take 4 rfl rfl rfl (by kernel_rfl) (by kernel_rfl) (by kernel_rfl) Cut.panic (Want.none rfl) (Y.binOp rfl rfl (B.sub _ _ _ (2 - r9) (wr_i64 (by omega)))) ?_
            refine Sd.take 5 rfl rfl rfl (by kernel_rfl) (by kernel_rfl) (by kernel_rfl) Cut.panic (Want.none rfl) (Y.build (v := .agg (List.toArray [.int .i64 36, .int .i64 4, .int .i64 (2 - r9), .int .i64 0, .int .i64 0, .string ByteArray.empty])) rfl (fun w => by kernel_rfl)) ?_
            refine Sd.all [7] (by kernel_rfl) (by decide) (all_cons ?_ all_nil)
            refine Sp.chgs rfl rfl (Want.none rfl) (C.store (cs' := [.int .i64 36, .int .i64 4, .int .i64 (2 - r9), .int .i64 0, .int .i64 0, .string ByteArray.empty]) (vs := [.int .i64 36, .int .i64 4, .int .i64 (2 - r9), .int .i64 0, .int .i64 0, .string ByteArray.empty]) 0 rfl rfl rfl rfl rfl rfl rfl sz53) (fun _ _ _ h => St.lean [1, 2, 3, 4] (by decide) (fun _ h => h) h rfl) (fun _ _ => ?_)
            refine Sd.done (by kernel_rfl) ?_
            exact Sx.cut b10 hb10 ⟨rfl, rfl, rfl, rfl, rfl, rfl, rfl, rfl, trivial⟩ [0, 1, 2, 3, 4] (by decide) rfl (fun _ h => h)
          · rintro b10 hb10
            show Sx _ _ _ [(1, .pointer (some ⟨b1, 0, none⟩)), (2, .slice (ob.map mkA) ((actsTo m 0).length) ((actsTo m 0).length + fr)), (5, .pointer (some ⟨b4, 0, none⟩)), (7, .pointer (some ⟨b7, 0, none⟩)), (9, .pointer (some ⟨b10, 0, none⟩)), (16, .slice (some ⟨b5, 0, none⟩) 11 11), (17, .int .i64 11), (18, .int .i64 0)] [(some b10, .cells (List.toArray [.int .i64 36, .int .i64 4, .int .i64 (2 - r9), .int .i64 0, .int .i64 0, .string ByteArray.empty]) 53 (0, 0)), (some b7, .cells (List.toArray [.bool false, .int .i64 4, .func (.func 35) #[] #[]]) 77 (0, 0)), (ob, .cells (List.toArray (List.flatMap encAc (actsTo m 0) ++ sp)) 53 (0, 0)), (some b4, .cells (List.toArray [.bool newS.ins, .bool newS.nl, .bool newS.ck, .bool newS.inv, .bool newS.org, .bool newS.aut, .bool newS.vis, .bool newS.paste, .bool newS.focus, .bool newS.sync, .bool newS.keypad, .int .i64 newS.mouse, .bool newS.sgr]) 23 (0, 0)), (some b1, .cells (List.toArray [.bool m.ins, .bool m.nl, .bool m.ck, .bool m.inv, .bool m.org, .bool m.aut, .bool m.vis, .bool m.paste, .bool m.focus, .bool m.sync, .bool m.keypad, .int .i64 m.mouse, .bool m.sgr]) 23 (0, 0))] _
            refine Sx.next ?_
            refine Sc.seq ?_
            refine Sc.seq ?_
            refine Sc.region ?_
            refine Seg.y rfl rfl (Want.none rfl) (Y.fieldAddr rfl (A.field Try.underlying77 rfl sz4 rfl rfl)) ?_
            refine Seg.y rfl rfl (Want.none rfl) (Y.load1 1 rfl rfl rfl ag4) ?_
            refine Seg.nil ?_
            refine Sx.next ?_
            refine Sc.condF rfl rfl ?_
            refine Sc.skip ?_
            refine Sx.next ?_
            refine Sc.region ?_
            refine Seg.y rfl rfl (Want.none rfl) (Y.move rfl) ?_
            refine Seg.y rfl rfl (Want.none rfl) (Y.loadN (vs := [.int .i64 36, .int .i64 4, .int .i64 (2 - r9), .int .i64 0, .int .i64 0, .string ByteArray.empty]) 0 rfl rfl rfl rfl ag53 sz53) ?_
            refine Seg.chg rfl rfl (Want.none rfl) (C.buildSlice (e := 53) (cs := [.int .i64 36, .int .i64 4, .int .i64 (2 - r9), .int .i64 0, .int .i64 0, .string ByteArray.empty]) rfl (fun w => by kernel_rfl)) (fun b11 hb11 => ?_)
            refine Seg.freeze 0 rfl hb11 ?_
            refine Seg.chg rfl rfl (Want.none rfl) (C.appendL (enc := encAc) (acc := (actsTo m 0)) (bs := [(⟨36, 4, 2 - r9, (⟨0, 0⟩ : Co), ByteArray.empty⟩ : Ac)]) (spare := sp) (free := fr) (ob := ob) 2 (fun _ => rfl) (fun _ => rfl) rfl rfl rfl hA (fun w hs => (fun h => .inr ⟨_, _, rfl, blk_cells (o := 0) (n := 6) (h.2) rfl⟩) hs.fut.now) Try.underlying44 Try.underlying44 sz53 zv53 rfl inf53 (by first | omega | (simp only [List.length_cons, List.length_nil]; omega) | (simp only [List.length_append, List.length_cons, List.length_nil] at *; omega)) (by first | omega | (simp only [List.length_cons, List.length_nil]; omega) | (simp only [List.length_append, List.length_cons, List.length_nil] at *; omega))) (fun ⟨ob12, fr12, sp12⟩ hA12 => ?_)
            refine Seg.y rfl rfl (Want.none rfl) (Y.assign rfl) ?_
            refine Seg.nil ?_
            refine Sx.block_normal ?_
            refine Sx.next ?_
            refine Sc.region ?_
            refine Seg.y rfl rfl (Want.none rfl) (Y.binOp rfl rfl (B.add _ _ _ 1 (by decide))) ?_
            refine Seg.y rfl rfl (Want.none rfl) (Y.move rfl) ?_
            refine Seg.nil ?_
            have e : actsTo m 1 = actsTo m 0 ++ [(⟨36, 4, 2 - r9, (⟨0, 0⟩ : Co), ByteArray.empty⟩ : Ac)] := by simp [actsTo, stepAct, hr2, h3, h3p, h6, h6p, h8, hr9]
            have hle : (actsTo m 1).length ≤ 1 := by rw [e]; first | omega | (simp only [List.length_append, List.length_cons, List.length_nil]; omega)
            exact Sx.head (1, ob12, fr12, sp12) ⟨by omega, hle, by rw [e]; exact hA12⟩ (by first | omega | (dsimp only; omega)) ⟨rfl, (someV (by rw [e])), rfl, rfl, rfl, rfl, trivial⟩ [2, 3, 4] (by decide) (by dsimp only; rw [e]; rfl) (fun _ h => h.1)
      · skip
        refine Seg.y rfl rfl (Want.none rfl) (Y.indexAddr rfl rfl (A.index Try.underlying74 sz77 (by decide) (by decide) rfl)) ?_
        refine Seg.y rfl rfl (Want.none rfl) (Y.loadFN (vs := [.bool false, .int .i64 20, .func (.func 36) #[] #[]]) rfl ag77 sz77 rfl (fun w h => blk_cells (n := 3) (h.2) rfl)) ?_
        refine Seg.chg rfl rfl (Want.none rfl) (C.alloc zv77 rfl) (fun b13 hb13 => ?_)
        refine Seg.chs rfl (Want.none rfl) (C.store (cs' := [.bool false, .int .i64 20, .func (.func 36) #[] #[]]) (vs := [.bool false, .int .i64 20, .func (.func 36) #[] #[]]) 0 rfl rfl rfl rfl rfl rfl rfl sz77) (fun _ _ => ?_)
        refine Seg.nil ?_
        refine Sx.next ?_
        refine Sc.seq ?_
        refine Sc.region ?_
        refine Seg.y rfl rfl (Want.none rfl) (Y.fieldAddr rfl (A.field Try.underlying77 rfl sz64 rfl rfl)) ?_
        refine Seg.y rfl rfl (Want.none rfl) (Y.load1 0 rfl rfl rfl ag64) ?_
        refine Seg.callV (v := .pointer (some ⟨b1, 1, none⟩)) rfl rfl (Want.none rfl) (K.value rfl rfl co36) (fun w hs => field2_c b1 w ) ?_
        refine Seg.y rfl rfl (Want.none rfl) (Y.nilCheck rfl) ?_
        refine Seg.y rfl rfl (Want.none rfl) (Y.load1 3 rfl rfl rfl ag4) ?_
        refine Seg.y rfl rfl (Want.none rfl) (Y.assign rfl) ?_
        refine Seg.nil ?_
        refine Sx.next ?_
        refine Sc.seq ?_
        refine Sc.seq ?_
        refine Sc.region ?_
        refine Seg.y rfl rfl (Want.none rfl) (Y.move rfl) ?_
        refine Seg.y rfl rfl (Want.none rfl) (Y.fieldAddr rfl (A.field Try.underlying77 rfl sz64 rfl rfl)) ?_
        refine Seg.y rfl rfl (Want.none rfl) (Y.load1 0 rfl rfl rfl ag64) ?_
        refine Seg.callV (v := .pointer (some ⟨b4, 1, none⟩)) rfl rfl (Want.none rfl) (K.value rfl rfl co36) (fun w hs => field2_c b4 w ) ?_
        refine Seg.y rfl rfl (Want.none rfl) (Y.nilCheck rfl) ?_
        refine Seg.y rfl rfl (Want.none rfl) (Y.load1 2 rfl rfl rfl ag4) ?_
        refine Seg.y rfl rfl (Want.none rfl) (Y.binOp rfl rfl (B.eqB _ _ Try.underlying4)) ?_
        refine Seg.nil ?_
        refine Sx.next ?_
        refine Sc.cond rfl (fun h14 => ?_) (fun h14 => ?_)
        · skip
          refine Sc.exit ?_
          refine Sx.next_exit ?_
          refine Sx.block_exit ?_
          refine Sx.next ?_
          refine Sc.region ?_
          refine Seg.y rfl rfl (Want.none rfl) (Y.binOp rfl rfl (B.add _ _ _ 2 (by decide))) ?_
          refine Seg.y rfl rfl (Want.none rfl) (Y.move rfl) ?_
          refine Seg.nil ?_
          have e : actsTo m 2 = actsTo m 1 := by simp [actsTo, stepAct, hr2, h3, h3p, h6, h6p, h14]
          have hle : (actsTo m 2).length ≤ 2 := by rw [e]; first | omega | (simp only [List.length_append, List.length_cons, List.length_nil]; omega)
          exact Sx.head (2, ob, fr, sp) ⟨by omega, hle, by rw [e]; exact hA⟩ (by first | omega | (dsimp only; omega)) ⟨rfl, (someV (by rw [e])), rfl, rfl, rfl, rfl, trivial⟩ [1, 2, 3] (by decide) (by dsimp only; rw [e]; rfl) (fun _ h => h)
        · skip
          refine Sc.skip ?_
          refine Sx.next ?_
          refine Sc.seq ?_
          obtain ⟨r15, hr15⟩ : ∃ x, x = toldS m.nl := ⟨_, rfl⟩
          have hbr15 : 1 ≤ r15 ∧ r15 ≤ 2 := by rw [hr15]; exact told_bd _
          refine Sc.cut (fun (b16 : Nat) => w.heap.size ≤ b16) (fun (b16 : Nat) => [(1, .pointer (some ⟨b1, 0, none⟩)), (2, .slice (ob.map mkA) ((actsTo m 1).length) ((actsTo m 1).length + fr)), (5, .pointer (some ⟨b4, 0, none⟩)), (7, .pointer (some ⟨b13, 0, none⟩)), (9, .pointer (some ⟨b16, 0, none⟩)), (16, .slice (some ⟨b5, 0, none⟩) 11 11), (17, .int .i64 11), (18, .int .i64 1)]) (fun (b16 : Nat) => [(some b16, .cells (List.toArray [.int .i64 36, .int .i64 20, .int .i64 (2 - r15), .int .i64 0, .int .i64 0, .string ByteArray.empty]) 53 (0, 0)), (some b13, .cells (List.toArray [.bool false, .int .i64 20, .func (.func 36) #[] #[]]) 77 (0, 0)), (ob, .cells (List.toArray (List.flatMap encAc (actsTo m 1) ++ sp)) 53 (0, 0)), (some b4, .cells (List.toArray [.bool newS.ins, .bool newS.nl, .bool newS.ck, .bool newS.inv, .bool newS.org, .bool newS.aut, .bool newS.vis, .bool newS.paste, .bool newS.focus, .bool newS.sync, .bool newS.keypad, .int .i64 newS.mouse, .bool newS.sgr]) 23 (0, 0)), (some b1, .cells (List.toArray [.bool m.ins, .bool m.nl, .bool m.ck, .bool m.inv, .bool m.org, .bool m.aut, .bool m.vis, .bool m.paste, .bool m.focus, .bool m.sync, .bool m.keypad, .int .i64 m.mouse, .bool m.sgr]) 23 (0, 0))]) (fun _ => fun w => (True) ∧ w.heap[b5]? = some (.cells (List.toArray [.bool false, .int .i64 4, .func (.func 35) #[] #[], .bool false, .int .i64 20, .func (.func 36) #[] #[], .bool true, .int .i64 1, .func (.func 37) #[] #[], .bool true, .int .i64 5, .func (.func 38) #[] #[], .bool true, .int .i64 6, .func (.func 39) #[] #[], .bool true, .int .i64 7, .func (.func 40) #[] #[], .bool true, .int .i64 25, .func (.func 41) #[] #[], .bool true, .int .i64 1004, .func (.func 42) #[] #[], .bool true, .int .i64 1006, .func (.func 43) #[] #[], .bool true, .int .i64 2004, .func (.func 44) #[] #[], .bool true, .int .i64 2026, .func (.func 45) #[] #[]]) 77 (0, 0))) ?_ ?_
          · skip
            refine Sc.draw (by kernel_rfl) (fun _ h => St.lean [0, 1, 2, 3] (by decide) (fun _ h => h) h rfl) ?_
            refine Sd.take 0 rfl rfl rfl (by kernel_rfl) (by kernel_rfl) (by kernel_rfl) Cut.panic (Want.none rfl) (Y.fieldAddr rfl (A.field Try.underlying77 rfl sz3 rfl rfl)) ?_
            refine Sd.take 1 rfl rfl rfl (by kernel_rfl) (by kernel_rfl) (by kernel_rfl) Cut.panic (Want.none rfl) (Y.load1 0 rfl rfl rfl ag3) ?_
            refine Sd.take 2 rfl rfl rfl (by kernel_rfl) (by kernel_rfl) (by kernel_rfl) Cut.panic (Want.none rfl) (Y.move rfl) ?_
            refine Sd.all [3, 6] (by kernel_rfl) (by decide) (all_cons ?_ (all_cons ?_ all_nil))
            · skip
              refine Sp.callV (v := .int .i64 r15) rfl rfl rfl (Want.none rfl) (K.func rfl co32) (fun w hs => by rw [hr15]; exact told_c m.nl w ) ?_
              refine Sd.take 4 rfl rfl rfl (by kernel_rfl) (by kernel_rfl) (by kernel_rfl) Cut.panic (Want.none rfl) (Y.binOp rfl rfl (B.sub _ _ _ (2 - r15) (wr_i64 (by omega)))) ?_
              refine Sd.take 5 rfl rfl rfl (by kernel_rfl) (by kernel_rfl) (by kernel_rfl) Cut.panic (Want.none rfl) (Y.build (v := .agg (List.toArray [.int .i64 36, .int .i64 20, .int .i64 (2 - r15), .int .i64 0, .int .i64 0, .string ByteArray.empty])) rfl (fun w => by kernel_rfl)) ?_
              refine Sd.all [6] (by kernel_rfl) (by decide) (all_cons ?_ all_nil)
              refine Sp.chg rfl rfl rfl (Want.none rfl) (C.alloc zv53 rfl) (fun _ _ _ h => St.lean [1, 2, 3, 4] (by decide) (fun _ h => h) h rfl) (fun b16 hb16 => ?_)
              refine Sd.all [7] (by kernel_rfl) (by decide) (all_cons ?_ all_nil)
              refine Sp.chgs rfl rfl (Want.none rfl) (C.store (cs' := [.int .i64 36, .int .i64 20, .int .i64 (2 - r15), .int .i64 0, .int .i64 0, .string ByteArray.empty]) (vs := [.int .i64 36, .int .i64 20, .int .i64 (2 - r15), .int .i64 0, .int .i64 0, .string ByteArray.empty]) 0 rfl rfl rfl rfl rfl rfl rfl sz53) (fun _ _ _ h => St.lean [1, 2, 3, 4] (by decide) (fun _ h => h) h rfl) (fun _ _ => ?_)
              refine Sd.done (by kernel_rfl) ?_
              exact Sx.cut b16 hb16 ⟨rfl, rfl, rfl, rfl, rfl, rfl, rfl, rfl, trivial⟩ [0, 1, 2, 3, 4] (by decide) rfl (fun _ h => h)
            refine Sp.chg rfl rfl rfl (Want.none rfl) (C.alloc zv53 rfl) (fun _ _ _ h => St.lean [1, 2, 3, 4] (by decide) (fun _ h => h) h rfl) (fun b16 hb16 => ?_)
            refine Sd.all [3] (by kernel_rfl) (by decide) (all_cons ?_ all_nil)
            refine Sp.callV (v := .int .i64 r15) rfl rfl rfl (Want.none rfl) (K.func rfl co32) (fun w hs => by rw [hr15]; exact told_c m.nl w ) ?_
            refine Sd.take 4 rfl rfl rfl (by kernel_rfl) (by kernel_rfl) (by kernel_rfl) Cut.panic (Want.none rfl) (Y.binOp rfl rfl (B.sub _ _ _ (2 - r15) (wr_i64 (by omega)))) ?_
            refine Sd.take 5 rfl rfl rfl (by kernel_rfl) (by kernel_rfl) (by kernel_rfl) Cut.panic (Want.none rfl) (Y.build (v := .agg (List.toArray [.int .i64 36, .int .i64 20, .int .i64 (2 - r15), .int .i64 0, .int .i64 0, .string ByteArray.empty])) rfl (fun w => by kernel_rfl)) ?_
            refine Sd.all [7] (by kernel_rfl) (by decide) (all_cons ?_ all_nil)
            refine Sp.chgs rfl rfl (Want.none rfl) (C.store (cs' := [.int .i64 36, .int .i64 20, .int .i64 (2 - r15), .int .i64 0, .int .i64 0, .string ByteArray.empty]) (vs := [.int .i64 36, .int .i64 20, .int .i64 (2 - r15), .int .i64 0, .int .i64 0, .string ByteArray.empty]) 0 rfl rfl rfl rfl rfl rfl rfl sz53) (fun _ _ _ h => St.lean [1, 2, 3, 4] (by decide) (fun _ h => h) h rfl) (fun _ _ => ?_)
            refine Sd.done (by kernel_rfl) ?_
            exact Sx.cut b16 hb16 ⟨rfl, rfl, rfl, rfl, rfl, rfl, rfl, rfl, trivial⟩ [0, 1, 2, 3, 4] (by decide) rfl (fun _ h => h)
          · rintro b16 hb16
            show Sx _ _ _ [(1, .pointer (some ⟨b1, 0, none⟩)), (2, .slice (ob.map mkA) ((actsTo m 1).length) ((actsTo m 1).length + fr)), (5, .pointer (some ⟨b4, 0, none⟩)), (7, .pointer (some ⟨b13, 0, none⟩)), (9, .pointer (some ⟨b16, 0, none⟩)), (16, .slice (some ⟨b5, 0, none⟩) 11 11), (17, .int .i64 11), (18, .int .i64 1)] [(some b16, .cells (List.toArray [.int .i64 36, .int .i64 20, .int .i64 (2 - r15), .int .i64 0, .int .i64 0, .string ByteArray.empty]) 53 (0, 0)), (some b13, .cells (List.toArray [.bool false, .int .i64 20, .func (.func 36) #[] #[]]) 77 (0, 0)), (ob, .cells (List.toArray (List.flatMap encAc (actsTo m 1) ++ sp)) 53 (0, 0)), (some b4, .cells (List.toArray [.bool newS.ins, .bool newS.nl, .bool newS.ck, .bool newS.inv, .bool newS.org, .bool newS.aut, .bool newS.vis, .bool newS.paste, .bool newS.focus, .bool newS.sync, .bool newS.keypad, .int .i64 newS.mouse, .bool newS.sgr]) 23 (0, 0)), (some b1, .cells (List.toArray [.bool m.ins, .bool m.nl, .bool m.ck, .bool m.inv, .bool m.org, .bool m.aut, .bool m.vis, .bool m.paste, .bool m.focus, .bool m.sync, .bool m.keypad, .int .i64 m.mouse, .bool m.sgr]) 23 (0, 0))] _
            refine Sx.next ?_
            refine Sc.seq ?_
            refine Sc.seq ?_
            refine Sc.region ?_
            refine Seg.y rfl rfl (Want.none rfl) (Y.fieldAddr rfl (A.field Try.underlying77 rfl sz4 rfl rfl)) ?_
            refine Seg.y rfl rfl (Want.none rfl) (Y.load1 1 rfl rfl rfl ag4) ?_
            refine Seg.nil ?_
            refine Sx.next ?_
            refine Sc.condF rfl rfl ?_
            refine Sc.skip ?_
            refine Sx.next ?_
            refine Sc.region ?_
            refine Seg.y rfl rfl (Want.none rfl) (Y.move rfl) ?_
            refine Seg.y rfl rfl (Want.none rfl) (Y.loadN (vs := [.int .i64 36, .int .i64 20, .int .i64 (2 - r15), .int .i64 0, .int .i64 0, .string ByteArray.empty]) 0 rfl rfl rfl rfl ag53 sz53) ?_
            refine Seg.chg rfl rfl (Want.none rfl) (C.buildSlice (e := 53) (cs := [.int .i64 36, .int .i64 20, .int .i64 (2 - r15), .int .i64 0, .int .i64 0, .string ByteArray.empty]) rfl (fun w => by kernel_rfl)) (fun b17 hb17 => ?_)
            refine Seg.freeze 0 rfl hb17 ?_
            refine Seg.chg rfl rfl (Want.none rfl) (C.appendL (enc := encAc) (acc := (actsTo m 1)) (bs := [(⟨36, 20, 2 - r15, (⟨0, 0⟩ : Co), ByteArray.empty⟩ : Ac)]) (spare := sp) (free := fr) (ob := ob) 2 (fun _ => rfl) (fun _ => rfl) rfl rfl rfl hA (fun w hs => (fun h => .inr ⟨_, _, rfl, blk_cells (o := 0) (n := 6) (h.2) rfl⟩) hs.fut.now) Try.underlying44 Try.underlying44 sz53 zv53 rfl inf53 (by first | omega | (simp only [List.length_cons, List.length_nil]; omega) | (simp only [List.length_append, List.length_cons, List.length_nil] at *; omega)) (by first | omega | (simp only [List.length_cons, List.length_nil]; omega) | (simp only [List.length_append, List.length_cons, List.length_nil] at *; omega))) (fun ⟨ob18, fr18, sp18⟩ hA18 => ?_)
            refine Seg.y rfl rfl (Want.none rfl) (Y.assign rfl) ?_
            refine Seg.nil ?_
            refine Sx.block_normal ?_
            refine Sx.next ?_
            refine Sc.region ?_
            refine Seg.y rfl rfl (Want.none rfl) (Y.binOp rfl rfl (B.add _ _ _ 2 (by decide))) ?_
            refine Seg.y rfl rfl (Want.none rfl) (Y.move rfl) ?_
            refine Seg.nil ?_
            have e : actsTo m 2 = actsTo m 1 ++ [(⟨36, 20, 2 - r15, (⟨0, 0⟩ : Co), ByteArray.empty⟩ : Ac)] := by simp [actsTo, stepAct, hr2, h3, h3p, h6, h6p, h14, hr15]
            have hle : (actsTo m 2).length ≤ 2 := by rw [e]; first | omega | (simp only [List.length_append, List.length_cons, List.length_nil]; omega)
            exact Sx.head (2, ob18, fr18, sp18) ⟨by omega, hle, by rw [e]; exact hA18⟩ (by first | omega | (dsimp only; omega)) ⟨rfl, (someV (by rw [e])), rfl, rfl, rfl, rfl, trivial⟩ [2, 3, 4] (by decide) (by dsimp only; rw [e]; rfl) (fun _ h => h.1)
      · skip
        refine Seg.y rfl rfl (Want.none rfl) (Y.indexAddr rfl rfl (A.index Try.underlying74 sz77 (by decide) (by decide) rfl)) ?_
        refine Seg.y rfl rfl (Want.none rfl) (Y.loadFN (vs := [.bool true, .int .i64 1, .func (.func 37) #[] #[]]) rfl ag77 sz77 rfl (fun w h => blk_cells (n := 3) (h.2) rfl)) ?_
        refine Seg.chg rfl rfl (Want.none rfl) (C.alloc zv77 rfl) (fun b19 hb19 => ?_)
        refine Seg.chs rfl (Want.none rfl) (C.store (cs' := [.bool true, .int .i64 1, .func (.func 37) #[] #[]]) (vs := [.bool true, .int .i64 1, .func (.func 37) #[] #[]]) 0 rfl rfl rfl rfl rfl rfl rfl sz77) (fun _ _ => ?_)
        refine Seg.nil ?_
        refine Sx.next ?_
        refine Sc.seq ?_
        refine Sc.region ?_
        refine Seg.y rfl rfl (Want.none rfl) (Y.fieldAddr rfl (A.field Try.underlying77 rfl sz64 rfl rfl)) ?_
        refine Seg.y rfl rfl (Want.none rfl) (Y.load1 0 rfl rfl rfl ag64) ?_
        refine Seg.callV (v := .pointer (some ⟨b1, 2, none⟩)) rfl rfl (Want.none rfl) (K.value rfl rfl co37) (fun w hs => field3_c b1 w ) ?_
        refine Seg.y rfl rfl (Want.none rfl) (Y.nilCheck rfl) ?_
        refine Seg.y rfl rfl (Want.none rfl) (Y.load1 3 rfl rfl rfl ag4) ?_
        refine Seg.y rfl rfl (Want.none rfl) (Y.assign rfl) ?_
        refine Seg.nil ?_
        refine Sx.next ?_
        refine Sc.seq ?_
        refine Sc.seq ?_
        refine Sc.region ?_
        refine Seg.y rfl rfl (Want.none rfl) (Y.move rfl) ?_
        refine Seg.y rfl rfl (Want.none rfl) (Y.fieldAddr rfl (A.field Try.underlying77 rfl sz64 rfl rfl)) ?_
        refine Seg.y rfl rfl (Want.none rfl) (Y.load1 0 rfl rfl rfl ag64) ?_
        refine Seg.callV (v := .pointer (some ⟨b4, 2, none⟩)) rfl rfl (Want.none rfl) (K.value rfl rfl co37) (fun w hs => field3_c b4 w ) ?_
        refine Seg.y rfl rfl (Want.none rfl) (Y.nilCheck rfl) ?_
        refine Seg.y rfl rfl (Want.none rfl) (Y.load1 2 rfl rfl rfl ag4) ?_
        refine Seg.y rfl rfl (Want.none rfl) (Y.binOp rfl rfl (B.eqB _ _ Try.underlying4)) ?_
        refine Seg.nil ?_
        refine Sx.next ?_
        refine Sc.cond rfl (fun h20 => ?_) (fun h20 => ?_)
        · skip
          refine Sc.exit ?_
          refine Sx.next_exit ?_
          refine Sx.block_exit ?_
          refine Sx.next ?_
          refine Sc.region ?_
          refine Seg.y rfl rfl (Want.none rfl) (Y.binOp rfl rfl (B.add _ _ _ 3 (by decide))) ?_
          refine Seg.y rfl rfl (Want.none rfl) (Y.move rfl) ?_
          refine Seg.nil ?_
          have e : actsTo m 3 = actsTo m 2 := by simp [actsTo, stepAct, hr2, h3, h3p, h6, h6p, h20]
          have hle : (actsTo m 3).length ≤ 3 := by rw [e]; first | omega | (simp only [List.length_append, List.length_cons, List.length_nil]; omega)
          exact Sx.head (3, ob, fr, sp) ⟨by omega, hle, by rw [e]; exact hA⟩ (by first | omega | (dsimp only; omega)) ⟨rfl, (someV (by rw [e])), rfl, rfl, rfl, rfl, trivial⟩ [1, 2, 3] (by decide) (by dsimp only; rw [e]; rfl) (fun _ h => h)
        · skip
          refine Sc.skip ?_
          refine Sx.next ?_
          refine Sc.seq ?_
          obtain ⟨r21, hr21⟩ : ∃ x, x = toldS m.ck := ⟨_, rfl⟩
          have hbr21 : 1 ≤ r21 ∧ r21 ≤ 2 := by rw [hr21]; exact told_bd _
          refine Sc.cut (fun (b22 : Nat) => w.heap.size ≤ b22) (fun (b22 : Nat) => [(1, .pointer (some ⟨b1, 0, none⟩)), (2, .slice (ob.map mkA) ((actsTo m 2).length) ((actsTo m 2).length + fr)), (5, .pointer (some ⟨b4, 0, none⟩)), (7, .pointer (some ⟨b19, 0, none⟩)), (9, .pointer (some ⟨b22, 0, none⟩)), (16, .slice (some ⟨b5, 0, none⟩) 11 11), (17, .int .i64 11), (18, .int .i64 2)]) (fun (b22 : Nat) => [(some b22, .cells (List.toArray [.int .i64 36, .int .i64 1, .int .i64 (2 - r21), .int .i64 0, .int .i64 0, .string ByteArray.empty]) 53 (0, 0)), (some b19, .cells (List.toArray [.bool true, .int .i64 1, .func (.func 37) #[] #[]]) 77 (0, 0)), (ob, .cells (List.toArray (List.flatMap encAc (actsTo m 2) ++ sp)) 53 (0, 0)), (some b4, .cells (List.toArray [.bool newS.ins, .bool newS.nl, .bool newS.ck, .bool newS.inv, .bool newS.org, .bool newS.aut, .bool newS.vis, .bool newS.paste, .bool newS.focus, .bool newS.sync, .bool newS.keypad, .int .i64 newS.mouse, .bool newS.sgr]) 23 (0, 0)), (some b1, .cells (List.toArray [.bool m.ins, .bool m.nl, .bool m.ck, .bool m.inv, .bool m.org, .bool m.aut, .bool m.vis, .bool m.paste, .bool m.focus, .bool m.sync, .bool m.keypad, .int .i64 m.mouse, .bool m.sgr]) 23 (0, 0))]) (fun _ => fun w => (True) ∧ w.heap[b5]? = some (.cells (List.toArray [.bool false, .int .i64 4, .func (.func 35) #[] #[], .bool false, .int .i64 20, .func (.func 36) #[] #[], .bool true, .int .i64 1, .func (.func 37) #[] #[], .bool true, .int .i64 5, .func (.func 38) #[] #[], .bool true, .int .i64 6, .func (.func 39) #[] #[], .bool true, .int .i64 7, .func (.func 40) #[] #[], .bool true, .int .i64 25, .func (.func 41) #[] #[], .bool true, .int .i64 1004, .func (.func 42) #[] #[], .bool true, .int .i64 1006, .func (.func 43) #[] #[], .bool true, .int .i64 2004, .func (.func 44) #[] #[], .bool true, .int .i64 2026, .func (.func 45) #[] #[]]) 77 (0, 0))) ?_ ?_
          · skip
            refine Sc.draw (by kernel_rfl) (fun _ h => St.lean [0, 1, 2, 3] (by decide) (fun _ h => h) h rfl) ?_
            refine Sd.take 0 rfl rfl rfl (by kernel_rfl) (by kernel_rfl) (by kernel_rfl) Cut.panic (Want.none rfl) (Y.fieldAddr rfl (A.field Try.underlying77 rfl sz3 rfl rfl)) ?_
            refine Sd.take 1 rfl rfl rfl (by kernel_rfl) (by kernel_rfl) (by kernel_rfl) Cut.panic (Want.none rfl) (Y.load1 0 rfl rfl rfl ag3) ?_
            refine Sd.take 2 rfl rfl rfl (by kernel_rfl) (by kernel_rfl) (by kernel_rfl) Cut.panic (Want.none rfl) (Y.move rfl) ?_
            refine Sd.all [3, 6] (by kernel_rfl) (by decide) (all_cons ?_ (all_cons ?_ all_nil))
            · skip
              refine Sp.callV (v := .int .i64 r21) rfl rfl rfl (Want.none rfl) (K.func rfl co32) (fun w hs => by rw [hr21]; exact told_c m.ck w ) ?_
              refine Sd.take 4 rfl rfl rfl (by kernel_rfl) (by kernel_rfl) (by kernel_rfl) Cut.panic (Want.none rfl) (Y.binOp rfl rfl (B.sub _ _ _ (2 - r21) (wr_i64 (by omega)))) ?_
              refine Sd.take 5 rfl rfl rfl (by kernel_rfl) (by kernel_rfl) (by kernel_rfl) Cut.panic (Want.none rfl) (Y.build (v := .agg (List.toArray [.int .i64 36, .int .i64 1, .int .i64 (2 - r21), .int .i64 0, .int .i64 0, .string ByteArray.empty])) rfl (fun w => by kernel_rfl)) ?_
              refine Sd.all [6] (by kernel_rfl) (by decide) (all_cons ?_ all_nil)
              refine Sp.chg rfl rfl rfl (Want.none rfl) (C.alloc zv53 rfl) (fun _ _ _ h => St.lean [1, 2, 3, 4] (by decide) (fun _ h => h) h rfl) (fun b22 hb22 => ?_)
              refine Sd.all [7] (by kernel_rfl) (by decide) (all_cons ?_ all_nil)
              refine Sp.chgs rfl rfl (Want.none rfl) (C.store (cs' := [.int .i64 36, .int .i64 1, .int .i64 (2 - r21), .int .i64 0, .int .i64 0, .string ByteArray.empty]) (vs := [.int .i64 36, .int .i64 1, .int .i64 (2 - r21), .int .i64 0, .int .i64 0, .string ByteArray.empty]) 0 rfl rfl rfl rfl rfl rfl rfl sz53) (fun _ _ _ h => St.lean [1, 2, 3, 4] (by decide) (fun _ h => h) h rfl) (fun _ _ => ?_)
              refine Sd.done (by kernel_rfl) ?_
              exact Sx.cut b22 hb22 ⟨rfl, rfl, rfl, rfl, rfl, rfl, rfl, rfl, trivial⟩ [0, 1, 2, 3, 4] (by decide) rfl (fun _ h => h)
            refine Sp.chg rfl rfl rfl (Want.none rfl) (C.alloc zv53 rfl) (fun _ _ _ h => St.lean [1, 2, 3, 4] (by decide) (fun _ h => h) h rfl) (fun b22 hb22 => ?_)
            refine Sd.all [3] (by kernel_rfl) (by decide) (all_cons ?_ all_nil)
            refine Sp.callV (v := .int .i64 r21) rfl rfl rfl (Want.none rfl) (K.func rfl co32) (fun w hs => by rw [hr21]; exact told_c m.ck w ) ?_
            refine Sd.take 4 rfl rfl rfl (by kernel_rfl) (by kernel_rfl) (by kernel_rfl) Cut.panic (Want.none rfl) (Y.binOp rfl rfl (B.sub _ _ _ (2 - r21) (wr_i64 (by omega)))) ?_
            refine Sd.take 5 rfl rfl rfl (by kernel_rfl) (by kernel_rfl) (by kernel_rfl) Cut.panic (Want.none rfl) (Y.build (v := .agg (List.toArray [.int .i64 36, .int .i64 1, .int .i64 (2 - r21), .int .i64 0, .int .i64 0, .string ByteArray.empty])) rfl (fun w => by kernel_rfl)) ?_
            refine Sd.all [7] (by kernel_rfl) (by decide) (all_cons ?_ all_nil)
            refine Sp.chgs rfl rfl (Want.none rfl) (C.store (cs' := [.int .i64 36, .int .i64 1, .int .i64 (2 - r21), .int .i64 0, .int .i64 0, .string ByteArray.empty]) (vs := [.int .i64 36, .int .i64 1, .int .i64 (2 - r21), .int .i64 0, .int .i64 0, .string ByteArray.empty]) 0 rfl rfl rfl rfl rfl rfl rfl sz53) (fun _ _ _ h => St.lean [1, 2, 3, 4] (by decide) (fun _ h => h) h rfl) (fun _ _ => ?_)
            refine Sd.done (by kernel_rfl) ?_
            exact Sx.cut b22 hb22 ⟨rfl, rfl, rfl, rfl, rfl, rfl, rfl, rfl, trivial⟩ [0, 1, 2, 3, 4] (by decide) rfl (fun _ h => h)
          · rintro b22 hb22
            show Sx _ _ _ [(1, .pointer (some ⟨b1, 0, none⟩)), (2, .slice (ob.map mkA) ((actsTo m 2).length) ((actsTo m 2).length + fr)), (5, .pointer (some ⟨b4, 0, none⟩)), (7, .pointer (some ⟨b19, 0, none⟩)), (9, .pointer (some ⟨b22, 0, none⟩)), (16, .slice (some ⟨b5, 0, none⟩) 11 11), (17, .int .i64 11), (18, .int .i64 2)] [(some b22, .cells (List.toArray [.int .i64 36, .int .i64 1, .int .i64 (2 - r21), .int .i64 0, .int .i64 0, .string ByteArray.empty]) 53 (0, 0)), (some b19, .cells (List.toArray [.bool true, .int .i64 1, .func (.func 37) #[] #[]]) 77 (0, 0)), (ob, .cells (List.toArray (List.flatMap encAc (actsTo m 2) ++ sp)) 53 (0, 0)), (some b4, .cells (List.toArray [.bool newS.ins, .bool newS.nl, .bool newS.ck, .bool newS.inv, .bool newS.org, .bool newS.aut, .bool newS.vis, .bool newS.paste, .bool newS.focus, .bool newS.sync, .bool newS.keypad, .int .i64 newS.mouse, .bool newS.sgr]) 23 (0, 0)), (some b1, .cells (List.toArray [.bool m.ins, .bool m.nl, .bool m.ck, .bool m.inv, .bool m.org, .bool m.aut, .bool m.vis, .bool m.paste, .bool m.focus, .bool m.sync, .bool m.keypad, .int .i64 m.mouse, .bool m.sgr]) 23 (0, 0))] _
            refine Sx.next ?_
            refine Sc.seq ?_
            refine Sc.seq ?_
            refine Sc.region ?_
            refine Seg.y rfl rfl (Want.none rfl) (Y.fieldAddr rfl (A.field Try.underlying77 rfl sz4 rfl rfl)) ?_
            refine Seg.y rfl rfl (Want.none rfl) (Y.load1 1 rfl rfl rfl ag4) ?_
            refine Seg.nil ?_
            refine Sx.next ?_
            refine Sc.condT rfl rfl ?_
            refine Sc.region ?_
            refine Seg.y rfl rfl (Want.none rfl) (Y.fieldAddr rfl (A.field Try.underlying53 rfl sz3 rfl rfl)) ?_
            refine Seg.chs rfl (Want.none rfl) (C.store (cs' := [.int .i64 37, .int .i64 1, .int .i64 (2 - r21), .int .i64 0, .int .i64 0, .string ByteArray.empty]) (vs := [.int .i64 37]) 0 rfl rfl rfl rfl rfl rfl rfl sz3) (fun _ _ => ?_)
            refine Seg.nil ?_
            refine Sx.next ?_
            refine Sc.region ?_
            refine Seg.y rfl rfl (Want.none rfl) (Y.move rfl) ?_
            refine Seg.y rfl rfl (Want.none rfl) (Y.loadN (vs := [.int .i64 37, .int .i64 1, .int .i64 (2 - r21), .int .i64 0, .int .i64 0, .string ByteArray.empty]) 0 rfl rfl rfl rfl ag53 sz53) ?_
            refine Seg.chg rfl rfl (Want.none rfl) (C.buildSlice (e := 53) (cs := [.int .i64 37, .int .i64 1, .int .i64 (2 - r21), .int .i64 0, .int .i64 0, .string ByteArray.empty]) rfl (fun w => by kernel_rfl)) (fun b23 hb23 => ?_)
            refine Seg.freeze 0 rfl hb23 ?_
            refine Seg.chg rfl rfl (Want.none rfl) (C.appendL (enc := encAc) (acc := (actsTo m 2)) (bs := [(⟨37, 1, 2 - r21, (⟨0, 0⟩ : Co), ByteArray.empty⟩ : Ac)]) (spare := sp) (free := fr) (ob := ob) 2 (fun _ => rfl) (fun _ => rfl) rfl rfl rfl hA (fun w hs => (fun h => .inr ⟨_, _, rfl, blk_cells (o := 0) (n := 6) (h.2) rfl⟩) hs.fut.now) Try.underlying44 Try.underlying44 sz53 zv53 rfl inf53 (by first | omega | (simp only [List.length_cons, List.length_nil]; omega) | (simp only [List.length_append, List.length_cons, List.length_nil] at *; omega)) (by first | omega | (simp only [List.length_cons, List.length_nil]; omega) | (simp only [List.length_append, List.length_cons, List.length_nil] at *; omega))) (fun ⟨ob24, fr24, sp24⟩ hA24 => ?_)
            refine Seg.y rfl rfl (Want.none rfl) (Y.assign rfl) ?_
            refine Seg.nil ?_
            refine Sx.block_normal ?_
            refine Sx.next ?_
            refine Sc.region ?_
            refine Seg.y rfl rfl (Want.none rfl) (Y.binOp rfl rfl (B.add _ _ _ 3 (by decide))) ?_
            refine Seg.y rfl rfl (Want.none rfl) (Y.move rfl) ?_
            refine Seg.nil ?_
            have e : actsTo m 3 = actsTo m 2 ++ [(⟨37, 1, 2 - r21, (⟨0, 0⟩ : Co), ByteArray.empty⟩ : Ac)] := by simp [actsTo, stepAct, hr2, h3, h3p, h6, h6p, h20, hr21]
            have hle : (actsTo m 3).length ≤ 3 := by rw [e]; first | omega | (simp only [List.length_append, List.length_cons, List.length_nil]; omega)
            exact Sx.head (3, ob24, fr24, sp24) ⟨by omega, hle, by rw [e]; exact hA24⟩ (by first | omega | (dsimp only; omega)) ⟨rfl, (someV (by rw [e])), rfl, rfl, rfl, rfl, trivial⟩ [2, 3, 4] (by decide) (by dsimp only; rw [e]; rfl) (fun _ h => h.1)
      · skip
        refine Seg.y rfl rfl (Want.none rfl) (Y.indexAddr rfl rfl (A.index Try.underlying74 sz77 (by decide) (by decide) rfl)) ?_
        refine Seg.y rfl rfl (Want.none rfl) (Y.loadFN (vs := [.bool true, .int .i64 5, .func (.func 38) #[] #[]]) rfl ag77 sz77 rfl (fun w h => blk_cells (n := 3) (h.2) rfl)) ?_
        refine Seg.chg rfl rfl (Want.none rfl) (C.alloc zv77 rfl) (fun b25 hb25 => ?_)
        refine Seg.chs rfl (Want.none rfl) (C.store (cs' := [.bool true, .int .i64 5, .func (.func 38) #[] #[]]) (vs := [.bool true, .int .i64 5, .func (.func 38) #[] #[]]) 0 rfl rfl rfl rfl rfl rfl rfl sz77) (fun _ _ => ?_)
        refine Seg.nil ?_
        refine Sx.next ?_
        refine Sc.seq ?_
        refine Sc.region ?_
        refine Seg.y rfl rfl (Want.none rfl) (Y.fieldAddr rfl (A.field Try.underlying77 rfl sz64 rfl rfl)) ?_
        refine Seg.y rfl rfl (Want.none rfl) (Y.load1 0 rfl rfl rfl ag64) ?_
        refine Seg.callV (v := .pointer (some ⟨b1, 3, none⟩)) rfl rfl (Want.none rfl) (K.value rfl rfl co38) (fun w hs => field4_c b1 w ) ?_
        refine Seg.y rfl rfl (Want.none rfl) (Y.nilCheck rfl) ?_
        refine Seg.y rfl rfl (Want.none rfl) (Y.load1 3 rfl rfl rfl ag4) ?_
        refine Seg.y rfl rfl (Want.none rfl) (Y.assign rfl) ?_
        refine Seg.nil ?_
        refine Sx.next ?_
        refine Sc.seq ?_
        refine Sc.seq ?_
        refine Sc.region ?_
        refine Seg.y rfl rfl (Want.none rfl) (Y.move rfl) ?_
        refine Seg.y rfl rfl (Want.none rfl) (Y.fieldAddr rfl (A.field Try.underlying77 rfl sz64 rfl rfl)) ?_
        refine Seg.y rfl rfl (Want.none rfl) (Y.load1 0 rfl rfl rfl ag64) ?_
        refine Seg.callV (v := .pointer (some ⟨b4, 3, none⟩)) rfl rfl (Want.none rfl) (K.value rfl rfl co38) (fun w hs => field4_c b4 w ) ?_
        refine Seg.y rfl rfl (Want.none rfl) (Y.nilCheck rfl) ?_
        refine Seg.y rfl rfl (Want.none rfl) (Y.load1 2 rfl rfl rfl ag4) ?_
        refine Seg.y rfl rfl (Want.none rfl) (Y.binOp rfl rfl (B.eqB _ _ Try.underlying4)) ?_
        refine Seg.nil ?_
        refine Sx.next ?_
        refine Sc.cond rfl (fun h26 => ?_) (fun h26 => ?_)
        · skip
          refine Sc.exit ?_
          refine Sx.next_exit ?_
          refine Sx.block_exit ?_
          refine Sx.next ?_
          refine Sc.region ?_
          refine Seg.y rfl rfl (Want.none rfl) (Y.binOp rfl rfl (B.add _ _ _ 4 (by decide))) ?_
          refine Seg.y rfl rfl (Want.none rfl) (Y.move rfl) ?_
          refine Seg.nil ?_
          have e : actsTo m 4 = actsTo m 3 := by simp [actsTo, stepAct, hr2, h3, h3p, h6, h6p, h26]
          have hle : (actsTo m 4).length ≤ 4 := by rw [e]; first | omega | (simp only [List.length_append, List.length_cons, List.length_nil]; omega)
          exact Sx.head (4, ob, fr, sp) ⟨by omega, hle, by rw [e]; exact hA⟩ (by first | omega | (dsimp only; omega)) ⟨rfl, (someV (by rw [e])), rfl, rfl, rfl, rfl, trivial⟩ [1, 2, 3] (by decide) (by dsimp only; rw [e]; rfl) (fun _ h => h)
        · skip
          refine Sc.skip ?_
          refine Sx.next ?_
          refine Sc.seq ?_
          obtain ⟨r27, hr27⟩ : ∃ x, x = toldS m.inv := ⟨_, rfl⟩
          have hbr27 : 1 ≤ r27 ∧ r27 ≤ 2 := by rw [hr27]; exact told_bd _
          refine Sc.cut (fun (b28 : Nat) => w.heap.size ≤ b28) (fun (b28 : Nat) => [(1, .pointer (some ⟨b1, 0, none⟩)), (2, .slice (ob.map mkA) ((actsTo m 3).length) ((actsTo m 3).length + fr)), (5, .pointer (some ⟨b4, 0, none⟩)), (7, .pointer (some ⟨b25, 0, none⟩)), (9, .pointer (some ⟨b28, 0, none⟩)), (16, .slice (some ⟨b5, 0, none⟩) 11 11), (17, .int .i64 11), (18, .int .i64 3)]) (fun (b28 : Nat) => [(some b28, .cells (List.toArray [.int .i64 36, .int .i64 5, .int .i64 (2 - r27), .int .i64 0, .int .i64 0, .string ByteArray.empty]) 53 (0, 0)), (some b25, .cells (List.toArray [.bool true, .int .i64 5, .func (.func 38) #[] #[]]) 77 (0, 0)), (ob, .cells (List.toArray (List.flatMap encAc (actsTo m 3) ++ sp)) 53 (0, 0)), (some b4, .cells (List.toArray [.bool newS.ins, .bool newS.nl, .bool newS.ck, .bool newS.inv, .bool newS.org, .bool newS.aut, .bool newS.vis, .bool newS.paste, .bool newS.focus, .bool newS.sync, .bool newS.keypad, .int .i64 newS.mouse, .bool newS.sgr]) 23 (0, 0)), (some b1, .cells (List.toArray [.bool m.ins, .bool m.nl, .bool m.ck, .bool m.inv, .bool m.org, .bool m.aut, .bool m.vis, .bool m.paste, .bool m.focus, .bool m.sync, .bool m.keypad, .int .i64 m.mouse, .bool m.sgr]) 23 (0, 0))]) (fun _ => fun w => (True) ∧ w.heap[b5]? = some (.cells (List.toArray [.bool false, .int .i64 4, .func (.func 35) #[] #[], .bool false, .int .i64 20, .func (.func 36) #[] #[], .bool true, .int .i64 1, .func (.func 37) #[] #[], .bool true, .int .i64 5, .func (.func 38) #[] #[], .bool true, .int .i64 6, .func (.func 39) #[] #[], .bool true, .int .i64 7, .func (.func 40) #[] #[], .bool true, .int .i64 25, .func (.func 41) #[] #[], .bool true, .int .i64 1004, .func (.func 42) #[] #[], .bool true, .int .i64 1006, .func (.func 43) #[] #[], .bool true, .int .i64 2004, .func (.func 44) #[] #[], .bool true, .int .i64 2026, .func (.func 45) #[] #[]]) 77 (0, 0))) ?_ ?_
          · skip
            refine Sc.draw (by kernel_rfl) (fun _ h => St.lean [0, 1, 2, 3] (by decide) (fun _ h => h) h rfl) ?_
            refine Sd.take 0 rfl rfl rfl (by kernel_rfl) (by kernel_rfl) (by kernel_rfl) Cut.panic (Want.none rfl) (Y.fieldAddr rfl (A.field Try.underlying77 rfl sz3 rfl rfl)) ?_
            refine Sd.take 1 rfl rfl rfl (by kernel_rfl) (by kernel_rfl) (by kernel_rfl) Cut.panic (Want.none rfl) (Y.load1 0 rfl rfl rfl ag3) ?_
            refine Sd.take 2 rfl rfl rfl (by kernel_rfl) (by kernel_rfl) (by kernel_rfl) Cut.panic (Want.none rfl) (Y.move rfl) ?_
            refine Sd.all [3, 6] (by kernel_rfl) (by decide) (all_cons ?_ (all_cons ?_ all_nil))
            · skip
              refine Sp.callV (v := .int .i64 r27) rfl rfl rfl (Want.none rfl) (K.func rfl co32) (fun w hs => by rw [hr27]; exact told_c m.inv w ) ?_
              refine Sd.take 4 rfl rfl rfl (by kernel_rfl) (by kernel_rfl) (by kernel_rfl) Cut.panic (Want.none rfl) (Y.binOp rfl rfl (B.sub _ _ _ (2 - r27) (wr_i64 (by omega)))) ?_
              refine Sd.take 5 rfl rfl rfl (by kernel_rfl) (by kernel_rfl) (by kernel_rfl) Cut.panic (Want.none rfl) (Y.build (v := .agg (List.toArray [.int .i64 36, .int .i64 5, .int .i64 (2 - r27), .int .i64 0, .int .i64 0, .string ByteArray.empty])) rfl (fun w => by kernel_rfl)) ?_
              refine Sd.all [6] (by kernel_rfl) (by decide) (all_cons ?_ all_nil)
              refine Sp.chg rfl rfl rfl (Want.none rfl) (C.alloc zv53 rfl) (fun _ _ _ h => St.lean [1, 2, 3, 4] (by decide) (fun _ h => h) h rfl) (fun b28 hb28 => ?_)
              refine Sd.all [7] (by kernel_rfl) (by decide) (all_cons ?_ all_nil)
              refine Sp.chgs rfl rfl (Want.none rfl) (C.store (cs' := [.int .i64 36, .int .i64 5, .int .i64 (2 - r27), .int .i64 0, .int .i64 0, .string ByteArray.empty]) (vs := [.int .i64 36, .int .i64 5, .int .i64 (2 - r27), .int .i64 0, .int .i64 0, .string ByteArray.empty]) 0 rfl rfl rfl rfl rfl rfl rfl sz53) (fun _ _ _ h => St.lean [1, 2, 3, 4] (by decide) (fun _ h => h) h rfl) (fun _ _ => ?_)
              refine Sd.done (by kernel_rfl) ?_
              exact Sx.cut b28 hb28 ⟨rfl, rfl, rfl, rfl, rfl, rfl, rfl, rfl, trivial⟩ [0, 1, 2, 3, 4] (by decide) rfl (fun _ h => h)
            refine Sp.chg rfl rfl rfl (Want.none rfl) (C.alloc zv53 rfl) (fun _ _ _ h => St.lean [1, 2, 3, 4] (by decide) (fun _ h => h) h rfl) (fun b28 hb28 => ?_)
            refine Sd.all [3] (by kernel_rfl) (by decide) (all_cons ?_ all_nil)
            refine Sp.callV (v := .int .i64 r27) rfl rfl rfl (Want.none rfl) (K.func rfl co32) (fun w hs => by rw [hr27]; exact told_c m.inv w ) ?_
            refine Sd.take 4 rfl rfl rfl (by kernel_rfl) (by kernel_rfl) (by kernel_rfl) Cut.panic (Want.none rfl) (Y.binOp rfl rfl (B.sub _ _ _ (2 - r27) (wr_i64 (by omega)))) ?_
            refine Sd.take 5 rfl rfl rfl (by kernel_rfl) (by kernel_rfl) (by kernel_rfl) Cut.panic (Want.none rfl) (Y.build (v := .agg (List.toArray [.int .i64 36, .int .i64 5, .int .i64 (2 - r27), .int .i64 0, .int .i64 0, .string ByteArray.empty])) rfl (fun w => by kernel_rfl)) ?_
            refine Sd.all [7] (by kernel_rfl) (by decide) (all_cons ?_ all_nil)
            refine Sp.chgs rfl rfl (Want.none rfl) (C.store (cs' := [.int .i64 36, .int .i64 5, .int .i64 (2 - r27), .int .i64 0, .int .i64 0, .string ByteArray.empty]) (vs := [.int .i64 36, .int .i64 5, .int .i64 (2 - r27), .int .i64 0, .int .i64 0, .string ByteArray.empty]) 0 rfl rfl rfl rfl rfl rfl rfl sz53) (fun _ _ _ h => St.lean [1, 2, 3, 4] (by decide) (fun _ h => h) h rfl) (fun _ _ => ?_)
            refine Sd.done (by kernel_rfl) ?_
            exact Sx.cut b28 hb28 ⟨rfl, rfl, rfl, rfl, rfl, rfl, rfl, rfl, trivial⟩ [0, 1, 2, 3, 4] (by decide) rfl (fun _ h => h)
          · rintro b28 hb28
            show Sx _ _ _ [(1, .pointer (some ⟨b1, 0, none⟩)), (2, .slice (ob.map mkA) ((actsTo m 3).length) ((actsTo m 3).length + fr)), (5, .pointer (some ⟨b4, 0, none⟩)), (7, .pointer (some ⟨b25, 0, none⟩)), (9, .pointer (some ⟨b28, 0, none⟩)), (16, .slice (some ⟨b5, 0, none⟩) 11 11), (17, .int .i64 11), (18, .int .i64 3)] [(some b28, .cells (List.toArray [.int .i64 36, .int .i64 5, .int .i64 (2 - r27), .int .i64 0, .int .i64 0, .string ByteArray.empty]) 53 (0, 0)), (some b25, .cells (List.toArray [.bool true, .int .i64 5, .func (.func 38) #[] #[]]) 77 (0, 0)), (ob, .cells (List.toArray (List.flatMap encAc (actsTo m 3) ++ sp)) 53 (0, 0)), (some b4, .cells (List.toArray [.bool newS.ins, .bool newS.nl, .bool newS.ck, .bool newS.inv, .bool newS.org, .bool newS.aut, .bool newS.vis, .bool newS.paste, .bool newS.focus, .bool newS.sync, .bool newS.keypad, .int .i64 newS.mouse, .bool newS.sgr]) 23 (0, 0)), (some b1, .cells (List.toArray [.bool m.ins, .bool m.nl, .bool m.ck, .bool m.inv, .bool m.org, .bool m.aut, .bool m.vis, .bool m.paste, .bool m.focus, .bool m.sync, .bool m.keypad, .int .i64 m.mouse, .bool m.sgr]) 23 (0, 0))] _
            refine Sx.next ?_
            refine Sc.seq ?_
            refine Sc.seq ?_
            refine Sc.region ?_
            refine Seg.y rfl rfl (Want.none rfl) (Y.fieldAddr rfl (A.field Try.underlying77 rfl sz4 rfl rfl)) ?_
            refine Seg.y rfl rfl (Want.none rfl) (Y.load1 1 rfl rfl rfl ag4) ?_
            refine Seg.nil ?_
            refine Sx.next ?_
            refine Sc.condT rfl rfl ?_
            refine Sc.region ?_
            refine Seg.y rfl rfl (Want.none rfl) (Y.fieldAddr rfl (A.field Try.underlying53 rfl sz3 rfl rfl)) ?_
            refine Seg.chs rfl (Want.none rfl) (C.store (cs' := [.int .i64 37, .int .i64 5, .int .i64 (2 - r27), .int .i64 0, .int .i64 0, .string ByteArray.empty]) (vs := [.int .i64 37]) 0 rfl rfl rfl rfl rfl rfl rfl sz3) (fun _ _ => ?_)
            refine Seg.nil ?_
            refine Sx.next ?_
            refine Sc.region ?_
            refine Seg.y rfl rfl (Want.none rfl) (Y.move rfl) ?_
            refine Seg.y rfl rfl (Want.none rfl) (Y.loadN (vs := [.int .i64 37, .int .i64 5, .int .i64 (2 - r27), .int .i64 0, .int .i64 0, .string ByteArray.empty]) 0 rfl rfl rfl rfl ag53 sz53) ?_
            refine Seg.chg rfl rfl (Want.none rfl) (C.buildSlice (e := 53) (cs := [.int .i64 37, .int .i64 5, .int .i64 (2 - r27), .int .i64 0, .int .i64 0, .string ByteArray.empty]) rfl (fun w => by kernel_rfl)) (fun b29 hb29 => ?_)
            refine Seg.freeze 0 rfl hb29 ?_
            refine Seg.chg rfl rfl (Want.none rfl) (C.appendL (enc := encAc) (acc := (actsTo m 3)) (bs := [(⟨37, 5, 2 - r27, (⟨0, 0⟩ : Co), ByteArray.empty⟩ : Ac)]) (spare := sp) (free := fr) (ob := ob) 2 (fun _ => rfl) (fun _ => rfl) rfl rfl rfl hA (fun w hs => (fun h => .inr ⟨_, _, rfl, blk_cells (o := 0) (n := 6) (h.2) rfl⟩) hs.fut.now) Try.underlying44 Try.underlying44 sz53 zv53 rfl inf53 (by first | omega | (simp only [List.length_cons, List.length_nil]; omega) | (simp only [List.length_append, List.length_cons, List.length_nil] at *; omega)) (by first | omega | (simp only [List.length_cons, List.length_nil]; omega) | (simp only [List.length_append, List.length_cons, List.length_nil] at *; omega))) (fun ⟨ob30, fr30, sp30⟩ hA30 => ?_)
            refine Seg.y rfl rfl (Want.none rfl) (Y.assign rfl) ?_
            refine Seg.nil ?_
            refine Sx.block_normal ?_
            refine Sx.next ?_
            refine Sc.region ?_
            refine Seg.y rfl rfl (Want.none rfl) (Y.binOp rfl rfl (B.add _ _ _ 4 (by decide))) ?_
            refine Seg.y rfl rfl (Want.none rfl) (Y.move rfl) ?_
            refine Seg.nil ?_
            have e : actsTo m 4 = actsTo m 3 ++ [(⟨37, 5, 2 - r27, (⟨0, 0⟩ : Co), ByteArray.empty⟩ : Ac)] := by simp [actsTo, stepAct, hr2, h3, h3p, h6, h6p, h26, hr27]
            have hle : (actsTo m 4).length ≤ 4 := by rw [e]; first | omega | (simp only [List.length_append, List.length_cons, List.length_nil]; omega)
            exact Sx.head (4, ob30, fr30, sp30) ⟨by omega, hle, by rw [e]; exact hA30⟩ (by first | omega | (dsimp only; omega)) ⟨rfl, (someV (by rw [e])), rfl, rfl, rfl, rfl, trivial⟩ [2, 3, 4] (by decide) (by dsimp only; rw [e]; rfl) (fun _ h => h.1)
      · skip
        refine Seg.y rfl rfl (Want.none rfl) (Y.indexAddr rfl rfl (A.index Try.underlying74 sz77 (by decide) (by decide) rfl)) ?_
        refine Seg.y rfl rfl (Want.none rfl) (Y.loadFN (vs := [.bool true, .int .i64 6, .func (.func 39) #[] #[]]) rfl ag77 sz77 rfl (fun w h => blk_cells (n := 3) (h.2) rfl)) ?_
        refine Seg.chg rfl rfl (Want.none rfl) (C.alloc zv77 rfl) (fun b31 hb31 => ?_)
        refine Seg.chs rfl (Want.none rfl) (C.store (cs' := [.bool true, .int .i64 6, .func (.func 39) #[] #[]]) (vs := [.bool true, .int .i64 6, .func (.func 39) #[] #[]]) 0 rfl rfl rfl rfl rfl rfl rfl sz77) (fun _ _ => ?_)
        refine Seg.nil ?_
        refine Sx.next ?_
        refine Sc.seq ?_
        refine Sc.region ?_
        refine Seg.y rfl rfl (Want.none rfl) (Y.fieldAddr rfl (A.field Try.underlying77 rfl sz64 rfl rfl)) ?_
        refine Seg.y rfl rfl (Want.none rfl) (Y.load1 0 rfl rfl rfl ag64) ?_
        refine Seg.callV (v := .pointer (some ⟨b1, 4, none⟩)) rfl rfl (Want.none rfl) (K.value rfl rfl co39) (fun w hs => field5_c b1 w ) ?_
        refine Seg.y rfl rfl (Want.none rfl) (Y.nilCheck rfl) ?_
        refine Seg.y rfl rfl (Want.none rfl) (Y.load1 3 rfl rfl rfl ag4) ?_
        refine Seg.y rfl rfl (Want.none rfl) (Y.assign rfl) ?_
        refine Seg.nil ?_
        refine Sx.next ?_
        refine Sc.seq ?_
        refine Sc.seq ?_
        refine Sc.region ?_
        refine Seg.y rfl rfl (Want.none rfl) (Y.move rfl) ?_
        refine Seg.y rfl rfl (Want.none rfl) (Y.fieldAddr rfl (A.field Try.underlying77 rfl sz64 rfl rfl)) ?_
        refine Seg.y rfl rfl (Want.none rfl) (Y.load1 0 rfl rfl rfl ag64) ?_
        refine Seg.callV (v := .pointer (some ⟨b4, 4, none⟩)) rfl rfl (Want.none rfl) (K.value rfl rfl co39) (fun w hs => field5_c b4 w ) ?_
        refine Seg.y rfl rfl (Want.none rfl) (Y.nilCheck rfl) ?_
        refine Seg.y rfl rfl (Want.none rfl) (Y.load1 2 rfl rfl rfl ag4) ?_
        refine Seg.y rfl rfl (Want.none rfl) (Y.binOp rfl rfl (B.eqB _ _ Try.underlying4)) ?_
        refine Seg.nil ?_
        refine Sx.next ?_
        refine Sc.cond rfl (fun h32 => ?_) (fun h32 => ?_)
        · skip
          refine Sc.exit ?_
          refine Sx.next_exit ?_
          refine Sx.block_exit ?_
          refine Sx.next ?_
          refine Sc.region ?_
          refine Seg.y rfl rfl (Want.none rfl) (Y.binOp rfl rfl (B.add _ _ _ 5 (by decide))) ?_
          refine Seg.y rfl rfl (Want.none rfl) (Y.move rfl) ?_
          refine Seg.nil ?_
          have e : actsTo m 5 = actsTo m 4 := by simp [actsTo, stepAct, hr2, h3, h3p, h6, h6p, h32]
          have hle : (actsTo m 5).length ≤ 5 := by rw [e]; first | omega | (simp only [List.length_append, List.length_cons, List.length_nil]; omega)
          exact Sx.head (5, ob, fr, sp) ⟨by omega, hle, by rw [e]; exact hA⟩ (by first | omega | (dsimp only; omega)) ⟨rfl, (someV (by rw [e])), rfl, rfl, rfl, rfl, trivial⟩ [1, 2, 3] (by decide) (by dsimp only; rw [e]; rfl) (fun _ h => h)
        · skip
          refine Sc.skip ?_
          refine Sx.next ?_
          refine Sc.seq ?_
          obtain ⟨r33, hr33⟩ : ∃ x, x = toldS m.org := ⟨_, rfl⟩
          have hbr33 : 1 ≤ r33 ∧ r33 ≤ 2 := by rw [hr33]; exact told_bd _
          refine Sc.cut (fun (b34 : Nat) => w.heap.size ≤ b34) (fun (b34 : Nat) => [(1, .pointer (some ⟨b1, 0, none⟩)), (2, .slice (ob.map mkA) ((actsTo m 4).length) ((actsTo m 4).length + fr)), (5, .pointer (some ⟨b4, 0, none⟩)), (7, .pointer (some ⟨b31, 0, none⟩)), (9, .pointer (some ⟨b34, 0, none⟩)), (16, .slice (some ⟨b5, 0, none⟩) 11 11), (17, .int .i64 11), (18, .int .i64 4)]) (fun (b34 : Nat) => [(some b34, .cells (List.toArray [.int .i64 36, .int .i64 6, .int .i64 (2 - r33), .int .i64 0, .int .i64 0, .string ByteArray.empty]) 53 (0, 0)), (some b31, .cells (List.toArray [.bool true, .int .i64 6, .func (.func 39) #[] #[]]) 77 (0, 0)), (ob, .cells (List.toArray (List.flatMap encAc (actsTo m 4) ++ sp)) 53 (0, 0)), (some b4, .cells (List.toArray [.bool newS.ins, .bool newS.nl, .bool newS.ck, .bool newS.inv, .bool newS.org, .bool newS.aut, .bool newS.vis, .bool newS.paste, .bool newS.focus, .bool newS.sync, .bool newS.keypad, .int .i64 newS.mouse, .bool newS.sgr]) 23 (0, 0)), (some b1, .cells (List.toArray [.bool m.ins, .bool m.nl, .bool m.ck, .bool m.inv, .bool m.org, .bool m.aut, .bool m.vis, .bool m.paste, .bool m.focus, .bool m.sync, .bool m.keypad, .int .i64 m.mouse, .bool m.sgr]) 23 (0, 0))]) (fun _ => fun w => (True) ∧ w.heap[b5]? = some (.cells (List.toArray [.bool false, .int .i64 4, .func (.func 35) #[] #[], .bool false, .int .i64 20, .func (.func 36) #[] #[], .bool true, .int .i64 1, .func (.func 37) #[] #[], .bool true, .int .i64 5, .func (.func 38) #[] #[], .bool true, .int .i64 6, .func (.func 39) #[] #[], .bool true, .int .i64 7, .func (.func 40) #[] #[], .bool true, .int .i64 25, .func (.func 41) #[] #[], .bool true, .int .i64 1004, .func (.func 42) #[] #[], .bool true, .int .i64 1006, .func (.func 43) #[] #[], .bool true, .int .i64 2004, .func (.func 44) #[] #[], .bool true, .int .i64 2026, .func (.func 45) #[] #[]]) 77 (0, 0))) ?_ ?_
          · skip
            refine Sc.draw (by kernel_rfl) (fun _ h => St.lean [0, 1, 2, 3] (by decide) (fun _ h => h) h rfl) ?_
            refine Sd.take 0 rfl rfl rfl (by kernel_rfl) (by kernel_rfl) (by kernel_rfl) Cut.panic (Want.none rfl) (Y.fieldAddr rfl (A.field Try.underlying77 rfl sz3 rfl rfl)) ?_
            refine Sd.take 1 rfl rfl rfl (by kernel_rfl) (by kernel_rfl) (by kernel_rfl) Cut.panic (Want.none rfl) (Y.load1 0 rfl rfl rfl ag3) ?_
            refine Sd.take 2 rfl rfl rfl (by kernel_rfl) (by kernel_rfl) (by kernel_rfl) Cut.panic (Want.none rfl) (Y.move rfl) ?_
            refine Sd.all [3, 6] (by kernel_rfl) (by decide) (all_cons ?_ (all_cons ?_ all_nil))
            · skip
              refine Sp.callV (v := .int .i64 r33) rfl rfl rfl (Want.none rfl) (K.func rfl co32) (fun w hs => by rw [hr33]; exact told_c m.org w ) ?_
              refine Sd.take 4 rfl rfl rfl (by kernel_rfl) (by kernel_rfl) (by kernel_rfl) Cut.panic (Want.none rfl) (Y.binOp rfl rfl (B.sub _ _ _ (2 - r33) (wr_i64 (by omega)))) ?_
              refine Sd.take 5 rfl rfl rfl (by kernel_rfl) (by kernel_rfl) (by kernel_rfl) Cut.panic (Want.none rfl) (Y.build (v := .agg (List.toArray [.int .i64 36, .int .i64 6, .int .i64 (2 - r33), .int .i64 0, .int .i64 0, .string ByteArray.empty])) rfl (fun w => by kernel_rfl)) ?_
              refine Sd.all [6] (by kernel_rfl) (by decide) (all_cons ?_ all_nil)
              refine Sp.chg rfl rfl rfl (Want.none rfl) (C.alloc zv53 rfl) (fun _ _ _ h => St.lean [1, 2, 3, 4] (by decide) (fun _ h => h) h rfl) (fun b34 hb34 => ?_)
              refine Sd.all [7] (by kernel_rfl) (by decide) (all_cons ?_ all_nil)
              refine Sp.chgs rfl rfl (Want.none rfl) (C.store (cs' := [.int .i64 36, .int .i64 6, .int .i64 (2 - r33), .int .i64 0, .int .i64 0, .string ByteArray.empty]) (vs := [.int .i64 36, .int .i64 6, .int .i64 (2 - r33), .int .i64 0, .int .i64 0, .string ByteArray.empty]) 0 rfl rfl rfl rfl rfl rfl rfl sz53) (fun _ _ _ h => St.lean [1, 2, 3, 4] (by decide) (fun _ h => h) h rfl) (fun _ _ => ?_)
              refine Sd.done (by kernel_rfl) ?_
              exact Sx.cut b34 hb34 ⟨rfl, rfl, rfl, rfl, rfl, rfl, rfl, rfl, trivial⟩ [0, 1, 2, 3, 4] (by decide) rfl (fun _ h => h)
            refine Sp.chg rfl rfl rfl (Want.none rfl) (C.alloc zv53 rfl) (fun _ _ _ h => St.lean [1, 2, 3, 4] (by decide) (fun _ h => h) h rfl) (fun b34 hb34 => ?_)
            refine Sd.all [3] (by kernel_rfl) (by decide) (all_cons ?_ all_nil)
            refine Sp.callV (v := .int .i64 r33) rfl rfl rfl (Want.none rfl) (K.func rfl co32) (fun w hs => by rw [hr33]; exact told_c m.org w ) ?_
            refine Sd.take 4 rfl rfl rfl (by kernel_rfl) (by kernel_rfl) (by kernel_rfl) Cut.panic (Want.none rfl) (Y.binOp rfl rfl (B.sub _ _ _ (2 - r33) (wr_i64 (by omega)))) ?_
            refine Sd.take 5 rfl rfl rfl (by kernel_rfl) (by kernel_rfl) (by kernel_rfl) Cut.panic (Want.none rfl) (Y.build (v := .agg (List.toArray [.int .i64 36, .int .i64 6, .int .i64 (2 - r33), .int .i64 0, .int .i64 0, .string ByteArray.empty])) rfl (fun w => by kernel_rfl)) ?_
            refine Sd.all [7] (by kernel_rfl) (by decide) (all_cons ?_ all_nil)
            refine Sp.chgs rfl rfl (Want.none rfl) (C.store (cs' := [.int .i64 36, .int .i64 6, .int .i64 (2 - r33), .int .i64 0, .int .i64 0, .string ByteArray.empty]) (vs := [.int .i64 36, .int .i64 6, .int .i64 (2 - r33), .int .i64 0, .int .i64 0, .string ByteArray.empty]) 0 rfl rfl rfl rfl rfl rfl rfl sz53) (fun _ _ _ h => St.lean [1, 2, 3, 4] (by decide) (fun _ h => h) h rfl) (fun _ _ => ?_)
            refine Sd.done (by kernel_rfl) ?_
            exact Sx.cut b34 hb34 ⟨rfl, rfl, rfl, rfl, rfl, rfl, rfl, rfl, trivial⟩ [0, 1, 2, 3, 4] (by decide) rfl (fun _ h => h)
          · rintro b34 hb34
            show Sx _ _ _ [(1, .pointer (some ⟨b1, 0, none⟩)), (2, .slice (ob.map mkA) ((actsTo m 4).length) ((actsTo m 4).length + fr)), (5, .pointer (some ⟨b4, 0, none⟩)), (7, .pointer (some ⟨b31, 0, none⟩)), (9, .pointer (some ⟨b34, 0, none⟩)), (16, .slice (some ⟨b5, 0, none⟩) 11 11), (17, .int .i64 11), (18, .int .i64 4)] [(some b34, .cells (List.toArray [.int .i64 36, .int .i64 6, .int .i64 (2 - r33), .int .i64 0, .int .i64 0, .string ByteArray.empty]) 53 (0, 0)), (some b31, .cells (List.toArray [.bool true, .int .i64 6, .func (.func 39) #[] #[]]) 77 (0, 0)), (ob, .cells (List.toArray (List.flatMap encAc (actsTo m 4) ++ sp)) 53 (0, 0)), (some b4, .cells (List.toArray [.bool newS.ins, .bool newS.nl, .bool newS.ck, .bool newS.inv, .bool newS.org, .bool newS.aut, .bool newS.vis, .bool newS.paste, .bool newS.focus, .bool newS.sync, .bool newS.keypad, .int .i64 newS.mouse, .bool newS.sgr]) 23 (0, 0)), (some b1, .cells (List.toArray [.bool m.ins, .bool m.nl, .bool m.ck, .bool m.inv, .bool m.org, .bool m.aut, .bool m.vis, .bool m.paste, .bool m.focus, .bool m.sync, .bool m.keypad, .int .i64 m.mouse, .bool m.sgr]) 23 (0, 0))] _
            refine Sx.next ?_
            refine Sc.seq ?_
            refine Sc.seq ?_
            refine Sc.region ?_
            refine Seg.y rfl rfl (Want.none rfl) (Y.fieldAddr rfl (A.field Try.underlying77 rfl sz4 rfl rfl)) ?_
            refine Seg.y rfl rfl (Want.none rfl) (Y.load1 1 rfl rfl rfl ag4) ?_
            refine Seg.nil ?_
            refine Sx.next ?_
            refine Sc.condT rfl rfl ?_
            refine Sc.region ?_
            refine Seg.y rfl rfl (Want.none rfl) (Y.fieldAddr rfl (A.field Try.underlying53 rfl sz3 rfl rfl)) ?_
            refine Seg.chs rfl (Want.none rfl) (C.store (cs' := [.int .i64 37, .int .i64 6, .int .i64 (2 - r33), .int .i64 0, .int .i64 0, .string ByteArray.empty]) (vs := [.int .i64 37]) 0 rfl rfl rfl rfl rfl rfl rfl sz3) (fun _ _ => ?_)
            refine Seg.nil ?_
            refine Sx.next ?_
            refine Sc.region ?_
            refine Seg.y rfl rfl (Want.none rfl) (Y.move rfl) ?_
            refine Seg.y rfl rfl (Want.none rfl) (Y.loadN (vs := [.int .i64 37, .int .i64 6, .int .i64 (2 - r33), .int .i64 0, .int .i64 0, .string ByteArray.empty]) 0 rfl rfl rfl rfl ag53 sz53) ?_
            refine Seg.chg rfl rfl (Want.none rfl) (C.buildSlice (e := 53) (cs := [.int .i64 37, .int .i64 6, .int .i64 (2 - r33), .int .i64 0, .int .i64 0, .string ByteArray.empty]) rfl (fun w => by kernel_rfl)) (fun b35 hb35 => ?_)
            refine Seg.freeze 0 rfl hb35 ?_
            refine Seg.chg rfl rfl (Want.none rfl) (C.appendL (enc := encAc) (acc := (actsTo m 4)) (bs := [(⟨37, 6, 2 - r33, (⟨0, 0⟩ : Co), ByteArray.empty⟩ : Ac)]) (spare := sp) (free := fr) (ob := ob) 2 (fun _ => rfl) (fun _ => rfl) rfl rfl rfl hA (fun w hs => (fun h => .inr ⟨_, _, rfl, blk_cells (o := 0) (n := 6) (h.2) rfl⟩) hs.fut.now) Try.underlying44 Try.underlying44 sz53 zv53 rfl inf53 (by first | omega | (simp only [List.length_cons, List.length_nil]; omega) | (simp only [List.length_append, List.length_cons, List.length_nil] at *; omega)) (by first | omega | (simp only [List.length_cons, List.length_nil]; omega) | (simp only [List.length_append, List.length_cons, List.length_nil] at *; omega))) (fun ⟨ob36, fr36, sp36⟩ hA36 => ?_)
            refine Seg.y rfl rfl (Want.none rfl) (Y.assign rfl) ?_
            refine Seg.nil ?_
            refine Sx.block_normal ?_
            refine Sx.next ?_
            refine Sc.region ?_
            refine Seg.y rfl rfl (Want.none rfl) (Y.binOp rfl rfl (B.add _ _ _ 5 (by decide))) ?_
            refine Seg.y rfl rfl (Want.none rfl) (Y.move rfl) ?_
            refine Seg.nil ?_
            have e : actsTo m 5 = actsTo m 4 ++ [(⟨37, 6, 2 - r33, (⟨0, 0⟩ : Co), ByteArray.empty⟩ : Ac)] := by simp [actsTo, stepAct, hr2, h3, h3p, h6, h6p, h32, hr33]
            have hle : (actsTo m 5).length ≤ 5 := by rw [e]; first | omega | (simp only [List.length_append, List.length_cons, List.length_nil]; omega)
            exact Sx.head (5, ob36, fr36, sp36) ⟨by omega, hle, by rw [e]; exact hA36⟩ (by first | omega | (dsimp only; omega)) ⟨rfl, (someV (by rw [e])), rfl, rfl, rfl, rfl, trivial⟩ [2, 3, 4] (by decide) (by dsimp only; rw [e]; rfl) (fun _ h => h.1)
      · skip
        refine Seg.y rfl rfl (Want.none rfl) (Y.indexAddr rfl rfl (A.index Try.underlying74 sz77 (by decide) (by decide) rfl)) ?_
        refine Seg.y rfl rfl (Want.none rfl) (Y.loadFN (vs := [.bool true, .int .i64 7, .func (.func 40) #[] #[]]) rfl ag77 sz77 rfl (fun w h => blk_cells (n := 3) (h.2) rfl)) ?_
        refine Seg.chg rfl rfl (Want.none rfl) (C.alloc zv77 rfl) (fun b37 hb37 => ?_)
        refine Seg.chs rfl (Want.none rfl) (C.store (cs' := [.bool true, .int .i64 7, .func (.func 40) #[] #[]]) (vs := [.bool true, .int .i64 7, .func (.func 40) #[] #[]]) 0 rfl rfl rfl rfl rfl rfl rfl sz77) (fun _ _ => ?_)
        refine Seg.nil ?_
        refine Sx.next ?_
        refine Sc.seq ?_
        refine Sc.region ?_
        refine Seg.y rfl rfl (Want.none rfl) (Y.fieldAddr rfl (A.field Try.underlying77 rfl sz64 rfl rfl)) ?_
        refine Seg.y rfl rfl (Want.none rfl) (Y.load1 0 rfl rfl rfl ag64) ?_
        refine Seg.callV (v := .pointer (some ⟨b1, 5, none⟩)) rfl rfl (Want.none rfl) (K.value rfl rfl co40) (fun w hs => field6_c b1 w ) ?_
        refine Seg.y rfl rfl (Want.none rfl) (Y.nilCheck rfl) ?_
        refine Seg.y rfl rfl (Want.none rfl) (Y.load1 3 rfl rfl rfl ag4) ?_
        refine Seg.y rfl rfl (Want.none rfl) (Y.assign rfl) ?_
        refine Seg.nil ?_
        refine Sx.next ?_
        refine Sc.seq ?_
        refine Sc.seq ?_
        refine Sc.region ?_
        refine Seg.y rfl rfl (Want.none rfl) (Y.move rfl) ?_
        refine Seg.y rfl rfl (Want.none rfl) (Y.fieldAddr rfl (A.field Try.underlying77 rfl sz64 rfl rfl)) ?_
        refine Seg.y rfl rfl (Want.none rfl) (Y.load1 0 rfl rfl rfl ag64) ?_
        refine Seg.callV (v := .pointer (some ⟨b4, 5, none⟩)) rfl rfl (Want.none rfl) (K.value rfl rfl co40) (fun w hs => field6_c b4 w ) ?_
        refine Seg.y rfl rfl (Want.none rfl) (Y.nilCheck rfl) ?_
        refine Seg.y rfl rfl (Want.none rfl) (Y.load1 2 rfl rfl rfl ag4) ?_
        refine Seg.y rfl rfl (Want.none rfl) (Y.binOp rfl rfl (B.eqB _ _ Try.underlying4)) ?_
        refine Seg.nil ?_
        refine Sx.next ?_
        refine Sc.cond rfl (fun h38 => ?_) (fun h38 => ?_)
        · skip
          refine Sc.exit ?_
          refine Sx.next_exit ?_
          refine Sx.block_exit ?_
          refine Sx.next ?_
          refine Sc.region ?_
          refine Seg.y rfl rfl (Want.none rfl) (Y.binOp rfl rfl (B.add _ _ _ 6 (by decide))) ?_
          refine Seg.y rfl rfl (Want.none rfl) (Y.move rfl) ?_
          refine Seg.nil ?_
          have e : actsTo m 6 = actsTo m 5 := by simp [actsTo, stepAct, hr2, h3, h3p, h6, h6p, h38]
          have hle : (actsTo m 6).length ≤ 6 := by rw [e]; first | omega | (simp only [List.length_append, List.length_cons, List.length_nil]; omega)
          exact Sx.head (6, ob, fr, sp) ⟨by omega, hle, by rw [e]; exact hA⟩ (by first | omega | (dsimp only; omega)) ⟨rfl, (someV (by rw [e])), rfl, rfl, rfl, rfl, trivial⟩ [1, 2, 3] (by decide) (by dsimp only; rw [e]; rfl) (fun _ h => h)
        · skip
          refine Sc.skip ?_
          refine Sx.next ?_
          refine Sc.seq ?_
          obtain ⟨r39, hr39⟩ : ∃ x, x = toldS m.aut := ⟨_, rfl⟩
          have hbr39 : 1 ≤ r39 ∧ r39 ≤ 2 := by rw [hr39]; exact told_bd _
          refine Sc.cut (fun (b40 : Nat) => w.heap.size ≤ b40) (fun (b40 : Nat) => [(1, .pointer (some ⟨b1, 0, none⟩)), (2, .slice (ob.map mkA) ((actsTo m 5).length) ((actsTo m 5).length + fr)), (5, .pointer (some ⟨b4, 0, none⟩)), (7, .pointer (some ⟨b37, 0, none⟩)), (9, .pointer (some ⟨b40, 0, none⟩)), (16, .slice (some ⟨b5, 0, none⟩) 11 11), (17, .int .i64 11), (18, .int .i64 5)]) (fun (b40 : Nat) => [(some b40, .cells (List.toArray [.int .i64 36, .int .i64 7, .int .i64 (2 - r39), .int .i64 0, .int .i64 0, .string ByteArray.empty]) 53 (0, 0)), (some b37, .cells (List.toArray [.bool true, .int .i64 7, .func (.func 40) #[] #[]]) 77 (0, 0)), (ob, .cells (List.toArray (List.flatMap encAc (actsTo m 5) ++ sp)) 53 (0, 0)), (some b4, .cells (List.toArray [.bool newS.ins, .bool newS.nl, .bool newS.ck, .bool newS.inv, .bool newS.org, .bool newS.aut, .bool newS.vis, .bool newS.paste, .bool newS.focus, .bool newS.sync, .bool newS.keypad, .int .i64 newS.mouse, .bool newS.sgr]) 23 (0, 0)), (some b1, .cells (List.toArray [.bool m.ins, .bool m.nl, .bool m.ck, .bool m.inv, .bool m.org, .bool m.aut, .bool m.vis, .bool m.paste, .bool m.focus, .bool m.sync, .bool m.keypad, .int .i64 m.mouse, .bool m.sgr]) 23 (0, 0))]) (fun _ => fun w => (True) ∧ w.heap[b5]? = some (.cells (List.toArray [.bool false, .int .i64 4, .func (.func 35) #[] #[], .bool false, .int .i64 20, .func (.func 36) #[] #[], .bool true, .int .i64 1, .func (.func 37) #[] #[], .bool true, .int .i64 5, .func (.func 38) #[] #[], .bool true, .int .i64 6, .func (.func 39) #[] #[], .bool true, .int .i64 7, .func (.func 40) #[] #[], .bool true, .int .i64 25, .func (.func 41) #[] #[], .bool true, .int .i64 1004, .func (.func 42) #[] #[], .bool true, .int .i64 1006, .func (.func 43) #[] #[], .bool true, .int .i64 2004, .func (.func 44) #[] #[], .bool true, .int .i64 2026, .func (.func 45) #[] #[]]) 77 (0, 0))) ?_ ?_
          · skip
            refine Sc.draw (by kernel_rfl) (fun _ h => St.lean [0, 1, 2, 3] (by decide) (fun _ h => h) h rfl) ?_
            refine Sd.take 0 rfl rfl rfl (by kernel_rfl) (by kernel_rfl) (by kernel_rfl) Cut.panic (Want.none rfl) (Y.fieldAddr rfl (A.field Try.underlying77 rfl sz3 rfl rfl)) ?_
            refine Sd.take 1 rfl rfl rfl (by kernel_rfl) (by kernel_rfl) (by kernel_rfl) Cut.panic (Want.none rfl) (Y.load1 0 rfl rfl rfl ag3) ?_
            refine Sd.take 2 rfl rfl rfl (by kernel_rfl) (by kernel_rfl) (by kernel_rfl) Cut.panic (Want.none rfl) (Y.move rfl) ?_
            refine Sd.all [3, 6] (by kernel_rfl) (by decide) (all_cons ?_ (all_cons ?_ all_nil))
            · skip
              refine Sp.callV (v := .int .i64 r39) rfl rfl rfl (Want.none rfl) (K.func rfl co32) (fun w hs => by rw [hr39]; exact told_c m.aut w ) ?_
              refine Sd.take 4 rfl rfl rfl (by kernel_rfl) (by kernel_rfl) (by kernel_rfl) Cut.panic (Want.none rfl) (Y.binOp rfl rfl (B.sub _ _ _ (2 - r39) (wr_i64 (by omega)))) ?_
              refine Sd.take 5 rfl rfl rfl (by kernel_rfl) (by kernel_rfl) (by kernel_rfl) Cut.panic (Want.none rfl) (Y.build (v := .agg (List.toArray [.int .i64 36, .int .i64 7, .int .i64 (2 - r39), .int .i64 0, .int .i64 0, .string ByteArray.empty])) rfl (fun w => by kernel_rfl)) ?_
              refine Sd.all [6] (by kernel_rfl) (by decide) (all_cons ?_ all_nil)
              refine Sp.chg rfl rfl rfl (Want.none rfl) (C.alloc zv53 rfl) (fun _ _ _ h => St.lean [1, 2, 3, 4] (by decide) (fun _ h => h) h rfl) (fun b40 hb40 => ?_)
              refine Sd.all [7] (by kernel_rfl) (by decide) (all_cons ?_ all_nil)
              refine Sp.chgs rfl rfl (Want.none rfl) (C.store (cs' := [.int .i64 36, .int .i64 7, .int .i64 (2 - r39), .int .i64 0, .int .i64 0, .string ByteArray.empty]) (vs := [.int .i64 36, .int .i64 7, .int .i64 (2 - r39), .int .i64 0, .int .i64 0, .string ByteArray.empty]) 0 rfl rfl rfl rfl rfl rfl rfl sz53) (fun _ _ _ h => St.lean [1, 2, 3, 4] (by decide) (fun _ h => h) h rfl) (fun _ _ => ?_)
              refine Sd.done (by kernel_rfl) ?_
              exact Sx.cut b40 hb40 ⟨rfl, rfl, rfl, rfl, rfl, rfl, rfl, rfl, trivial⟩ [0, 1, 2, 3, 4] (by decide) rfl (fun _ h => h)
            refine Sp.chg rfl rfl rfl (Want.none rfl) (C.alloc zv53 rfl) (fun _ _ _ h => St.lean [1, 2, 3, 4] (by decide) (fun _ h => h) h rfl) (fun b40 hb40 => ?_)
            refine Sd.all [3] (by kernel_rfl) (by decide) (all_cons ?_ all_nil)
            refine Sp.callV (v := .int .i64 r39) rfl rfl rfl (Want.none rfl) (K.func rfl co32) (fun w hs => by rw [hr39]; exact told_c m.aut w ) ?_
            refine Sd.take 4 rfl rfl rfl (by kernel_rfl) (by kernel_rfl) (by kernel_rfl) Cut.panic (Want.none rfl) (Y.binOp rfl rfl (B.sub _ _ _ (2 - r39) (wr_i64 (by omega)))) ?_
            refine Sd.take 5 rfl rfl rfl (by kernel_rfl) (by kernel_rfl) (by kernel_rfl) Cut.panic (Want.none rfl) (Y.build (v := .agg (List.toArray [.int .i64 36, .int .i64 7, .int .i64 (2 - r39), .int .i64 0, .int .i64 0, .string ByteArray.empty])) rfl (fun w => by kernel_rfl)) ?_
            refine Sd.all [7] (by kernel_rfl) (by decide) (all_cons ?_ all_nil)
            refine Sp.chgs rfl rfl (Want.none rfl) (C.store (cs' := [.int .i64 36, .int .i64 7, .int .i64 (2 - r39), .int .i64 0, .int .i64 0, .string ByteArray.empty]) (vs := [.int .i64 36, .int .i64 7, .int .i64 (2 - r39), .int .i64 0, .int .i64 0, .string ByteArray.empty]) 0 rfl rfl rfl rfl rfl rfl rfl sz53) (fun _ _ _ h => St.lean [1, 2, 3, 4] (by decide) (fun _ h => h) h rfl) (fun _ _ => ?_)
            refine Sd.done (by kernel_rfl) ?_
            exact Sx.cut b40 hb40 ⟨rfl, rfl, rfl, rfl, rfl, rfl, rfl, rfl, trivial⟩ [0, 1, 2, 3, 4] (by decide) rfl (fun _ h => h)
          · rintro b40 hb40
            show Sx _ _ _ [(1, .pointer (some ⟨b1, 0, none⟩)), (2, .slice (ob.map mkA) ((actsTo m 5).length) ((actsTo m 5).length + fr)), (5, .pointer (some ⟨b4, 0, none⟩)), (7, .pointer (some ⟨b37, 0, none⟩)), (9, .pointer (some ⟨b40, 0, none⟩)), (16, .slice (some ⟨b5, 0, none⟩) 11 11), (17, .int .i64 11), (18, .int .i64 5)] [(some b40, .cells (List.toArray [.int .i64 36, .int .i64 7, .int .i64 (2 - r39), .int .i64 0, .int .i64 0, .string ByteArray.empty]) 53 (0, 0)), (some b37, .cells (List.toArray [.bool true, .int .i64 7, .func (.func 40) #[] #[]]) 77 (0, 0)), (ob, .cells (List.toArray (List.flatMap encAc (actsTo m 5) ++ sp)) 53 (0, 0)), (some b4, .cells (List.toArray [.bool newS.ins, .bool newS.nl, .bool newS.ck, .bool newS.inv, .bool newS.org, .bool newS.aut, .bool newS.vis, .bool newS.paste, .bool newS.focus, .bool newS.sync, .bool newS.keypad, .int .i64 newS.mouse, .bool newS.sgr]) 23 (0, 0)), (some b1, .cells (List.toArray [.bool m.ins, .bool m.nl, .bool m.ck, .bool m.inv, .bool m.org, .bool m.aut, .bool m.vis, .bool m.paste, .bool m.focus, .bool m.sync, .bool m.keypad, .int .i64 m.mouse, .bool m.sgr]) 23 (0, 0))] _
            refine Sx.next ?_
            refine Sc.seq ?_
            refine Sc.seq ?_
            refine Sc.region ?_
            refine Seg.y rfl rfl (Want.none rfl) (Y.fieldAddr rfl (A.field Try.underlying77 rfl sz4 rfl rfl)) ?_
            refine Seg.y rfl rfl (Want.none rfl) (Y.load1 1 rfl rfl rfl ag4) ?_
            refine Seg.nil ?_
            refine Sx.next ?_
            refine Sc.condT rfl rfl ?_
            refine Sc.region ?_
            refine Seg.y rfl rfl (Want.none rfl) (Y.fieldAddr rfl (A.field Try.underlying53 rfl sz3 rfl rfl)) ?_
            refine Seg.chs rfl (Want.none rfl) (C.store (cs' := [.int .i64 37, .int .i64 7, .int .i64 (2 - r39), .int .i64 0, .int .i64 0, .string ByteArray.empty]) (vs := [.int .i64 37]) 0 rfl rfl rfl rfl rfl rfl rfl sz3) (fun _ _ => ?_)
            refine Seg.nil ?_
            refine Sx.next ?_
            refine Sc.region ?_
            refine Seg.y rfl rfl (Want.none rfl) (Y.move rfl) ?_
            refine Seg.y rfl rfl (Want.none rfl) (Y.loadN (vs := [.int .i64 37, .int .i64 7, .int .i64 (2 - r39), .int .i64 0, .int .i64 0, .string ByteArray.empty]) 0 rfl rfl rfl rfl ag53 sz53) ?_
            refine Seg.chg rfl rfl (Want.none rfl) (C.buildSlice (e := 53) (cs := [.int .i64 37, .int .i64 7, .int .i64 (2 - r39), .int .i64 0, .int .i64 0, .string ByteArray.empty]) rfl (fun w => by kernel_rfl)) (fun b41 hb41 => ?_)
            refine Seg.freeze 0 rfl hb41 ?_
            refine Seg.chg rfl rfl (Want.none rfl) (C.appendL (enc := encAc) (acc := (actsTo m 5)) (bs := [(⟨37, 7, 2 - r39, (⟨0, 0⟩ : Co), ByteArray.empty⟩ : Ac)]) (spare := sp) (free := fr) (ob := ob) 2 (fun _ => rfl) (fun _ => rfl) rfl rfl rfl hA (fun w hs => (fun h => .inr ⟨_, _, rfl, blk_cells (o := 0) (n := 6) (h.2) rfl⟩) hs.fut.now) Try.underlying44 Try.underlying44 sz53 zv53 rfl inf53 (by first | omega | (simp only [List.length_cons, List.length_nil]; omega) | (simp only [List.length_append, List.length_cons, List.length_nil] at *; omega)) (by first | omega | (simp only [List.length_cons, List.length_nil]; omega) | (simp only [List.length_append, List.length_cons, List.length_nil] at *; omega))) (fun ⟨ob42, fr42, sp42⟩ hA42 => ?_)
            refine Seg.y rfl rfl (Want.none rfl) (Y.assign rfl) ?_
            refine Seg.nil ?_
            refine Sx.block_normal ?_
            refine Sx.next ?_
            refine Sc.region ?_
            refine Seg.y rfl rfl (Want.none rfl) (Y.binOp rfl rfl (B.add _ _ _ 6 (by decide))) ?_
            refine Seg.y rfl rfl (Want.none rfl) (Y.move rfl) ?_
            refine Seg.nil ?_
            have e : actsTo m 6 = actsTo m 5 ++ [(⟨37, 7, 2 - r39, (⟨0, 0⟩ : Co), ByteArray.empty⟩ : Ac)] := by simp [actsTo, stepAct, hr2, h3, h3p, h6, h6p, h38, hr39]
            have hle : (actsTo m 6).length ≤ 6 := by rw [e]; first | omega | (simp only [List.length_append, List.length_cons, List.length_nil]; omega)
            exact Sx.head (6, ob42, fr42, sp42) ⟨by omega, hle, by rw [e]; exact hA42⟩ (by first | omega | (dsimp only; omega)) ⟨rfl, (someV (by rw [e])), rfl, rfl, rfl, rfl, trivial⟩ [2, 3, 4] (by decide) (by dsimp only; rw [e]; rfl) (fun _ h => h.1)
      · skip
        refine Seg.y rfl rfl (Want.none rfl) (Y.indexAddr rfl rfl (A.index Try.underlying74 sz77 (by decide) (by decide) rfl)) ?_
        refine Seg.y rfl rfl (Want.none rfl) (Y.loadFN (vs := [.bool true, .int .i64 25, .func (.func 41) #[] #[]]) rfl ag77 sz77 rfl (fun w h => blk_cells (n := 3) (h.2) rfl)) ?_
        refine Seg.chg rfl rfl (Want.none rfl) (C.alloc zv77 rfl) (fun b43 hb43 => ?_)
        refine Seg.chs rfl (Want.none rfl) (C.store (cs' := [.bool true, .int .i64 25, .func (.func 41) #[] #[]]) (vs := [.bool true, .int .i64 25, .func (.func 41) #[] #[]]) 0 rfl rfl rfl rfl rfl rfl rfl sz77) (fun _ _ => ?_)
        refine Seg.nil ?_
        refine Sx.next ?_
        refine Sc.seq ?_
        refine Sc.region ?_
        refine Seg.y rfl rfl (Want.none rfl) (Y.fieldAddr rfl (A.field Try.underlying77 rfl sz64 rfl rfl)) ?_
        refine Seg.y rfl rfl (Want.none rfl) (Y.load1 0 rfl rfl rfl ag64) ?_
        refine Seg.callV (v := .pointer (some ⟨b1, 6, none⟩)) rfl rfl (Want.none rfl) (K.value rfl rfl co41) (fun w hs => field7_c b1 w ) ?_
        refine Seg.y rfl rfl (Want.none rfl) (Y.nilCheck rfl) ?_
        refine Seg.y rfl rfl (Want.none rfl) (Y.load1 3 rfl rfl rfl ag4) ?_
        refine Seg.y rfl rfl (Want.none rfl) (Y.assign rfl) ?_
        refine Seg.nil ?_
        refine Sx.next ?_
        refine Sc.seq ?_
        refine Sc.seq ?_
        refine Sc.region ?_
        refine Seg.y rfl rfl (Want.none rfl) (Y.move rfl) ?_
        refine Seg.y rfl rfl (Want.none rfl) (Y.fieldAddr rfl (A.field Try.underlying77 rfl sz64 rfl rfl)) ?_
        refine Seg.y rfl rfl (Want.none rfl) (Y.load1 0 rfl rfl rfl ag64) ?_
        refine Seg.callV (v := .pointer (some ⟨b4, 6, none⟩)) rfl rfl (Want.none rfl) (K.value rfl rfl co41) (fun w hs => field7_c b4 w ) ?_
        refine Seg.y rfl rfl (Want.none rfl) (Y.nilCheck rfl) ?_
        refine Seg.y rfl rfl (Want.none rfl) (Y.load1 2 rfl rfl rfl ag4) ?_
        refine Seg.y rfl rfl (Want.none rfl) (Y.binOp rfl rfl (B.eqB _ _ Try.underlying4)) ?_
        refine Seg.nil ?_
        refine Sx.next ?_
        refine Sc.cond rfl (fun h44 => ?_) (fun h44 => ?_)
        · skip
          refine Sc.exit ?_
          refine Sx.next_exit ?_
          refine Sx.block_exit ?_
          refine Sx.next ?_
          refine Sc.region ?_
          refine Seg.y rfl rfl (Want.none rfl) (Y.binOp rfl rfl (B.add _ _ _ 7 (by decide))) ?_
          refine Seg.y rfl rfl (Want.none rfl) (Y.move rfl) ?_
          refine Seg.nil ?_
          have e : actsTo m 7 = actsTo m 6 := by simp [actsTo, stepAct, hr2, h3, h3p, h6, h6p, h44]
          have hle : (actsTo m 7).length ≤ 7 := by rw [e]; first | omega | (simp only [List.length_append, List.length_cons, List.length_nil]; omega)
          exact Sx.head (7, ob, fr, sp) ⟨by omega, hle, by rw [e]; exact hA⟩ (by first | omega | (dsimp only; omega)) ⟨rfl, (someV (by rw [e])), rfl, rfl, rfl, rfl, trivial⟩ [1, 2, 3] (by decide) (by dsimp only; rw [e]; rfl) (fun _ h => h)
        · skip
          refine Sc.skip ?_
          refine Sx.next ?_
          refine Sc.seq ?_
          obtain ⟨r45, hr45⟩ : ∃ x, x = toldS m.vis := ⟨_, rfl⟩
          have hbr45 : 1 ≤ r45 ∧ r45 ≤ 2 := by rw [hr45]; exact told_bd _
          refine Sc.cut (fun (b46 : Nat) => w.heap.size ≤ b46) (fun (b46 : Nat) => [(1, .pointer (some ⟨b1, 0, none⟩)), (2, .slice (ob.map mkA) ((actsTo m 6).length) ((actsTo m 6).length + fr)), (5, .pointer (some ⟨b4, 0, none⟩)), (7, .pointer (some ⟨b43, 0, none⟩)), (9, .pointer (some ⟨b46, 0, none⟩)), (16, .slice (some ⟨b5, 0, none⟩) 11 11), (17, .int .i64 11), (18, .int .i64 6)]) (fun (b46 : Nat) => [(some b46, .cells (List.toArray [.int .i64 36, .int .i64 25, .int .i64 (2 - r45), .int .i64 0, .int .i64 0, .string ByteArray.empty]) 53 (0, 0)), (some b43, .cells (List.toArray [.bool true, .int .i64 25, .func (.func 41) #[] #[]]) 77 (0, 0)), (ob, .cells (List.toArray (List.flatMap encAc (actsTo m 6) ++ sp)) 53 (0, 0)), (some b4, .cells (List.toArray [.bool newS.ins, .bool newS.nl, .bool newS.ck, .bool newS.inv, .bool newS.org, .bool newS.aut, .bool newS.vis, .bool newS.paste, .bool newS.focus, .bool newS.sync, .bool newS.keypad, .int .i64 newS.mouse, .bool newS.sgr]) 23 (0, 0)), (some b1, .cells (List.toArray [.bool m.ins, .bool m.nl, .bool m.ck, .bool m.inv, .bool m.org, .bool m.aut, .bool m.vis, .bool m.paste, .bool m.focus, .bool m.sync, .bool m.keypad, .int .i64 m.mouse, .bool m.sgr]) 23 (0, 0))]) (fun _ => fun w => (True) ∧ w.heap[b5]? = some (.cells (List.toArray [.bool false, .int .i64 4, .func (.func 35) #[] #[], .bool false, .int .i64 20, .func (.func 36) #[] #[], .bool true, .int .i64 1, .func (.func 37) #[] #[], .bool true, .int .i64 5, .func (.func 38) #[] #[], .bool true, .int .i64 6, .func (.func 39) #[] #[], .bool true, .int .i64 7, .func (.func 40) #[] #[], .bool true, .int .i64 25, .func (.func 41) #[] #[], .bool true, .int .i64 1004, .func (.func 42) #[] #[], .bool true, .int .i64 1006, .func (.func 43) #[] #[], .bool true, .int .i64 2004, .func (.func 44) #[] #[], .bool true, .int .i64 2026, .func (.func 45) #[] #[]]) 77 (0, 0))) ?_ ?_
          · skip
            refine Sc.draw (by kernel_rfl) (fun _ h => St.lean [0, 1, 2, 3] (by decide) (fun _ h => h) h rfl) ?_
            refine Sd.take 0 rfl rfl rfl (by kernel_rfl) (by kernel_rfl) (by kernel_rfl) Cut.panic (Want.none rfl) (Y.fieldAddr rfl (A.field Try.underlying77 rfl sz3 rfl rfl)) ?_
            refine Sd.take 1 rfl rfl rfl (by kernel_rfl) (by kernel_rfl) (by kernel_rfl) Cut.panic (Want.none rfl) (Y.load1 0 rfl rfl rfl ag3) ?_
            refine Sd.take 2 rfl rfl rfl (by kernel_rfl) (by kernel_rfl) (by kernel_rfl) Cut.panic (Want.none rfl) (Y.move rfl) ?_
            refine Sd.all [3, 6] (by kernel_rfl) (by decide) (all_cons ?_ (all_cons ?_ all_nil))
            · skip
              refine Sp.callV (v := .int .i64 r45) rfl rfl rfl (Want.none rfl) (K.func rfl co32) (fun w hs => by rw [hr45]; exact told_c m.vis w ) ?_
              refine Sd.take 4 rfl rfl rfl (by kernel_rfl) (by kernel_rfl) (by kernel_rfl) Cut.panic (Want.none rfl) (Y.binOp rfl rfl (B.sub _ _ _ (2 - r45) (wr_i64 (by omega)))) ?_
              refine Sd.take 5 rfl rfl rfl (by kernel_rfl) (by kernel_rfl) (by kernel_rfl) Cut.panic (Want.none rfl) (Y.build (v := .agg (List.toArray [.int .i64 36, .int .i64 25, .int .i64 (2 - r45), .int .i64 0, .int .i64 0, .string ByteArray.empty])) rfl (fun w => by kernel_rfl)) ?_
              refine Sd.all [6] (by kernel_rfl) (by decide) (all_cons ?_ all_nil)
              refine Sp.chg rfl rfl rfl (Want.none rfl) (C.alloc zv53 rfl) (fun _ _ _ h => St.lean [1, 2, 3, 4] (by decide) (fun _ h => h) h rfl) (fun b46 hb46 => ?_)
              refine Sd.all [7] (by kernel_rfl) (by decide) (all_cons ?_ all_nil)
              refine Sp.chgs rfl rfl (Want.none rfl) (C.store (cs' := [.int .i64 36, .int .i64 25, .int .i64 (2 - r45), .int .i64 0, .int .i64 0, .string ByteArray.empty]) (vs := [.int .i64 36, .int .i64 25, .int .i64 (2 - r45), .int .i64 0, .int .i64 0, .string ByteArray.empty]) 0 rfl rfl rfl rfl rfl rfl rfl sz53) (fun _ _ _ h => St.lean [1, 2, 3, 4] (by decide) (fun _ h => h) h rfl) (fun _ _ => ?_)
              refine Sd.done (by kernel_rfl) ?_
              exact Sx.cut b46 hb46 ⟨rfl, rfl, rfl, rfl, rfl, rfl, rfl, rfl, trivial⟩ [0, 1, 2, 3, 4] (by decide) rfl (fun _ h => h)
            refine Sp.chg rfl rfl rfl (Want.none rfl) (C.alloc zv53 rfl) (fun _ _ _ h => St.lean [1, 2, 3, 4] (by decide) (fun _ h => h) h rfl) (fun b46 hb46 => ?_)
            refine Sd.all [3] (by kernel_rfl) (by decide) (all_cons ?_ all_nil)
            refine Sp.callV (v := .int .i64 r45) rfl rfl rfl (Want.none rfl) (K.func rfl co32) (fun w hs => by rw [hr45]; exact told_c m.vis w ) ?_
            refine Sd.take 4 rfl rfl rfl (by kernel_rfl) (by kernel_rfl) (by kernel_rfl) Cut.panic (Want.none rfl) (Y.binOp rfl rfl (B.sub _ _ _ (2 - r45) (wr_i64 (by omega)))) ?_
            refine Sd.take 5 rfl rfl rfl (by kernel_rfl) (by kernel_rfl) (by kernel_rfl) Cut.panic (Want.none rfl) (Y.build (v := .agg (List.toArray [.int .i64 36, .int .i64 25, .int .i64 (2 - r45), .int .i64 0, .int .i64 0, .string ByteArray.empty])) rfl (fun w => by kernel_rfl)) ?_
            refine Sd.all [7] (by kernel_rfl) (by decide) (all_cons ?_ all_nil)
            refine Sp.chgs rfl rfl (Want.none rfl) (C.store (cs' := [.int .i64 36, .int .i64 25, .int .i64 (2 - r45), .int .i64 0, .int .i64 0, .string ByteArray.empty]) (vs := [.int .i64 36, .int .i64 25, .int .i64 (2 - r45), .int .i64 0, .int .i64 0, .string ByteArray.empty]) 0 rfl rfl rfl rfl rfl rfl rfl sz53) (fun _ _ _ h => St.lean [1, 2, 3, 4] (by decide) (fun _ h => h) h rfl) (fun _ _ => ?_)
            refine Sd.done (by kernel_rfl) ?_
            exact Sx.cut b46 hb46 ⟨rfl, rfl, rfl, rfl, rfl, rfl, rfl, rfl, trivial⟩ [0, 1, 2, 3, 4] (by decide) rfl (fun _ h => h)
          · rintro b46 hb46
            show Sx _ _ _ [(1, .pointer (some ⟨b1, 0, none⟩)), (2, .slice (ob.map mkA) ((actsTo m 6).length) ((actsTo m 6).length + fr)), (5, .pointer (some ⟨b4, 0, none⟩)), (7, .pointer (some ⟨b43, 0, none⟩)), (9, .pointer (some ⟨b46, 0, none⟩)), (16, .slice (some ⟨b5, 0, none⟩) 11 11), (17, .int .i64 11), (18, .int .i64 6)] [(some b46, .cells (List.toArray [.int .i64 36, .int .i64 25, .int .i64 (2 - r45), .int .i64 0, .int .i64 0, .string ByteArray.empty]) 53 (0, 0)), (some b43, .cells (List.toArray [.bool true, .int .i64 25, .func (.func 41) #[] #[]]) 77 (0, 0)), (ob, .cells (List.toArray (List.flatMap encAc (actsTo m 6) ++ sp)) 53 (0, 0)), (some b4, .cells (List.toArray [.bool newS.ins, .bool newS.nl, .bool newS.ck, .bool newS.inv, .bool newS.org, .bool newS.aut, .bool newS.vis, .bool newS.paste, .bool newS.focus, .bool newS.sync, .bool newS.keypad, .int .i64 newS.mouse, .bool newS.sgr]) 23 (0, 0)), (some b1, .cells (List.toArray [.bool m.ins, .bool m.nl, .bool m.ck, .bool m.inv, .bool m.org, .bool m.aut, .bool m.vis, .bool m.paste, .bool m.focus, .bool m.sync, .bool m.keypad, .int .i64 m.mouse, .bool m.sgr]) 23 (0, 0))] _
            refine Sx.next ?_
            refine Sc.seq ?_
            refine Sc.seq ?_
            refine Sc.region ?_
            refine Seg.y rfl rfl (Want.none rfl) (Y.fieldAddr rfl (A.field Try.underlying77 rfl sz4 rfl rfl)) ?_
            refine Seg.y rfl rfl (Want.none rfl) (Y.load1 1 rfl rfl rfl ag4) ?_
            refine Seg.nil ?_
            refine Sx.next ?_
            refine Sc.condT rfl rfl ?_
            refine Sc.region ?_
            refine Seg.y rfl rfl (Want.none rfl) (Y.fieldAddr rfl (A.field Try.underlying53 rfl sz3 rfl rfl)) ?_
            refine Seg.chs rfl (Want.none rfl) (C.store (cs' := [.int .i64 37, .int .i64 25, .int .i64 (2 - r45), .int .i64 0, .int .i64 0, .string ByteArray.empty]) (vs := [.int .i64 37]) 0 rfl rfl rfl rfl rfl rfl rfl sz3) (fun _ _ => ?_)
            refine Seg.nil ?_
            refine Sx.next ?_
            refine Sc.region ?_
            refine Seg.y rfl rfl (Want.none rfl) (Y.move rfl) ?_
            refine Seg.y rfl rfl (Want.none rfl) (Y.loadN (vs := [.int .i64 37, .int .i64 25, .int .i64 (2 - r45), .int .i64 0, .int .i64 0, .string ByteArray.empty]) 0 rfl rfl rfl rfl ag53 sz53) ?_
            refine Seg.chg rfl rfl (Want.none rfl) (C.buildSlice (e := 53) (cs := [.int .i64 37, .int .i64 25, .int .i64 (2 - r45), .int .i64 0, .int .i64 0, .string ByteArray.empty]) rfl (fun w => by kernel_rfl)) (fun b47 hb47 => ?_)
            refine Seg.freeze 0 rfl hb47 ?_
            refine Seg.chg rfl rfl (Want.none rfl) (C.appendL (enc := encAc) (acc := (actsTo m 6)) (bs := [(⟨37, 25, 2 - r45, (⟨0, 0⟩ : Co), ByteArray.empty⟩ : Ac)]) (spare := sp) (free := fr) (ob := ob) 2 (fun _ => rfl) (fun _ => rfl) rfl rfl rfl hA (fun w hs => (fun h => .inr ⟨_, _, rfl, blk_cells (o := 0) (n := 6) (h.2) rfl⟩) hs.fut.now) Try.underlying44 Try.underlying44 sz53 zv53 rfl inf53 (by first | omega | (simp only [List.length_cons, List.length_nil]; omega) | (simp only [List.length_append, List.length_cons, List.length_nil] at *; omega)) (by first | omega | (simp only [List.length_cons, List.length_nil]; omega) | (simp only [List.length_append, List.length_cons, List.length_nil] at *; omega))) (fun ⟨ob48, fr48, sp48⟩ hA48 => ?_)
            refine Seg.y rfl rfl (Want.none rfl) (Y.assign rfl) ?_
            refine Seg.nil ?_
            refine Sx.block_normal ?_
            refine Sx.next ?_
            refine Sc.region ?_
            refine Seg.y rfl rfl (Want.none rfl) (Y.binOp rfl rfl (B.add _ _ _ 7 (by decide))) ?_
            refine Seg.y rfl rfl (Want.none rfl) (Y.move rfl) ?_
            refine Seg.nil ?_
            have e : actsTo m 7 = actsTo m 6 ++ [(⟨37, 25, 2 - r45, (⟨0, 0⟩ : Co), ByteArray.empty⟩ : Ac)] := by simp [actsTo, stepAct, hr2, h3, h3p, h6, h6p, h44, hr45]
            have hle : (actsTo m 7).length ≤ 7 := by rw [e]; first | omega | (simp only [List.length_append, List.length_cons, List.length_nil]; omega)
            exact Sx.head (7, ob48, fr48, sp48) ⟨by omega, hle, by rw [e]; exact hA48⟩ (by first | omega | (dsimp only; omega)) ⟨rfl, (someV (by rw [e])), rfl, rfl, rfl, rfl, trivial⟩ [2, 3, 4] (by decide) (by dsimp only; rw [e]; rfl) (fun _ h => h.1)
      · skip
        refine Seg.y rfl rfl (Want.none rfl) (Y.indexAddr rfl rfl (A.index Try.underlying74 sz77 (by decide) (by decide) rfl)) ?_
        refine Seg.y rfl rfl (Want.none rfl) (Y.loadFN (vs := [.bool true, .int .i64 1004, .func (.func 42) #[] #[]]) rfl ag77 sz77 rfl (fun w h => blk_cells (n := 3) (h.2) rfl)) ?_
        refine Seg.chg rfl rfl (Want.none rfl) (C.alloc zv77 rfl) (fun b49 hb49 => ?_)
        refine Seg.chs rfl (Want.none rfl) (C.store (cs' := [.bool true, .int .i64 1004, .func (.func 42) #[] #[]]) (vs := [.bool true, .int .i64 1004, .func (.func 42) #[] #[]]) 0 rfl rfl rfl rfl rfl rfl rfl sz77) (fun _ _ => ?_)
        refine Seg.nil ?_
        refine Sx.next ?_
        refine Sc.seq ?_
        refine Sc.region ?_
        refine Seg.y rfl rfl (Want.none rfl) (Y.fieldAddr rfl (A.field Try.underlying77 rfl sz64 rfl rfl)) ?_
        refine Seg.y rfl rfl (Want.none rfl) (Y.load1 0 rfl rfl rfl ag64) ?_
        refine Seg.callV (v := .pointer (some ⟨b1, 8, none⟩)) rfl rfl (Want.none rfl) (K.value rfl rfl co42) (fun w hs => field8_c b1 w ) ?_
        refine Seg.y rfl rfl (Want.none rfl) (Y.nilCheck rfl) ?_
        refine Seg.y rfl rfl (Want.none rfl) (Y.load1 3 rfl rfl rfl ag4) ?_
        refine Seg.y rfl rfl (Want.none rfl) (Y.assign rfl) ?_
        refine Seg.nil ?_
        refine Sx.next ?_
        refine Sc.seq ?_
        refine Sc.seq ?_
        refine Sc.region ?_
        refine Seg.y rfl rfl (Want.none rfl) (Y.move rfl) ?_
        refine Seg.y rfl rfl (Want.none rfl) (Y.fieldAddr rfl (A.field Try.underlying77 rfl sz64 rfl rfl)) ?_
        refine Seg.y rfl rfl (Want.none rfl) (Y.load1 0 rfl rfl rfl ag64) ?_
        refine Seg.callV (v := .pointer (some ⟨b4, 8, none⟩)) rfl rfl (Want.none rfl) (K.value rfl rfl co42) (fun w hs => field8_c b4 w ) ?_
        refine Seg.y rfl rfl (Want.none rfl) (Y.nilCheck rfl) ?_
        refine Seg.y rfl rfl (Want.none rfl) (Y.load1 2 rfl rfl rfl ag4) ?_
        refine Seg.y rfl rfl (Want.none rfl) (Y.binOp rfl rfl (B.eqB _ _ Try.underlying4)) ?_
        refine Seg.nil ?_
        refine Sx.next ?_
        refine Sc.cond rfl (fun h50 => ?_) (fun h50 => ?_)
        · skip
          refine Sc.exit ?_
          refine Sx.next_exit ?_
          refine Sx.block_exit ?_
          refine Sx.next ?_
          refine Sc.region ?_
          refine Seg.y rfl rfl (Want.none rfl) (Y.binOp rfl rfl (B.add _ _ _ 8 (by decide))) ?_
          refine Seg.y rfl rfl (Want.none rfl) (Y.move rfl) ?_
          refine Seg.nil ?_
          have e : actsTo m 8 = actsTo m 7 := by simp [actsTo, stepAct, hr2, h3, h3p, h6, h6p, h50]
          have hle : (actsTo m 8).length ≤ 8 := by rw [e]; first | omega | (simp only [List.length_append, List.length_cons, List.length_nil]; omega)
          exact Sx.head (8, ob, fr, sp) ⟨by omega, hle, by rw [e]; exact hA⟩ (by first | omega | (dsimp only; omega)) ⟨rfl, (someV (by rw [e])), rfl, rfl, rfl, rfl, trivial⟩ [1, 2, 3] (by decide) (by dsimp only; rw [e]; rfl) (fun _ h => h)
        · skip
          refine Sc.skip ?_
          refine Sx.next ?_
          refine Sc.seq ?_
          obtain ⟨r51, hr51⟩ : ∃ x, x = toldS m.focus := ⟨_, rfl⟩
          have hbr51 : 1 ≤ r51 ∧ r51 ≤ 2 := by rw [hr51]; exact told_bd _
          refine Sc.cut (fun (b52 : Nat) => w.heap.size ≤ b52) (fun (b52 : Nat) => [(1, .pointer (some ⟨b1, 0, none⟩)), (2, .slice (ob.map mkA) ((actsTo m 7).length) ((actsTo m 7).length + fr)), (5, .pointer (some ⟨b4, 0, none⟩)), (7, .pointer (some ⟨b49, 0, none⟩)), (9, .pointer (some ⟨b52, 0, none⟩)), (16, .slice (some ⟨b5, 0, none⟩) 11 11), (17, .int .i64 11), (18, .int .i64 7)]) (fun (b52 : Nat) => [(some b52, .cells (List.toArray [.int .i64 36, .int .i64 1004, .int .i64 (2 - r51), .int .i64 0, .int .i64 0, .string ByteArray.empty]) 53 (0, 0)), (some b49, .cells (List.toArray [.bool true, .int .i64 1004, .func (.func 42) #[] #[]]) 77 (0, 0)), (ob, .cells (List.toArray (List.flatMap encAc (actsTo m 7) ++ sp)) 53 (0, 0)), (some b4, .cells (List.toArray [.bool newS.ins, .bool newS.nl, .bool newS.ck, .bool newS.inv, .bool newS.org, .bool newS.aut, .bool newS.vis, .bool newS.paste, .bool newS.focus, .bool newS.sync, .bool newS.keypad, .int .i64 newS.mouse, .bool newS.sgr]) 23 (0, 0)), (some b1, .cells (List.toArray [.bool m.ins, .bool m.nl, .bool m.ck, .bool m.inv, .bool m.org, .bool m.aut, .bool m.vis, .bool m.paste, .bool m.focus, .bool m.sync, .bool m.keypad, .int .i64 m.mouse, .bool m.sgr]) 23 (0, 0))]) (fun _ => fun w => (True) ∧ w.heap[b5]? = some (.cells (List.toArray [.bool false, .int .i64 4, .func (.func 35) #[] #[], .bool false, .int .i64 20, .func (.func 36) #[] #[], .bool true, .int .i64 1, .func (.func 37) #[] #[], .bool true, .int .i64 5, .func (.func 38) #[] #[], .bool true, .int .i64 6, .func (.func 39) #[] #[], .bool true, .int .i64 7, .func (.func 40) #[] #[], .bool true, .int .i64 25, .func (.func 41) #[] #[], .bool true, .int .i64 1004, .func (.func 42) #[] #[], .bool true, .int .i64 1006, .func (.func 43) #[] #[], .bool true, .int .i64 2004, .func (.func 44) #[] #[], .bool true, .int .i64 2026, .func (.func 45) #[] #[]]) 77 (0, 0))) ?_ ?_
          · skip
            refine Sc.draw (by kernel_rfl) (fun _ h => St.lean [0, 1, 2, 3] (by decide) (fun _ h => h) h rfl) ?_
            refine Sd.take 0 rfl rfl rfl (by kernel_rfl) (by kernel_rfl) (by kernel_rfl) Cut.panic (Want.none rfl) (Y.fieldAddr rfl (A.field Try.underlying77 rfl sz3 rfl rfl)) ?_
            refine Sd.take 1 rfl rfl rfl (by kernel_rfl) (by kernel_rfl) (by kernel_rfl) Cut.panic (Want.none rfl) (Y.load1 0 rfl rfl rfl ag3) ?_
            refine Sd.take 2 rfl rfl rfl (by kernel_rfl) (by kernel_rfl) (by kernel_rfl) Cut.panic (Want.none rfl) (Y.move rfl) ?_
            refine Sd.all [3, 6] (by kernel_rfl) (by decide) (all_cons ?_ (all_cons ?_ all_nil))
            · skip
              refine Sp.callV (v := .int .i64 r51) rfl rfl rfl (Want.none rfl) (K.func rfl co32) (fun w hs => by rw [hr51]; exact told_c m.focus w ) ?_
              refine Sd.take 4 rfl rfl rfl (by kernel_rfl) (by kernel_rfl) (by kernel_rfl) Cut.panic (Want.none rfl) (Y.binOp rfl rfl (B.sub _ _ _ (2 - r51) (wr_i64 (by omega)))) ?_
              refine Sd.take 5 rfl rfl rfl (by kernel_rfl) (by kernel_rfl) (by kernel_rfl) Cut.panic (Want.none rfl) (Y.build (v := .agg (List.toArray [.int .i64 36, .int .i64 1004, .int .i64 (2 - r51), .int .i64 0, .int .i64 0, .string ByteArray.empty])) rfl (fun w => by kernel_rfl)) ?_
              refine Sd.all [6] (by kernel_rfl) (by decide) (all_cons ?_ all_nil)
              refine Sp.chg rfl rfl rfl (Want.none rfl) (C.alloc zv53 rfl) (fun _ _ _ h => St.lean [1, 2, 3, 4] (by decide) (fun _ h => h) h rfl) (fun b52 hb52 => ?_)
              refine Sd.all [7] (by kernel_rfl) (by decide) (all_cons ?_ all_nil)
              refine Sp.chgs rfl rfl (Want.none rfl) (C.store (cs' := [.int .i64 36, .int .i64 1004, .int .i64 (2 - r51), .int .i64 0, .int .i64 0, .string ByteArray.empty]) (vs := [.int .i64 36, .int .i64 1004, .int .i64 (2 - r51), .int .i64 0, .int .i64 0, .string ByteArray.empty]) 0 rfl rfl rfl rfl rfl rfl rfl sz53) (fun _ _ _ h => St.lean [1, 2, 3, 4] (by decide) (fun _ h => h) h rfl) (fun _ _ => ?_)
              refine Sd.done (by kernel_rfl) ?_
              exact Sx.cut b52 hb52 ⟨rfl, rfl, rfl, rfl, rfl, rfl, rfl, rfl, trivial⟩ [0, 1, 2, 3, 4] (by decide) rfl (fun _ h => h)
            refine Sp.chg rfl rfl rfl (Want.none rfl) (C.alloc zv53 rfl) (fun _ _ _ h => St.lean [1, 2, 3, 4] (by decide) (fun _ h => h) h rfl) (fun b52 hb52 => ?_)
            refine Sd.all [3] (by kernel_rfl) (by decide) (all_cons ?_ all_nil)
            refine Sp.callV (v := .int .i64 r51) rfl rfl rfl (Want.none rfl) (K.func rfl co32) (fun w hs => by rw [hr51]; exact told_c m.focus w ) ?_
            refine Sd.take 4 rfl rfl rfl (by kernel_rfl) (by kernel_rfl) (by kernel_rfl) Cut.panic (Want.none rfl) (Y.binOp rfl rfl (B.sub _ _ _ (2 - r51) (wr_i64 (by omega)))) ?_
            refine Sd.take 5 rfl rfl rfl (by kernel_rfl) (by kernel_rfl) (by kernel_rfl) Cut.panic (Want.none rfl) (Y.build (v := .agg (List.toArray [.int .i64 36, .int .i64 1004, .int .i64 (2 - r51), .int .i64 0, .int .i64 0, .string ByteArray.empty])) rfl (fun w => by kernel_rfl)) ?_
            refine Sd.all [7] (by kernel_rfl) (by decide) (all_cons ?_ all_nil)
            refine Sp.chgs rfl rfl (Want.none rfl) (C.store (cs' := [.int .i64 36, .int .i64 1004, .int .i64 (2 - r51), .int .i64 0, .int .i64 0, .string ByteArray.empty]) (vs := [.int .i64 36, .int .i64 1004, .int .i64 (2 - r51), .int .i64 0, .int .i64 0, .string ByteArray.empty]) 0 rfl rfl rfl rfl rfl rfl rfl sz53) (fun _ _ _ h => St.lean [1, 2, 3, 4] (by decide) (fun _ h => h) h rfl) (fun _ _ => ?_)
            refine Sd.done (by kernel_rfl) ?_
            exact Sx.cut b52 hb52 ⟨rfl, rfl, rfl, rfl, rfl, rfl, rfl, rfl, trivial⟩ [0, 1, 2, 3, 4] (by decide) rfl (fun _ h => h)
          · rintro b52 hb52
            show Sx _ _ _ [(1, .pointer (some ⟨b1, 0, none⟩)), (2, .slice (ob.map mkA) ((actsTo m 7).length) ((actsTo m 7).length + fr)), (5, .pointer (some ⟨b4, 0, none⟩)), (7, .pointer (some ⟨b49, 0, none⟩)), (9, .pointer (some ⟨b52, 0, none⟩)), (16, .slice (some ⟨b5, 0, none⟩) 11 11), (17, .int .i64 11), (18, .int .i64 7)] [(some b52, .cells (List.toArray [.int .i64 36, .int .i64 1004, .int .i64 (2 - r51), .int .i64 0, .int .i64 0, .string ByteArray.empty]) 53 (0, 0)), (some b49, .cells (List.toArray [.bool true, .int .i64 1004, .func (.func 42) #[] #[]]) 77 (0, 0)), (ob, .cells (List.toArray (List.flatMap encAc (actsTo m 7) ++ sp)) 53 (0, 0)), (some b4, .cells (List.toArray [.bool newS.ins, .bool newS.nl, .bool newS.ck, .bool newS.inv, .bool newS.org, .bool newS.aut, .bool newS.vis, .bool newS.paste, .bool newS.focus, .bool newS.sync, .bool newS.keypad, .int .i64 newS.mouse, .bool newS.sgr]) 23 (0, 0)), (some b1, .cells (List.toArray [.bool m.ins, .bool m.nl, .bool m.ck, .bool m.inv, .bool m.org, .bool m.aut, .bool m.vis, .bool m.paste, .bool m.focus, .bool m.sync, .bool m.keypad, .int .i64 m.mouse, .bool m.sgr]) 23 (0, 0))] _
            refine Sx.next ?_
            refine Sc.seq ?_
            refine Sc.seq ?_
            refine Sc.region ?_
            refine Seg.y rfl rfl (Want.none rfl) (Y.fieldAddr rfl (A.field Try.underlying77 rfl sz4 rfl rfl)) ?_
            refine Seg.y rfl rfl (Want.none rfl) (Y.load1 1 rfl rfl rfl ag4) ?_
            refine Seg.nil ?_
            refine Sx.next ?_
            refine Sc.condT rfl rfl ?_
            refine Sc.region ?_
            refine Seg.y rfl rfl (Want.none rfl) (Y.fieldAddr rfl (A.field Try.underlying53 rfl sz3 rfl rfl)) ?_
            refine Seg.chs rfl (Want.none rfl) (C.store (cs' := [.int .i64 37, .int .i64 1004, .int .i64 (2 - r51), .int .i64 0, .int .i64 0, .string ByteArray.empty]) (vs := [.int .i64 37]) 0 rfl rfl rfl rfl rfl rfl rfl sz3) (fun _ _ => ?_)
            refine Seg.nil ?_
            refine Sx.next ?_
            refine Sc.region ?_
            refine Seg.y rfl rfl (Want.none rfl) (Y.move rfl) ?_
            refine Seg.y rfl rfl (Want.none rfl) (Y.loadN (vs := [.int .i64 37, .int .i64 1004, .int .i64 (2 - r51), .int .i64 0, .int .i64 0, .string ByteArray.empty]) 0 rfl rfl rfl rfl ag53 sz53) ?_
            refine Seg.chg rfl rfl (Want.none rfl) (C.buildSlice (e := 53) (cs := [.int .i64 37, .int .i64 1004, .int .i64 (2 - r51), .int .i64 0, .int .i64 0, .string ByteArray.empty]) rfl (fun w => by kernel_rfl)) (fun b53 hb53 => ?_)
            refine Seg.freeze 0 rfl hb53 ?_
            refine Seg.chg rfl rfl (Want.none rfl) (C.appendL (enc := encAc) (acc := (actsTo m 7)) (bs := [(⟨37, 1004, 2 - r51, (⟨0, 0⟩ : Co), ByteArray.empty⟩ : Ac)]) (spare := sp) (free := fr) (ob := ob) 2 (fun _ => rfl) (fun _ => rfl) rfl rfl rfl hA (fun w hs => (fun h => .inr ⟨_, _, rfl, blk_cells (o := 0) (n := 6) (h.2) rfl⟩) hs.fut.now) Try.underlying44 Try.underlying44 sz53 zv53 rfl inf53 (by first | omega | (simp only [List.length_cons, List.length_nil]; omega) | (simp only [List.length_append, List.length_cons, List.length_nil] at *; omega)) (by first | omega | (simp only [List.length_cons, List.length_nil]; omega) | (simp only [List.length_append, List.length_cons, List.length_nil] at *; omega))) (fun ⟨ob54, fr54, sp54⟩ hA54 => ?_)
            refine Seg.y rfl rfl (Want.none rfl) (Y.assign rfl) ?_
            refine Seg.nil ?_
            refine Sx.block_normal ?_
            refine Sx.next ?_
            refine Sc.region ?_
            refine Seg.y rfl rfl (Want.none rfl) (Y.binOp rfl rfl (B.add _ _ _ 8 (by decide))) ?_
            refine Seg.y rfl rfl (Want.none rfl) (Y.move rfl) ?_
            refine Seg.nil ?_
            have e : actsTo m 8 = actsTo m 7 ++ [(⟨37, 1004, 2 - r51, (⟨0, 0⟩ : Co), ByteArray.empty⟩ : Ac)] := by simp [actsTo, stepAct, hr2, h3, h3p, h6, h6p, h50, hr51]
            have hle : (actsTo m 8).length ≤ 8 := by rw [e]; first | omega | (simp only [List.length_append, List.length_cons, List.length_nil]; omega)
            exact Sx.head (8, ob54, fr54, sp54) ⟨by omega, hle, by rw [e]; exact hA54⟩ (by first | omega | (dsimp only; omega)) ⟨rfl, (someV (by rw [e])), rfl, rfl, rfl, rfl, trivial⟩ [2, 3, 4] (by decide) (by dsimp only; rw [e]; rfl) (fun _ h => h.1)
      · skip
        refine Seg.y rfl rfl (Want.none rfl) (Y.indexAddr rfl rfl (A.index Try.underlying74 sz77 (by decide) (by decide) rfl)) ?_
        refine Seg.y rfl rfl (Want.none rfl) (Y.loadFN (vs := [.bool true, .int .i64 1006, .func (.func 43) #[] #[]]) rfl ag77 sz77 rfl (fun w h => blk_cells (n := 3) (h.2) rfl)) ?_
        refine Seg.chg rfl rfl (Want.none rfl) (C.alloc zv77 rfl) (fun b55 hb55 => ?_)
        refine Seg.chs rfl (Want.none rfl) (C.store (cs' := [.bool true, .int .i64 1006, .func (.func 43) #[] #[]]) (vs := [.bool true, .int .i64 1006, .func (.func 43) #[] #[]]) 0 rfl rfl rfl rfl rfl rfl rfl sz77) (fun _ _ => ?_)
        refine Seg.nil ?_
        refine Sx.next ?_
        refine Sc.seq ?_
        refine Sc.region ?_
        refine Seg.y rfl rfl (Want.none rfl) (Y.fieldAddr rfl (A.field Try.underlying77 rfl sz64 rfl rfl)) ?_
        refine Seg.y rfl rfl (Want.none rfl) (Y.load1 0 rfl rfl rfl ag64) ?_
        refine Seg.callV (v := .pointer (some ⟨b1, 12, none⟩)) rfl rfl (Want.none rfl) (K.value rfl rfl co43) (fun w hs => field9_c b1 w ) ?_
        refine Seg.y rfl rfl (Want.none rfl) (Y.nilCheck rfl) ?_
        refine Seg.y rfl rfl (Want.none rfl) (Y.load1 3 rfl rfl rfl ag4) ?_
        refine Seg.y rfl rfl (Want.none rfl) (Y.assign rfl) ?_
        refine Seg.nil ?_
        refine Sx.next ?_
        refine Sc.seq ?_
        refine Sc.seq ?_
        refine Sc.region ?_
        refine Seg.y rfl rfl (Want.none rfl) (Y.move rfl) ?_
        refine Seg.y rfl rfl (Want.none rfl) (Y.fieldAddr rfl (A.field Try.underlying77 rfl sz64 rfl rfl)) ?_
        refine Seg.y rfl rfl (Want.none rfl) (Y.load1 0 rfl rfl rfl ag64) ?_
        refine Seg.callV (v := .pointer (some ⟨b4, 12, none⟩)) rfl rfl (Want.none rfl) (K.value rfl rfl co43) (fun w hs => field9_c b4 w ) ?_
        refine Seg.y rfl rfl (Want.none rfl) (Y.nilCheck rfl) ?_
        refine Seg.y rfl rfl (Want.none rfl) (Y.load1 2 rfl rfl rfl ag4) ?_
        refine Seg.y rfl rfl (Want.none rfl) (Y.binOp rfl rfl (B.eqB _ _ Try.underlying4)) ?_
        refine Seg.nil ?_
        refine Sx.next ?_
        refine Sc.cond rfl (fun h56 => ?_) (fun h56 => ?_)
        · skip
          refine Sc.exit ?_
          refine Sx.next_exit ?_
          refine Sx.block_exit ?_
          refine Sx.next ?_
          refine Sc.region ?_
          refine Seg.y rfl rfl (Want.none rfl) (Y.binOp rfl rfl (B.add _ _ _ 9 (by decide))) ?_
          refine Seg.y rfl rfl (Want.none rfl) (Y.move rfl) ?_
          refine Seg.nil ?_
          have e : actsTo m 9 = actsTo m 8 := by simp [actsTo, stepAct, hr2, h3, h3p, h6, h6p, h56]
          have hle : (actsTo m 9).length ≤ 9 := by rw [e]; first | omega | (simp only [List.length_append, List.length_cons, List.length_nil]; omega)
          exact Sx.head (9, ob, fr, sp) ⟨by omega, hle, by rw [e]; exact hA⟩ (by first | omega | (dsimp only; omega)) ⟨rfl, (someV (by rw [e])), rfl, rfl, rfl, rfl, trivial⟩ [1, 2, 3] (by decide) (by dsimp only; rw [e]; rfl) (fun _ h => h)
        · skip
          refine Sc.skip ?_
          refine Sx.next ?_
          refine Sc.seq ?_
          obtain ⟨r57, hr57⟩ : ∃ x, x = toldS m.sgr := ⟨_, rfl⟩
          have hbr57 : 1 ≤ r57 ∧ r57 ≤ 2 := by rw [hr57]; exact told_bd _
          refine Sc.cut (fun (b58 : Nat) => w.heap.size ≤ b58) (fun (b58 : Nat) => [(1, .pointer (some ⟨b1, 0, none⟩)), (2, .slice (ob.map mkA) ((actsTo m 8).length) ((actsTo m 8).length + fr)), (5, .pointer (some ⟨b4, 0, none⟩)), (7, .pointer (some ⟨b55, 0, none⟩)), (9, .pointer (some ⟨b58, 0, none⟩)), (16, .slice (some ⟨b5, 0, none⟩) 11 11), (17, .int .i64 11), (18, .int .i64 8)]) (fun (b58 : Nat) => [(some b58, .cells (List.toArray [.int .i64 36, .int .i64 1006, .int .i64 (2 - r57), .int .i64 0, .int .i64 0, .string ByteArray.empty]) 53 (0, 0)), (some b55, .cells (List.toArray [.bool true, .int .i64 1006, .func (.func 43) #[] #[]]) 77 (0, 0)), (ob, .cells (List.toArray (List.flatMap encAc (actsTo m 8) ++ sp)) 53 (0, 0)), (some b4, .cells (List.toArray [.bool newS.ins, .bool newS.nl, .bool newS.ck, .bool newS.inv, .bool newS.org, .bool newS.aut, .bool newS.vis, .bool newS.paste, .bool newS.focus, .bool newS.sync, .bool newS.keypad, .int .i64 newS.mouse, .bool newS.sgr]) 23 (0, 0)), (some b1, .cells (List.toArray [.bool m.ins, .bool m.nl, .bool m.ck, .bool m.inv, .bool m.org, .bool m.aut, .bool m.vis, .bool m.paste, .bool m.focus, .bool m.sync, .bool m.keypad, .int .i64 m.mouse, .bool m.sgr]) 23 (0, 0))]) (fun _ => fun w => (True) ∧ w.heap[b5]? = some (.cells (List.toArray [.bool false, .int .i64 4, .func (.func 35) #[] #[], .bool false, .int .i64 20, .func (.func 36) #[] #[], .bool true, .int .i64 1, .func (.func 37) #[] #[], .bool true, .int .i64 5, .func (.func 38) #[] #[], .bool true, .int .i64 6, .func (.func 39) #[] #[], .bool true, .int .i64 7, .func (.func 40) #[] #[], .bool true, .int .i64 25, .func (.func 41) #[] #[], .bool true, .int .i64 1004, .func (.func 42) #[] #[], .bool true, .int .i64 1006, .func (.func 43) #[] #[], .bool true, .int .i64 2004, .func (.func 44) #[] #[], .bool true, .int .i64 2026, .func (.func 45) #[] #[]]) 77 (0, 0))) ?_ ?_
          · skip
            refine Sc.draw (by kernel_rfl) (fun _ h => St.lean [0, 1, 2, 3] (by decide) (fun _ h => h) h rfl) ?_
            refine Sd.take 0 rfl rfl rfl (by kernel_rfl) (by kernel_rfl) (by kernel_rfl) Cut.panic (Want.none rfl) (Y.fieldAddr rfl (A.field Try.underlying77 rfl sz3 rfl rfl)) ?_
            refine Sd.take 1 rfl rfl rfl (by kernel_rfl) (by kernel_rfl) (by kernel_rfl) Cut.panic (Want.none rfl) (Y.load1 0 rfl rfl rfl ag3) ?_
            refine Sd.take 2 rfl rfl rfl (by kernel_rfl) (by kernel_rfl) (by kernel_rfl) Cut.panic (Want.none rfl) (Y.move rfl) ?_
            refine Sd.all [3, 6] (by kernel_rfl) (by decide) (all_cons ?_ (all_cons ?_ all_nil))
            · skip
              refine Sp.callV (v := .int .i64 r57) rfl rfl rfl (Want.none rfl) (K.func rfl co32) (fun w hs => by rw [hr57]; exact told_c m.sgr w ) ?_
              refine Sd.take 4 rfl rfl rfl (by kernel_rfl) (by kernel_rfl) (by kernel_rfl) Cut.panic (Want.none rfl) (Y.binOp rfl rfl (B.sub _ _ _ (2 - r57) (wr_i64 (by omega)))) ?_
              refine Sd.take 5 rfl rfl rfl (by kernel_rfl) (by kernel_rfl) (by kernel_rfl) Cut.panic (Want.none rfl) (Y.build (v := .agg (List.toArray [.int .i64 36, .int .i64 1006, .int .i64 (2 - r57), .int .i64 0, .int .i64 0, .string ByteArray.empty])) rfl (fun w => by kernel_rfl)) ?_
              refine Sd.all [6] (by kernel_rfl) (by decide) (all_cons ?_ all_nil)
              refine Sp.chg rfl rfl rfl (Want.none rfl) (C.alloc zv53 rfl) (fun _ _ _ h => St.lean [1, 2, 3, 4] (by decide) (fun _ h => h) h rfl) (fun b58 hb58 => ?_)
              refine Sd.all [7] (by kernel_rfl) (by decide) (all_cons ?_ all_nil)
              refine Sp.chgs rfl rfl (Want.none rfl) (C.store (cs' := [.int .i64 36, .int .i64 1006, .int .i64 (2 - r57), .int .i64 0, .int .i64 0, .string ByteArray.empty]) (vs := [.int .i64 36, .int .i64 1006, .int .i64 (2 - r57), .int .i64 0, .int .i64 0, .string ByteArray.empty]) 0 rfl rfl rfl rfl rfl rfl rfl sz53) (fun _ _ _ h => St.lean [1, 2, 3, 4] (by decide) (fun _ h => h) h rfl) (fun _ _ => ?_)
              refine Sd.done (by kernel_rfl) ?_
              exact Sx.cut b58 hb58 ⟨rfl, rfl, rfl, rfl, rfl, rfl, rfl, rfl, trivial⟩ [0, 1, 2, 3, 4] (by decide) rfl (fun _ h => h)
            refine Sp.chg rfl rfl rfl (Want.none rfl) (C.alloc zv53 rfl) (fun _ _ _ h => St.lean [1, 2, 3, 4] (by decide) (fun _ h => h) h rfl) (fun b58 hb58 => ?_)
            refine Sd.all [3] (by kernel_rfl) (by decide) (all_cons ?_ all_nil)
            refine Sp.callV (v := .int .i64 r57) rfl rfl rfl (Want.none rfl) (K.func rfl co32) (fun w hs => by rw [hr57]; exact told_c m.sgr w ) ?_
            refine Sd.take 4 rfl rfl rfl (by kernel_rfl) (by kernel_rfl) (by kernel_rfl) Cut.panic (Want.none rfl) (Y.binOp rfl rfl (B.sub _ _ _ (2 - r57) (wr_i64 (by omega)))) ?_
            refine Sd.take 5 rfl rfl rfl (by kernel_rfl) (by kernel_rfl) (by kernel_rfl) Cut.panic (Want.none rfl) (Y.build (v := .agg (List.toArray [.int .i64 36, .int .i64 1006, .int .i64 (2 - r57), .int .i64 0, .int .i64 0, .string ByteArray.empty])) rfl (fun w => by kernel_rfl)) ?_
            refine Sd.all [7] (by kernel_rfl) (by decide) (all_cons ?_ all_nil)
            refine Sp.chgs rfl rfl (Want.none rfl) (C.store (cs' := [.int .i64 36, .int .i64 1006, .int .i64 (2 - r57), .int .i64 0, .int .i64 0, .string ByteArray.empty]) (vs := [.int .i64 36, .int .i64 1006, .int .i64 (2 - r57), .int .i64 0, .int .i64 0, .string ByteArray.empty]) 0 rfl rfl rfl rfl rfl rfl rfl sz53) (fun _ _ _ h => St.lean [1, 2, 3, 4] (by decide) (fun _ h => h) h rfl) (fun _ _ => ?_)
            refine Sd.done (by kernel_rfl) ?_
            exact Sx.cut b58 hb58 ⟨rfl, rfl, rfl, rfl, rfl, rfl, rfl, rfl, trivial⟩ [0, 1, 2, 3, 4] (by decide) rfl (fun _ h => h)
          · rintro b58 hb58
            show Sx _ _ _ [(1, .pointer (some ⟨b1, 0, none⟩)), (2, .slice (ob.map mkA) ((actsTo m 8).length) ((actsTo m 8).length + fr)), (5, .pointer (some ⟨b4, 0, none⟩)), (7, .pointer (some ⟨b55, 0, none⟩)), (9, .pointer (some ⟨b58, 0, none⟩)), (16, .slice (some ⟨b5, 0, none⟩) 11 11), (17, .int .i64 11), (18, .int .i64 8)] [(some b58, .cells (List.toArray [.int .i64 36, .int .i64 1006, .int .i64 (2 - r57), .int .i64 0, .int .i64 0, .string ByteArray.empty]) 53 (0, 0)), (some b55, .cells (List.toArray [.bool true, .int .i64 1006, .func (.func 43) #[] #[]]) 77 (0, 0)), (ob, .cells (List.toArray (List.flatMap encAc (actsTo m 8) ++ sp)) 53 (0, 0)), (some b4, .cells (List.toArray [.bool newS.ins, .bool newS.nl, .bool newS.ck, .bool newS.inv, .bool newS.org, .bool newS.aut, .bool newS.vis, .bool newS.paste, .bool newS.focus, .bool newS.sync, .bool newS.keypad, .int .i64 newS.mouse, .bool newS.sgr]) 23 (0, 0)), (some b1, .cells (List.toArray [.bool m.ins, .bool m.nl, .bool m.ck, .bool m.inv, .bool m.org, .bool m.aut, .bool m.vis, .bool m.paste, .bool m.focus, .bool m.sync, .bool m.keypad, .int .i64 m.mouse, .bool m.sgr]) 23 (0, 0))] _
            refine Sx.next ?_
            refine Sc.seq ?_
            refine Sc.seq ?_
            refine Sc.region ?_
            refine Seg.y rfl rfl (Want.none rfl) (Y.fieldAddr rfl (A.field Try.underlying77 rfl sz4 rfl rfl)) ?_
            refine Seg.y rfl rfl (Want.none rfl) (Y.load1 1 rfl rfl rfl ag4) ?_
            refine Seg.nil ?_
            refine Sx.next ?_
            refine Sc.condT rfl rfl ?_
            refine Sc.region ?_
            refine Seg.y rfl rfl (Want.none rfl) (Y.fieldAddr rfl (A.field Try.underlying53 rfl sz3 rfl rfl)) ?_
            refine Seg.chs rfl (Want.none rfl) (C.store (cs' := [.int .i64 37, .int .i64 1006, .int .i64 (2 - r57), .int .i64 0, .int .i64 0, .string ByteArray.empty]) (vs := [.int .i64 37]) 0 rfl rfl rfl rfl rfl rfl rfl sz3) (fun _ _ => ?_)
            refine Seg.nil ?_
            refine Sx.next ?_
            refine Sc.region ?_
            refine Seg.y rfl rfl (Want.none rfl) (Y.move rfl) ?_
            refine Seg.y rfl rfl (Want.none rfl) (Y.loadN (vs := [.int .i64 37, .int .i64 1006, .int .i64 (2 - r57), .int .i64 0, .int .i64 0, .string ByteArray.empty]) 0 rfl rfl rfl rfl ag53 sz53) ?_
            refine Seg.chg rfl rfl (Want.none rfl) (C.buildSlice (e := 53) (cs := [.int .i64 37, .int .i64 1006, .int .i64 (2 - r57), .int .i64 0, .int .i64 0, .string ByteArray.empty]) rfl (fun w => by kernel_rfl)) (fun b59 hb59 => ?_)
            refine Seg.freeze 0 rfl hb59 ?_
            refine Seg.chg rfl rfl (Want.none rfl) (C.appendL (enc := encAc) (acc := (actsTo m 8)) (bs := [(⟨37, 1006, 2 - r57, (⟨0, 0⟩ : Co), ByteArray.empty⟩ : Ac)]) (spare := sp) (free := fr) (ob := ob) 2 (fun _ => rfl) (fun _ => rfl) rfl rfl rfl hA (fun w hs => (fun h => .inr ⟨_, _, rfl, blk_cells (o := 0) (n := 6) (h.2) rfl⟩) hs.fut.now) Try.underlying44 Try.underlying44 sz53 zv53 rfl inf53 (by first | omega | (simp only [List.length_cons, List.length_nil]; omega) | (simp only [List.length_append, List.length_cons, List.length_nil] at *; omega)) (by first | omega | (simp only [List.length_cons, List.length_nil]; omega) | (simp only [List.length_append, List.length_cons, List.length_nil] at *; omega))) (fun ⟨ob60, fr60, sp60⟩ hA60 => ?_)
            refine Seg.y rfl rfl (Want.none rfl) (Y.assign rfl) ?_
            refine Seg.nil ?_
            refine Sx.block_normal ?_
            refine Sx.next ?_
            refine Sc.region ?_
            refine Seg.y rfl rfl (Want.none rfl) (Y.binOp rfl rfl (B.add _ _ _ 9 (by decide))) ?_
            refine Seg.y rfl rfl (Want.none rfl) (Y.move rfl) ?_
            refine Seg.nil ?_
            have e : actsTo m 9 = actsTo m 8 ++ [(⟨37, 1006, 2 - r57, (⟨0, 0⟩ : Co), ByteArray.empty⟩ : Ac)] := by simp [actsTo, stepAct, hr2, h3, h3p, h6, h6p, h56, hr57]
            have hle : (actsTo m 9).length ≤ 9 := by rw [e]; first | omega | (simp only [List.length_append, List.length_cons, List.length_nil]; omega)
            exact Sx.head (9, ob60, fr60, sp60) ⟨by omega, hle, by rw [e]; exact hA60⟩ (by first | omega | (dsimp only; omega)) ⟨rfl, (someV (by rw [e])), rfl, rfl, rfl, rfl, trivial⟩ [2, 3, 4] (by decide) (by dsimp only; rw [e]; rfl) (fun _ h => h.1)
      · skip
        refine Seg.y rfl rfl (Want.none rfl) (Y.indexAddr rfl rfl (A.index Try.underlying74 sz77 (by decide) (by decide) rfl)) ?_
        refine Seg.y rfl rfl (Want.none rfl) (Y.loadFN (vs := [.bool true, .int .i64 2004, .func (.func 44) #[] #[]]) rfl ag77 sz77 rfl (fun w h => blk_cells (n := 3) (h.2) rfl)) ?_
        refine Seg.chg rfl rfl (Want.none rfl) (C.alloc zv77 rfl) (fun b61 hb61 => ?_)
        refine Seg.chs rfl (Want.none rfl) (C.store (cs' := [.bool true, .int .i64 2004, .func (.func 44) #[] #[]]) (vs := [.bool true, .int .i64 2004, .func (.func 44) #[] #[]]) 0 rfl rfl rfl rfl rfl rfl rfl sz77) (fun _ _ => ?_)
        refine Seg.nil ?_
        refine Sx.next ?_
        refine Sc.seq ?_
        refine Sc.region ?_
        refine Seg.y rfl rfl (Want.none rfl) (Y.fieldAddr rfl (A.field Try.underlying77 rfl sz64 rfl rfl)) ?_
        refine Seg.y rfl rfl (Want.none rfl) (Y.load1 0 rfl rfl rfl ag64) ?_
        refine Seg.callV (v := .pointer (some ⟨b1, 7, none⟩)) rfl rfl (Want.none rfl) (K.value rfl rfl co44) (fun w hs => field10_c b1 w ) ?_
        refine Seg.y rfl rfl (Want.none rfl) (Y.nilCheck rfl) ?_
        refine Seg.y rfl rfl (Want.none rfl) (Y.load1 3 rfl rfl rfl ag4) ?_
        refine Seg.y rfl rfl (Want.none rfl) (Y.assign rfl) ?_
        refine Seg.nil ?_
        refine Sx.next ?_
        refine Sc.seq ?_
        refine Sc.seq ?_
        refine Sc.region ?_
        refine Seg.y rfl rfl (Want.none rfl) (Y.move rfl) ?_
        refine Seg.y rfl rfl (Want.none rfl) (Y.fieldAddr rfl (A.field Try.underlying77 rfl sz64 rfl rfl)) ?_
        refine Seg.y rfl rfl (Want.none rfl) (Y.load1 0 rfl rfl rfl ag64) ?_
        refine Seg.callV (v := .pointer (some ⟨b4, 7, none⟩)) rfl rfl (Want.none rfl) (K.value rfl rfl co44) (fun w hs => field10_c b4 w ) ?_
        refine Seg.y rfl rfl (Want.none rfl) (Y.nilCheck rfl) ?_
        refine Seg.y rfl rfl (Want.none rfl) (Y.load1 2 rfl rfl rfl ag4) ?_
        refine Seg.y rfl rfl (Want.none rfl) (Y.binOp rfl rfl (B.eqB _ _ Try.underlying4)) ?_
        refine Seg.nil ?_
        refine Sx.next ?_
        refine Sc.cond rfl (fun h62 => ?_) (fun h62 => ?_)
        · skip
          refine Sc.exit ?_
          refine Sx.next_exit ?_
          refine Sx.block_exit ?_
          refine Sx.next ?_
          refine Sc.region ?_
          refine Seg.y rfl rfl (Want.none rfl) (Y.binOp rfl rfl (B.add _ _ _ 10 (by decide))) ?_
          refine Seg.y rfl rfl (Want.none rfl) (Y.move rfl) ?_
          refine Seg.nil ?_
          have e : actsTo m 10 = actsTo m 9 := by simp [actsTo, stepAct, hr2, h3, h3p, h6, h6p, h62]
          have hle : (actsTo m 10).length ≤ 10 := by rw [e]; first | omega | (simp only [List.length_append, List.length_cons, List.length_nil]; omega)
          exact Sx.head (10, ob, fr, sp) ⟨by omega, hle, by rw [e]; exact hA⟩ (by first | omega | (dsimp only; omega)) ⟨rfl, (someV (by rw [e])), rfl, rfl, rfl, rfl, trivial⟩ [1, 2, 3] (by decide) (by dsimp only; rw [e]; rfl) (fun _ h => h)
        · skip
          refine Sc.skip ?_
          refine Sx.next ?_
          refine Sc.seq ?_
          obtain ⟨r63, hr63⟩ : ∃ x, x = toldS m.paste := ⟨_, rfl⟩
          have hbr63 : 1 ≤ r63 ∧ r63 ≤ 2 := by rw [hr63]; exact told_bd _
          refine Sc.cut (fun (b64 : Nat) => w.heap.size ≤ b64) (fun (b64 : Nat) => [(1, .pointer (some ⟨b1, 0, none⟩)), (2, .slice (ob.map mkA) ((actsTo m 9).length) ((actsTo m 9).length + fr)), (5, .pointer (some ⟨b4, 0, none⟩)), (7, .pointer (some ⟨b61, 0, none⟩)), (9, .pointer (some ⟨b64, 0, none⟩)), (16, .slice (some ⟨b5, 0, none⟩) 11 11), (17, .int .i64 11), (18, .int .i64 9)]) (fun (b64 : Nat) => [(some b64, .cells (List.toArray [.int .i64 36, .int .i64 2004, .int .i64 (2 - r63), .int .i64 0, .int .i64 0, .string ByteArray.empty]) 53 (0, 0)), (some b61, .cells (List.toArray [.bool true, .int .i64 2004, .func (.func 44) #[] #[]]) 77 (0, 0)), (ob, .cells (List.toArray (List.flatMap encAc (actsTo m 9) ++ sp)) 53 (0, 0)), (some b4, .cells (List.toArray [.bool newS.ins, .bool newS.nl, .bool newS.ck, .bool newS.inv, .bool newS.org, .bool newS.aut, .bool newS.vis, .bool newS.paste, .bool newS.focus, .bool newS.sync, .bool newS.keypad, .int .i64 newS.mouse, .bool newS.sgr]) 23 (0, 0)), (some b1, .cells (List.toArray [.bool m.ins, .bool m.nl, .bool m.ck, .bool m.inv, .bool m.org, .bool m.aut, .bool m.vis, .bool m.paste, .bool m.focus, .bool m.sync, .bool m.keypad, .int .i64 m.mouse, .bool m.sgr]) 23 (0, 0))]) (fun _ => fun w => (True) ∧ w.heap[b5]? = some (.cells (List.toArray [.bool false, .int .i64 4, .func (.func 35) #[] #[], .bool false, .int .i64 20, .func (.func 36) #[] #[], .bool true, .int .i64 1, .func (.func 37) #[] #[], .bool true, .int .i64 5, .func (.func 38) #[] #[], .bool true, .int .i64 6, .func (.func 39) #[] #[], .bool true, .int .i64 7, .func (.func 40) #[] #[], .bool true, .int .i64 25, .func (.func 41) #[] #[], .bool true, .int .i64 1004, .func (.func 42) #[] #[], .bool true, .int .i64 1006, .func (.func 43) #[] #[], .bool true, .int .i64 2004, .func (.func 44) #[] #[], .bool true, .int .i64 2026, .func (.func 45) #[] #[]]) 77 (0, 0))) ?_ ?_
          · skip
            refine Sc.draw (by kernel_rfl) (fun _ h => St.lean [0, 1, 2, 3] (by decide) (fun _ h => h) h rfl) ?_
            refine Sd.take 0 rfl rfl rfl (by kernel_rfl) (by kernel_rfl) (by kernel_rfl) Cut.panic (Want.none rfl) (Y.fieldAddr rfl (A.field Try.underlying77 rfl sz3 rfl rfl)) ?_
            refine Sd.take 1 rfl rfl rfl (by kernel_rfl) (by kernel_rfl) (by kernel_rfl) Cut.panic (Want.none rfl) (Y.load1 0 rfl rfl rfl ag3) ?_
            refine Sd.take 2 rfl rfl rfl (by kernel_rfl) (by kernel_rfl) (by kernel_rfl) Cut.panic (Want.none rfl) (Y.move rfl) ?_
            refine Sd.all [3, 6] (by kernel_rfl) (by decide) (all_cons ?_ (all_cons ?_ all_nil))
            · skip
              refine Sp.callV (v := .int .i64 r63) rfl rfl rfl (Want.none rfl) (K.func rfl co32) (fun w hs => by rw [hr63]; exact told_c m.paste w ) ?_
              refine Sd.take 4 rfl rfl rfl (by kernel_rfl) (by kernel_rfl) (by kernel_rfl) Cut.panic (Want.none rfl) (Y.binOp rfl rfl (B.sub _ _ _ (2 - r63) (wr_i64 (by omega)))) ?_
              refine Sd.take 5 rfl rfl rfl (by kernel_rfl) (by kernel_rfl) (by kernel_rfl) Cut.panic (Want.none rfl) (Y.build (v := .agg (List.toArray [.int .i64 36, .int .i64 2004, .int .i64 (2 - r63), .int .i64 0, .int .i64 0, .string ByteArray.empty])) rfl (fun w => by kernel_rfl)) ?_
              refine Sd.all [6] (by kernel_rfl) (by decide) (all_cons ?_ all_nil)
              refine Sp.chg rfl rfl rfl (Want.none rfl) (C.alloc zv53 rfl) (fun _ _ _ h => St.lean [1, 2, 3, 4] (by decide) (fun _ h => h) h rfl) (fun b64 hb64 => ?_)
              refine Sd.all [7] (by kernel_rfl) (by decide) (all_cons ?_ all_nil)
              refine Sp.chgs rfl rfl (Want.none rfl) (C.store (cs' := [.int .i64 36, .int .i64 2004, .int .i64 (2 - r63), .int .i64 0, .int .i64 0, .string ByteArray.empty]) (vs := [.int .i64 36, .int .i64 2004, .int .i64 (2 - r63), .int .i64 0, .int .i64 0, .string ByteArray.empty]) 0 rfl rfl rfl rfl rfl rfl rfl sz53) (fun _ _ _ h => St.lean [1, 2, 3, 4] (by decide) (fun _ h => h) h rfl) (fun _ _ => ?_)
              refine Sd.done (by kernel_rfl) ?_
              exact Sx.cut b64 hb64 ⟨rfl, rfl, rfl, rfl, rfl, rfl, rfl, rfl, trivial⟩ [0, 1, 2, 3, 4] (by decide) rfl (fun _ h => h)
            refine Sp.chg rfl rfl rfl (Want.none rfl) (C.alloc zv53 rfl) (fun _ _ _ h => St.lean [1, 2, 3, 4] (by decide) (fun _ h => h) h rfl) (fun b64 hb64 => ?_)
            refine Sd.all [3] (by kernel_rfl) (by decide) (all_cons ?_ all_nil)
            refine Sp.callV (v := .int .i64 r63) rfl rfl rfl (Want.none rfl) (K.func rfl co32) (fun w hs => by rw [hr63]; exact told_c m.paste w ) ?_
            refine Sd.take 4 rfl rfl rfl (by kernel_rfl) (by kernel_rfl) (by kernel_rfl) Cut.panic (Want.none rfl) (Y.binOp rfl rfl (B.sub _ _ _ (2 - r63) (wr_i64 (by omega)))) ?_
            refine Sd.take 5 rfl rfl rfl (by kernel_rfl) (by kernel_rfl) (by kernel_rfl) Cut.panic (Want.none rfl) (Y.build (v := .agg (List.toArray [.int .i64 36, .int .i64 2004, .int .i64 (2 - r63), .int .i64 0, .int .i64 0, .string ByteArray.empty])) rfl (fun w => by kernel_rfl)) ?_
            refine Sd.all [7] (by kernel_rfl) (by decide) (all_cons ?_ all_nil)
            refine Sp.chgs rfl rfl (Want.none rfl) (C.store (cs' := [.int .i64 36, .int .i64 2004, .int .i64 (2 - r63), .int .i64 0, .int .i64 0, .string ByteArray.empty]) (vs := [.int .i64 36, .int .i64 2004, .int .i64 (2 - r63), .int .i64 0, .int .i64 0, .string ByteArray.empty]) 0 rfl rfl rfl rfl rfl rfl rfl sz53) (fun _ _ _ h => St.lean [1, 2, 3, 4] (by decide) (fun _ h => h) h rfl) (fun _ _ => ?_)
            refine Sd.done (by kernel_rfl) ?_
            exact Sx.cut b64 hb64 ⟨rfl, rfl, rfl, rfl, rfl, rfl, rfl, rfl, trivial⟩ [0, 1, 2, 3, 4] (by decide) rfl (fun _ h => h)
          · rintro b64 hb64
            show Sx _ _ _ [(1, .pointer (some ⟨b1, 0, none⟩)), (2, .slice (ob.map mkA) ((actsTo m 9).length) ((actsTo m 9).length + fr)), (5, .pointer (some ⟨b4, 0, none⟩)), (7, .pointer (some ⟨b61, 0, none⟩)), (9, .pointer (some ⟨b64, 0, none⟩)), (16, .slice (some ⟨b5, 0, none⟩) 11 11), (17, .int .i64 11), (18, .int .i64 9)] [(some b64, .cells (List.toArray [.int .i64 36, .int .i64 2004, .int .i64 (2 - r63), .int .i64 0, .int .i64 0, .string ByteArray.empty]) 53 (0, 0)), (some b61, .cells (List.toArray [.bool true, .int .i64 2004, .func (.func 44) #[] #[]]) 77 (0, 0)), (ob, .cells (List.toArray (List.flatMap encAc (actsTo m 9) ++ sp)) 53 (0, 0)), (some b4, .cells (List.toArray [.bool newS.ins, .bool newS.nl, .bool newS.ck, .bool newS.inv, .bool newS.org, .bool newS.aut, .bool newS.vis, .bool newS.paste, .bool newS.focus, .bool newS.sync, .bool newS.keypad, .int .i64 newS.mouse, .bool newS.sgr]) 23 (0, 0)), (some b1, .cells (List.toArray [.bool m.ins, .bool m.nl, .bool m.ck, .bool m.inv, .bool m.org, .bool m.aut, .bool m.vis, .bool m.paste, .bool m.focus, .bool m.sync, .bool m.keypad, .int .i64 m.mouse, .bool m.sgr]) 23 (0, 0))] _
            refine Sx.next ?_
            refine Sc.seq ?_
            refine Sc.seq ?_
            refine Sc.region ?_
            refine Seg.y rfl rfl (Want.none rfl) (Y.fieldAddr rfl (A.field Try.underlying77 rfl sz4 rfl rfl)) ?_
            refine Seg.y rfl rfl (Want.none rfl) (Y.load1 1 rfl rfl rfl ag4) ?_
            refine Seg.nil ?_
            refine Sx.next ?_
            refine Sc.condT rfl rfl ?_
            refine Sc.region ?_
            refine Seg.y rfl rfl (Want.none rfl) (Y.fieldAddr rfl (A.field Try.underlying53 rfl sz3 rfl rfl)) ?_
            refine Seg.chs rfl (Want.none rfl) (C.store (cs' := [.int .i64 37, .int .i64 2004, .int .i64 (2 - r63), .int .i64 0, .int .i64 0, .string ByteArray.empty]) (vs := [.int .i64 37]) 0 rfl rfl rfl rfl rfl rfl rfl sz3) (fun _ _ => ?_)
            refine Seg.nil ?_
            refine Sx.next ?_
            refine Sc.region ?_
            refine Seg.y rfl rfl (Want.none rfl) (Y.move rfl) ?_
            refine Seg.y rfl rfl (Want.none rfl) (Y.loadN (vs := [.int .i64 37, .int .i64 2004, .int .i64 (2 - r63), .int .i64 0, .int .i64 0, .string ByteArray.empty]) 0 rfl rfl rfl rfl ag53 sz53) ?_
            refine Seg.chg rfl rfl (Want.none rfl) (C.buildSlice (e := 53) (cs := [.int .i64 37, .int .i64 2004, .int .i64 (2 - r63), .int .i64 0, .int .i64 0, .string ByteArray.empty]) rfl (fun w => by kernel_rfl)) (fun b65 hb65 => ?_)
            refine Seg.freeze 0 rfl hb65 ?_
            refine Seg.chg rfl rfl (Want.none rfl) (C.appendL (enc := encAc) (acc := (actsTo m 9)) (bs := [(⟨37, 2004, 2 - r63, (⟨0, 0⟩ : Co), ByteArray.empty⟩ : Ac)]) (spare := sp) (free := fr) (ob := ob) 2 (fun _ => rfl) (fun _ => rfl) rfl rfl rfl hA (fun w hs => (fun h => .inr ⟨_, _, rfl, blk_cells (o := 0) (n := 6) (h.2) rfl⟩) hs.fut.now) Try.underlying44 Try.underlying44 sz53 zv53 rfl inf53 (by first | omega | (simp only [List.length_cons, List.length_nil]; omega) | (simp only [List.length_append, List.length_cons, List.length_nil] at *; omega)) (by first | omega | (simp only [List.length_cons, List.length_nil]; omega) | (simp only [List.length_append, List.length_cons, List.length_nil] at *; omega))) (fun ⟨ob66, fr66, sp66⟩ hA66 => ?_)
            refine Seg.y rfl rfl (Want.none rfl) (Y.assign rfl) ?_
            refine Seg.nil ?_
            refine Sx.block_normal ?_
            refine Sx.next ?_
            refine Sc.region ?_
            refine Seg.y rfl rfl (Want.none rfl) (Y.binOp rfl rfl (B.add _ _ _ 10 (by decide))) ?_
            refine Seg.y rfl rfl (Want.none rfl) (Y.move rfl) ?_
            refine Seg.nil ?_
            have e : actsTo m 10 = actsTo m 9 ++ [(⟨37, 2004, 2 - r63, (⟨0, 0⟩ : Co), ByteArray.empty⟩ : Ac)] := by simp [actsTo, stepAct, hr2, h3, h3p, h6, h6p, h62, hr63]
            have hle : (actsTo m 10).length ≤ 10 := by rw [e]; first | omega | (simp only [List.length_append, List.length_cons, List.length_nil]; omega)
            exact Sx.head (10, ob66, fr66, sp66) ⟨by omega, hle, by rw [e]; exact hA66⟩ (by first | omega | (dsimp only; omega)) ⟨rfl, (someV (by rw [e])), rfl, rfl, rfl, rfl, trivial⟩ [2, 3, 4] (by decide) (by dsimp only; rw [e]; rfl) (fun _ h => h.1)
      · skip
        refine Seg.y rfl rfl (Want.none rfl) (Y.indexAddr rfl rfl (A.index Try.underlying74 sz77 (by decide) (by decide) rfl)) ?_
        refine Seg.y rfl rfl (Want.none rfl) (Y.loadFN (vs := [.bool true, .int .i64 2026, .func (.func 45) #[] #[]]) rfl ag77 sz77 rfl (fun w h => blk_cells (n := 3) (h.2) rfl)) ?_
        refine Seg.chg rfl rfl (Want.none rfl) (C.alloc zv77 rfl) (fun b67 hb67 => ?_)
        refine Seg.chs rfl (Want.none rfl) (C.store (cs' := [.bool true, .int .i64 2026, .func (.func 45) #[] #[]]) (vs := [.bool true, .int .i64 2026, .func (.func 45) #[] #[]]) 0 rfl rfl rfl rfl rfl rfl rfl sz77) (fun _ _ => ?_)
        refine Seg.nil ?_
        refine Sx.next ?_
        refine Sc.seq ?_
        refine Sc.region ?_
        refine Seg.y rfl rfl (Want.none rfl) (Y.fieldAddr rfl (A.field Try.underlying77 rfl sz64 rfl rfl)) ?_
        refine Seg.y rfl rfl (Want.none rfl) (Y.load1 0 rfl rfl rfl ag64) ?_
        refine Seg.callV (v := .pointer (some ⟨b1, 9, none⟩)) rfl rfl (Want.none rfl) (K.value rfl rfl co45) (fun w hs => field11_c b1 w ) ?_
        refine Seg.y rfl rfl (Want.none rfl) (Y.nilCheck rfl) ?_
        refine Seg.y rfl rfl (Want.none rfl) (Y.load1 3 rfl rfl rfl ag4) ?_
        refine Seg.y rfl rfl (Want.none rfl) (Y.assign rfl) ?_
        refine Seg.nil ?_
        refine Sx.next ?_
        refine Sc.seq ?_
        refine Sc.seq ?_
        refine Sc.region ?_
        refine Seg.y rfl rfl (Want.none rfl) (Y.move rfl) ?_
        refine Seg.y rfl rfl (Want.none rfl) (Y.fieldAddr rfl (A.field Try.underlying77 rfl sz64 rfl rfl)) ?_
        refine Seg.y rfl rfl (Want.none rfl) (Y.load1 0 rfl rfl rfl ag64) ?_
        refine Seg.callV (v := .pointer (some ⟨b4, 9, none⟩)) rfl rfl (Want.none rfl) (K.value rfl rfl co45) (fun w hs => field11_c b4 w ) ?_
        refine Seg.y rfl rfl (Want.none rfl) (Y.nilCheck rfl) ?_
        refine Seg.y rfl rfl (Want.none rfl) (Y.load1 2 rfl rfl rfl ag4) ?_
        refine Seg.y rfl rfl (Want.none rfl) (Y.binOp rfl rfl (B.eqB _ _ Try.underlying4)) ?_
        refine Seg.nil ?_
        refine Sx.next ?_
        refine Sc.cond rfl (fun h68 => ?_) (fun h68 => ?_)
        · skip
          refine Sc.exit ?_
          refine Sx.next_exit ?_
          refine Sx.block_exit ?_
          refine Sx.next ?_
          refine Sc.region ?_
          refine Seg.y rfl rfl (Want.none rfl) (Y.binOp rfl rfl (B.add _ _ _ 11 (by decide))) ?_
          refine Seg.y rfl rfl (Want.none rfl) (Y.move rfl) ?_
          refine Seg.nil ?_
          have e : actsTo m 11 = actsTo m 10 := by simp [actsTo, stepAct, hr2, h3, h3p, h6, h6p, h68]
          have hle : (actsTo m 11).length ≤ 11 := by rw [e]; first | omega | (simp only [List.length_append, List.length_cons, List.length_nil]; omega)
          exact Sx.head (11, ob, fr, sp) ⟨by omega, hle, by rw [e]; exact hA⟩ (by first | omega | (dsimp only; omega)) ⟨rfl, (someV (by rw [e])), rfl, rfl, rfl, rfl, trivial⟩ [1, 2, 3] (by decide) (by dsimp only; rw [e]; rfl) (fun _ h => h)
        · skip
          refine Sc.skip ?_
          refine Sx.next ?_
          refine Sc.seq ?_
          obtain ⟨r69, hr69⟩ : ∃ x, x = toldS m.sync := ⟨_, rfl⟩
          have hbr69 : 1 ≤ r69 ∧ r69 ≤ 2 := by rw [hr69]; exact told_bd _
          refine Sc.cut (fun (b70 : Nat) => w.heap.size ≤ b70) (fun (b70 : Nat) => [(1, .pointer (some ⟨b1, 0, none⟩)), (2, .slice (ob.map mkA) ((actsTo m 10).length) ((actsTo m 10).length + fr)), (5, .pointer (some ⟨b4, 0, none⟩)), (7, .pointer (some ⟨b67, 0, none⟩)), (9, .pointer (some ⟨b70, 0, none⟩)), (16, .slice (some ⟨b5, 0, none⟩) 11 11), (17, .int .i64 11), (18, .int .i64 10)]) (fun (b70 : Nat) => [(some b70, .cells (List.toArray [.int .i64 36, .int .i64 2026, .int .i64 (2 - r69), .int .i64 0, .int .i64 0, .string ByteArray.empty]) 53 (0, 0)), (some b67, .cells (List.toArray [.bool true, .int .i64 2026, .func (.func 45) #[] #[]]) 77 (0, 0)), (ob, .cells (List.toArray (List.flatMap encAc (actsTo m 10) ++ sp)) 53 (0, 0)), (some b4, .cells (List.toArray [.bool newS.ins, .bool newS.nl, .bool newS.ck, .bool newS.inv, .bool newS.org, .bool newS.aut, .bool newS.vis, .bool newS.paste, .bool newS.focus, .bool newS.sync, .bool newS.keypad, .int .i64 newS.mouse, .bool newS.sgr]) 23 (0, 0)), (some b1, .cells (List.toArray [.bool m.ins, .bool m.nl, .bool m.ck, .bool m.inv, .bool m.org, .bool m.aut, .bool m.vis, .bool m.paste, .bool m.focus, .bool m.sync, .bool m.keypad, .int .i64 m.mouse, .bool m.sgr]) 23 (0, 0))]) (fun _ => fun w => (True) ∧ w.heap[b5]? = some (.cells (List.toArray [.bool false, .int .i64 4, .func (.func 35) #[] #[], .bool false, .int .i64 20, .func (.func 36) #[] #[], .bool true, .int .i64 1, .func (.func 37) #[] #[], .bool true, .int .i64 5, .func (.func 38) #[] #[], .bool true, .int .i64 6, .func (.func 39) #[] #[], .bool true, .int .i64 7, .func (.func 40) #[] #[], .bool true, .int .i64 25, .func (.func 41) #[] #[], .bool true, .int .i64 1004, .func (.func 42) #[] #[], .bool true, .int .i64 1006, .func (.func 43) #[] #[], .bool true, .int .i64 2004, .func (.func 44) #[] #[], .bool true, .int .i64 2026, .func (.func 45) #[] #[]]) 77 (0, 0))) ?_ ?_
          · skip
            refine Sc.draw (by kernel_rfl) (fun _ h => St.lean [0, 1, 2, 3] (by decide) (fun _ h => h) h rfl) ?_
            refine Sd.take 0 rfl rfl rfl (by kernel_rfl) (by kernel_rfl) (by kernel_rfl) Cut.panic (Want.none rfl) (Y.fieldAddr rfl (A.field Try.underlying77 rfl sz3 rfl rfl)) ?_
            refine Sd.take 1 rfl rfl rfl (by kernel_rfl) (by kernel_rfl) (by kernel_rfl) Cut.panic (Want.none rfl) (Y.load1 0 rfl rfl rfl ag3) ?_
            refine Sd.take 2 rfl rfl rfl (by kernel_rfl) (by kernel_rfl) (by kernel_rfl) Cut.panic (Want.none rfl) (Y.move rfl) ?_
            refine Sd.all [3, 6] (by kernel_rfl) (by decide) (all_cons ?_ (all_cons ?_ all_nil))
            · skip
              refine Sp.callV (v := .int .i64 r69) rfl rfl rfl (Want.none rfl) (K.func rfl co32) (fun w hs => by rw [hr69]; exact told_c m.sync w ) ?_
              refine Sd.take 4 rfl rfl rfl (by kernel_rfl) (by kernel_rfl) (by kernel_rfl) Cut.panic (Want.none rfl) (Y.binOp rfl rfl (B.sub _ _ _ (2 - r69) (wr_i64 (by omega)))) ?_
              refine Sd.take 5 rfl rfl rfl (by kernel_rfl) (by kernel_rfl) (by kernel_rfl) Cut.panic (Want.none rfl) (Y.build (v := .agg (List.toArray [.int .i64 36, .int .i64 2026, .int .i64 (2 - r69), .int .i64 0, .int .i64 0, .string ByteArray.empty])) rfl (fun w => by kernel_rfl)) ?_
              refine Sd.all [6] (by kernel_rfl) (by decide) (all_cons ?_ all_nil)
              refine Sp.chg rfl rfl rfl (Want.none rfl) (C.alloc zv53 rfl) (fun _ _ _ h => St.lean [1, 2, 3, 4] (by decide) (fun _ h => h) h rfl) (fun b70 hb70 => ?_)
              refine Sd.all [7] (by kernel_rfl) (by decide) (all_cons ?_ all_nil)
              refine Sp.chgs rfl rfl (Want.none rfl) (C.store (cs' := [.int .i64 36, .int .i64 2026, .int .i64 (2 - r69), .int .i64 0, .int .i64 0, .string ByteArray.empty]) (vs := [.int .i64 36, .int .i64 2026, .int .i64 (2 - r69), .int .i64 0, .int .i64 0, .string ByteArray.empty]) 0 rfl rfl rfl rfl rfl rfl rfl sz53) (fun _ _ _ h => St.lean [1, 2, 3, 4] (by decide) (fun _ h => h) h rfl) (fun _ _ => ?_)
              refine Sd.done (by kernel_rfl) ?_
              exact Sx.cut b70 hb70 ⟨rfl, rfl, rfl, rfl, rfl, rfl, rfl, rfl, trivial⟩ [0, 1, 2, 3, 4] (by decide) rfl (fun _ h => h)
            refine Sp.chg rfl rfl rfl (Want.none rfl) (C.alloc zv53 rfl) (fun _ _ _ h => St.lean [1, 2, 3, 4] (by decide) (fun _ h => h) h rfl) (fun b70 hb70 => ?_)
            refine Sd.all [3] (by kernel_rfl) (by decide) (all_cons ?_ all_nil)
            refine Sp.callV (v := .int .i64 r69) rfl rfl rfl (Want.none rfl) (K.func rfl co32) (fun w hs => by rw [hr69]; exact told_c m.sync w ) ?_
            refine Sd.take 4 rfl rfl rfl (by kernel_rfl) (by kernel_rfl) (by kernel_rfl) Cut.panic (Want.none rfl) (Y.binOp rfl rfl (B.sub _ _ _ (2 - r69) (wr_i64 (by omega)))) ?_
            refine Sd.take 5 rfl rfl rfl (by kernel_rfl) (by kernel_rfl) (by kernel_rfl) Cut.panic (Want.none rfl) (Y.build (v := .agg (List.toArray [.int .i64 36, .int .i64 2026, .int .i64 (2 - r69), .int .i64 0, .int .i64 0, .string ByteArray.empty])) rfl (fun w => by kernel_rfl)) ?_
            refine Sd.all [7] (by kernel_rfl) (by decide) (all_cons ?_ all_nil)
            refine Sp.chgs rfl rfl (Want.none rfl) (C.store (cs' := [.int .i64 36, .int .i64 2026, .int .i64 (2 - r69), .int .i64 0, .int .i64 0, .string ByteArray.empty]) (vs := [.int .i64 36, .int .i64 2026, .int .i64 (2 - r69), .int .i64 0, .int .i64 0, .string ByteArray.empty]) 0 rfl rfl rfl rfl rfl rfl rfl sz53) (fun _ _ _ h => St.lean [1, 2, 3, 4] (by decide) (fun _ h => h) h rfl) (fun _ _ => ?_)
            refine Sd.done (by kernel_rfl) ?_
            exact Sx.cut b70 hb70 ⟨rfl, rfl, rfl, rfl, rfl, rfl, rfl, rfl, trivial⟩ [0, 1, 2, 3, 4] (by decide) rfl (fun _ h => h)
          · rintro b70 hb70
            show Sx _ _ _ [(1, .pointer (some ⟨b1, 0, none⟩)), (2, .slice (ob.map mkA) ((actsTo m 10).length) ((actsTo m 10).length + fr)), (5, .pointer (some ⟨b4, 0, none⟩)), (7, .pointer (some ⟨b67, 0, none⟩)), (9, .pointer (some ⟨b70, 0, none⟩)), (16, .slice (some ⟨b5, 0, none⟩) 11 11), (17, .int .i64 11), (18, .int .i64 10)] [(some b70, .cells (List.toArray [.int .i64 36, .int .i64 2026, .int .i64 (2 - r69), .int .i64 0, .int .i64 0, .string ByteArray.empty]) 53 (0, 0)), (some b67, .cells (List.toArray [.bool true, .int .i64 2026, .func (.func 45) #[] #[]]) 77 (0, 0)), (ob, .cells (List.toArray (List.flatMap encAc (actsTo m 10) ++ sp)) 53 (0, 0)), (some b4, .cells (List.toArray [.bool newS.ins, .bool newS.nl, .bool newS.ck, .bool newS.inv, .bool newS.org, .bool newS.aut, .bool newS.vis, .bool newS.paste, .bool newS.focus, .bool newS.sync, .bool newS.keypad, .int .i64 newS.mouse, .bool newS.sgr]) 23 (0, 0)), (some b1, .cells (List.toArray [.bool m.ins, .bool m.nl, .bool m.ck, .bool m.inv, .bool m.org, .bool m.aut, .bool m.vis, .bool m.paste, .bool m.focus, .bool m.sync, .bool m.keypad, .int .i64 m.mouse, .bool m.sgr]) 23 (0, 0))] _
            refine Sx.next ?_
            refine Sc.seq ?_
            refine Sc.seq ?_
            refine Sc.region ?_
            refine Seg.y rfl rfl (Want.none rfl) (Y.fieldAddr rfl (A.field Try.underlying77 rfl sz4 rfl rfl)) ?_
            refine Seg.y rfl rfl (Want.none rfl) (Y.load1 1 rfl rfl rfl ag4) ?_
            refine Seg.nil ?_
            refine Sx.next ?_
            refine Sc.condT rfl rfl ?_
            refine Sc.region ?_
            refine Seg.y rfl rfl (Want.none rfl) (Y.fieldAddr rfl (A.field Try.underlying53 rfl sz3 rfl rfl)) ?_
            refine Seg.chs rfl (Want.none rfl) (C.store (cs' := [.int .i64 37, .int .i64 2026, .int .i64 (2 - r69), .int .i64 0, .int .i64 0, .string ByteArray.empty]) (vs := [.int .i64 37]) 0 rfl rfl rfl rfl rfl rfl rfl sz3) (fun _ _ => ?_)
            refine Seg.nil ?_
            refine Sx.next ?_
            refine Sc.region ?_
            refine Seg.y rfl rfl (Want.none rfl) (Y.move rfl) ?_
            refine Seg.y rfl rfl (Want.none rfl) (Y.loadN (vs := [.int .i64 37, .int .i64 2026, .int .i64 (2 - r69), .int .i64 0, .int .i64 0, .string ByteArray.empty]) 0 rfl rfl rfl rfl ag53 sz53) ?_
            refine Seg.chg rfl rfl (Want.none rfl) (C.buildSlice (e := 53) (cs := [.int .i64 37, .int .i64 2026, .int .i64 (2 - r69), .int .i64 0, .int .i64 0, .string ByteArray.empty]) rfl (fun w => by kernel_rfl)) (fun b71 hb71 => ?_)
            refine Seg.freeze 0 rfl hb71 ?_
            refine Seg.chg rfl rfl (Want.none rfl) (C.appendL (enc := encAc) (acc := (actsTo m 10)) (bs := [(⟨37, 2026, 2 - r69, (⟨0, 0⟩ : Co), ByteArray.empty⟩ : Ac)]) (spare := sp) (free := fr) (ob := ob) 2 (fun _ => rfl) (fun _ => rfl) rfl rfl rfl hA (fun w hs => (fun h => .inr ⟨_, _, rfl, blk_cells (o := 0) (n := 6) (h.2) rfl⟩) hs.fut.now) Try.underlying44 Try.underlying44 sz53 zv53 rfl inf53 (by first | omega | (simp only [List.length_cons, List.length_nil]; omega) | (simp only [List.length_append, List.length_cons, List.length_nil] at *; omega)) (by first | omega | (simp only [List.length_cons, List.length_nil]; omega) | (simp only [List.length_append, List.length_cons, List.length_nil] at *; omega))) (fun ⟨ob72, fr72, sp72⟩ hA72 => ?_)
            refine Seg.y rfl rfl (Want.none rfl) (Y.assign rfl) ?_
            refine Seg.nil ?_
            refine Sx.block_normal ?_
            refine Sx.next ?_
            refine Sc.region ?_
            refine Seg.y rfl rfl (Want.none rfl) (Y.binOp rfl rfl (B.add _ _ _ 11 (by decide))) ?_
            refine Seg.y rfl rfl (Want.none rfl) (Y.move rfl) ?_
            refine Seg.nil ?_
            have e : actsTo m 11 = actsTo m 10 ++ [(⟨37, 2026, 2 - r69, (⟨0, 0⟩ : Co), ByteArray.empty⟩ : Ac)] := by simp [actsTo, stepAct, hr2, h3, h3p, h6, h6p, h68, hr69]
            have hle : (actsTo m 11).length ≤ 11 := by rw [e]; first | omega | (simp only [List.length_append, List.length_cons, List.length_nil]; omega)
            exact Sx.head (11, ob72, fr72, sp72) ⟨by omega, hle, by rw [e]; exact hA72⟩ (by first | omega | (dsimp only; omega)) ⟨rfl, (someV (by rw [e])), rfl, rfl, rfl, rfl, trivial⟩ [2, 3, 4] (by decide) (by dsimp only; rw [e]; rfl) (fun _ h => h.1)
    · skip
      have h6p := of_decide_eq_false h6
      refine Sc.exit ?_
      refine Sx.next_exit ?_
      refine Sx.loop_exit ?_
      refine Sx.block_exit ?_
      refine Sx.next ?_
      refine Sc.seq ?_
      refine Sc.seq ?_
      refine Sc.region ?_
      refine Seg.y rfl rfl (Want.none rfl) (Y.fieldAddr rfl (A.field Try.underlying23 rfl sz3 rfl rfl)) ?_
      refine Seg.y rfl rfl (Want.none rfl) (Y.load1 2 rfl rfl rfl ag3) ?_
      refine Seg.y rfl rfl (Want.none rfl) (Y.binOp rfl rfl (B.ne _ _ _)) ?_
      refine Seg.nil ?_
      refine Sx.next ?_
      refine Sc.cond rfl (fun h73 => ?_) (fun h73 => ?_)
      · skip
        have h73p := of_decide_eq_true h73
        refine Sc.region ?_
        refine Seg.y rfl rfl (Want.none rfl) (Y.move rfl) ?_
        refine Seg.y rfl rfl (Want.none rfl) (Y.fieldAddr rfl (A.field Try.underlying23 rfl sz3 rfl rfl)) ?_
        refine Seg.y rfl rfl (Want.none rfl) (Y.load1 2 rfl rfl rfl ag3) ?_
        refine Seg.y rfl rfl (Want.none rfl) (Y.build (v := .agg (List.toArray [.int .i64 37, .int .i64 m.mouse, .int .i64 1, .int .i64 0, .int .i64 0, .string ByteArray.empty])) rfl (fun w => by kernel_rfl)) ?_
        refine Seg.chg rfl rfl (Want.none rfl) (C.buildSlice (e := 53) (cs := [.int .i64 37, .int .i64 m.mouse, .int .i64 1, .int .i64 0, .int .i64 0, .string ByteArray.empty]) rfl (fun w => by kernel_rfl)) (fun b74 hb74 => ?_)
        refine Seg.freeze 0 rfl hb74 ?_
        refine Seg.chg rfl rfl (Want.none rfl) (C.appendL (enc := encAc) (acc := (actsTo m k)) (bs := [(⟨37, m.mouse, 1, (⟨0, 0⟩ : Co), ByteArray.empty⟩ : Ac)]) (spare := sp) (free := fr) (ob := ob) 0 (fun _ => rfl) (fun _ => rfl) rfl rfl rfl hA (fun w hs => (fun h => .inr ⟨_, _, rfl, blk_cells (o := 0) (n := 6) (h.2) rfl⟩) hs.fut.now) Try.underlying44 Try.underlying44 sz53 zv53 rfl inf53 (by first | omega | (simp only [List.length_cons, List.length_nil]; omega) | (simp only [List.length_append, List.length_cons, List.length_nil] at *; omega)) (by first | omega | (simp only [List.length_cons, List.length_nil]; omega) | (simp only [List.length_append, List.length_cons, List.length_nil] at *; omega))) (fun ⟨ob75, fr75, sp75⟩ hA75 => ?_)
        refine Seg.y rfl rfl (Want.none rfl) (Y.assign rfl) ?_
        refine Seg.nil ?_
        refine Sx.next ?_
        refine Sc.seq ?_
        refine Sc.seq ?_
        refine Sc.region ?_
        refine Seg.y rfl rfl (Want.none rfl) (Y.fieldAddr rfl (A.field Try.underlying23 rfl sz4 rfl rfl)) ?_
        refine Seg.y rfl rfl (Want.none rfl) (Y.load1 2 rfl rfl rfl ag4) ?_
        refine Seg.nil ?_
        refine Sx.next ?_
        refine Sc.cond rfl (fun h76 => ?_) (fun h76 => ?_)
        · skip
          refine Sc.region ?_
          refine Seg.y rfl rfl (Want.none rfl) (Y.move rfl) ?_
          refine Seg.y rfl rfl (Want.none rfl) (Y.build (v := .agg (List.toArray [.int .i64 14, .int .i64 1, .int .i64 0, .int .i64 0, .int .i64 0, .string ByteArray.empty])) rfl (fun w => by kernel_rfl)) ?_
          refine Seg.chg rfl rfl (Want.none rfl) (C.buildSlice (e := 53) (cs := [.int .i64 14, .int .i64 1, .int .i64 0, .int .i64 0, .int .i64 0, .string ByteArray.empty]) rfl (fun w => by kernel_rfl)) (fun b77 hb77 => ?_)
          refine Seg.freeze 0 rfl hb77 ?_
          refine Seg.chg rfl rfl (Want.none rfl) (C.appendL (enc := encAc) (acc := (actsTo m k ++ [(⟨37, m.mouse, 1, (⟨0, 0⟩ : Co), ByteArray.empty⟩ : Ac)])) (bs := [(⟨14, 1, 0, (⟨0, 0⟩ : Co), ByteArray.empty⟩ : Ac)]) (spare := sp75) (free := fr75) (ob := ob75) 0 (fun _ => rfl) (fun _ => rfl) rfl rfl rfl hA75 (fun w hs => (fun h => .inr ⟨_, _, rfl, blk_cells (o := 0) (n := 6) (h.2) rfl⟩) hs.fut.now) Try.underlying44 Try.underlying44 sz53 zv53 rfl inf53 (by first | omega | (simp only [List.length_cons, List.length_nil]; omega) | (simp only [List.length_append, List.length_cons, List.length_nil] at *; omega)) (by first | omega | (simp only [List.length_cons, List.length_nil]; omega) | (simp only [List.length_append, List.length_cons, List.length_nil] at *; omega))) (fun ⟨ob78, fr78, sp78⟩ hA78 => ?_)
          refine Seg.y rfl rfl (Want.none rfl) (Y.assign rfl) ?_
          refine Seg.nil ?_
          refine Sx.next ?_
          refine Sc.seq ?_
          refine Sc.region ?_
          refine Seg.y rfl rfl (Want.none rfl) (Y.move rfl) ?_
          refine Seg.y rfl rfl (Want.none rfl) (Y.assign rfl) ?_
          refine Seg.y rfl rfl (Want.none rfl) (Y.assign rfl) ?_
          refine Seg.nil ?_
          refine Sx.next ?_
          refine Sc.ret ?_
          refine Sx.body (.inl rfl) (res2 rfl (Rv.tmp rfl) (Rv.tmp rfl)) (fun w hs => ?_)
          subst hr2
          have hk11 : k = 11 := by omega
          have e : actionsS m = (actsTo m k ++ [(⟨37, m.mouse, 1, (⟨0, 0⟩ : Co), ByteArray.empty⟩ : Ac)] ++ [(⟨14, 1, 0, (⟨0, 0⟩ : Co), ByteArray.empty⟩ : Ac)], 0) := by rw [hk11]; simp [actionsS, h3, h3p, h6, h6p, h73, h73p, h76]
          exact Ret.eq (ob78.map mkA, (actsTo m k ++ [(⟨37, m.mouse, 1, (⟨0, 0⟩ : Co), ByteArray.empty⟩ : Ac)] ++ [(⟨14, 1, 0, (⟨0, 0⟩ : Co), ByteArray.empty⟩ : Ac)]).length + fr78) (by rw [e]) hs (fun w _ hn => by rw [e]; exact row_out hn 0 rfl hA78 (fun _ => rfl))
        · skip
          refine Sc.skip ?_
          refine Sx.next ?_
          refine Sc.seq ?_
          refine Sc.region ?_
          refine Seg.y rfl rfl (Want.none rfl) (Y.move rfl) ?_
          refine Seg.y rfl rfl (Want.none rfl) (Y.assign rfl) ?_
          refine Seg.y rfl rfl (Want.none rfl) (Y.assign rfl) ?_
          refine Seg.nil ?_
          refine Sx.next ?_
          refine Sc.ret ?_
          refine Sx.body (.inl rfl) (res2 rfl (Rv.tmp rfl) (Rv.tmp rfl)) (fun w hs => ?_)
          subst hr2
          have hk11 : k = 11 := by omega
          have e : actionsS m = (actsTo m k ++ [(⟨37, m.mouse, 1, (⟨0, 0⟩ : Co), ByteArray.empty⟩ : Ac)], 0) := by rw [hk11]; simp [actionsS, h3, h3p, h6, h6p, h73, h73p, h76]
          exact Ret.eq (ob75.map mkA, (actsTo m k ++ [(⟨37, m.mouse, 1, (⟨0, 0⟩ : Co), ByteArray.empty⟩ : Ac)]).length + fr75) (by rw [e]) hs (fun w _ hn => by rw [e]; exact row_out hn 0 rfl hA75 (fun _ => rfl))
      · skip
        have h73p : m.mouse = 0 := by simpa using h73
        refine Sc.skip ?_
        refine Sx.next ?_
        refine Sc.seq ?_
        refine Sc.seq ?_
        refine Sc.region ?_
        refine Seg.y rfl rfl (Want.none rfl) (Y.fieldAddr rfl (A.field Try.underlying23 rfl sz4 rfl rfl)) ?_
        refine Seg.y rfl rfl (Want.none rfl) (Y.load1 2 rfl rfl rfl ag4) ?_
        refine Seg.nil ?_
        refine Sx.next ?_
        refine Sc.cond rfl (fun h79 => ?_) (fun h79 => ?_)
        · skip
          refine Sc.region ?_
          refine Seg.y rfl rfl (Want.none rfl) (Y.move rfl) ?_
          refine Seg.y rfl rfl (Want.none rfl) (Y.build (v := .agg (List.toArray [.int .i64 14, .int .i64 1, .int .i64 0, .int .i64 0, .int .i64 0, .string ByteArray.empty])) rfl (fun w => by kernel_rfl)) ?_
          refine Seg.chg rfl rfl (Want.none rfl) (C.buildSlice (e := 53) (cs := [.int .i64 14, .int .i64 1, .int .i64 0, .int .i64 0, .int .i64 0, .string ByteArray.empty]) rfl (fun w => by kernel_rfl)) (fun b80 hb80 => ?_)
          refine Seg.freeze 0 rfl hb80 ?_
          refine Seg.chg rfl rfl (Want.none rfl) (C.appendL (enc := encAc) (acc := (actsTo m k)) (bs := [(⟨14, 1, 0, (⟨0, 0⟩ : Co), ByteArray.empty⟩ : Ac)]) (spare := sp) (free := fr) (ob := ob) 0 (fun _ => rfl) (fun _ => rfl) rfl rfl rfl hA (fun w hs => (fun h => .inr ⟨_, _, rfl, blk_cells (o := 0) (n := 6) (h.2) rfl⟩) hs.fut.now) Try.underlying44 Try.underlying44 sz53 zv53 rfl inf53 (by first | omega | (simp only [List.length_cons, List.length_nil]; omega) | (simp only [List.length_append, List.length_cons, List.length_nil] at *; omega)) (by first | omega | (simp only [List.length_cons, List.length_nil]; omega) | (simp only [List.length_append, List.length_cons, List.length_nil] at *; omega))) (fun ⟨ob81, fr81, sp81⟩ hA81 => ?_)
          refine Seg.y rfl rfl (Want.none rfl) (Y.assign rfl) ?_
          refine Seg.nil ?_
          refine Sx.next ?_
          refine Sc.seq ?_
          refine Sc.region ?_
          refine Seg.y rfl rfl (Want.none rfl) (Y.move rfl) ?_
          refine Seg.y rfl rfl (Want.none rfl) (Y.assign rfl) ?_
          refine Seg.y rfl rfl (Want.none rfl) (Y.assign rfl) ?_
          refine Seg.nil ?_
          refine Sx.next ?_
          refine Sc.ret ?_
          refine Sx.body (.inl rfl) (res2 rfl (Rv.tmp rfl) (Rv.tmp rfl)) (fun w hs => ?_)
          subst hr2
          have hk11 : k = 11 := by omega
          have e : actionsS m = (actsTo m k ++ [(⟨14, 1, 0, (⟨0, 0⟩ : Co), ByteArray.empty⟩ : Ac)], 0) := by rw [hk11]; simp [actionsS, h3, h3p, h6, h6p, h73, h73p, h79]
          exact Ret.eq (ob81.map mkA, (actsTo m k ++ [(⟨14, 1, 0, (⟨0, 0⟩ : Co), ByteArray.empty⟩ : Ac)]).length + fr81) (by rw [e]) hs (fun w _ hn => by rw [e]; exact row_out hn 0 rfl hA81 (fun _ => rfl))
        · skip
          refine Sc.skip ?_
          refine Sx.next ?_
          refine Sc.seq ?_
          refine Sc.region ?_
          refine Seg.y rfl rfl (Want.none rfl) (Y.move rfl) ?_
          refine Seg.y rfl rfl (Want.none rfl) (Y.assign rfl) ?_
          refine Seg.y rfl rfl (Want.none rfl) (Y.assign rfl) ?_
          refine Seg.nil ?_
          refine Sx.next ?_
          refine Sc.ret ?_
          refine Sx.body (.inl rfl) (res2 rfl (Rv.tmp rfl) (Rv.tmp rfl)) (fun w hs => ?_)
          subst hr2
          have hk11 : k = 11 := by omega
          have e : actionsS m = (actsTo m k, 0) := by rw [hk11]; simp [actionsS, h3, h3p, h6, h6p, h73, h73p, h79]
          exact Ret.eq (ob.map mkA, (actsTo m k).length + fr) (by rw [e]) hs (fun w _ hn => by rw [e]; exact row_out hn 0 rfl hA (fun _ => rfl))
end Go.Proofs.Ythmigjicibhheaa
