/- What the functions of the program and of the reference come to: one theorem a function (part 15). -/
import Derived.Test.YthmigjicibhheaaW14
namespace Go.Proofs.Ythmigjicibhheaa
open Go Go.RowKit Go.Eng
set_option maxRecDepth 100000
set_option linter.unusedVariables false
set_option linter.unusedSimpArgs false
theorem num_pos (dec : Bool) : 0 < (numbersS dec).length := by cases dec <;> decide
theorem num_le (dec : Bool) : (numbersS dec).length ≤ 13 := by cases dec <;> decide
theorem idx_of (which : Int) (dec : Bool) (h : 0 ≤ which) : ∃ q : Nat, Int.tmod which ((numbersS dec).length : Int) = (q : Int) ∧ q < (numbersS dec).length := by
  obtain ⟨n, rfl⟩ := Int.eq_ofNat_of_zero_le h
  exact ⟨n % (numbersS dec).length, rfl, Nat.mod_lt _ (num_pos dec)⟩
def KnownN (dec : Bool) (n : Int) : Prop := (dec = false ∧ (n = 4 ∨ n = 20)) ∨ (dec = true ∧ (n = 1 ∨ n = 5 ∨ n = 6 ∨ n = 7 ∨ n = 25 ∨ n = 1004 ∨ n = 1006 ∨ n = 2004 ∨ n = 2026 ∨ n = 9 ∨ n = 1000 ∨ n = 1002 ∨ n = 1003))
theorem known_get (dec : Bool) (q : Nat) (h : q < (numbersS dec).length) : KnownN dec ((numbersS dec).getD q 0) := by
  cases dec
  · have h : q < 2 := h
    match q, h with
    | 0, _ => simp [KnownN, numbersS]
    | 1, _ => simp [KnownN, numbersS]
  · have h : q < 13 := h
    match q, h with
    | 0, _ | 1, _ | 2, _ | 3, _ | 4, _ | 5, _ | 6, _ | 7, _ | 8, _ | 9, _ | 10, _ | 11, _ | 12, _ => simp [KnownN, numbersS]
def getF (m : Md) (dec : Bool) (n : Int) : Bool :=
  if dec then (if n = 1 then m.ck else if n = 5 then m.inv else if n = 6 then m.org else if n = 7 then m.aut else if n = 25 then m.vis else if n = 1004 then m.focus else if n = 1006 then m.sgr else if n = 2004 then m.paste else if n = 2026 then m.sync else decide (m.mouse = n)) else (if n = 4 then m.ins else m.nl)
theorem put_known (m : Md) (dec : Bool) (n : Int) (on : Bool) (hk : KnownN dec n) : (rputS m dec n on).2 = true := by
  rcases hk with ⟨rfl, rfl | rfl⟩ | ⟨rfl, rfl | rfl | rfl | rfl | rfl | rfl | rfl | rfl | rfl | rfl | rfl | rfl | rfl⟩ <;> simp [rputS, mouseS] <;> (repeat' split) <;> rfl
theorem lputE (m : Md) (h : checkS m = 0) (dec : Bool) (n : Int) (on : Bool) (hk : KnownN dec n) : lput m dec n on = (rputS m dec n on).1 := by
  have k2 := put_known m dec n on hk
  simp [lput, putS, h, k2]
theorem lputC (m : Md) (h : checkS m = 0) (dec : Bool) (n : Int) (on : Bool) (hk : KnownN dec n) : checkS (rputS m dec n on).1 = 0 := by
  rcases hk with ⟨rfl, rfl | rfl⟩ | ⟨rfl, rfl | rfl | rfl | rfl | rfl | rfl | rfl | rfl | rfl | rfl | rfl | rfl | rfl⟩ <;> first | exact h | (cases on <;> simp [rputS, mouseS] <;> (repeat' split) <;> first | exact h | rfl)
theorem lstF (m : Md) (h : checkS m = 0) (dec : Bool) (n : Int) (hk : KnownN dec n) : lstate m dec n false = toldS (getF m dec n) := by
  have e : lstate m dec n false = rstateS m dec n false := by simp [lstate, stateS, h]
  rw [e]
  rcases hk with ⟨rfl, rfl | rfl⟩ | ⟨rfl, rfl | rfl | rfl | rfl | rfl | rfl | rfl | rfl | rfl | rfl | rfl | rfl | rfl⟩ <;> simp [getF, rst_ins, rst_nl, rst_ck, rst_inv, rst_org, rst_aut, rst_vis, rst_focus, rst_sgr, rst_paste, rst_sync, rst_mouse]
theorem getput (m : Md) (dec : Bool) (n : Int) (on : Bool) (hk : KnownN dec n) : getF (rputS m dec n on).1 dec n = on := by
  rcases hk with ⟨rfl, rfl | rfl⟩ | ⟨rfl, rfl | rfl | rfl | rfl | rfl | rfl | rfl | rfl | rfl | rfl | rfl | rfl | rfl⟩ <;> cases on <;> simp [getF, rputS, mouseS] <;> (repeat' split) <;> simp_all
theorem getput_ne (m : Md) (dec : Bool) (n : Int) (on : Bool) (hk : KnownN dec n) (kind : Bool) (k : Int) (hk2 : KnownN kind k) (hne : ¬(kind = dec ∧ k = n)) :
    getF (rputS m dec n on).1 kind k = if (dec = true ∧ (n = 9 ∨ 1000 ≤ n ∧ n ≤ 1003)) ∧ (kind = true ∧ (k = 9 ∨ 1000 ≤ k ∧ k ≤ 1003)) ∧ on = true then false else getF m kind k := by
  rcases hk with ⟨rfl, rfl | rfl⟩ | ⟨rfl, rfl | rfl | rfl | rfl | rfl | rfl | rfl | rfl | rfl | rfl | rfl | rfl | rfl⟩ <;> rcases hk2 with ⟨rfl, rfl | rfl⟩ | ⟨rfl, rfl | rfl | rfl | rfl | rfl | rfl | rfl | rfl | rfl | rfl | rfl | rfl | rfl⟩ <;> first | rfl | (exact absurd ⟨rfl, rfl⟩ hne) | (cases on <;> simp [getF, rputS, mouseS] <;> (repeat' split) <;> simp_all)
theorem al1 (m : Md) (h : checkS m = 0) (dec : Bool) (n : Int) (on : Bool) (hk : KnownN dec n) : lstate (lput m dec n on) dec n false = toldS on := by
  rw [lputE m h dec n on hk, lstF _ (lputC m h dec n on hk) dec n hk, getput m dec n on hk]
theorem al2 (m : Md) (h : checkS m = 0) (dec : Bool) (n : Int) (on : Bool) (hk : KnownN dec n) : MdEq (lput (lput m dec n on) dec n on) (lput m dec n on) = true := by
  rw [lputE m h dec n on hk, lputE _ (lputC m h dec n on hk) dec n on hk]
  rcases hk with ⟨rfl, rfl | rfl⟩ | ⟨rfl, rfl | rfl | rfl | rfl | rfl | rfl | rfl | rfl | rfl | rfl | rfl | rfl | rfl⟩ <;> cases on <;> simp [rputS, mouseS, MdEq] <;> (repeat' split) <;> simp_all
theorem al3 (m : Md) (h : checkS m = 0) (dec : Bool) (n : Int) (on : Bool) (hk : KnownN dec n) (kind : Bool) (k : Int) (hk2 : KnownN kind k) (hne : ¬(kind = dec ∧ k = n)) :
    lstate (lput m dec n on) kind k false = if (dec = true ∧ (n = 9 ∨ 1000 ≤ n ∧ n ≤ 1003)) ∧ (kind = true ∧ (k = 9 ∨ 1000 ≤ k ∧ k ≤ 1003)) ∧ on = true then 2 else lstate m kind k false := by
  rw [lputE m h dec n on hk, lstF _ (lputC m h dec n on hk) kind k hk2, lstF m h kind k hk2, getput_ne m dec n on hk kind k hk2 hne]
  split <;> rfl
theorem al4 (m : Md) (h : checkS m = 0) (dec : Bool) (n : Int) (on : Bool) (hk : KnownN dec n) : (lput m dec n on).keypad = m.keypad := by
  rw [lputE m h dec n on hk]
  rcases hk with ⟨rfl, rfl | rfl⟩ | ⟨rfl, rfl | rfl | rfl | rfl | rfl | rfl | rfl | rfl | rfl | rfl | rfl | rfl | rfl⟩ <;> first | rfl | (cases on <;> simp [rputS, mouseS] <;> (repeat' split) <;> rfl)
theorem al5 (m : Md) (h : checkS m = 0) (dec : Bool) (n : Int) (on : Bool) (hk : KnownN dec n) (hm : ¬((dec = true ∧ (n = 9 ∨ 1000 ≤ n ∧ n ≤ 1003)) ∧ on = true ∧ m.mouse ≠ 0)) : MdEq (lput (lput m dec n on) dec n (decide (lstate m dec n false = 1))) m = true := by
  have e : decide (lstate m dec n false = 1) = getF m dec n := by rw [lstF m h dec n hk]; cases getF m dec n <;> rfl
  rw [e, lputE m h dec n on hk, lputE _ (lputC m h dec n on hk) dec n _ hk]
  rcases hk with ⟨rfl, rfl | rfl⟩ | ⟨rfl, rfl | rfl | rfl | rfl | rfl | rfl | rfl | rfl | rfl | rfl | rfl | rfl | rfl⟩ <;> cases on <;> simp [rputS, mouseS, MdEq, getF] <;> (repeat' split) <;> simp_all

set_option maxHeartbeats 4000000 in
theorem modeAlone_c (b : Int) (which : Int) (dec : Bool) (on : Bool) (w : World) (hb0 : 0 ≤ b ∧ b ≤ 65535) (hw : 0 ≤ which ∧ which ≤ 255) :
    Calls Try.prog 7 #[.int .u16 b, .int .u8 which, .bool dec, .bool on] w (RetV w (.bool true)) := by
  refine enter (F := fun w => True) [] Try.func7 rfl Try.ntmps7 (by simp) Fut.triv rfl ?_
  refine Sc.seq ?_
  refine Sc.region ?_
  refine Seg.y rfl rfl (Want.none rfl) (Y.assign rfl) ?_
  refine Seg.nil ?_
  refine Sx.next ?_
  refine Sc.seq ?_
  refine Sc.seq ?_
  refine Sc.region ?_
  refine Seg.callV (v := .bool true) rfl rfl (Want.none rfl) (K.func rfl co16) (fun w hs => works_c  w ) ?_
  refine Seg.y rfl rfl (Want.none rfl) (Y.unOp rfl (U.not _)) ?_
  refine Seg.nil ?_
  refine Sx.next ?_
  refine Sc.condF rfl rfl ?_
  refine Sc.skip ?_
  refine Sx.next ?_
  refine Sc.seq ?_
  refine Sc.region ?_
  refine Seg.y rfl rfl (Want.none rfl) (Y.move rfl) ?_
  obtain ⟨r1, hr1⟩ : ∃ x, x = ofS b := ⟨_, rfl⟩
  refine Seg.callV (v := .agg (List.toArray [.bool r1.ins, .bool r1.nl, .bool r1.ck, .bool r1.inv, .bool r1.org, .bool r1.aut, .bool r1.vis, .bool r1.paste, .bool r1.focus, .bool r1.sync, .bool r1.keypad, .int .i64 r1.mouse, .bool r1.sgr])) rfl rfl (Want.none rfl) (K.func rfl co10) (fun w hs => by rw [hr1]; exact of_c b w (by first | assumption | omega)) ?_
  refine Seg.chg rfl rfl (Want.none rfl) (C.alloc zv23 rfl) (fun b2 hb2 => ?_)
  refine Seg.chs rfl (Want.none rfl) (C.store (cs' := [.bool r1.ins, .bool r1.nl, .bool r1.ck, .bool r1.inv, .bool r1.org, .bool r1.aut, .bool r1.vis, .bool r1.paste, .bool r1.focus, .bool r1.sync, .bool r1.keypad, .int .i64 r1.mouse, .bool r1.sgr]) (vs := [.bool r1.ins, .bool r1.nl, .bool r1.ck, .bool r1.inv, .bool r1.org, .bool r1.aut, .bool r1.vis, .bool r1.paste, .bool r1.focus, .bool r1.sync, .bool r1.keypad, .int .i64 r1.mouse, .bool r1.sgr]) 0 rfl rfl rfl rfl rfl rfl rfl sz23) (fun _ _ => ?_)
  refine Seg.nil ?_
  refine Sx.next ?_
  refine Sc.seq ?_
  refine Sc.region ?_
  refine Seg.y rfl rfl (Want.none rfl) (Y.move rfl) ?_
  refine Seg.callR (val := fun ((a3, c4) : Option Addr × Nat) => .slice a3 ((numbersS dec).length) c4) (Φ := fun ((a3, c4) : Option Addr × Nat) => fun w => RowV 1 encI a3 (numbersS dec) w) rfl rfl (Want.none rfl) (K.func rfl co25) (fun w hs => numbers_c dec _ w hs.dc_lt   ) (fun ⟨a3, c4⟩ => ?_)
  refine Seg.y rfl rfl (Want.none rfl) (Y.assign rfl) ?_
  refine Seg.nil ?_
  refine Sx.next ?_
  refine Sc.seq ?_
  refine Sc.region ?_
  refine Seg.y rfl rfl (Want.none rfl) (Y.move rfl) ?_
  refine Seg.y rfl rfl (Want.none rfl) (Y.move rfl) ?_
  refine Seg.y rfl rfl (Want.none rfl) (Y.convert rfl (V.int Try.underlying5 Try.underlying3 (wr_i64 (by omega)))) ?_
  refine Seg.y rfl rfl (Want.none rfl) (Y.move rfl) ?_
  refine Seg.y rfl rfl (Want.none rfl) (Y.bi rfl (fun w _ => run_len rfl Try.underlying25 w)) ?_
  obtain ⟨q, hq, hql⟩ := idx_of which dec hw.1
  refine Seg.y rfl rfl (Want.none rfl) (Y.binOp rfl rfl (B.rem _ _ _ _ (by have := num_pos dec; omega) hq)) ?_
  refine Seg.y rfl rfl (Want.none rfl) (Y.elemAddr rfl rfl Try.underlying25 sz3 (fun w h => ((h.2) q _ (getD_some (0 : Int) (by omega))).1) (by omega) (by omega) (by simp : (sadr a3).off + ((q : Int)).toNat * 1 = (sadr a3).off + q * 1)) ?_
  refine Seg.y rfl rfl (Want.none rfl) (Y.loadF1 rfl ag3 (fun w h => ((h.2) q _ (getD_some (0 : Int) (by omega))).2 0 _ rfl)) ?_
  refine Seg.y rfl rfl (Want.none rfl) (Y.assign rfl) ?_
  refine Seg.nil ?_
  refine Sx.next ?_
  refine Sc.seq ?_
  refine Sc.region ?_
  refine Seg.y rfl rfl (Want.none rfl) (Y.loadN (vs := [.bool r1.ins, .bool r1.nl, .bool r1.ck, .bool r1.inv, .bool r1.org, .bool r1.aut, .bool r1.vis, .bool r1.paste, .bool r1.focus, .bool r1.sync, .bool r1.keypad, .int .i64 r1.mouse, .bool r1.sgr]) 0 rfl rfl rfl rfl ag23 sz23) ?_
  refine Seg.y rfl rfl (Want.none rfl) (Y.move rfl) ?_
  refine Seg.y rfl rfl (Want.none rfl) (Y.move rfl) ?_
  refine Seg.y rfl rfl (Want.none rfl) (Y.move rfl) ?_
  obtain ⟨r5, hr5⟩ : ∃ x, x = lput r1 dec ((numbersS dec).getD q (0 : Int)) on := ⟨_, rfl⟩
  refine Seg.callV (v := .agg (List.toArray [.bool r5.ins, .bool r5.nl, .bool r5.ck, .bool r5.inv, .bool r5.org, .bool r5.aut, .bool r5.vis, .bool r5.paste, .bool r5.focus, .bool r5.sync, .bool r5.keypad, .int .i64 r5.mouse, .bool r5.sgr])) rfl rfl (Want.none rfl) (K.func rfl co24) (fun w hs => by rw [hr5]; exact lput_c r1 dec ((numbersS dec).getD q (0 : Int)) on w ) ?_
  refine Seg.chg rfl rfl (Want.none rfl) (C.alloc zv23 rfl) (fun b6 hb6 => ?_)
  refine Seg.chs rfl (Want.none rfl) (C.store (cs' := [.bool r5.ins, .bool r5.nl, .bool r5.ck, .bool r5.inv, .bool r5.org, .bool r5.aut, .bool r5.vis, .bool r5.paste, .bool r5.focus, .bool r5.sync, .bool r5.keypad, .int .i64 r5.mouse, .bool r5.sgr]) (vs := [.bool r5.ins, .bool r5.nl, .bool r5.ck, .bool r5.inv, .bool r5.org, .bool r5.aut, .bool r5.vis, .bool r5.paste, .bool r5.focus, .bool r5.sync, .bool r5.keypad, .int .i64 r5.mouse, .bool r5.sgr]) 0 rfl rfl rfl rfl rfl rfl rfl sz23) (fun _ _ => ?_)
  refine Seg.nil ?_
  refine Sx.next ?_
  refine Sc.seq ?_
  refine Sc.cut (fun (_ : Unit) => True) (fun (_ : Unit) => [(2, .bool dec), (3, .bool on), (9, .pointer (some ⟨b2, 0, none⟩)), (11, .int .i64 ((numbersS dec).getD q (0 : Int))), (12, .pointer (some ⟨b6, 0, none⟩)), (13, .bool (dec && ((decide (((numbersS dec).getD q (0 : Int)) = 9)) || ((decide ((1000 : Int) ≤ ((numbersS dec).getD q (0 : Int)))) && (decide (((numbersS dec).getD q (0 : Int)) ≤ 1003))))))]) (fun (_ : Unit) => [(some b6, .cells (List.toArray [.bool r5.ins, .bool r5.nl, .bool r5.ck, .bool r5.inv, .bool r5.org, .bool r5.aut, .bool r5.vis, .bool r5.paste, .bool r5.focus, .bool r5.sync, .bool r5.keypad, .int .i64 r5.mouse, .bool r5.sgr]) 23 (0, 0)), (some b2, .cells (List.toArray [.bool r1.ins, .bool r1.nl, .bool r1.ck, .bool r1.inv, .bool r1.org, .bool r1.aut, .bool r1.vis, .bool r1.paste, .bool r1.focus, .bool r1.sync, .bool r1.keypad, .int .i64 r1.mouse, .bool r1.sgr]) 23 (0, 0))]) (fun _ => fun w => (True) ∧ RowV 1 encI a3 (numbersS dec) w) ?_ ?_
  · skip
    refine Sc.region ?_
    refine Seg.y rfl rfl (Want.none rfl) (Y.move rfl) ?_
    refine Seg.y rfl rfl (Want.none rfl) (Y.move rfl) ?_
    rcases Bool.eq_false_or_eq_true (dec) with g7 | g7
    · skip
      refine Seg.y rfl rfl (Want.some 1 43 true rfl rfl rfl g7) (Y.move rfl) ?_
      refine Seg.y rfl rfl (Want.some 1 43 true rfl rfl rfl g7) (Y.binOp rfl rfl (B.eq _ _ _)) ?_
      refine Seg.y rfl rfl (Want.some 1 43 true rfl rfl rfl g7) (Y.move rfl) ?_
      rcases Bool.eq_false_or_eq_true (decide (((numbersS dec).getD q (0 : Int)) = 9)) with g8 | g8
      · skip
        have g8p := of_decide_eq_true g8
        refine Seg.skip rfl rfl (Skip.some 4 46 false rfl rfl rfl g8) ?_
        refine Seg.skip rfl rfl (Skip.some 4 46 false rfl rfl rfl g8) ?_
        refine Seg.skip rfl rfl (Skip.some 4 46 false rfl rfl rfl g8) ?_
        refine Seg.skip rfl rfl (Skip.undef 7 49 true rfl rfl rfl) ?_
        refine Seg.skip rfl rfl (Skip.undef 7 49 true rfl rfl rfl) ?_
        refine Seg.skip rfl rfl (Skip.some 4 46 false rfl rfl rfl g8) ?_
        refine Seg.y rfl rfl (Want.some 1 43 true rfl rfl rfl g7) (Y.pickT rfl g8 rfl) ?_
        refine Seg.y rfl rfl (Want.none rfl) (Y.pickT rfl g7 rfl) ?_
        refine Seg.y rfl rfl (Want.none rfl) (Y.assign rfl) ?_
        refine Seg.nil ?_
        exact Sx.cut () trivial ⟨rfl, rfl, rfl, rfl, rfl, (someB (by first | (simp [g7, g8, g8p]; done) | (simp_all; done) | ((simp [g7, g8, g8p]) <;> grind))), trivial⟩ [0, 1] (by decide) rfl (fun _ h => h)
      · skip
        have g8p := of_decide_eq_false g8
        refine Seg.y rfl rfl (Want.some 4 46 false rfl rfl rfl g8) (Y.move rfl) ?_
        refine Seg.y rfl rfl (Want.some 4 46 false rfl rfl rfl g8) (Y.binOp rfl rfl (B.ge _ _ _)) ?_
        refine Seg.y rfl rfl (Want.some 4 46 false rfl rfl rfl g8) (Y.move rfl) ?_
        rcases Bool.eq_false_or_eq_true (decide ((1000 : Int) ≤ ((numbersS dec).getD q (0 : Int)))) with g9 | g9
        · skip
          have g9p := of_decide_eq_true g9
          refine Seg.y rfl rfl (Want.some 7 49 true rfl rfl rfl g9) (Y.move rfl) ?_
          refine Seg.y rfl rfl (Want.some 7 49 true rfl rfl rfl g9) (Y.binOp rfl rfl (B.le _ _ _)) ?_
          refine Seg.y rfl rfl (Want.some 4 46 false rfl rfl rfl g8) (Y.pickT rfl g9 rfl) ?_
          refine Seg.y rfl rfl (Want.some 1 43 true rfl rfl rfl g7) (Y.pickF rfl g8 rfl) ?_
          refine Seg.y rfl rfl (Want.none rfl) (Y.pickT rfl g7 rfl) ?_
          refine Seg.y rfl rfl (Want.none rfl) (Y.assign rfl) ?_
          refine Seg.nil ?_
          exact Sx.cut () trivial ⟨rfl, rfl, rfl, rfl, rfl, (someB (by first | (simp [g7, g8, g8p, g9, g9p]; done) | (simp_all; done) | ((simp [g7, g8, g8p, g9, g9p]) <;> grind))), trivial⟩ [0, 1] (by decide) rfl (fun _ h => h)
        · skip
          have g9p := of_decide_eq_false g9
          refine Seg.skip rfl rfl (Skip.some 7 49 true rfl rfl rfl g9) ?_
          refine Seg.skip rfl rfl (Skip.some 7 49 true rfl rfl rfl g9) ?_
          refine Seg.y rfl rfl (Want.some 4 46 false rfl rfl rfl g8) (Y.pickF rfl g9 rfl) ?_
          refine Seg.y rfl rfl (Want.some 1 43 true rfl rfl rfl g7) (Y.pickF rfl g8 rfl) ?_
          refine Seg.y rfl rfl (Want.none rfl) (Y.pickT rfl g7 rfl) ?_
          refine Seg.y rfl rfl (Want.none rfl) (Y.assign rfl) ?_
          refine Seg.nil ?_
          exact Sx.cut () trivial ⟨rfl, rfl, rfl, rfl, rfl, (someB (by first | (simp [g7, g8, g8p, g9, g9p]; done) | (simp_all; done) | ((simp [g7, g8, g8p, g9, g9p]) <;> grind))), trivial⟩ [0, 1] (by decide) rfl (fun _ h => h)
    · skip
      refine Seg.skip rfl rfl (Skip.some 1 43 true rfl rfl rfl g7) ?_
      refine Seg.skip rfl rfl (Skip.some 1 43 true rfl rfl rfl g7) ?_
      refine Seg.skip rfl rfl (Skip.some 1 43 true rfl rfl rfl g7) ?_
      refine Seg.skip rfl rfl (Skip.undef 4 46 false rfl rfl rfl) ?_
      refine Seg.skip rfl rfl (Skip.undef 4 46 false rfl rfl rfl) ?_
      refine Seg.skip rfl rfl (Skip.undef 4 46 false rfl rfl rfl) ?_
      refine Seg.skip rfl rfl (Skip.undef 7 49 true rfl rfl rfl) ?_
      refine Seg.skip rfl rfl (Skip.undef 7 49 true rfl rfl rfl) ?_
      refine Seg.skip rfl rfl (Skip.undef 4 46 false rfl rfl rfl) ?_
      refine Seg.skip rfl rfl (Skip.some 1 43 true rfl rfl rfl g7) ?_
      refine Seg.y rfl rfl (Want.none rfl) (Y.pickF rfl g7 rfl) ?_
      refine Seg.y rfl rfl (Want.none rfl) (Y.assign rfl) ?_
      refine Seg.nil ?_
      exact Sx.cut () trivial ⟨rfl, rfl, rfl, rfl, rfl, (someB (by first | (simp [g7]; done) | (simp_all; done) | ((simp [g7]) <;> grind))), trivial⟩ [0, 1] (by decide) rfl (fun _ h => h)
  · intro _ _
    show Sx _ _ _ [(2, .bool dec), (3, .bool on), (9, .pointer (some ⟨b2, 0, none⟩)), (11, .int .i64 ((numbersS dec).getD q (0 : Int))), (12, .pointer (some ⟨b6, 0, none⟩)), (13, .bool (dec && ((decide (((numbersS dec).getD q (0 : Int)) = 9)) || ((decide ((1000 : Int) ≤ ((numbersS dec).getD q (0 : Int)))) && (decide (((numbersS dec).getD q (0 : Int)) ≤ 1003))))))] [(some b6, .cells (List.toArray [.bool r5.ins, .bool r5.nl, .bool r5.ck, .bool r5.inv, .bool r5.org, .bool r5.aut, .bool r5.vis, .bool r5.paste, .bool r5.focus, .bool r5.sync, .bool r5.keypad, .int .i64 r5.mouse, .bool r5.sgr]) 23 (0, 0)), (some b2, .cells (List.toArray [.bool r1.ins, .bool r1.nl, .bool r1.ck, .bool r1.inv, .bool r1.org, .bool r1.aut, .bool r1.vis, .bool r1.paste, .bool r1.focus, .bool r1.sync, .bool r1.keypad, .int .i64 r1.mouse, .bool r1.sgr]) 23 (0, 0))] _
    refine Sx.next ?_
    refine Sc.seq ?_
    refine Sc.region ?_
    refine Seg.y rfl rfl (Want.none rfl) (Y.assign rfl) ?_
    refine Seg.nil ?_
    refine Sx.next ?_
    refine Sc.seq ?_
    refine Sc.seq ?_
    refine Sc.region ?_
    refine Seg.y rfl rfl (Want.none rfl) (Y.move rfl) ?_
    refine Seg.nil ?_
    refine Sx.next ?_
    refine Sc.cond rfl (fun h10 => ?_) (fun h10 => ?_)
    · skip
      refine Sc.region ?_
      refine Seg.y rfl rfl (Want.none rfl) (Y.assign rfl) ?_
      refine Seg.nil ?_
      refine Sx.next ?_
      refine Sc.seq ?_
      refine Sc.seq ?_
      obtain ⟨r11, hr11⟩ : ∃ x, x = lstate r5 dec ((numbersS dec).getD q (0 : Int)) false := ⟨_, rfl⟩
      obtain ⟨r12, hr12⟩ : ∃ x, x = lput r5 dec ((numbersS dec).getD q (0 : Int)) on := ⟨_, rfl⟩
      refine Sc.cut (fun (_ : Unit) => True) (fun (_ : Unit) => [(2, .bool dec), (3, .bool on), (9, .pointer (some ⟨b2, 0, none⟩)), (11, .int .i64 ((numbersS dec).getD q (0 : Int))), (12, .pointer (some ⟨b6, 0, none⟩)), (13, .bool (dec && ((decide (((numbersS dec).getD q (0 : Int)) = 9)) || ((decide ((1000 : Int) ≤ ((numbersS dec).getD q (0 : Int)))) && (decide (((numbersS dec).getD q (0 : Int)) ≤ 1003)))))), (70, .bool ((decide (r11 ≠ 1)) || (!(MdEq r12 r5))))]) (fun (_ : Unit) => [(some b6, .cells (List.toArray [.bool r5.ins, .bool r5.nl, .bool r5.ck, .bool r5.inv, .bool r5.org, .bool r5.aut, .bool r5.vis, .bool r5.paste, .bool r5.focus, .bool r5.sync, .bool r5.keypad, .int .i64 r5.mouse, .bool r5.sgr]) 23 (0, 0)), (some b2, .cells (List.toArray [.bool r1.ins, .bool r1.nl, .bool r1.ck, .bool r1.inv, .bool r1.org, .bool r1.aut, .bool r1.vis, .bool r1.paste, .bool r1.focus, .bool r1.sync, .bool r1.keypad, .int .i64 r1.mouse, .bool r1.sgr]) 23 (0, 0))]) (fun _ => fun w => (True) ∧ RowV 1 encI a3 (numbersS dec) w) ?_ ?_
      · skip
        refine Sc.draw (by kernel_rfl) (fun _ h => St.lean [0, 1] (by decide) (fun _ h => h) h rfl) ?_
        refine Sd.take 0 rfl rfl rfl (by kernel_rfl) (by kernel_rfl) (by kernel_rfl) Cut.panic (Want.none rfl) (Y.loadN (vs := [.bool r5.ins, .bool r5.nl, .bool r5.ck, .bool r5.inv, .bool r5.org, .bool r5.aut, .bool r5.vis, .bool r5.paste, .bool r5.focus, .bool r5.sync, .bool r5.keypad, .int .i64 r5.mouse, .bool r5.sgr]) 0 rfl rfl rfl rfl ag23 sz23) ?_
        refine Sd.take 1 rfl rfl rfl (by kernel_rfl) (by kernel_rfl) (by kernel_rfl) Cut.panic (Want.none rfl) (Y.move rfl) ?_
        refine Sd.take 2 rfl rfl rfl (by kernel_rfl) (by kernel_rfl) (by kernel_rfl) Cut.panic (Want.none rfl) (Y.move rfl) ?_
        refine Sd.take 4 rfl rfl rfl (by kernel_rfl) (by kernel_rfl) (by kernel_rfl) Cut.panic (Want.none rfl) (Y.move rfl) ?_
        refine Sd.all [3] (by kernel_rfl) (by decide) (all_cons ?_ all_nil)
        refine Sp.callV (v := .int .i64 r11) rfl rfl rfl (Want.none rfl) (K.func rfl co26) (fun w hs => by rw [hr11]; exact lstate_c r5 dec ((numbersS dec).getD q (0 : Int)) false w ) ?_
        refine Sd.take 5 rfl rfl rfl (by kernel_rfl) (by kernel_rfl) (by kernel_rfl) Cut.panic (Want.none rfl) (Y.binOp rfl rfl (B.ne _ _ _)) ?_
        refine Sd.take 6 rfl rfl rfl (by kernel_rfl) (by kernel_rfl) (by kernel_rfl) Cut.panic (Want.none rfl) (Y.move rfl) ?_
        rcases Bool.eq_false_or_eq_true (decide (r11 ≠ 1)) with g13 | g13
        · skip
          have g13p := of_decide_eq_true g13
          refine Sd.takeSkip 7 rfl rfl rfl (by kernel_rfl) (by kernel_rfl) (by kernel_rfl) Cut.panic (Skip.some 6 62 false rfl rfl rfl g13) ?_
          refine Sd.takeSkip 8 rfl rfl rfl (by kernel_rfl) (by kernel_rfl) (by kernel_rfl) Cut.panic (Skip.some 6 62 false rfl rfl rfl g13) ?_
          refine Sd.takeSkip 9 rfl rfl rfl (by kernel_rfl) (by kernel_rfl) (by kernel_rfl) Cut.panic (Skip.some 6 62 false rfl rfl rfl g13) ?_
          refine Sd.takeSkip 10 rfl rfl rfl (by kernel_rfl) (by kernel_rfl) (by kernel_rfl) Cut.panic (Skip.some 6 62 false rfl rfl rfl g13) ?_
          refine Sd.takeSkip 11 rfl rfl rfl (by kernel_rfl) (by kernel_rfl) (by kernel_rfl) Cut.panic (Skip.some 6 62 false rfl rfl rfl g13) ?_
          refine Sd.takeSkip 12 rfl rfl rfl (by kernel_rfl) (by kernel_rfl) (by kernel_rfl) Cut.panic (Skip.some 6 62 false rfl rfl rfl g13) ?_
          refine Sd.takeSkip 13 rfl rfl rfl (by kernel_rfl) (by kernel_rfl) (by kernel_rfl) Cut.panic (Skip.some 6 62 false rfl rfl rfl g13) ?_
          refine Sd.take 14 rfl rfl rfl (by kernel_rfl) (by kernel_rfl) (by kernel_rfl) Cut.panic (Want.none rfl) (Y.pickT rfl g13 rfl) ?_
          refine Sd.done (by kernel_rfl) ?_
          exact Sx.cut () trivial ⟨rfl, rfl, rfl, rfl, rfl, rfl, (someB (by first | (simp [h10, g13, g13p]; done) | (simp_all; done) | ((simp [h10, g13, g13p]) <;> grind))), trivial⟩ [0, 1] (by decide) rfl (fun _ h => h)
        · skip
          have g13p : r11 = 1 := by simpa using g13
          refine Sd.take 7 rfl rfl rfl (by kernel_rfl) (by kernel_rfl) (by kernel_rfl) Cut.panic (Want.some 6 62 false rfl rfl rfl g13) (Y.loadN (vs := [.bool r5.ins, .bool r5.nl, .bool r5.ck, .bool r5.inv, .bool r5.org, .bool r5.aut, .bool r5.vis, .bool r5.paste, .bool r5.focus, .bool r5.sync, .bool r5.keypad, .int .i64 r5.mouse, .bool r5.sgr]) 0 rfl rfl rfl rfl ag23 sz23) ?_
          refine Sd.take 8 rfl rfl rfl (by kernel_rfl) (by kernel_rfl) (by kernel_rfl) Cut.panic (Want.some 6 62 false rfl rfl rfl g13) (Y.move rfl) ?_
          refine Sd.take 9 rfl rfl rfl (by kernel_rfl) (by kernel_rfl) (by kernel_rfl) Cut.panic (Want.some 6 62 false rfl rfl rfl g13) (Y.move rfl) ?_
          refine Sd.take 10 rfl rfl rfl (by kernel_rfl) (by kernel_rfl) (by kernel_rfl) Cut.panic (Want.some 6 62 false rfl rfl rfl g13) (Y.move rfl) ?_
          refine Sd.take 12 rfl rfl rfl (by kernel_rfl) (by kernel_rfl) (by kernel_rfl) Cut.panic (Want.some 6 62 false rfl rfl rfl g13) (Y.loadN (vs := [.bool r5.ins, .bool r5.nl, .bool r5.ck, .bool r5.inv, .bool r5.org, .bool r5.aut, .bool r5.vis, .bool r5.paste, .bool r5.focus, .bool r5.sync, .bool r5.keypad, .int .i64 r5.mouse, .bool r5.sgr]) 0 rfl rfl rfl rfl ag23 sz23) ?_
          refine Sd.all [11] (by kernel_rfl) (by decide) (all_cons ?_ all_nil)
          refine Sp.callV (v := .agg (List.toArray [.bool r12.ins, .bool r12.nl, .bool r12.ck, .bool r12.inv, .bool r12.org, .bool r12.aut, .bool r12.vis, .bool r12.paste, .bool r12.focus, .bool r12.sync, .bool r12.keypad, .int .i64 r12.mouse, .bool r12.sgr])) rfl rfl rfl (Want.some 6 62 false rfl rfl rfl g13) (K.func rfl co24) (fun w hs => by rw [hr12]; exact lput_c r5 dec ((numbersS dec).getD q (0 : Int)) on w ) ?_
          refine Sd.take 13 rfl rfl rfl (by kernel_rfl) (by kernel_rfl) (by kernel_rfl) Cut.panic (Want.some 6 62 false rfl rfl rfl g13) (Y.binOp rfl rfl (B.neS gq23 (Eqs.struct (n := 1) (b := MdEq r12 r5) Try.underlying23 sd23 (EqF.cons (b := r12.ins == r5.ins) rfl ag4 rfl rfl (Eqs.mono (m := 1) (Eqs.bool Try.underlying4) (by decide)) (EqF.cons (b := r12.nl == r5.nl) rfl ag4 rfl rfl (Eqs.mono (m := 1) (Eqs.bool Try.underlying4) (by decide)) (EqF.cons (b := r12.ck == r5.ck) rfl ag4 rfl rfl (Eqs.mono (m := 1) (Eqs.bool Try.underlying4) (by decide)) (EqF.cons (b := r12.inv == r5.inv) rfl ag4 rfl rfl (Eqs.mono (m := 1) (Eqs.bool Try.underlying4) (by decide)) (EqF.cons (b := r12.org == r5.org) rfl ag4 rfl rfl (Eqs.mono (m := 1) (Eqs.bool Try.underlying4) (by decide)) (EqF.cons (b := r12.aut == r5.aut) rfl ag4 rfl rfl (Eqs.mono (m := 1) (Eqs.bool Try.underlying4) (by decide)) (EqF.cons (b := r12.vis == r5.vis) rfl ag4 rfl rfl (Eqs.mono (m := 1) (Eqs.bool Try.underlying4) (by decide)) (EqF.cons (b := r12.paste == r5.paste) rfl ag4 rfl rfl (Eqs.mono (m := 1) (Eqs.bool Try.underlying4) (by decide)) (EqF.cons (b := r12.focus == r5.focus) rfl ag4 rfl rfl (Eqs.mono (m := 1) (Eqs.bool Try.underlying4) (by decide)) (EqF.cons (b := r12.sync == r5.sync) rfl ag4 rfl rfl (Eqs.mono (m := 1) (Eqs.bool Try.underlying4) (by decide)) (EqF.cons (b := r12.keypad == r5.keypad) rfl ag4 rfl rfl (Eqs.mono (m := 1) (Eqs.bool Try.underlying4) (by decide)) (EqF.cons (b := decide (r12.mouse = r5.mouse)) rfl ag3 rfl rfl (Eqs.mono (m := 1) (Eqs.int Try.underlying3) (by decide)) (EqF.cons (b := r12.sgr == r5.sgr) rfl ag4 rfl rfl (Eqs.mono (m := 1) (Eqs.bool Try.underlying4) (by decide)) (EqF.nil))))))))))))))) rfl)) ?_
          refine Sd.take 14 rfl rfl rfl (by kernel_rfl) (by kernel_rfl) (by kernel_rfl) Cut.panic (Want.none rfl) (Y.pickF rfl g13 rfl) ?_
          refine Sd.done (by kernel_rfl) ?_
          exact Sx.cut () trivial ⟨rfl, rfl, rfl, rfl, rfl, rfl, (someB (by first | (simp [h10, g13, g13p]; done) | (simp_all; done) | ((simp [h10, g13, g13p]) <;> grind))), trivial⟩ [0, 1] (by decide) rfl (fun _ h => h)
      · intro _ _
        show Sx _ _ _ [(2, .bool dec), (3, .bool on), (9, .pointer (some ⟨b2, 0, none⟩)), (11, .int .i64 ((numbersS dec).getD q (0 : Int))), (12, .pointer (some ⟨b6, 0, none⟩)), (13, .bool (dec && ((decide (((numbersS dec).getD q (0 : Int)) = 9)) || ((decide ((1000 : Int) ≤ ((numbersS dec).getD q (0 : Int)))) && (decide (((numbersS dec).getD q (0 : Int)) ≤ 1003)))))), (70, .bool ((decide (r11 ≠ 1)) || (!(MdEq r12 r5))))] [(some b6, .cells (List.toArray [.bool r5.ins, .bool r5.nl, .bool r5.ck, .bool r5.inv, .bool r5.org, .bool r5.aut, .bool r5.vis, .bool r5.paste, .bool r5.focus, .bool r5.sync, .bool r5.keypad, .int .i64 r5.mouse, .bool r5.sgr]) 23 (0, 0)), (some b2, .cells (List.toArray [.bool r1.ins, .bool r1.nl, .bool r1.ck, .bool r1.inv, .bool r1.org, .bool r1.aut, .bool r1.vis, .bool r1.paste, .bool r1.focus, .bool r1.sync, .bool r1.keypad, .int .i64 r1.mouse, .bool r1.sgr]) 23 (0, 0))] _
        refine Sx.next ?_
        refine Sc.cond rfl (fun h14 => ?_) (fun h14 => ?_)
        · skip
          refine Sc.seq ?_
          refine Sc.region ?_
          refine Seg.y rfl rfl (Want.none rfl) (Y.assign rfl) ?_
          refine Seg.nil ?_
          refine Sx.next ?_
          refine Sc.ret ?_
          refine Sx.next_ret ?_
          refine Sx.body (.inl rfl) (res1 rfl (Rv.tmp rfl)) (fun w hs => ?_)
          refine RetV.eq ?_ hs
          subst hr1
          subst hr5
          subst hr11
          subst hr12
          clear hs
          have hc := of_check b
          have hk := known_get dec q hql
          generalize (numbersS dec).getD q 0 = n at *
          have a1 := al1 (ofS b) hc dec n on hk
          have a2 := al2 (ofS b) hc dec n on hk
          exfalso; first | (simp_all [toldS]; done) | grind [toldS]
        · skip
          refine Sc.skip ?_
          refine Sx.next ?_
          refine Sc.seq ?_
          refine Sc.seq ?_
          refine Sc.region ?_
          refine Seg.y rfl rfl (Want.none rfl) (Y.build (v := .agg (List.toArray [.bool false, .bool true])) rfl (fun w => by kernel_rfl)) ?_
          refine Seg.y rfl rfl (Want.none rfl) (Y.move rfl) ?_
          refine Seg.nil ?_
          refine Sx.next ?_
          refine Sc.block ?_
          refine Sc.rounds 3 ?_
          refine Sr.succ ?_
          refine Sc.seq ?_
          refine Sc.region ?_
          refine Seg.y rfl rfl (Want.none rfl) (Y.binOp (v := .bool true) rfl rfl (B.lt _ _ _)) ?_
          refine Seg.nil ?_
          refine Sx.next ?_
          refine Sc.seq ?_
          refine Sc.condT rfl rfl ?_
          refine Sc.skip ?_
          refine Sx.next ?_
          refine Sc.seq ?_
          refine Sc.block ?_
          refine Sc.seq ?_
          refine Sc.region ?_
          refine Seg.y rfl rfl (Want.none rfl) (Y.index (v := .bool false) rfl rfl (fun w => by kernel_rfl)) ?_
          refine Seg.y rfl rfl (Want.none rfl) (Y.assign rfl) ?_
          refine Seg.nil ?_
          refine Sx.next ?_
          refine Sc.seq ?_
          refine Sc.region ?_
          refine Seg.y rfl rfl (Want.none rfl) (Y.move rfl) ?_
          refine Seg.callR (val := fun ((a15, c16) : Option Addr × Nat) => .slice a15 ((numbersS false).length) c16) (Φ := fun ((a15, c16) : Option Addr × Nat) => fun w => RowV 1 encI a15 (numbersS false) w) rfl rfl (Want.none rfl) (K.func rfl co25) (fun w hs => numbers_c false _ w hs.dc_lt   ) (fun ⟨a15, c16⟩ => ?_)
          refine Seg.y rfl rfl (Want.none rfl) (Y.assign rfl) ?_
          refine Seg.nil ?_
          refine Sx.next ?_
          refine Sc.seq ?_
          refine Sc.region ?_
          refine Seg.y rfl rfl (Want.none rfl) (Y.assign rfl) ?_
          refine Seg.nil ?_
          refine Sx.next ?_
          refine Sc.block ?_
          refine Sc.loop (fun (k5 : Nat) => k5 ≤ (numbersS false).length) (fun (k5 : Nat) => (numbersS false).length - k5) (fun (k5 : Nat) => [(2, .bool dec), (3, .bool on), (9, .pointer (some ⟨b2, 0, none⟩)), (11, .int .i64 ((numbersS dec).getD q (0 : Int))), (12, .pointer (some ⟨b6, 0, none⟩)), (13, .bool (dec && ((decide (((numbersS dec).getD q (0 : Int)) = 9)) || ((decide ((1000 : Int) ≤ ((numbersS dec).getD q (0 : Int)))) && (decide (((numbersS dec).getD q (0 : Int)) ≤ 1003)))))), (16, .bool false), (17, .slice a15 ((numbersS false).length) c16), (18, .int .i64 (k5 : Int)), (71, .agg (List.toArray [.bool false, .bool true])), (72, .int .i64 0)]) (fun (k5 : Nat) => [(some b6, .cells (List.toArray [.bool r5.ins, .bool r5.nl, .bool r5.ck, .bool r5.inv, .bool r5.org, .bool r5.aut, .bool r5.vis, .bool r5.paste, .bool r5.focus, .bool r5.sync, .bool r5.keypad, .int .i64 r5.mouse, .bool r5.sgr]) 23 (0, 0)), (some b2, .cells (List.toArray [.bool r1.ins, .bool r1.nl, .bool r1.ck, .bool r1.inv, .bool r1.org, .bool r1.aut, .bool r1.vis, .bool r1.paste, .bool r1.focus, .bool r1.sync, .bool r1.keypad, .int .i64 r1.mouse, .bool r1.sgr]) 23 (0, 0))]) (fun (k5 : Nat) => fun w => ((True) ∧ RowV 1 encI a3 (numbersS dec) w) ∧ RowV 1 encI a15 (numbersS false) w) 0 (Nat.zero_le _) (by exact ⟨rfl, rfl, rfl, rfl, rfl, rfl, rfl, rfl, rfl, rfl, rfl, trivial⟩) [0, 1] (by decide) rfl (fun _ h => h) ?_
          rintro k5 hJ1
          have hk5 := hJ1
          have hln5 := num_le false
          show Sc _ _ _ _ [(2, .bool dec), (3, .bool on), (9, .pointer (some ⟨b2, 0, none⟩)), (11, .int .i64 ((numbersS dec).getD q (0 : Int))), (12, .pointer (some ⟨b6, 0, none⟩)), (13, .bool (dec && ((decide (((numbersS dec).getD q (0 : Int)) = 9)) || ((decide ((1000 : Int) ≤ ((numbersS dec).getD q (0 : Int)))) && (decide (((numbersS dec).getD q (0 : Int)) ≤ 1003)))))), (16, .bool false), (17, .slice a15 ((numbersS false).length) c16), (18, .int .i64 (k5 : Int)), (71, .agg (List.toArray [.bool false, .bool true])), (72, .int .i64 0)] [(some b6, .cells (List.toArray [.bool r5.ins, .bool r5.nl, .bool r5.ck, .bool r5.inv, .bool r5.org, .bool r5.aut, .bool r5.vis, .bool r5.paste, .bool r5.focus, .bool r5.sync, .bool r5.keypad, .int .i64 r5.mouse, .bool r5.sgr]) 23 (0, 0)), (some b2, .cells (List.toArray [.bool r1.ins, .bool r1.nl, .bool r1.ck, .bool r1.inv, .bool r1.org, .bool r1.aut, .bool r1.vis, .bool r1.paste, .bool r1.focus, .bool r1.sync, .bool r1.keypad, .int .i64 r1.mouse, .bool r1.sgr]) 23 (0, 0))] (fun w => ((True) ∧ RowV 1 encI a3 (numbersS dec) w) ∧ RowV 1 encI a15 (numbersS false) w)
          refine Sc.seq ?_
          refine Sc.seq ?_
          refine Sc.region ?_
          refine Seg.y rfl rfl (Want.none rfl) (Y.move rfl) ?_
          refine Seg.y rfl rfl (Want.none rfl) (Y.move rfl) ?_
          refine Seg.y rfl rfl (Want.none rfl) (Y.bi rfl (fun w _ => run_len rfl Try.underlying25 w)) ?_
          refine Seg.y rfl rfl (Want.none rfl) (Y.binOp rfl rfl (B.lt _ _ _)) ?_
          refine Seg.nil ?_
          refine Sx.next ?_
          refine Sc.cond rfl (fun h17 => ?_) (fun h17 => ?_)
          · skip
            have h17p := of_decide_eq_true h17
            refine Sc.skip ?_
            refine Sx.next ?_
            refine Sc.seq ?_
            refine Sc.block ?_
            refine Sc.seq ?_
            refine Sc.region ?_
            refine Seg.y rfl rfl (Want.none rfl) (Y.move rfl) ?_
            refine Seg.y rfl rfl (Want.none rfl) (Y.move rfl) ?_
            refine Seg.y rfl rfl (Want.none rfl) (Y.elemAddr rfl rfl Try.underlying25 sz3 (fun w h => ((h.2) k5 _ (getD_some (0 : Int) (by omega))).1) (by omega) (by omega) (by simp : (sadr a15).off + ((k5 : Int)).toNat * 1 = (sadr a15).off + k5 * 1)) ?_
            refine Seg.y rfl rfl (Want.none rfl) (Y.loadF1 rfl ag3 (fun w h => ((h.2) k5 _ (getD_some (0 : Int) (by omega))).2 0 _ rfl)) ?_
            refine Seg.y rfl rfl (Want.none rfl) (Y.assign rfl) ?_
            refine Seg.nil ?_
            refine Sx.next ?_
            refine Sc.seq ?_
            refine Sc.seq ?_
            refine Sc.cut (fun (_ : Unit) => True) (fun (_ : Unit) => [(2, .bool dec), (3, .bool on), (9, .pointer (some ⟨b2, 0, none⟩)), (11, .int .i64 ((numbersS dec).getD q (0 : Int))), (12, .pointer (some ⟨b6, 0, none⟩)), (13, .bool (dec && ((decide (((numbersS dec).getD q (0 : Int)) = 9)) || ((decide ((1000 : Int) ≤ ((numbersS dec).getD q (0 : Int)))) && (decide (((numbersS dec).getD q (0 : Int)) ≤ 1003)))))), (16, .bool false), (17, .slice a15 ((numbersS false).length) c16), (18, .int .i64 (k5 : Int)), (19, .int .i64 ((numbersS false).getD k5 (0 : Int))), (71, .agg (List.toArray [.bool false, .bool true])), (72, .int .i64 0), (94, .bool ((false == dec) && (decide (((numbersS false).getD k5 (0 : Int)) = ((numbersS dec).getD q (0 : Int))))))]) (fun (_ : Unit) => [(some b6, .cells (List.toArray [.bool r5.ins, .bool r5.nl, .bool r5.ck, .bool r5.inv, .bool r5.org, .bool r5.aut, .bool r5.vis, .bool r5.paste, .bool r5.focus, .bool r5.sync, .bool r5.keypad, .int .i64 r5.mouse, .bool r5.sgr]) 23 (0, 0)), (some b2, .cells (List.toArray [.bool r1.ins, .bool r1.nl, .bool r1.ck, .bool r1.inv, .bool r1.org, .bool r1.aut, .bool r1.vis, .bool r1.paste, .bool r1.focus, .bool r1.sync, .bool r1.keypad, .int .i64 r1.mouse, .bool r1.sgr]) 23 (0, 0))]) (fun _ => fun w => ((True) ∧ RowV 1 encI a3 (numbersS dec) w) ∧ RowV 1 encI a15 (numbersS false) w) ?_ ?_
            · skip
              refine Sc.region ?_
              refine Seg.y rfl rfl (Want.none rfl) (Y.move rfl) ?_
              refine Seg.y rfl rfl (Want.none rfl) (Y.move rfl) ?_
              refine Seg.y rfl rfl (Want.none rfl) (Y.binOp rfl rfl (B.eqB _ _ Try.underlying4)) ?_
              refine Seg.y rfl rfl (Want.none rfl) (Y.move rfl) ?_
              rcases Bool.eq_false_or_eq_true (false == dec) with g18 | g18
              · skip
                refine Seg.y rfl rfl (Want.some 3 90 true rfl rfl rfl g18) (Y.move rfl) ?_
                refine Seg.y rfl rfl (Want.some 3 90 true rfl rfl rfl g18) (Y.move rfl) ?_
                refine Seg.y rfl rfl (Want.some 3 90 true rfl rfl rfl g18) (Y.binOp rfl rfl (B.eq _ _ _)) ?_
                refine Seg.y rfl rfl (Want.none rfl) (Y.pickT rfl g18 rfl) ?_
                refine Seg.nil ?_
                exact Sx.cut () trivial ⟨rfl, rfl, rfl, rfl, rfl, rfl, rfl, rfl, rfl, rfl, rfl, rfl, (someB (by first | (simp [h10, h14, h17, h17p, g18]; done) | (simp_all; done) | ((simp [h10, h14, h17, h17p, g18]) <;> grind))), trivial⟩ [0, 1] (by decide) rfl (fun _ h => h)
              · skip
                refine Seg.skip rfl rfl (Skip.some 3 90 true rfl rfl rfl g18) ?_
                refine Seg.skip rfl rfl (Skip.some 3 90 true rfl rfl rfl g18) ?_
                refine Seg.skip rfl rfl (Skip.some 3 90 true rfl rfl rfl g18) ?_
                refine Seg.y rfl rfl (Want.none rfl) (Y.pickF rfl g18 rfl) ?_
                refine Seg.nil ?_
                exact Sx.cut () trivial ⟨rfl, rfl, rfl, rfl, rfl, rfl, rfl, rfl, rfl, rfl, rfl, rfl, (someB (by first | (simp [h10, h14, h17, h17p, g18]; done) | (simp_all; done) | ((simp [h10, h14, h17, h17p, g18]) <;> grind))), trivial⟩ [0, 1] (by decide) rfl (fun _ h => h)
            · intro _ _
              show Sx _ _ _ [(2, .bool dec), (3, .bool on), (9, .pointer (some ⟨b2, 0, none⟩)), (11, .int .i64 ((numbersS dec).getD q (0 : Int))), (12, .pointer (some ⟨b6, 0, none⟩)), (13, .bool (dec && ((decide (((numbersS dec).getD q (0 : Int)) = 9)) || ((decide ((1000 : Int) ≤ ((numbersS dec).getD q (0 : Int)))) && (decide (((numbersS dec).getD q (0 : Int)) ≤ 1003)))))), (16, .bool false), (17, .slice a15 ((numbersS false).length) c16), (18, .int .i64 (k5 : Int)), (19, .int .i64 ((numbersS false).getD k5 (0 : Int))), (71, .agg (List.toArray [.bool false, .bool true])), (72, .int .i64 0), (94, .bool ((false == dec) && (decide (((numbersS false).getD k5 (0 : Int)) = ((numbersS dec).getD q (0 : Int))))))] [(some b6, .cells (List.toArray [.bool r5.ins, .bool r5.nl, .bool r5.ck, .bool r5.inv, .bool r5.org, .bool r5.aut, .bool r5.vis, .bool r5.paste, .bool r5.focus, .bool r5.sync, .bool r5.keypad, .int .i64 r5.mouse, .bool r5.sgr]) 23 (0, 0)), (some b2, .cells (List.toArray [.bool r1.ins, .bool r1.nl, .bool r1.ck, .bool r1.inv, .bool r1.org, .bool r1.aut, .bool r1.vis, .bool r1.paste, .bool r1.focus, .bool r1.sync, .bool r1.keypad, .int .i64 r1.mouse, .bool r1.sgr]) 23 (0, 0))] _
              refine Sx.next ?_
              refine Sc.cond rfl (fun h19 => ?_) (fun h19 => ?_)
              · skip
                refine Sc.exit ?_
                refine Sx.next_exit ?_
                refine Sx.block_exit ?_
                refine Sx.next ?_
                refine Sc.region ?_
                refine Seg.y rfl rfl (Want.none rfl) (Y.move rfl) ?_
                refine Seg.y rfl rfl (Want.none rfl) (Y.binOp rfl rfl (B.add _ _ _ ((k5 : Int) + 1) (wr_i64 (by omega)))) ?_
                refine Seg.y rfl rfl (Want.none rfl) (Y.assign rfl) ?_
                refine Seg.nil ?_
                exact Sx.head (k5 + 1) (by first | omega | (simp at *; omega)) (by first | omega | (dsimp only; omega)) ⟨rfl, rfl, rfl, rfl, rfl, rfl, rfl, rfl, rfl, rfl, rfl, trivial⟩ [0, 1] (by decide) rfl (fun _ h => h)
              · skip
                refine Sc.skip ?_
                refine Sx.next ?_
                refine Sc.seq ?_
                refine Sc.region ?_
                refine Seg.y rfl rfl (Want.none rfl) (Y.move rfl) ?_
                refine Seg.y rfl rfl (Want.none rfl) (Y.move rfl) ?_
                refine Seg.skip rfl rfl (Skip.some 1 96 true rfl rfl rfl rfl) ?_
                refine Seg.skip rfl rfl (Skip.some 1 96 true rfl rfl rfl rfl) ?_
                refine Seg.skip rfl rfl (Skip.some 1 96 true rfl rfl rfl rfl) ?_
                refine Seg.skip rfl rfl (Skip.undef 4 99 false rfl rfl rfl) ?_
                refine Seg.skip rfl rfl (Skip.undef 4 99 false rfl rfl rfl) ?_
                refine Seg.skip rfl rfl (Skip.undef 4 99 false rfl rfl rfl) ?_
                refine Seg.skip rfl rfl (Skip.undef 7 102 true rfl rfl rfl) ?_
                refine Seg.skip rfl rfl (Skip.undef 7 102 true rfl rfl rfl) ?_
                refine Seg.skip rfl rfl (Skip.undef 4 99 false rfl rfl rfl) ?_
                refine Seg.skip rfl rfl (Skip.some 1 96 true rfl rfl rfl rfl) ?_
                refine Seg.y rfl rfl (Want.none rfl) (Y.pickF rfl rfl rfl) ?_
                refine Seg.y rfl rfl (Want.none rfl) (Y.assign rfl) ?_
                refine Seg.nil ?_
                refine Sx.next ?_
                refine Sc.seq ?_
                refine Sc.region ?_
                refine Seg.y rfl rfl (Want.none rfl) (Y.loadN (vs := [.bool r1.ins, .bool r1.nl, .bool r1.ck, .bool r1.inv, .bool r1.org, .bool r1.aut, .bool r1.vis, .bool r1.paste, .bool r1.focus, .bool r1.sync, .bool r1.keypad, .int .i64 r1.mouse, .bool r1.sgr]) 1 rfl rfl rfl rfl ag23 sz23) ?_
                refine Seg.y rfl rfl (Want.none rfl) (Y.move rfl) ?_
                refine Seg.y rfl rfl (Want.none rfl) (Y.move rfl) ?_
                obtain ⟨r20, hr20⟩ : ∃ x, x = lstate r1 false ((numbersS false).getD k5 (0 : Int)) false := ⟨_, rfl⟩
                refine Seg.callV (v := .int .i64 r20) rfl rfl (Want.none rfl) (K.func rfl co26) (fun w hs => by rw [hr20]; exact lstate_c r1 false ((numbersS false).getD k5 (0 : Int)) false w ) ?_
                refine Seg.y rfl rfl (Want.none rfl) (Y.assign rfl) ?_
                refine Seg.nil ?_
                refine Sx.next ?_
                refine Sc.seq ?_
                refine Sc.seq ?_
                refine Sc.cut (fun (_ : Unit) => True) (fun (_ : Unit) => [(2, .bool dec), (3, .bool on), (9, .pointer (some ⟨b2, 0, none⟩)), (11, .int .i64 ((numbersS dec).getD q (0 : Int))), (12, .pointer (some ⟨b6, 0, none⟩)), (13, .bool (dec && ((decide (((numbersS dec).getD q (0 : Int)) = 9)) || ((decide ((1000 : Int) ≤ ((numbersS dec).getD q (0 : Int)))) && (decide (((numbersS dec).getD q (0 : Int)) ≤ 1003)))))), (16, .bool false), (17, .slice a15 ((numbersS false).length) c16), (18, .int .i64 (k5 : Int)), (19, .int .i64 ((numbersS false).getD k5 (0 : Int))), (21, .int .i64 r20), (71, .agg (List.toArray [.bool false, .bool true])), (72, .int .i64 0), (118, .bool (((dec && ((decide (((numbersS dec).getD q (0 : Int)) = 9)) || ((decide ((1000 : Int) ≤ ((numbersS dec).getD q (0 : Int)))) && (decide (((numbersS dec).getD q (0 : Int)) ≤ 1003))))) && false) && on))]) (fun (_ : Unit) => [(some b6, .cells (List.toArray [.bool r5.ins, .bool r5.nl, .bool r5.ck, .bool r5.inv, .bool r5.org, .bool r5.aut, .bool r5.vis, .bool r5.paste, .bool r5.focus, .bool r5.sync, .bool r5.keypad, .int .i64 r5.mouse, .bool r5.sgr]) 23 (0, 0)), (some b2, .cells (List.toArray [.bool r1.ins, .bool r1.nl, .bool r1.ck, .bool r1.inv, .bool r1.org, .bool r1.aut, .bool r1.vis, .bool r1.paste, .bool r1.focus, .bool r1.sync, .bool r1.keypad, .int .i64 r1.mouse, .bool r1.sgr]) 23 (0, 0))]) (fun _ => fun w => ((True) ∧ RowV 1 encI a3 (numbersS dec) w) ∧ RowV 1 encI a15 (numbersS false) w) ?_ ?_
                · skip
                  refine Sc.region ?_
                  refine Seg.y rfl rfl (Want.none rfl) (Y.move rfl) ?_
                  refine Seg.y rfl rfl (Want.none rfl) (Y.move rfl) ?_
                  rcases Bool.eq_false_or_eq_true (dec && ((decide (((numbersS dec).getD q (0 : Int)) = 9)) || ((decide ((1000 : Int) ≤ ((numbersS dec).getD q (0 : Int)))) && (decide (((numbersS dec).getD q (0 : Int)) ≤ 1003))))) with g21 | g21
                  · skip
                    refine Seg.y rfl rfl (Want.some 1 113 true rfl rfl rfl g21) (Y.move rfl) ?_
                    refine Seg.y rfl rfl (Want.none rfl) (Y.pickT rfl g21 rfl) ?_
                    refine Seg.y rfl rfl (Want.none rfl) (Y.move rfl) ?_
                    refine Seg.skip rfl rfl (Skip.some 4 116 true rfl rfl rfl rfl) ?_
                    refine Seg.y rfl rfl (Want.none rfl) (Y.pickF rfl rfl rfl) ?_
                    refine Seg.nil ?_
                    exact Sx.cut () trivial ⟨rfl, rfl, rfl, rfl, rfl, rfl, rfl, rfl, rfl, rfl, rfl, rfl, rfl, (someB (by first | (simp [h10, h14, h17, h17p, h19, g21]; done) | (simp_all; done) | ((simp [h10, h14, h17, h17p, h19, g21]) <;> grind))), trivial⟩ [0, 1] (by decide) rfl (fun _ h => h)
                  · skip
                    refine Seg.skip rfl rfl (Skip.some 1 113 true rfl rfl rfl g21) ?_
                    refine Seg.y rfl rfl (Want.none rfl) (Y.pickF rfl g21 rfl) ?_
                    refine Seg.y rfl rfl (Want.none rfl) (Y.move rfl) ?_
                    refine Seg.skip rfl rfl (Skip.some 4 116 true rfl rfl rfl rfl) ?_
                    refine Seg.y rfl rfl (Want.none rfl) (Y.pickF rfl rfl rfl) ?_
                    refine Seg.nil ?_
                    exact Sx.cut () trivial ⟨rfl, rfl, rfl, rfl, rfl, rfl, rfl, rfl, rfl, rfl, rfl, rfl, rfl, (someB (by first | (simp [h10, h14, h17, h17p, h19, g21]; done) | (simp_all; done) | ((simp [h10, h14, h17, h17p, h19, g21]) <;> grind))), trivial⟩ [0, 1] (by decide) rfl (fun _ h => h)
                · intro _ _
                  show Sx _ _ _ [(2, .bool dec), (3, .bool on), (9, .pointer (some ⟨b2, 0, none⟩)), (11, .int .i64 ((numbersS dec).getD q (0 : Int))), (12, .pointer (some ⟨b6, 0, none⟩)), (13, .bool (dec && ((decide (((numbersS dec).getD q (0 : Int)) = 9)) || ((decide ((1000 : Int) ≤ ((numbersS dec).getD q (0 : Int)))) && (decide (((numbersS dec).getD q (0 : Int)) ≤ 1003)))))), (16, .bool false), (17, .slice a15 ((numbersS false).length) c16), (18, .int .i64 (k5 : Int)), (19, .int .i64 ((numbersS false).getD k5 (0 : Int))), (21, .int .i64 r20), (71, .agg (List.toArray [.bool false, .bool true])), (72, .int .i64 0), (118, .bool (((dec && ((decide (((numbersS dec).getD q (0 : Int)) = 9)) || ((decide ((1000 : Int) ≤ ((numbersS dec).getD q (0 : Int)))) && (decide (((numbersS dec).getD q (0 : Int)) ≤ 1003))))) && false) && on))] [(some b6, .cells (List.toArray [.bool r5.ins, .bool r5.nl, .bool r5.ck, .bool r5.inv, .bool r5.org, .bool r5.aut, .bool r5.vis, .bool r5.paste, .bool r5.focus, .bool r5.sync, .bool r5.keypad, .int .i64 r5.mouse, .bool r5.sgr]) 23 (0, 0)), (some b2, .cells (List.toArray [.bool r1.ins, .bool r1.nl, .bool r1.ck, .bool r1.inv, .bool r1.org, .bool r1.aut, .bool r1.vis, .bool r1.paste, .bool r1.focus, .bool r1.sync, .bool r1.keypad, .int .i64 r1.mouse, .bool r1.sgr]) 23 (0, 0))] _
                  refine Sx.next ?_
                  refine Sc.cond rfl (fun h22 => ?_) (fun h22 => ?_)
                  · skip
                    refine Sc.region ?_
                    refine Seg.y rfl rfl (Want.none rfl) (Y.assign rfl) ?_
                    refine Seg.nil ?_
                    refine Sx.next ?_
                    refine Sc.seq ?_
                    refine Sc.region ?_
                    refine Seg.y rfl rfl (Want.none rfl) (Y.loadN (vs := [.bool r5.ins, .bool r5.nl, .bool r5.ck, .bool r5.inv, .bool r5.org, .bool r5.aut, .bool r5.vis, .bool r5.paste, .bool r5.focus, .bool r5.sync, .bool r5.keypad, .int .i64 r5.mouse, .bool r5.sgr]) 0 rfl rfl rfl rfl ag23 sz23) ?_
                    refine Seg.y rfl rfl (Want.none rfl) (Y.move rfl) ?_
                    refine Seg.y rfl rfl (Want.none rfl) (Y.move rfl) ?_
                    obtain ⟨r23, hr23⟩ : ∃ x, x = lstate r5 false ((numbersS false).getD k5 (0 : Int)) false := ⟨_, rfl⟩
                    refine Seg.callV (v := .int .i64 r23) rfl rfl (Want.none rfl) (K.func rfl co26) (fun w hs => by rw [hr23]; exact lstate_c r5 false ((numbersS false).getD k5 (0 : Int)) false w ) ?_
                    refine Seg.y rfl rfl (Want.none rfl) (Y.move rfl) ?_
                    refine Seg.y rfl rfl (Want.none rfl) (Y.binOp rfl rfl (B.ne _ _ _)) ?_
                    refine Seg.nil ?_
                    refine Sx.next ?_
                    refine Sc.cond rfl (fun h24 => ?_) (fun h24 => ?_)
                    · skip
                      have h24p := of_decide_eq_true h24
                      refine Sc.seq ?_
                      refine Sc.region ?_
                      refine Seg.y rfl rfl (Want.none rfl) (Y.assign rfl) ?_
                      refine Seg.nil ?_
                      refine Sx.next ?_
                      refine Sc.ret ?_
                      refine Sx.block_ret ?_
                      refine Sx.next_ret ?_
                      refine Sx.loop_ret ?_
                      refine Sx.block_ret ?_
                      refine Sx.block_ret ?_
                      refine Sx.next_ret ?_
                      refine Sx.loop_ret ?_
                      refine Sx.block_ret ?_
                      refine Sx.next_ret ?_
                      refine Sx.body (.inl rfl) (res1 rfl (Rv.tmp rfl)) (fun w hs => ?_)
                      refine RetV.eq ?_ hs
                      subst hr1
                      subst hr5
                      subst hr11
                      subst hr12
                      subst hr20
                      subst hr23
                      clear hs
                      have hc := of_check b
                      have hk := known_get dec q hql
                      have hk2 := known_get false k5 (by omega)
                      generalize (numbersS dec).getD q 0 = n at *
                      generalize (numbersS false).getD k5 0 = k at *
                      have a1 := al1 (ofS b) hc dec n on hk
                      have a2 := al2 (ofS b) hc dec n on hk
                      have a3 := al3 (ofS b) hc dec n on hk false k hk2 (by intro hh; simp_all)
                      exfalso; first | (simp_all [toldS]; done) | grind [toldS]
                    · skip
                      have h24p : r23 = 2 := by simpa using h24
                      refine Sc.skip ?_
                      refine Sx.block_normal ?_
                      refine Sx.next ?_
                      refine Sc.region ?_
                      refine Seg.y rfl rfl (Want.none rfl) (Y.move rfl) ?_
                      refine Seg.y rfl rfl (Want.none rfl) (Y.binOp rfl rfl (B.add _ _ _ ((k5 : Int) + 1) (wr_i64 (by omega)))) ?_
                      refine Seg.y rfl rfl (Want.none rfl) (Y.assign rfl) ?_
                      refine Seg.nil ?_
                      exact Sx.head (k5 + 1) (by first | omega | (simp at *; omega)) (by first | omega | (dsimp only; omega)) ⟨rfl, rfl, rfl, rfl, rfl, rfl, rfl, rfl, rfl, rfl, rfl, trivial⟩ [0, 1] (by decide) rfl (fun _ h => h)
                  · skip
                    refine Sc.skip ?_
                    refine Sx.next ?_
                    refine Sc.seq ?_
                    refine Sc.region ?_
                    refine Seg.y rfl rfl (Want.none rfl) (Y.loadN (vs := [.bool r5.ins, .bool r5.nl, .bool r5.ck, .bool r5.inv, .bool r5.org, .bool r5.aut, .bool r5.vis, .bool r5.paste, .bool r5.focus, .bool r5.sync, .bool r5.keypad, .int .i64 r5.mouse, .bool r5.sgr]) 0 rfl rfl rfl rfl ag23 sz23) ?_
                    refine Seg.y rfl rfl (Want.none rfl) (Y.move rfl) ?_
                    refine Seg.y rfl rfl (Want.none rfl) (Y.move rfl) ?_
                    obtain ⟨r25, hr25⟩ : ∃ x, x = lstate r5 false ((numbersS false).getD k5 (0 : Int)) false := ⟨_, rfl⟩
                    refine Seg.callV (v := .int .i64 r25) rfl rfl (Want.none rfl) (K.func rfl co26) (fun w hs => by rw [hr25]; exact lstate_c r5 false ((numbersS false).getD k5 (0 : Int)) false w ) ?_
                    refine Seg.y rfl rfl (Want.none rfl) (Y.move rfl) ?_
                    refine Seg.y rfl rfl (Want.none rfl) (Y.binOp rfl rfl (B.ne _ _ _)) ?_
                    refine Seg.nil ?_
                    refine Sx.next ?_
                    refine Sc.cond rfl (fun h26 => ?_) (fun h26 => ?_)
                    · skip
                      have h26p := of_decide_eq_true h26
                      refine Sc.seq ?_
                      refine Sc.region ?_
                      refine Seg.y rfl rfl (Want.none rfl) (Y.assign rfl) ?_
                      refine Seg.nil ?_
                      refine Sx.next ?_
                      refine Sc.ret ?_
                      refine Sx.block_ret ?_
                      refine Sx.next_ret ?_
                      refine Sx.loop_ret ?_
                      refine Sx.block_ret ?_
                      refine Sx.block_ret ?_
                      refine Sx.next_ret ?_
                      refine Sx.loop_ret ?_
                      refine Sx.block_ret ?_
                      refine Sx.next_ret ?_
                      refine Sx.body (.inl rfl) (res1 rfl (Rv.tmp rfl)) (fun w hs => ?_)
                      refine RetV.eq ?_ hs
                      subst hr1
                      subst hr5
                      subst hr11
                      subst hr12
                      subst hr20
                      subst hr25
                      clear hs
                      have hc := of_check b
                      have hk := known_get dec q hql
                      have hk2 := known_get false k5 (by omega)
                      generalize (numbersS dec).getD q 0 = n at *
                      generalize (numbersS false).getD k5 0 = k at *
                      have a1 := al1 (ofS b) hc dec n on hk
                      have a2 := al2 (ofS b) hc dec n on hk
                      have a3 := al3 (ofS b) hc dec n on hk false k hk2 (by intro hh; simp_all)
                      exfalso; first | (simp_all [toldS]; done) | grind [toldS]
                    · skip
                      have h26p : r25 = r20 := by simpa using h26
                      refine Sc.skip ?_
                      refine Sx.block_normal ?_
                      refine Sx.next ?_
                      refine Sc.region ?_
                      refine Seg.y rfl rfl (Want.none rfl) (Y.move rfl) ?_
                      refine Seg.y rfl rfl (Want.none rfl) (Y.binOp rfl rfl (B.add _ _ _ ((k5 : Int) + 1) (wr_i64 (by omega)))) ?_
                      refine Seg.y rfl rfl (Want.none rfl) (Y.assign rfl) ?_
                      refine Seg.nil ?_
                      exact Sx.head (k5 + 1) (by first | omega | (simp at *; omega)) (by first | omega | (dsimp only; omega)) ⟨rfl, rfl, rfl, rfl, rfl, rfl, rfl, rfl, rfl, rfl, rfl, trivial⟩ [0, 1] (by decide) rfl (fun _ h => h)
          · skip
            have h17p := of_decide_eq_false h17
            refine Sc.exit ?_
            refine Sx.next_exit ?_
            refine Sx.loop_exit ?_
            refine Sx.block_exit ?_
            refine Sx.block_normal ?_
            refine Sx.next ?_
            refine Sc.region ?_
            refine Seg.y rfl rfl (Want.none rfl) (Y.binOp rfl rfl (B.add _ _ _ 1 (by decide))) ?_
            refine Seg.y rfl rfl (Want.none rfl) (Y.move rfl) ?_
            refine Seg.nil ?_
            refine Sx.round ?_
            refine Sr.succ ?_
            refine Sc.seq ?_
            refine Sc.region ?_
            refine Seg.y rfl rfl (Want.none rfl) (Y.binOp (v := .bool true) rfl rfl (B.lt _ _ _)) ?_
            refine Seg.nil ?_
            refine Sx.next ?_
            refine Sc.seq ?_
            refine Sc.condT rfl rfl ?_
            refine Sc.skip ?_
            refine Sx.next ?_
            refine Sc.seq ?_
            refine Sc.block ?_
            refine Sc.seq ?_
            refine Sc.region ?_
            refine Seg.y rfl rfl (Want.none rfl) (Y.index (v := .bool true) rfl rfl (fun w => by kernel_rfl)) ?_
            refine Seg.y rfl rfl (Want.none rfl) (Y.assign rfl) ?_
            refine Seg.nil ?_
            refine Sx.next ?_
            refine Sc.seq ?_
            refine Sc.region ?_
            refine Seg.y rfl rfl (Want.none rfl) (Y.move rfl) ?_
            refine Seg.callR (val := fun ((a27, c28) : Option Addr × Nat) => .slice a27 ((numbersS true).length) c28) (Φ := fun ((a27, c28) : Option Addr × Nat) => fun w => RowV 1 encI a27 (numbersS true) w) rfl rfl (Want.none rfl) (K.func rfl co25) (fun w hs => numbers_c true _ w hs.dc_lt   ) (fun ⟨a27, c28⟩ => ?_)
            refine Seg.y rfl rfl (Want.none rfl) (Y.assign rfl) ?_
            refine Seg.nil ?_
            refine Sx.next ?_
            refine Sc.seq ?_
            refine Sc.region ?_
            refine Seg.y rfl rfl (Want.none rfl) (Y.assign rfl) ?_
            refine Seg.nil ?_
            refine Sx.next ?_
            refine Sc.block ?_
            refine Sc.loop (fun (k6 : Nat) => k6 ≤ (numbersS true).length) (fun (k6 : Nat) => (numbersS true).length - k6) (fun (k6 : Nat) => [(2, .bool dec), (3, .bool on), (9, .pointer (some ⟨b2, 0, none⟩)), (11, .int .i64 ((numbersS dec).getD q (0 : Int))), (12, .pointer (some ⟨b6, 0, none⟩)), (13, .bool (dec && ((decide (((numbersS dec).getD q (0 : Int)) = 9)) || ((decide ((1000 : Int) ≤ ((numbersS dec).getD q (0 : Int)))) && (decide (((numbersS dec).getD q (0 : Int)) ≤ 1003)))))), (16, .bool true), (17, .slice a27 ((numbersS true).length) c28), (18, .int .i64 (k6 : Int)), (71, .agg (List.toArray [.bool false, .bool true])), (72, .int .i64 1)]) (fun (k6 : Nat) => [(some b6, .cells (List.toArray [.bool r5.ins, .bool r5.nl, .bool r5.ck, .bool r5.inv, .bool r5.org, .bool r5.aut, .bool r5.vis, .bool r5.paste, .bool r5.focus, .bool r5.sync, .bool r5.keypad, .int .i64 r5.mouse, .bool r5.sgr]) 23 (0, 0)), (some b2, .cells (List.toArray [.bool r1.ins, .bool r1.nl, .bool r1.ck, .bool r1.inv, .bool r1.org, .bool r1.aut, .bool r1.vis, .bool r1.paste, .bool r1.focus, .bool r1.sync, .bool r1.keypad, .int .i64 r1.mouse, .bool r1.sgr]) 23 (0, 0))]) (fun (k6 : Nat) => fun w => (((True) ∧ RowV 1 encI a3 (numbersS dec) w) ∧ RowV 1 encI a15 (numbersS false) w) ∧ RowV 1 encI a27 (numbersS true) w) 0 (Nat.zero_le _) (by exact ⟨rfl, rfl, rfl, rfl, rfl, rfl, rfl, rfl, rfl, rfl, rfl, trivial⟩) [0, 1] (by decide) rfl (fun _ h => h) ?_
            rintro k6 hJ1
            have hk6 := hJ1
            have hln6 := num_le true
            show Sc _ _ _ _ [(2, .bool dec), (3, .bool on), (9, .pointer (some ⟨b2, 0, none⟩)), (11, .int .i64 ((numbersS dec).getD q (0 : Int))), (12, .pointer (some ⟨b6, 0, none⟩)), (13, .bool (dec && ((decide (((numbersS dec).getD q (0 : Int)) = 9)) || ((decide ((1000 : Int) ≤ ((numbersS dec).getD q (0 : Int)))) && (decide (((numbersS dec).getD q (0 : Int)) ≤ 1003)))))), (16, .bool true), (17, .slice a27 ((numbersS true).length) c28), (18, .int .i64 (k6 : Int)), (71, .agg (List.toArray [.bool false, .bool true])), (72, .int .i64 1)] [(some b6, .cells (List.toArray [.bool r5.ins, .bool r5.nl, .bool r5.ck, .bool r5.inv, .bool r5.org, .bool r5.aut, .bool r5.vis, .bool r5.paste, .bool r5.focus, .bool r5.sync, .bool r5.keypad, .int .i64 r5.mouse, .bool r5.sgr]) 23 (0, 0)), (some b2, .cells (List.toArray [.bool r1.ins, .bool r1.nl, .bool r1.ck, .bool r1.inv, .bool r1.org, .bool r1.aut, .bool r1.vis, .bool r1.paste, .bool r1.focus, .bool r1.sync, .bool r1.keypad, .int .i64 r1.mouse, .bool r1.sgr]) 23 (0, 0))] (fun w => (((True) ∧ RowV 1 encI a3 (numbersS dec) w) ∧ RowV 1 encI a15 (numbersS false) w) ∧ RowV 1 encI a27 (numbersS true) w)
            refine Sc.seq ?_
            refine Sc.seq ?_
            refine Sc.region ?_
            refine Seg.y rfl rfl (Want.none rfl) (Y.move rfl) ?_
            refine Seg.y rfl rfl (Want.none rfl) (Y.move rfl) ?_
            refine Seg.y rfl rfl (Want.none rfl) (Y.bi rfl (fun w _ => run_len rfl Try.underlying25 w)) ?_
            refine Seg.y rfl rfl (Want.none rfl) (Y.binOp rfl rfl (B.lt _ _ _)) ?_
            refine Seg.nil ?_
            refine Sx.next ?_
            refine Sc.cond rfl (fun h29 => ?_) (fun h29 => ?_)
            · skip
              have h29p := of_decide_eq_true h29
              refine Sc.skip ?_
              refine Sx.next ?_
              refine Sc.seq ?_
              refine Sc.block ?_
              refine Sc.seq ?_
              refine Sc.region ?_
              refine Seg.y rfl rfl (Want.none rfl) (Y.move rfl) ?_
              refine Seg.y rfl rfl (Want.none rfl) (Y.move rfl) ?_
              refine Seg.y rfl rfl (Want.none rfl) (Y.elemAddr rfl rfl Try.underlying25 sz3 (fun w h => ((h.2) k6 _ (getD_some (0 : Int) (by omega))).1) (by omega) (by omega) (by simp : (sadr a27).off + ((k6 : Int)).toNat * 1 = (sadr a27).off + k6 * 1)) ?_
              refine Seg.y rfl rfl (Want.none rfl) (Y.loadF1 rfl ag3 (fun w h => ((h.2) k6 _ (getD_some (0 : Int) (by omega))).2 0 _ rfl)) ?_
              refine Seg.y rfl rfl (Want.none rfl) (Y.assign rfl) ?_
              refine Seg.nil ?_
              refine Sx.next ?_
              refine Sc.seq ?_
              refine Sc.seq ?_
              refine Sc.cut (fun (_ : Unit) => True) (fun (_ : Unit) => [(2, .bool dec), (3, .bool on), (9, .pointer (some ⟨b2, 0, none⟩)), (11, .int .i64 ((numbersS dec).getD q (0 : Int))), (12, .pointer (some ⟨b6, 0, none⟩)), (13, .bool (dec && ((decide (((numbersS dec).getD q (0 : Int)) = 9)) || ((decide ((1000 : Int) ≤ ((numbersS dec).getD q (0 : Int)))) && (decide (((numbersS dec).getD q (0 : Int)) ≤ 1003)))))), (16, .bool true), (17, .slice a27 ((numbersS true).length) c28), (18, .int .i64 (k6 : Int)), (19, .int .i64 ((numbersS true).getD k6 (0 : Int))), (71, .agg (List.toArray [.bool false, .bool true])), (72, .int .i64 1), (94, .bool ((true == dec) && (decide (((numbersS true).getD k6 (0 : Int)) = ((numbersS dec).getD q (0 : Int))))))]) (fun (_ : Unit) => [(some b6, .cells (List.toArray [.bool r5.ins, .bool r5.nl, .bool r5.ck, .bool r5.inv, .bool r5.org, .bool r5.aut, .bool r5.vis, .bool r5.paste, .bool r5.focus, .bool r5.sync, .bool r5.keypad, .int .i64 r5.mouse, .bool r5.sgr]) 23 (0, 0)), (some b2, .cells (List.toArray [.bool r1.ins, .bool r1.nl, .bool r1.ck, .bool r1.inv, .bool r1.org, .bool r1.aut, .bool r1.vis, .bool r1.paste, .bool r1.focus, .bool r1.sync, .bool r1.keypad, .int .i64 r1.mouse, .bool r1.sgr]) 23 (0, 0))]) (fun _ => fun w => (((True) ∧ RowV 1 encI a3 (numbersS dec) w) ∧ RowV 1 encI a15 (numbersS false) w) ∧ RowV 1 encI a27 (numbersS true) w) ?_ ?_
              · skip
                refine Sc.region ?_
                refine Seg.y rfl rfl (Want.none rfl) (Y.move rfl) ?_
                refine Seg.y rfl rfl (Want.none rfl) (Y.move rfl) ?_
                refine Seg.y rfl rfl (Want.none rfl) (Y.binOp rfl rfl (B.eqB _ _ Try.underlying4)) ?_
                refine Seg.y rfl rfl (Want.none rfl) (Y.move rfl) ?_
                rcases Bool.eq_false_or_eq_true (true == dec) with g30 | g30
                · skip
                  refine Seg.y rfl rfl (Want.some 3 90 true rfl rfl rfl g30) (Y.move rfl) ?_
                  refine Seg.y rfl rfl (Want.some 3 90 true rfl rfl rfl g30) (Y.move rfl) ?_
                  refine Seg.y rfl rfl (Want.some 3 90 true rfl rfl rfl g30) (Y.binOp rfl rfl (B.eq _ _ _)) ?_
                  refine Seg.y rfl rfl (Want.none rfl) (Y.pickT rfl g30 rfl) ?_
                  refine Seg.nil ?_
                  exact Sx.cut () trivial ⟨rfl, rfl, rfl, rfl, rfl, rfl, rfl, rfl, rfl, rfl, rfl, rfl, (someB (by first | (simp [h10, h14, h17, h17p, h29, h29p, g30]; done) | (simp_all; done) | ((simp [h10, h14, h17, h17p, h29, h29p, g30]) <;> grind))), trivial⟩ [0, 1] (by decide) rfl (fun _ h => h)
                · skip
                  refine Seg.skip rfl rfl (Skip.some 3 90 true rfl rfl rfl g30) ?_
                  refine Seg.skip rfl rfl (Skip.some 3 90 true rfl rfl rfl g30) ?_
                  refine Seg.skip rfl rfl (Skip.some 3 90 true rfl rfl rfl g30) ?_
                  refine Seg.y rfl rfl (Want.none rfl) (Y.pickF rfl g30 rfl) ?_
                  refine Seg.nil ?_
                  exact Sx.cut () trivial ⟨rfl, rfl, rfl, rfl, rfl, rfl, rfl, rfl, rfl, rfl, rfl, rfl, (someB (by first | (simp [h10, h14, h17, h17p, h29, h29p, g30]; done) | (simp_all; done) | ((simp [h10, h14, h17, h17p, h29, h29p, g30]) <;> grind))), trivial⟩ [0, 1] (by decide) rfl (fun _ h => h)
              · intro _ _
                show Sx _ _ _ [(2, .bool dec), (3, .bool on), (9, .pointer (some ⟨b2, 0, none⟩)), (11, .int .i64 ((numbersS dec).getD q (0 : Int))), (12, .pointer (some ⟨b6, 0, none⟩)), (13, .bool (dec && ((decide (((numbersS dec).getD q (0 : Int)) = 9)) || ((decide ((1000 : Int) ≤ ((numbersS dec).getD q (0 : Int)))) && (decide (((numbersS dec).getD q (0 : Int)) ≤ 1003)))))), (16, .bool true), (17, .slice a27 ((numbersS true).length) c28), (18, .int .i64 (k6 : Int)), (19, .int .i64 ((numbersS true).getD k6 (0 : Int))), (71, .agg (List.toArray [.bool false, .bool true])), (72, .int .i64 1), (94, .bool ((true == dec) && (decide (((numbersS true).getD k6 (0 : Int)) = ((numbersS dec).getD q (0 : Int))))))] [(some b6, .cells (List.toArray [.bool r5.ins, .bool r5.nl, .bool r5.ck, .bool r5.inv, .bool r5.org, .bool r5.aut, .bool r5.vis, .bool r5.paste, .bool r5.focus, .bool r5.sync, .bool r5.keypad, .int .i64 r5.mouse, .bool r5.sgr]) 23 (0, 0)), (some b2, .cells (List.toArray [.bool r1.ins, .bool r1.nl, .bool r1.ck, .bool r1.inv, .bool r1.org, .bool r1.aut, .bool r1.vis, .bool r1.paste, .bool r1.focus, .bool r1.sync, .bool r1.keypad, .int .i64 r1.mouse, .bool r1.sgr]) 23 (0, 0))] _
                refine Sx.next ?_
                refine Sc.cond rfl (fun h31 => ?_) (fun h31 => ?_)
                · skip
                  refine Sc.exit ?_
                  refine Sx.next_exit ?_
                  refine Sx.block_exit ?_
                  refine Sx.next ?_
                  refine Sc.region ?_
                  refine Seg.y rfl rfl (Want.none rfl) (Y.move rfl) ?_
                  refine Seg.y rfl rfl (Want.none rfl) (Y.binOp rfl rfl (B.add _ _ _ ((k6 : Int) + 1) (wr_i64 (by omega)))) ?_
                  refine Seg.y rfl rfl (Want.none rfl) (Y.assign rfl) ?_
                  refine Seg.nil ?_
                  exact Sx.head (k6 + 1) (by first | omega | (simp at *; omega)) (by first | omega | (dsimp only; omega)) ⟨rfl, rfl, rfl, rfl, rfl, rfl, rfl, rfl, rfl, rfl, rfl, trivial⟩ [0, 1] (by decide) rfl (fun _ h => h)
                · skip
                  refine Sc.skip ?_
                  refine Sx.next ?_
                  refine Sc.seq ?_
                  refine Sc.cut (fun (_ : Unit) => True) (fun (_ : Unit) => [(2, .bool dec), (3, .bool on), (9, .pointer (some ⟨b2, 0, none⟩)), (11, .int .i64 ((numbersS dec).getD q (0 : Int))), (12, .pointer (some ⟨b6, 0, none⟩)), (13, .bool (dec && ((decide (((numbersS dec).getD q (0 : Int)) = 9)) || ((decide ((1000 : Int) ≤ ((numbersS dec).getD q (0 : Int)))) && (decide (((numbersS dec).getD q (0 : Int)) ≤ 1003)))))), (16, .bool true), (17, .slice a27 ((numbersS true).length) c28), (18, .int .i64 (k6 : Int)), (19, .int .i64 ((numbersS true).getD k6 (0 : Int))), (20, .bool ((decide (((numbersS true).getD k6 (0 : Int)) = 9)) || ((decide ((1000 : Int) ≤ ((numbersS true).getD k6 (0 : Int)))) && (decide (((numbersS true).getD k6 (0 : Int)) ≤ 1003))))), (71, .agg (List.toArray [.bool false, .bool true])), (72, .int .i64 1)]) (fun (_ : Unit) => [(some b6, .cells (List.toArray [.bool r5.ins, .bool r5.nl, .bool r5.ck, .bool r5.inv, .bool r5.org, .bool r5.aut, .bool r5.vis, .bool r5.paste, .bool r5.focus, .bool r5.sync, .bool r5.keypad, .int .i64 r5.mouse, .bool r5.sgr]) 23 (0, 0)), (some b2, .cells (List.toArray [.bool r1.ins, .bool r1.nl, .bool r1.ck, .bool r1.inv, .bool r1.org, .bool r1.aut, .bool r1.vis, .bool r1.paste, .bool r1.focus, .bool r1.sync, .bool r1.keypad, .int .i64 r1.mouse, .bool r1.sgr]) 23 (0, 0))]) (fun _ => fun w => (((True) ∧ RowV 1 encI a3 (numbersS dec) w) ∧ RowV 1 encI a15 (numbersS false) w) ∧ RowV 1 encI a27 (numbersS true) w) ?_ ?_
                  · skip
                    refine Sc.region ?_
                    refine Seg.y rfl rfl (Want.none rfl) (Y.move rfl) ?_
                    refine Seg.y rfl rfl (Want.none rfl) (Y.move rfl) ?_
                    refine Seg.y rfl rfl (Want.some 1 96 true rfl rfl rfl rfl) (Y.move rfl) ?_
                    refine Seg.y rfl rfl (Want.some 1 96 true rfl rfl rfl rfl) (Y.binOp rfl rfl (B.eq _ _ _)) ?_
                    refine Seg.y rfl rfl (Want.some 1 96 true rfl rfl rfl rfl) (Y.move rfl) ?_
                    rcases Bool.eq_false_or_eq_true (decide (((numbersS true).getD k6 (0 : Int)) = 9)) with g32 | g32
                    · skip
                      have g32p := of_decide_eq_true g32
                      refine Seg.skip rfl rfl (Skip.some 4 99 false rfl rfl rfl g32) ?_
                      refine Seg.skip rfl rfl (Skip.some 4 99 false rfl rfl rfl g32) ?_
                      refine Seg.skip rfl rfl (Skip.some 4 99 false rfl rfl rfl g32) ?_
                      refine Seg.skip rfl rfl (Skip.undef 7 102 true rfl rfl rfl) ?_
                      refine Seg.skip rfl rfl (Skip.undef 7 102 true rfl rfl rfl) ?_
                      refine Seg.skip rfl rfl (Skip.some 4 99 false rfl rfl rfl g32) ?_
                      refine Seg.y rfl rfl (Want.some 1 96 true rfl rfl rfl rfl) (Y.pickT rfl g32 rfl) ?_
                      refine Seg.y rfl rfl (Want.none rfl) (Y.pickT rfl rfl rfl) ?_
                      refine Seg.y rfl rfl (Want.none rfl) (Y.assign rfl) ?_
                      refine Seg.nil ?_
                      exact Sx.cut () trivial ⟨rfl, rfl, rfl, rfl, rfl, rfl, rfl, rfl, rfl, rfl, (someB (by first | (simp [h10, h14, h17, h17p, h29, h29p, h31, g32, g32p]; done) | (simp_all; done) | ((simp [h10, h14, h17, h17p, h29, h29p, h31, g32, g32p]) <;> grind))), rfl, rfl, trivial⟩ [0, 1] (by decide) rfl (fun _ h => h)
                    · skip
                      have g32p := of_decide_eq_false g32
                      refine Seg.y rfl rfl (Want.some 4 99 false rfl rfl rfl g32) (Y.move rfl) ?_
                      refine Seg.y rfl rfl (Want.some 4 99 false rfl rfl rfl g32) (Y.binOp rfl rfl (B.ge _ _ _)) ?_
                      refine Seg.y rfl rfl (Want.some 4 99 false rfl rfl rfl g32) (Y.move rfl) ?_
                      rcases Bool.eq_false_or_eq_true (decide ((1000 : Int) ≤ ((numbersS true).getD k6 (0 : Int)))) with g33 | g33
                      · skip
                        have g33p := of_decide_eq_true g33
                        refine Seg.y rfl rfl (Want.some 7 102 true rfl rfl rfl g33) (Y.move rfl) ?_
                        refine Seg.y rfl rfl (Want.some 7 102 true rfl rfl rfl g33) (Y.binOp rfl rfl (B.le _ _ _)) ?_
                        refine Seg.y rfl rfl (Want.some 4 99 false rfl rfl rfl g32) (Y.pickT rfl g33 rfl) ?_
                        refine Seg.y rfl rfl (Want.some 1 96 true rfl rfl rfl rfl) (Y.pickF rfl g32 rfl) ?_
                        refine Seg.y rfl rfl (Want.none rfl) (Y.pickT rfl rfl rfl) ?_
                        refine Seg.y rfl rfl (Want.none rfl) (Y.assign rfl) ?_
                        refine Seg.nil ?_
                        exact Sx.cut () trivial ⟨rfl, rfl, rfl, rfl, rfl, rfl, rfl, rfl, rfl, rfl, (someB (by first | (simp [h10, h14, h17, h17p, h29, h29p, h31, g32, g32p, g33, g33p]; done) | (simp_all; done) | ((simp [h10, h14, h17, h17p, h29, h29p, h31, g32, g32p, g33, g33p]) <;> grind))), rfl, rfl, trivial⟩ [0, 1] (by decide) rfl (fun _ h => h)
                      · skip
                        have g33p := of_decide_eq_false g33
                        refine Seg.skip rfl rfl (Skip.some 7 102 true rfl rfl rfl g33) ?_
                        refine Seg.skip rfl rfl (Skip.some 7 102 true rfl rfl rfl g33) ?_
                        refine Seg.y rfl rfl (Want.some 4 99 false rfl rfl rfl g32) (Y.pickF rfl g33 rfl) ?_
                        refine Seg.y rfl rfl (Want.some 1 96 true rfl rfl rfl rfl) (Y.pickF rfl g32 rfl) ?_
                        refine Seg.y rfl rfl (Want.none rfl) (Y.pickT rfl rfl rfl) ?_
                        refine Seg.y rfl rfl (Want.none rfl) (Y.assign rfl) ?_
                        refine Seg.nil ?_
                        exact Sx.cut () trivial ⟨rfl, rfl, rfl, rfl, rfl, rfl, rfl, rfl, rfl, rfl, (someB (by first | (simp [h10, h14, h17, h17p, h29, h29p, h31, g32, g32p, g33, g33p]; done) | (simp_all; done) | ((simp [h10, h14, h17, h17p, h29, h29p, h31, g32, g32p, g33, g33p]) <;> grind))), rfl, rfl, trivial⟩ [0, 1] (by decide) rfl (fun _ h => h)
                  · intro _ _
                    show Sx _ _ _ [(2, .bool dec), (3, .bool on), (9, .pointer (some ⟨b2, 0, none⟩)), (11, .int .i64 ((numbersS dec).getD q (0 : Int))), (12, .pointer (some ⟨b6, 0, none⟩)), (13, .bool (dec && ((decide (((numbersS dec).getD q (0 : Int)) = 9)) || ((decide ((1000 : Int) ≤ ((numbersS dec).getD q (0 : Int)))) && (decide (((numbersS dec).getD q (0 : Int)) ≤ 1003)))))), (16, .bool true), (17, .slice a27 ((numbersS true).length) c28), (18, .int .i64 (k6 : Int)), (19, .int .i64 ((numbersS true).getD k6 (0 : Int))), (20, .bool ((decide (((numbersS true).getD k6 (0 : Int)) = 9)) || ((decide ((1000 : Int) ≤ ((numbersS true).getD k6 (0 : Int)))) && (decide (((numbersS true).getD k6 (0 : Int)) ≤ 1003))))), (71, .agg (List.toArray [.bool false, .bool true])), (72, .int .i64 1)] [(some b6, .cells (List.toArray [.bool r5.ins, .bool r5.nl, .bool r5.ck, .bool r5.inv, .bool r5.org, .bool r5.aut, .bool r5.vis, .bool r5.paste, .bool r5.focus, .bool r5.sync, .bool r5.keypad, .int .i64 r5.mouse, .bool r5.sgr]) 23 (0, 0)), (some b2, .cells (List.toArray [.bool r1.ins, .bool r1.nl, .bool r1.ck, .bool r1.inv, .bool r1.org, .bool r1.aut, .bool r1.vis, .bool r1.paste, .bool r1.focus, .bool r1.sync, .bool r1.keypad, .int .i64 r1.mouse, .bool r1.sgr]) 23 (0, 0))] _
                    refine Sx.next ?_
                    refine Sc.seq ?_
                    refine Sc.region ?_
                    refine Seg.y rfl rfl (Want.none rfl) (Y.loadN (vs := [.bool r1.ins, .bool r1.nl, .bool r1.ck, .bool r1.inv, .bool r1.org, .bool r1.aut, .bool r1.vis, .bool r1.paste, .bool r1.focus, .bool r1.sync, .bool r1.keypad, .int .i64 r1.mouse, .bool r1.sgr]) 1 rfl rfl rfl rfl ag23 sz23) ?_
                    refine Seg.y rfl rfl (Want.none rfl) (Y.move rfl) ?_
                    refine Seg.y rfl rfl (Want.none rfl) (Y.move rfl) ?_
                    obtain ⟨r34, hr34⟩ : ∃ x, x = lstate r1 true ((numbersS true).getD k6 (0 : Int)) false := ⟨_, rfl⟩
                    refine Seg.callV (v := .int .i64 r34) rfl rfl (Want.none rfl) (K.func rfl co26) (fun w hs => by rw [hr34]; exact lstate_c r1 true ((numbersS true).getD k6 (0 : Int)) false w ) ?_
                    refine Seg.y rfl rfl (Want.none rfl) (Y.assign rfl) ?_
                    refine Seg.nil ?_
                    refine Sx.next ?_
                    refine Sc.seq ?_
                    refine Sc.seq ?_
                    refine Sc.cut (fun (_ : Unit) => True) (fun (_ : Unit) => [(2, .bool dec), (3, .bool on), (9, .pointer (some ⟨b2, 0, none⟩)), (11, .int .i64 ((numbersS dec).getD q (0 : Int))), (12, .pointer (some ⟨b6, 0, none⟩)), (13, .bool (dec && ((decide (((numbersS dec).getD q (0 : Int)) = 9)) || ((decide ((1000 : Int) ≤ ((numbersS dec).getD q (0 : Int)))) && (decide (((numbersS dec).getD q (0 : Int)) ≤ 1003)))))), (16, .bool true), (17, .slice a27 ((numbersS true).length) c28), (18, .int .i64 (k6 : Int)), (19, .int .i64 ((numbersS true).getD k6 (0 : Int))), (21, .int .i64 r34), (71, .agg (List.toArray [.bool false, .bool true])), (72, .int .i64 1), (118, .bool (((dec && ((decide (((numbersS dec).getD q (0 : Int)) = 9)) || ((decide ((1000 : Int) ≤ ((numbersS dec).getD q (0 : Int)))) && (decide (((numbersS dec).getD q (0 : Int)) ≤ 1003))))) && ((decide (((numbersS true).getD k6 (0 : Int)) = 9)) || ((decide ((1000 : Int) ≤ ((numbersS true).getD k6 (0 : Int)))) && (decide (((numbersS true).getD k6 (0 : Int)) ≤ 1003))))) && on))]) (fun (_ : Unit) => [(some b6, .cells (List.toArray [.bool r5.ins, .bool r5.nl, .bool r5.ck, .bool r5.inv, .bool r5.org, .bool r5.aut, .bool r5.vis, .bool r5.paste, .bool r5.focus, .bool r5.sync, .bool r5.keypad, .int .i64 r5.mouse, .bool r5.sgr]) 23 (0, 0)), (some b2, .cells (List.toArray [.bool r1.ins, .bool r1.nl, .bool r1.ck, .bool r1.inv, .bool r1.org, .bool r1.aut, .bool r1.vis, .bool r1.paste, .bool r1.focus, .bool r1.sync, .bool r1.keypad, .int .i64 r1.mouse, .bool r1.sgr]) 23 (0, 0))]) (fun _ => fun w => (((True) ∧ RowV 1 encI a3 (numbersS dec) w) ∧ RowV 1 encI a15 (numbersS false) w) ∧ RowV 1 encI a27 (numbersS true) w) ?_ ?_
                    · skip
                      refine Sc.region ?_
                      refine Seg.y rfl rfl (Want.none rfl) (Y.move rfl) ?_
                      refine Seg.y rfl rfl (Want.none rfl) (Y.move rfl) ?_
                      rcases Bool.eq_false_or_eq_true (dec && ((decide (((numbersS dec).getD q (0 : Int)) = 9)) || ((decide ((1000 : Int) ≤ ((numbersS dec).getD q (0 : Int)))) && (decide (((numbersS dec).getD q (0 : Int)) ≤ 1003))))) with g35 | g35
                      · skip
                        refine Seg.y rfl rfl (Want.some 1 113 true rfl rfl rfl g35) (Y.move rfl) ?_
                        refine Seg.y rfl rfl (Want.none rfl) (Y.pickT rfl g35 rfl) ?_
                        refine Seg.y rfl rfl (Want.none rfl) (Y.move rfl) ?_
                        rcases Bool.eq_false_or_eq_true ((decide (((numbersS true).getD k6 (0 : Int)) = 9)) || ((decide ((1000 : Int) ≤ ((numbersS true).getD k6 (0 : Int)))) && (decide (((numbersS true).getD k6 (0 : Int)) ≤ 1003)))) with g36 | g36
                        · skip
                          refine Seg.y rfl rfl (Want.some 4 116 true rfl rfl rfl g36) (Y.move rfl) ?_
                          refine Seg.y rfl rfl (Want.none rfl) (Y.pickT rfl g36 rfl) ?_
                          refine Seg.nil ?_
                          exact Sx.cut () trivial ⟨rfl, rfl, rfl, rfl, rfl, rfl, rfl, rfl, rfl, rfl, rfl, rfl, rfl, (someB (by first | (simp [h10, h14, h17, h17p, h29, h29p, h31, g35, g36]; done) | (simp_all; done) | ((simp [h10, h14, h17, h17p, h29, h29p, h31, g35, g36]) <;> grind))), trivial⟩ [0, 1] (by decide) rfl (fun _ h => h)
                        · skip
                          refine Seg.skip rfl rfl (Skip.some 4 116 true rfl rfl rfl g36) ?_
                          refine Seg.y rfl rfl (Want.none rfl) (Y.pickF rfl g36 rfl) ?_
                          refine Seg.nil ?_
                          exact Sx.cut () trivial ⟨rfl, rfl, rfl, rfl, rfl, rfl, rfl, rfl, rfl, rfl, rfl, rfl, rfl, (someB (by first | (simp [h10, h14, h17, h17p, h29, h29p, h31, g35, g36]; done) | (simp_all; done) | ((simp [h10, h14, h17, h17p, h29, h29p, h31, g35, g36]) <;> grind))), trivial⟩ [0, 1] (by decide) rfl (fun _ h => h)
                      · skip
                        refine Seg.skip rfl rfl (Skip.some 1 113 true rfl rfl rfl g35) ?_
                        refine Seg.y rfl rfl (Want.none rfl) (Y.pickF rfl g35 rfl) ?_
                        refine Seg.y rfl rfl (Want.none rfl) (Y.move rfl) ?_
                        refine Seg.skip rfl rfl (Skip.some 4 116 true rfl rfl rfl rfl) ?_
                        refine Seg.y rfl rfl (Want.none rfl) (Y.pickF rfl rfl rfl) ?_
                        refine Seg.nil ?_
                        exact Sx.cut () trivial ⟨rfl, rfl, rfl, rfl, rfl, rfl, rfl, rfl, rfl, rfl, rfl, rfl, rfl, (someB (by first | (simp [h10, h14, h17, h17p, h29, h29p, h31, g35]; done) | (simp_all; done) | ((simp [h10, h14, h17, h17p, h29, h29p, h31, g35]) <;> grind))), trivial⟩ [0, 1] (by decide) rfl (fun _ h => h)
                    · intro _ _
                      show Sx _ _ _ [(2, .bool dec), (3, .bool on), (9, .pointer (some ⟨b2, 0, none⟩)), (11, .int .i64 ((numbersS dec).getD q (0 : Int))), (12, .pointer (some ⟨b6, 0, none⟩)), (13, .bool (dec && ((decide (((numbersS dec).getD q (0 : Int)) = 9)) || ((decide ((1000 : Int) ≤ ((numbersS dec).getD q (0 : Int)))) && (decide (((numbersS dec).getD q (0 : Int)) ≤ 1003)))))), (16, .bool true), (17, .slice a27 ((numbersS true).length) c28), (18, .int .i64 (k6 : Int)), (19, .int .i64 ((numbersS true).getD k6 (0 : Int))), (21, .int .i64 r34), (71, .agg (List.toArray [.bool false, .bool true])), (72, .int .i64 1), (118, .bool (((dec && ((decide (((numbersS dec).getD q (0 : Int)) = 9)) || ((decide ((1000 : Int) ≤ ((numbersS dec).getD q (0 : Int)))) && (decide (((numbersS dec).getD q (0 : Int)) ≤ 1003))))) && ((decide (((numbersS true).getD k6 (0 : Int)) = 9)) || ((decide ((1000 : Int) ≤ ((numbersS true).getD k6 (0 : Int)))) && (decide (((numbersS true).getD k6 (0 : Int)) ≤ 1003))))) && on))] [(some b6, .cells (List.toArray [.bool r5.ins, .bool r5.nl, .bool r5.ck, .bool r5.inv, .bool r5.org, .bool r5.aut, .bool r5.vis, .bool r5.paste, .bool r5.focus, .bool r5.sync, .bool r5.keypad, .int .i64 r5.mouse, .bool r5.sgr]) 23 (0, 0)), (some b2, .cells (List.toArray [.bool r1.ins, .bool r1.nl, .bool r1.ck, .bool r1.inv, .bool r1.org, .bool r1.aut, .bool r1.vis, .bool r1.paste, .bool r1.focus, .bool r1.sync, .bool r1.keypad, .int .i64 r1.mouse, .bool r1.sgr]) 23 (0, 0))] _
                      refine Sx.next ?_
                      refine Sc.cond rfl (fun h37 => ?_) (fun h37 => ?_)
                      · skip
                        refine Sc.region ?_
                        refine Seg.y rfl rfl (Want.none rfl) (Y.assign rfl) ?_
                        refine Seg.nil ?_
                        refine Sx.next ?_
                        refine Sc.seq ?_
                        refine Sc.region ?_
                        refine Seg.y rfl rfl (Want.none rfl) (Y.loadN (vs := [.bool r5.ins, .bool r5.nl, .bool r5.ck, .bool r5.inv, .bool r5.org, .bool r5.aut, .bool r5.vis, .bool r5.paste, .bool r5.focus, .bool r5.sync, .bool r5.keypad, .int .i64 r5.mouse, .bool r5.sgr]) 0 rfl rfl rfl rfl ag23 sz23) ?_
                        refine Seg.y rfl rfl (Want.none rfl) (Y.move rfl) ?_
                        refine Seg.y rfl rfl (Want.none rfl) (Y.move rfl) ?_
                        obtain ⟨r38, hr38⟩ : ∃ x, x = lstate r5 true ((numbersS true).getD k6 (0 : Int)) false := ⟨_, rfl⟩
                        refine Seg.callV (v := .int .i64 r38) rfl rfl (Want.none rfl) (K.func rfl co26) (fun w hs => by rw [hr38]; exact lstate_c r5 true ((numbersS true).getD k6 (0 : Int)) false w ) ?_
                        refine Seg.y rfl rfl (Want.none rfl) (Y.move rfl) ?_
                        refine Seg.y rfl rfl (Want.none rfl) (Y.binOp rfl rfl (B.ne _ _ _)) ?_
                        refine Seg.nil ?_
                        refine Sx.next ?_
                        refine Sc.cond rfl (fun h39 => ?_) (fun h39 => ?_)
                        · skip
                          have h39p := of_decide_eq_true h39
                          refine Sc.seq ?_
                          refine Sc.region ?_
                          refine Seg.y rfl rfl (Want.none rfl) (Y.assign rfl) ?_
                          refine Seg.nil ?_
                          refine Sx.next ?_
                          refine Sc.ret ?_
                          refine Sx.block_ret ?_
                          refine Sx.next_ret ?_
                          refine Sx.loop_ret ?_
                          refine Sx.block_ret ?_
                          refine Sx.block_ret ?_
                          refine Sx.next_ret ?_
                          refine Sx.loop_ret ?_
                          refine Sx.block_ret ?_
                          refine Sx.next_ret ?_
                          refine Sx.body (.inl rfl) (res1 rfl (Rv.tmp rfl)) (fun w hs => ?_)
                          refine RetV.eq ?_ hs
                          subst hr1
                          subst hr5
                          subst hr11
                          subst hr12
                          subst hr34
                          subst hr38
                          clear hs
                          have hc := of_check b
                          have hk := known_get dec q hql
                          have hk2 := known_get true k6 (by omega)
                          generalize (numbersS dec).getD q 0 = n at *
                          generalize (numbersS true).getD k6 0 = k at *
                          have a1 := al1 (ofS b) hc dec n on hk
                          have a2 := al2 (ofS b) hc dec n on hk
                          have a3 := al3 (ofS b) hc dec n on hk true k hk2 (by intro hh; simp_all)
                          exfalso; first | (simp_all [toldS]; done) | grind [toldS]
                        · skip
                          have h39p : r38 = 2 := by simpa using h39
                          refine Sc.skip ?_
                          refine Sx.block_normal ?_
                          refine Sx.next ?_
                          refine Sc.region ?_
                          refine Seg.y rfl rfl (Want.none rfl) (Y.move rfl) ?_
                          refine Seg.y rfl rfl (Want.none rfl) (Y.binOp rfl rfl (B.add _ _ _ ((k6 : Int) + 1) (wr_i64 (by omega)))) ?_
                          refine Seg.y rfl rfl (Want.none rfl) (Y.assign rfl) ?_
                          refine Seg.nil ?_
                          exact Sx.head (k6 + 1) (by first | omega | (simp at *; omega)) (by first | omega | (dsimp only; omega)) ⟨rfl, rfl, rfl, rfl, rfl, rfl, rfl, rfl, rfl, rfl, rfl, trivial⟩ [0, 1] (by decide) rfl (fun _ h => h)
                      · skip
                        refine Sc.skip ?_
                        refine Sx.next ?_
                        refine Sc.seq ?_
                        refine Sc.region ?_
                        refine Seg.y rfl rfl (Want.none rfl) (Y.loadN (vs := [.bool r5.ins, .bool r5.nl, .bool r5.ck, .bool r5.inv, .bool r5.org, .bool r5.aut, .bool r5.vis, .bool r5.paste, .bool r5.focus, .bool r5.sync, .bool r5.keypad, .int .i64 r5.mouse, .bool r5.sgr]) 0 rfl rfl rfl rfl ag23 sz23) ?_
                        refine Seg.y rfl rfl (Want.none rfl) (Y.move rfl) ?_
                        refine Seg.y rfl rfl (Want.none rfl) (Y.move rfl) ?_
                        obtain ⟨r40, hr40⟩ : ∃ x, x = lstate r5 true ((numbersS true).getD k6 (0 : Int)) false := ⟨_, rfl⟩
                        refine Seg.callV (v := .int .i64 r40) rfl rfl (Want.none rfl) (K.func rfl co26) (fun w hs => by rw [hr40]; exact lstate_c r5 true ((numbersS true).getD k6 (0 : Int)) false w ) ?_
                        refine Seg.y rfl rfl (Want.none rfl) (Y.move rfl) ?_
                        refine Seg.y rfl rfl (Want.none rfl) (Y.binOp rfl rfl (B.ne _ _ _)) ?_
                        refine Seg.nil ?_
                        refine Sx.next ?_
                        refine Sc.cond rfl (fun h41 => ?_) (fun h41 => ?_)
                        · skip
                          have h41p := of_decide_eq_true h41
                          refine Sc.seq ?_
                          refine Sc.region ?_
                          refine Seg.y rfl rfl (Want.none rfl) (Y.assign rfl) ?_
                          refine Seg.nil ?_
                          refine Sx.next ?_
                          refine Sc.ret ?_
                          refine Sx.block_ret ?_
                          refine Sx.next_ret ?_
                          refine Sx.loop_ret ?_
                          refine Sx.block_ret ?_
                          refine Sx.block_ret ?_
                          refine Sx.next_ret ?_
                          refine Sx.loop_ret ?_
                          refine Sx.block_ret ?_
                          refine Sx.next_ret ?_
                          refine Sx.body (.inl rfl) (res1 rfl (Rv.tmp rfl)) (fun w hs => ?_)
                          refine RetV.eq ?_ hs
                          subst hr1
                          subst hr5
                          subst hr11
                          subst hr12
                          subst hr34
                          subst hr40
                          clear hs
                          have hc := of_check b
                          have hk := known_get dec q hql
                          have hk2 := known_get true k6 (by omega)
                          generalize (numbersS dec).getD q 0 = n at *
                          generalize (numbersS true).getD k6 0 = k at *
                          have a1 := al1 (ofS b) hc dec n on hk
                          have a2 := al2 (ofS b) hc dec n on hk
                          have a3 := al3 (ofS b) hc dec n on hk true k hk2 (by intro hh; simp_all)
                          exfalso; first | (simp_all [toldS]; done) | grind [toldS]
                        · skip
                          have h41p : r40 = r34 := by simpa using h41
                          refine Sc.skip ?_
                          refine Sx.block_normal ?_
                          refine Sx.next ?_
                          refine Sc.region ?_
                          refine Seg.y rfl rfl (Want.none rfl) (Y.move rfl) ?_
                          refine Seg.y rfl rfl (Want.none rfl) (Y.binOp rfl rfl (B.add _ _ _ ((k6 : Int) + 1) (wr_i64 (by omega)))) ?_
                          refine Seg.y rfl rfl (Want.none rfl) (Y.assign rfl) ?_
                          refine Seg.nil ?_
                          exact Sx.head (k6 + 1) (by first | omega | (simp at *; omega)) (by first | omega | (dsimp only; omega)) ⟨rfl, rfl, rfl, rfl, rfl, rfl, rfl, rfl, rfl, rfl, rfl, trivial⟩ [0, 1] (by decide) rfl (fun _ h => h)
            · skip
              have h29p := of_decide_eq_false h29
              refine Sc.exit ?_
              refine Sx.next_exit ?_
              refine Sx.loop_exit ?_
              refine Sx.block_exit ?_
              refine Sx.block_normal ?_
              refine Sx.next ?_
              refine Sc.region ?_
              refine Seg.y rfl rfl (Want.none rfl) (Y.binOp rfl rfl (B.add _ _ _ 2 (by decide))) ?_
              refine Seg.y rfl rfl (Want.none rfl) (Y.move rfl) ?_
              refine Seg.nil ?_
              refine Sx.round ?_
              refine Sr.succ ?_
              refine Sc.seq ?_
              refine Sc.region ?_
              refine Seg.y rfl rfl (Want.none rfl) (Y.binOp (v := .bool false) rfl rfl (B.lt _ _ _)) ?_
              refine Seg.nil ?_
              refine Sx.next ?_
              refine Sc.seq ?_
              refine Sc.condF rfl rfl ?_
              refine Sc.exit ?_
              refine Sx.next_exit ?_
              refine Sx.loop_exit ?_
              refine Sx.block_exit ?_
              refine Sx.next ?_
              refine Sc.seq ?_
              refine Sc.region ?_
              refine Seg.y rfl rfl (Want.none rfl) (Y.loadN (vs := [.bool r1.ins, .bool r1.nl, .bool r1.ck, .bool r1.inv, .bool r1.org, .bool r1.aut, .bool r1.vis, .bool r1.paste, .bool r1.focus, .bool r1.sync, .bool r1.keypad, .int .i64 r1.mouse, .bool r1.sgr]) 1 rfl rfl rfl rfl ag23 sz23) ?_
              refine Seg.y rfl rfl (Want.none rfl) (Y.move rfl) ?_
              refine Seg.y rfl rfl (Want.none rfl) (Y.move rfl) ?_
              obtain ⟨r42, hr42⟩ : ∃ x, x = lstate r1 dec ((numbersS dec).getD q (0 : Int)) false := ⟨_, rfl⟩
              refine Seg.callV (v := .int .i64 r42) rfl rfl (Want.none rfl) (K.func rfl co26) (fun w hs => by rw [hr42]; exact lstate_c r1 dec ((numbersS dec).getD q (0 : Int)) false w ) ?_
              refine Seg.y rfl rfl (Want.none rfl) (Y.assign rfl) ?_
              refine Seg.nil ?_
              refine Sx.next ?_
              refine Sc.seq ?_
              obtain ⟨r43, hr43⟩ : ∃ x, x = lput r5 dec ((numbersS dec).getD q (0 : Int)) (decide (r42 = 1)) := ⟨_, rfl⟩
              refine Sc.cut (fun (_ : Unit) => True) (fun (_ : Unit) => [(8, .bool ((r5.keypad == r1.keypad) && ((((dec && ((decide (((numbersS dec).getD q (0 : Int)) = 9)) || ((decide ((1000 : Int) ≤ ((numbersS dec).getD q (0 : Int)))) && (decide (((numbersS dec).getD q (0 : Int)) ≤ 1003))))) && on) && (decide (r1.mouse ≠ 0))) || (MdEq r43 r1))))]) (fun (_ : Unit) => []) (fun _ => fun w => (((True) ∧ RowV 1 encI a3 (numbersS dec) w) ∧ RowV 1 encI a15 (numbersS false) w) ∧ RowV 1 encI a27 (numbersS true) w) ?_ ?_
              · skip
                refine Sc.draw (by kernel_rfl) (fun _ h => St.lean [0, 1] (by decide) (fun _ h => h) h rfl) ?_
                refine Sd.take 0 rfl rfl rfl (by kernel_rfl) (by kernel_rfl) (by kernel_rfl) Cut.panic (Want.none rfl) (Y.fieldAddr rfl (A.field Try.underlying23 rfl sz4 rfl rfl)) ?_
                refine Sd.take 1 rfl rfl rfl (by kernel_rfl) (by kernel_rfl) (by kernel_rfl) Cut.panic (Want.none rfl) (Y.load1 0 rfl rfl rfl ag4) ?_
                refine Sd.take 2 rfl rfl rfl (by kernel_rfl) (by kernel_rfl) (by kernel_rfl) Cut.panic (Want.none rfl) (Y.fieldAddr rfl (A.field Try.underlying23 rfl sz4 rfl rfl)) ?_
                refine Sd.take 3 rfl rfl rfl (by kernel_rfl) (by kernel_rfl) (by kernel_rfl) Cut.panic (Want.none rfl) (Y.load1 1 rfl rfl rfl ag4) ?_
                refine Sd.take 4 rfl rfl rfl (by kernel_rfl) (by kernel_rfl) (by kernel_rfl) Cut.panic (Want.none rfl) (Y.binOp rfl rfl (B.eqB _ _ Try.underlying4)) ?_
                refine Sd.take 5 rfl rfl rfl (by kernel_rfl) (by kernel_rfl) (by kernel_rfl) Cut.panic (Want.none rfl) (Y.move rfl) ?_
                rcases Bool.eq_false_or_eq_true (r5.keypad == r1.keypad) with g44 | g44
                · skip
                  refine Sd.take 6 rfl rfl rfl (by kernel_rfl) (by kernel_rfl) (by kernel_rfl) Cut.panic (Want.some 5 135 true rfl rfl rfl g44) (Y.move rfl) ?_
                  refine Sd.take 7 rfl rfl rfl (by kernel_rfl) (by kernel_rfl) (by kernel_rfl) Cut.panic (Want.some 5 135 true rfl rfl rfl g44) (Y.move rfl) ?_
                  rcases Bool.eq_false_or_eq_true (dec && ((decide (((numbersS dec).getD q (0 : Int)) = 9)) || ((decide ((1000 : Int) ≤ ((numbersS dec).getD q (0 : Int)))) && (decide (((numbersS dec).getD q (0 : Int)) ≤ 1003))))) with g45 | g45
                  · skip
                    refine Sd.take 8 rfl rfl rfl (by kernel_rfl) (by kernel_rfl) (by kernel_rfl) Cut.panic (Want.some 7 137 true rfl rfl rfl g45) (Y.move rfl) ?_
                    refine Sd.take 9 rfl rfl rfl (by kernel_rfl) (by kernel_rfl) (by kernel_rfl) Cut.panic (Want.some 5 135 true rfl rfl rfl g44) (Y.pickT rfl g45 rfl) ?_
                    refine Sd.take 10 rfl rfl rfl (by kernel_rfl) (by kernel_rfl) (by kernel_rfl) Cut.panic (Want.some 5 135 true rfl rfl rfl g44) (Y.move rfl) ?_
                    refine Sd.take 11 rfl rfl rfl (by kernel_rfl) (by kernel_rfl) (by kernel_rfl) Cut.panic (Want.some 10 140 true rfl rfl rfl h10) (Y.fieldAddr rfl (A.field Try.underlying23 rfl sz3 rfl rfl)) ?_
                    refine Sd.take 12 rfl rfl rfl (by kernel_rfl) (by kernel_rfl) (by kernel_rfl) Cut.panic (Want.some 10 140 true rfl rfl rfl h10) (Y.load1 1 rfl rfl rfl ag3) ?_
                    refine Sd.take 13 rfl rfl rfl (by kernel_rfl) (by kernel_rfl) (by kernel_rfl) Cut.panic (Want.some 10 140 true rfl rfl rfl h10) (Y.binOp rfl rfl (B.ne _ _ _)) ?_
                    refine Sd.take 14 rfl rfl rfl (by kernel_rfl) (by kernel_rfl) (by kernel_rfl) Cut.panic (Want.some 5 135 true rfl rfl rfl g44) (Y.pickT rfl h10 rfl) ?_
                    refine Sd.take 15 rfl rfl rfl (by kernel_rfl) (by kernel_rfl) (by kernel_rfl) Cut.panic (Want.some 5 135 true rfl rfl rfl g44) (Y.move rfl) ?_
                    rcases Bool.eq_false_or_eq_true (decide (r1.mouse ≠ 0)) with g46 | g46
                    · skip
                      have g46p := of_decide_eq_true g46
                      refine Sd.takeSkip 16 rfl rfl rfl (by kernel_rfl) (by kernel_rfl) (by kernel_rfl) Cut.panic (Skip.some 15 145 false rfl rfl rfl g46) ?_
                      refine Sd.takeSkip 17 rfl rfl rfl (by kernel_rfl) (by kernel_rfl) (by kernel_rfl) Cut.panic (Skip.some 15 145 false rfl rfl rfl g46) ?_
                      refine Sd.takeSkip 18 rfl rfl rfl (by kernel_rfl) (by kernel_rfl) (by kernel_rfl) Cut.panic (Skip.some 15 145 false rfl rfl rfl g46) ?_
                      refine Sd.takeSkip 19 rfl rfl rfl (by kernel_rfl) (by kernel_rfl) (by kernel_rfl) Cut.panic (Skip.some 15 145 false rfl rfl rfl g46) ?_
                      refine Sd.takeSkip 20 rfl rfl rfl (by kernel_rfl) (by kernel_rfl) (by kernel_rfl) Cut.panic (Skip.some 15 145 false rfl rfl rfl g46) ?_
                      refine Sd.takeSkip 21 rfl rfl rfl (by kernel_rfl) (by kernel_rfl) (by kernel_rfl) Cut.panic (Skip.some 15 145 false rfl rfl rfl g46) ?_
                      refine Sd.takeSkip 22 rfl rfl rfl (by kernel_rfl) (by kernel_rfl) (by kernel_rfl) Cut.panic (Skip.some 15 145 false rfl rfl rfl g46) ?_
                      refine Sd.takeSkip 23 rfl rfl rfl (by kernel_rfl) (by kernel_rfl) (by kernel_rfl) Cut.panic (Skip.some 15 145 false rfl rfl rfl g46) ?_
                      refine Sd.take 24 rfl rfl rfl (by kernel_rfl) (by kernel_rfl) (by kernel_rfl) Cut.panic (Want.some 5 135 true rfl rfl rfl g44) (Y.pickT rfl g46 rfl) ?_
                      refine Sd.take 25 rfl rfl rfl (by kernel_rfl) (by kernel_rfl) (by kernel_rfl) Cut.panic (Want.none rfl) (Y.pickT rfl g44 rfl) ?_
                      refine Sd.take 26 rfl rfl rfl (by kernel_rfl) (by kernel_rfl) (by kernel_rfl) Cut.panic (Want.none rfl) (Y.assign rfl) ?_
                      refine Sd.done (by kernel_rfl) ?_
                      exact Sx.cut () trivial ⟨(someB (by first | (simp [h10, h14, h17, h17p, h29, h29p, g44, g45, g46, g46p]; done) | (simp_all; done) | ((simp [h10, h14, h17, h17p, h29, h29p, g44, g45, g46, g46p]) <;> grind))), trivial⟩ [] (by decide) rfl (fun _ h => h)
                    · skip
                      have g46p : r1.mouse = 0 := by simpa using g46
                      refine Sd.take 16 rfl rfl rfl (by kernel_rfl) (by kernel_rfl) (by kernel_rfl) Cut.panic (Want.some 15 145 false rfl rfl rfl g46) (Y.loadN (vs := [.bool r5.ins, .bool r5.nl, .bool r5.ck, .bool r5.inv, .bool r5.org, .bool r5.aut, .bool r5.vis, .bool r5.paste, .bool r5.focus, .bool r5.sync, .bool r5.keypad, .int .i64 r5.mouse, .bool r5.sgr]) 0 rfl rfl rfl rfl ag23 sz23) ?_
                      refine Sd.take 17 rfl rfl rfl (by kernel_rfl) (by kernel_rfl) (by kernel_rfl) Cut.panic (Want.some 15 145 false rfl rfl rfl g46) (Y.move rfl) ?_
                      refine Sd.take 18 rfl rfl rfl (by kernel_rfl) (by kernel_rfl) (by kernel_rfl) Cut.panic (Want.some 15 145 false rfl rfl rfl g46) (Y.move rfl) ?_
                      refine Sd.take 19 rfl rfl rfl (by kernel_rfl) (by kernel_rfl) (by kernel_rfl) Cut.panic (Want.some 15 145 false rfl rfl rfl g46) (Y.move rfl) ?_
                      refine Sd.take 20 rfl rfl rfl (by kernel_rfl) (by kernel_rfl) (by kernel_rfl) Cut.panic (Want.some 15 145 false rfl rfl rfl g46) (Y.binOp rfl rfl (B.eq _ _ _)) ?_
                      refine Sd.take 22 rfl rfl rfl (by kernel_rfl) (by kernel_rfl) (by kernel_rfl) Cut.panic (Want.some 15 145 false rfl rfl rfl g46) (Y.loadN (vs := [.bool r1.ins, .bool r1.nl, .bool r1.ck, .bool r1.inv, .bool r1.org, .bool r1.aut, .bool r1.vis, .bool r1.paste, .bool r1.focus, .bool r1.sync, .bool r1.keypad, .int .i64 r1.mouse, .bool r1.sgr]) 1 rfl rfl rfl rfl ag23 sz23) ?_
                      refine Sd.all [21] (by kernel_rfl) (by decide) (all_cons ?_ all_nil)
                      refine Sp.callV (v := .agg (List.toArray [.bool r43.ins, .bool r43.nl, .bool r43.ck, .bool r43.inv, .bool r43.org, .bool r43.aut, .bool r43.vis, .bool r43.paste, .bool r43.focus, .bool r43.sync, .bool r43.keypad, .int .i64 r43.mouse, .bool r43.sgr])) rfl rfl rfl (Want.some 15 145 false rfl rfl rfl g46) (K.func rfl co24) (fun w hs => by rw [hr43]; exact lput_c r5 dec ((numbersS dec).getD q (0 : Int)) (decide (r42 = 1)) w ) ?_
                      refine Sd.take 23 rfl rfl rfl (by kernel_rfl) (by kernel_rfl) (by kernel_rfl) Cut.panic (Want.some 15 145 false rfl rfl rfl g46) (Y.binOp rfl rfl (B.eqS gq23 (Eqs.struct (n := 1) (b := MdEq r43 r1) Try.underlying23 sd23 (EqF.cons (b := r43.ins == r1.ins) rfl ag4 rfl rfl (Eqs.mono (m := 1) (Eqs.bool Try.underlying4) (by decide)) (EqF.cons (b := r43.nl == r1.nl) rfl ag4 rfl rfl (Eqs.mono (m := 1) (Eqs.bool Try.underlying4) (by decide)) (EqF.cons (b := r43.ck == r1.ck) rfl ag4 rfl rfl (Eqs.mono (m := 1) (Eqs.bool Try.underlying4) (by decide)) (EqF.cons (b := r43.inv == r1.inv) rfl ag4 rfl rfl (Eqs.mono (m := 1) (Eqs.bool Try.underlying4) (by decide)) (EqF.cons (b := r43.org == r1.org) rfl ag4 rfl rfl (Eqs.mono (m := 1) (Eqs.bool Try.underlying4) (by decide)) (EqF.cons (b := r43.aut == r1.aut) rfl ag4 rfl rfl (Eqs.mono (m := 1) (Eqs.bool Try.underlying4) (by decide)) (EqF.cons (b := r43.vis == r1.vis) rfl ag4 rfl rfl (Eqs.mono (m := 1) (Eqs.bool Try.underlying4) (by decide)) (EqF.cons (b := r43.paste == r1.paste) rfl ag4 rfl rfl (Eqs.mono (m := 1) (Eqs.bool Try.underlying4) (by decide)) (EqF.cons (b := r43.focus == r1.focus) rfl ag4 rfl rfl (Eqs.mono (m := 1) (Eqs.bool Try.underlying4) (by decide)) (EqF.cons (b := r43.sync == r1.sync) rfl ag4 rfl rfl (Eqs.mono (m := 1) (Eqs.bool Try.underlying4) (by decide)) (EqF.cons (b := r43.keypad == r1.keypad) rfl ag4 rfl rfl (Eqs.mono (m := 1) (Eqs.bool Try.underlying4) (by decide)) (EqF.cons (b := decide (r43.mouse = r1.mouse)) rfl ag3 rfl rfl (Eqs.mono (m := 1) (Eqs.int Try.underlying3) (by decide)) (EqF.cons (b := r43.sgr == r1.sgr) rfl ag4 rfl rfl (Eqs.mono (m := 1) (Eqs.bool Try.underlying4) (by decide)) (EqF.nil))))))))))))))) rfl)) ?_
                      refine Sd.take 24 rfl rfl rfl (by kernel_rfl) (by kernel_rfl) (by kernel_rfl) Cut.panic (Want.some 5 135 true rfl rfl rfl g44) (Y.pickF rfl g46 rfl) ?_
                      refine Sd.take 25 rfl rfl rfl (by kernel_rfl) (by kernel_rfl) (by kernel_rfl) Cut.panic (Want.none rfl) (Y.pickT rfl g44 rfl) ?_
                      refine Sd.take 26 rfl rfl rfl (by kernel_rfl) (by kernel_rfl) (by kernel_rfl) Cut.panic (Want.none rfl) (Y.assign rfl) ?_
                      refine Sd.done (by kernel_rfl) ?_
                      exact Sx.cut () trivial ⟨(someB (by first | (simp [h10, h14, h17, h17p, h29, h29p, g44, g45, g46, g46p]; done) | (simp_all; done) | ((simp [h10, h14, h17, h17p, h29, h29p, g44, g45, g46, g46p]) <;> grind))), trivial⟩ [] (by decide) rfl (fun _ h => h)
                  · skip
                    refine Sd.takeSkip 8 rfl rfl rfl (by kernel_rfl) (by kernel_rfl) (by kernel_rfl) Cut.panic (Skip.some 7 137 true rfl rfl rfl g45) ?_
                    refine Sd.take 9 rfl rfl rfl (by kernel_rfl) (by kernel_rfl) (by kernel_rfl) Cut.panic (Want.some 5 135 true rfl rfl rfl g44) (Y.pickF rfl g45 rfl) ?_
                    refine Sd.take 10 rfl rfl rfl (by kernel_rfl) (by kernel_rfl) (by kernel_rfl) Cut.panic (Want.some 5 135 true rfl rfl rfl g44) (Y.move rfl) ?_
                    refine Sd.takeSkip 11 rfl rfl rfl (by kernel_rfl) (by kernel_rfl) (by kernel_rfl) Cut.panic (Skip.some 10 140 true rfl rfl rfl rfl) ?_
                    refine Sd.takeSkip 12 rfl rfl rfl (by kernel_rfl) (by kernel_rfl) (by kernel_rfl) Cut.panic (Skip.some 10 140 true rfl rfl rfl rfl) ?_
                    refine Sd.takeSkip 13 rfl rfl rfl (by kernel_rfl) (by kernel_rfl) (by kernel_rfl) Cut.panic (Skip.some 10 140 true rfl rfl rfl rfl) ?_
                    refine Sd.take 14 rfl rfl rfl (by kernel_rfl) (by kernel_rfl) (by kernel_rfl) Cut.panic (Want.some 5 135 true rfl rfl rfl g44) (Y.pickF rfl rfl rfl) ?_
                    refine Sd.take 15 rfl rfl rfl (by kernel_rfl) (by kernel_rfl) (by kernel_rfl) Cut.panic (Want.some 5 135 true rfl rfl rfl g44) (Y.move rfl) ?_
                    refine Sd.take 16 rfl rfl rfl (by kernel_rfl) (by kernel_rfl) (by kernel_rfl) Cut.panic (Want.some 15 145 false rfl rfl rfl rfl) (Y.loadN (vs := [.bool r5.ins, .bool r5.nl, .bool r5.ck, .bool r5.inv, .bool r5.org, .bool r5.aut, .bool r5.vis, .bool r5.paste, .bool r5.focus, .bool r5.sync, .bool r5.keypad, .int .i64 r5.mouse, .bool r5.sgr]) 0 rfl rfl rfl rfl ag23 sz23) ?_
                    refine Sd.take 17 rfl rfl rfl (by kernel_rfl) (by kernel_rfl) (by kernel_rfl) Cut.panic (Want.some 15 145 false rfl rfl rfl rfl) (Y.move rfl) ?_
                    refine Sd.take 18 rfl rfl rfl (by kernel_rfl) (by kernel_rfl) (by kernel_rfl) Cut.panic (Want.some 15 145 false rfl rfl rfl rfl) (Y.move rfl) ?_
                    refine Sd.take 19 rfl rfl rfl (by kernel_rfl) (by kernel_rfl) (by kernel_rfl) Cut.panic (Want.some 15 145 false rfl rfl rfl rfl) (Y.move rfl) ?_
                    refine Sd.take 20 rfl rfl rfl (by kernel_rfl) (by kernel_rfl) (by kernel_rfl) Cut.panic (Want.some 15 145 false rfl rfl rfl rfl) (Y.binOp rfl rfl (B.eq _ _ _)) ?_
                    refine Sd.take 22 rfl rfl rfl (by kernel_rfl) (by kernel_rfl) (by kernel_rfl) Cut.panic (Want.some 15 145 false rfl rfl rfl rfl) (Y.loadN (vs := [.bool r1.ins, .bool r1.nl, .bool r1.ck, .bool r1.inv, .bool r1.org, .bool r1.aut, .bool r1.vis, .bool r1.paste, .bool r1.focus, .bool r1.sync, .bool r1.keypad, .int .i64 r1.mouse, .bool r1.sgr]) 1 rfl rfl rfl rfl ag23 sz23) ?_
                    refine Sd.all [21] (by kernel_rfl) (by decide) (all_cons ?_ all_nil)
                    refine Sp.callV (v := .agg (List.toArray [.bool r43.ins, .bool r43.nl, .bool r43.ck, .bool r43.inv, .bool r43.org, .bool r43.aut, .bool r43.vis, .bool r43.paste, .bool r43.focus, .bool r43.sync, .bool r43.keypad, .int .i64 r43.mouse, .bool r43.sgr])) rfl rfl rfl (Want.some 15 145 false rfl rfl rfl rfl) (K.func rfl co24) (fun w hs => by rw [hr43]; exact lput_c r5 dec ((numbersS dec).getD q (0 : Int)) (decide (r42 = 1)) w ) ?_
                    refine Sd.take 23 rfl rfl rfl (by kernel_rfl) (by kernel_rfl) (by kernel_rfl) Cut.panic (Want.some 15 145 false rfl rfl rfl rfl) (Y.binOp rfl rfl (B.eqS gq23 (Eqs.struct (n := 1) (b := MdEq r43 r1) Try.underlying23 sd23 (EqF.cons (b := r43.ins == r1.ins) rfl ag4 rfl rfl (Eqs.mono (m := 1) (Eqs.bool Try.underlying4) (by decide)) (EqF.cons (b := r43.nl == r1.nl) rfl ag4 rfl rfl (Eqs.mono (m := 1) (Eqs.bool Try.underlying4) (by decide)) (EqF.cons (b := r43.ck == r1.ck) rfl ag4 rfl rfl (Eqs.mono (m := 1) (Eqs.bool Try.underlying4) (by decide)) (EqF.cons (b := r43.inv == r1.inv) rfl ag4 rfl rfl (Eqs.mono (m := 1) (Eqs.bool Try.underlying4) (by decide)) (EqF.cons (b := r43.org == r1.org) rfl ag4 rfl rfl (Eqs.mono (m := 1) (Eqs.bool Try.underlying4) (by decide)) (EqF.cons (b := r43.aut == r1.aut) rfl ag4 rfl rfl (Eqs.mono (m := 1) (Eqs.bool Try.underlying4) (by decide)) (EqF.cons (b := r43.vis == r1.vis) rfl ag4 rfl rfl (Eqs.mono (m := 1) (Eqs.bool Try.underlying4) (by decide)) (EqF.cons (b := r43.paste == r1.paste) rfl ag4 rfl rfl (Eqs.mono (m := 1) (Eqs.bool Try.underlying4) (by decide)) (EqF.cons (b := r43.focus == r1.focus) rfl ag4 rfl rfl (Eqs.mono (m := 1) (Eqs.bool Try.underlying4) (by decide)) (EqF.cons (b := r43.sync == r1.sync) rfl ag4 rfl rfl (Eqs.mono (m := 1) (Eqs.bool Try.underlying4) (by decide)) (EqF.cons (b := r43.keypad == r1.keypad) rfl ag4 rfl rfl (Eqs.mono (m := 1) (Eqs.bool Try.underlying4) (by decide)) (EqF.cons (b := decide (r43.mouse = r1.mouse)) rfl ag3 rfl rfl (Eqs.mono (m := 1) (Eqs.int Try.underlying3) (by decide)) (EqF.cons (b := r43.sgr == r1.sgr) rfl ag4 rfl rfl (Eqs.mono (m := 1) (Eqs.bool Try.underlying4) (by decide)) (EqF.nil))))))))))))))) rfl)) ?_
                    refine Sd.take 24 rfl rfl rfl (by kernel_rfl) (by kernel_rfl) (by kernel_rfl) Cut.panic (Want.some 5 135 true rfl rfl rfl g44) (Y.pickF rfl rfl rfl) ?_
                    refine Sd.take 25 rfl rfl rfl (by kernel_rfl) (by kernel_rfl) (by kernel_rfl) Cut.panic (Want.none rfl) (Y.pickT rfl g44 rfl) ?_
                    refine Sd.take 26 rfl rfl rfl (by kernel_rfl) (by kernel_rfl) (by kernel_rfl) Cut.panic (Want.none rfl) (Y.assign rfl) ?_
                    refine Sd.done (by kernel_rfl) ?_
                    exact Sx.cut () trivial ⟨(someB (by first | (simp [h10, h14, h17, h17p, h29, h29p, g44, g45]; done) | (simp_all; done) | ((simp [h10, h14, h17, h17p, h29, h29p, g44, g45]) <;> grind))), trivial⟩ [] (by decide) rfl (fun _ h => h)
                · skip
                  refine Sd.takeSkip 6 rfl rfl rfl (by kernel_rfl) (by kernel_rfl) (by kernel_rfl) Cut.panic (Skip.some 5 135 true rfl rfl rfl g44) ?_
                  refine Sd.takeSkip 7 rfl rfl rfl (by kernel_rfl) (by kernel_rfl) (by kernel_rfl) Cut.panic (Skip.some 5 135 true rfl rfl rfl g44) ?_
                  refine Sd.takeSkip 8 rfl rfl rfl (by kernel_rfl) (by kernel_rfl) (by kernel_rfl) Cut.panic (Skip.undef 7 137 true rfl rfl rfl) ?_
                  refine Sd.takeSkip 9 rfl rfl rfl (by kernel_rfl) (by kernel_rfl) (by kernel_rfl) Cut.panic (Skip.some 5 135 true rfl rfl rfl g44) ?_
                  refine Sd.takeSkip 10 rfl rfl rfl (by kernel_rfl) (by kernel_rfl) (by kernel_rfl) Cut.panic (Skip.some 5 135 true rfl rfl rfl g44) ?_
                  refine Sd.takeSkip 11 rfl rfl rfl (by kernel_rfl) (by kernel_rfl) (by kernel_rfl) Cut.panic (Skip.undef 10 140 true rfl rfl rfl) ?_
                  refine Sd.takeSkip 12 rfl rfl rfl (by kernel_rfl) (by kernel_rfl) (by kernel_rfl) Cut.panic (Skip.undef 10 140 true rfl rfl rfl) ?_
                  refine Sd.takeSkip 13 rfl rfl rfl (by kernel_rfl) (by kernel_rfl) (by kernel_rfl) Cut.panic (Skip.undef 10 140 true rfl rfl rfl) ?_
                  refine Sd.takeSkip 14 rfl rfl rfl (by kernel_rfl) (by kernel_rfl) (by kernel_rfl) Cut.panic (Skip.some 5 135 true rfl rfl rfl g44) ?_
                  refine Sd.takeSkip 15 rfl rfl rfl (by kernel_rfl) (by kernel_rfl) (by kernel_rfl) Cut.panic (Skip.some 5 135 true rfl rfl rfl g44) ?_
                  refine Sd.takeSkip 16 rfl rfl rfl (by kernel_rfl) (by kernel_rfl) (by kernel_rfl) Cut.panic (Skip.undef 15 145 false rfl rfl rfl) ?_
                  refine Sd.takeSkip 17 rfl rfl rfl (by kernel_rfl) (by kernel_rfl) (by kernel_rfl) Cut.panic (Skip.undef 15 145 false rfl rfl rfl) ?_
                  refine Sd.takeSkip 18 rfl rfl rfl (by kernel_rfl) (by kernel_rfl) (by kernel_rfl) Cut.panic (Skip.undef 15 145 false rfl rfl rfl) ?_
                  refine Sd.takeSkip 19 rfl rfl rfl (by kernel_rfl) (by kernel_rfl) (by kernel_rfl) Cut.panic (Skip.undef 15 145 false rfl rfl rfl) ?_
                  refine Sd.takeSkip 20 rfl rfl rfl (by kernel_rfl) (by kernel_rfl) (by kernel_rfl) Cut.panic (Skip.undef 15 145 false rfl rfl rfl) ?_
                  refine Sd.takeSkip 21 rfl rfl rfl (by kernel_rfl) (by kernel_rfl) (by kernel_rfl) Cut.panic (Skip.undef 15 145 false rfl rfl rfl) ?_
                  refine Sd.takeSkip 22 rfl rfl rfl (by kernel_rfl) (by kernel_rfl) (by kernel_rfl) Cut.panic (Skip.undef 15 145 false rfl rfl rfl) ?_
                  refine Sd.takeSkip 23 rfl rfl rfl (by kernel_rfl) (by kernel_rfl) (by kernel_rfl) Cut.panic (Skip.undef 15 145 false rfl rfl rfl) ?_
                  refine Sd.takeSkip 24 rfl rfl rfl (by kernel_rfl) (by kernel_rfl) (by kernel_rfl) Cut.panic (Skip.some 5 135 true rfl rfl rfl g44) ?_
                  refine Sd.take 25 rfl rfl rfl (by kernel_rfl) (by kernel_rfl) (by kernel_rfl) Cut.panic (Want.none rfl) (Y.pickF rfl g44 rfl) ?_
                  refine Sd.take 26 rfl rfl rfl (by kernel_rfl) (by kernel_rfl) (by kernel_rfl) Cut.panic (Want.none rfl) (Y.assign rfl) ?_
                  refine Sd.done (by kernel_rfl) ?_
                  exact Sx.cut () trivial ⟨(someB (by first | (simp [h10, h14, h17, h17p, h29, h29p, g44]; done) | (simp_all; done) | ((simp [h10, h14, h17, h17p, h29, h29p, g44]) <;> grind))), trivial⟩ [] (by decide) rfl (fun _ h => h)
              · intro _ _
                show Sx _ _ _ [(8, .bool ((r5.keypad == r1.keypad) && ((((dec && ((decide (((numbersS dec).getD q (0 : Int)) = 9)) || ((decide ((1000 : Int) ≤ ((numbersS dec).getD q (0 : Int)))) && (decide (((numbersS dec).getD q (0 : Int)) ≤ 1003))))) && on) && (decide (r1.mouse ≠ 0))) || (MdEq r43 r1))))] [] _
                refine Sx.next ?_
                refine Sc.ret ?_
                refine Sx.body (.inl rfl) (res1 rfl (Rv.tmp rfl)) (fun w hs => ?_)
                refine RetV.eq ?_ hs
                subst hr1
                subst hr5
                subst hr11
                subst hr12
                subst hr42
                subst hr43
                clear hs
                have hc := of_check b
                have hk := known_get dec q hql
                generalize (numbersS dec).getD q 0 = n at *
                have a1 := al1 (ofS b) hc dec n on hk
                have a2 := al2 (ofS b) hc dec n on hk
                have a4 := al4 (ofS b) hc dec n on hk
                refine congrArg Value.bool ?_
                by_cases hm : ((dec = true ∧ (n = 9 ∨ 1000 ≤ n ∧ n ≤ 1003)) ∧ on = true ∧ (ofS b).mouse ≠ 0)
                · clear a1 a2; simp_all
                · have a5 := al5 (ofS b) hc dec n on hk hm; clear a1 a2 hm; simp_all
    · skip
      refine Sc.skip ?_
      refine Sx.next ?_
      refine Sc.seq ?_
      refine Sc.seq ?_
      obtain ⟨r47, hr47⟩ : ∃ x, x = lstate r5 dec ((numbersS dec).getD q (0 : Int)) false := ⟨_, rfl⟩
      obtain ⟨r48, hr48⟩ : ∃ x, x = lput r5 dec ((numbersS dec).getD q (0 : Int)) on := ⟨_, rfl⟩
      refine Sc.cut (fun (_ : Unit) => True) (fun (_ : Unit) => [(2, .bool dec), (3, .bool on), (9, .pointer (some ⟨b2, 0, none⟩)), (11, .int .i64 ((numbersS dec).getD q (0 : Int))), (12, .pointer (some ⟨b6, 0, none⟩)), (13, .bool (dec && ((decide (((numbersS dec).getD q (0 : Int)) = 9)) || ((decide ((1000 : Int) ≤ ((numbersS dec).getD q (0 : Int)))) && (decide (((numbersS dec).getD q (0 : Int)) ≤ 1003)))))), (70, .bool ((decide (r47 ≠ 2)) || (!(MdEq r48 r5))))]) (fun (_ : Unit) => [(some b6, .cells (List.toArray [.bool r5.ins, .bool r5.nl, .bool r5.ck, .bool r5.inv, .bool r5.org, .bool r5.aut, .bool r5.vis, .bool r5.paste, .bool r5.focus, .bool r5.sync, .bool r5.keypad, .int .i64 r5.mouse, .bool r5.sgr]) 23 (0, 0)), (some b2, .cells (List.toArray [.bool r1.ins, .bool r1.nl, .bool r1.ck, .bool r1.inv, .bool r1.org, .bool r1.aut, .bool r1.vis, .bool r1.paste, .bool r1.focus, .bool r1.sync, .bool r1.keypad, .int .i64 r1.mouse, .bool r1.sgr]) 23 (0, 0))]) (fun _ => fun w => (True) ∧ RowV 1 encI a3 (numbersS dec) w) ?_ ?_
      · skip
        refine Sc.draw (by kernel_rfl) (fun _ h => St.lean [0, 1] (by decide) (fun _ h => h) h rfl) ?_
        refine Sd.take 0 rfl rfl rfl (by kernel_rfl) (by kernel_rfl) (by kernel_rfl) Cut.panic (Want.none rfl) (Y.loadN (vs := [.bool r5.ins, .bool r5.nl, .bool r5.ck, .bool r5.inv, .bool r5.org, .bool r5.aut, .bool r5.vis, .bool r5.paste, .bool r5.focus, .bool r5.sync, .bool r5.keypad, .int .i64 r5.mouse, .bool r5.sgr]) 0 rfl rfl rfl rfl ag23 sz23) ?_
        refine Sd.take 1 rfl rfl rfl (by kernel_rfl) (by kernel_rfl) (by kernel_rfl) Cut.panic (Want.none rfl) (Y.move rfl) ?_
        refine Sd.take 2 rfl rfl rfl (by kernel_rfl) (by kernel_rfl) (by kernel_rfl) Cut.panic (Want.none rfl) (Y.move rfl) ?_
        refine Sd.take 4 rfl rfl rfl (by kernel_rfl) (by kernel_rfl) (by kernel_rfl) Cut.panic (Want.none rfl) (Y.move rfl) ?_
        refine Sd.all [3] (by kernel_rfl) (by decide) (all_cons ?_ all_nil)
        refine Sp.callV (v := .int .i64 r47) rfl rfl rfl (Want.none rfl) (K.func rfl co26) (fun w hs => by rw [hr47]; exact lstate_c r5 dec ((numbersS dec).getD q (0 : Int)) false w ) ?_
        refine Sd.take 5 rfl rfl rfl (by kernel_rfl) (by kernel_rfl) (by kernel_rfl) Cut.panic (Want.none rfl) (Y.binOp rfl rfl (B.ne _ _ _)) ?_
        refine Sd.take 6 rfl rfl rfl (by kernel_rfl) (by kernel_rfl) (by kernel_rfl) Cut.panic (Want.none rfl) (Y.move rfl) ?_
        rcases Bool.eq_false_or_eq_true (decide (r47 ≠ 2)) with g49 | g49
        · skip
          have g49p := of_decide_eq_true g49
          refine Sd.takeSkip 7 rfl rfl rfl (by kernel_rfl) (by kernel_rfl) (by kernel_rfl) Cut.panic (Skip.some 6 62 false rfl rfl rfl g49) ?_
          refine Sd.takeSkip 8 rfl rfl rfl (by kernel_rfl) (by kernel_rfl) (by kernel_rfl) Cut.panic (Skip.some 6 62 false rfl rfl rfl g49) ?_
          refine Sd.takeSkip 9 rfl rfl rfl (by kernel_rfl) (by kernel_rfl) (by kernel_rfl) Cut.panic (Skip.some 6 62 false rfl rfl rfl g49) ?_
          refine Sd.takeSkip 10 rfl rfl rfl (by kernel_rfl) (by kernel_rfl) (by kernel_rfl) Cut.panic (Skip.some 6 62 false rfl rfl rfl g49) ?_
          refine Sd.takeSkip 11 rfl rfl rfl (by kernel_rfl) (by kernel_rfl) (by kernel_rfl) Cut.panic (Skip.some 6 62 false rfl rfl rfl g49) ?_
          refine Sd.takeSkip 12 rfl rfl rfl (by kernel_rfl) (by kernel_rfl) (by kernel_rfl) Cut.panic (Skip.some 6 62 false rfl rfl rfl g49) ?_
          refine Sd.takeSkip 13 rfl rfl rfl (by kernel_rfl) (by kernel_rfl) (by kernel_rfl) Cut.panic (Skip.some 6 62 false rfl rfl rfl g49) ?_
          refine Sd.take 14 rfl rfl rfl (by kernel_rfl) (by kernel_rfl) (by kernel_rfl) Cut.panic (Want.none rfl) (Y.pickT rfl g49 rfl) ?_
          refine Sd.done (by kernel_rfl) ?_
          exact Sx.cut () trivial ⟨rfl, rfl, rfl, rfl, rfl, rfl, (someB (by first | (simp [h10, g49, g49p]; done) | (simp_all; done) | ((simp [h10, g49, g49p]) <;> grind))), trivial⟩ [0, 1] (by decide) rfl (fun _ h => h)
        · skip
          have g49p : r47 = 2 := by simpa using g49
          refine Sd.take 7 rfl rfl rfl (by kernel_rfl) (by kernel_rfl) (by kernel_rfl) Cut.panic (Want.some 6 62 false rfl rfl rfl g49) (Y.loadN (vs := [.bool r5.ins, .bool r5.nl, .bool r5.ck, .bool r5.inv, .bool r5.org, .bool r5.aut, .bool r5.vis, .bool r5.paste, .bool r5.focus, .bool r5.sync, .bool r5.keypad, .int .i64 r5.mouse, .bool r5.sgr]) 0 rfl rfl rfl rfl ag23 sz23) ?_
          refine Sd.take 8 rfl rfl rfl (by kernel_rfl) (by kernel_rfl) (by kernel_rfl) Cut.panic (Want.some 6 62 false rfl rfl rfl g49) (Y.move rfl) ?_
          refine Sd.take 9 rfl rfl rfl (by kernel_rfl) (by kernel_rfl) (by kernel_rfl) Cut.panic (Want.some 6 62 false rfl rfl rfl g49) (Y.move rfl) ?_
          refine Sd.take 10 rfl rfl rfl (by kernel_rfl) (by kernel_rfl) (by kernel_rfl) Cut.panic (Want.some 6 62 false rfl rfl rfl g49) (Y.move rfl) ?_
          refine Sd.take 12 rfl rfl rfl (by kernel_rfl) (by kernel_rfl) (by kernel_rfl) Cut.panic (Want.some 6 62 false rfl rfl rfl g49) (Y.loadN (vs := [.bool r5.ins, .bool r5.nl, .bool r5.ck, .bool r5.inv, .bool r5.org, .bool r5.aut, .bool r5.vis, .bool r5.paste, .bool r5.focus, .bool r5.sync, .bool r5.keypad, .int .i64 r5.mouse, .bool r5.sgr]) 0 rfl rfl rfl rfl ag23 sz23) ?_
          refine Sd.all [11] (by kernel_rfl) (by decide) (all_cons ?_ all_nil)
          refine Sp.callV (v := .agg (List.toArray [.bool r48.ins, .bool r48.nl, .bool r48.ck, .bool r48.inv, .bool r48.org, .bool r48.aut, .bool r48.vis, .bool r48.paste, .bool r48.focus, .bool r48.sync, .bool r48.keypad, .int .i64 r48.mouse, .bool r48.sgr])) rfl rfl rfl (Want.some 6 62 false rfl rfl rfl g49) (K.func rfl co24) (fun w hs => by rw [hr48]; exact lput_c r5 dec ((numbersS dec).getD q (0 : Int)) on w ) ?_
          refine Sd.take 13 rfl rfl rfl (by kernel_rfl) (by kernel_rfl) (by kernel_rfl) Cut.panic (Want.some 6 62 false rfl rfl rfl g49) (Y.binOp rfl rfl (B.neS gq23 (Eqs.struct (n := 1) (b := MdEq r48 r5) Try.underlying23 sd23 (EqF.cons (b := r48.ins == r5.ins) rfl ag4 rfl rfl (Eqs.mono (m := 1) (Eqs.bool Try.underlying4) (by decide)) (EqF.cons (b := r48.nl == r5.nl) rfl ag4 rfl rfl (Eqs.mono (m := 1) (Eqs.bool Try.underlying4) (by decide)) (EqF.cons (b := r48.ck == r5.ck) rfl ag4 rfl rfl (Eqs.mono (m := 1) (Eqs.bool Try.underlying4) (by decide)) (EqF.cons (b := r48.inv == r5.inv) rfl ag4 rfl rfl (Eqs.mono (m := 1) (Eqs.bool Try.underlying4) (by decide)) (EqF.cons (b := r48.org == r5.org) rfl ag4 rfl rfl (Eqs.mono (m := 1) (Eqs.bool Try.underlying4) (by decide)) (EqF.cons (b := r48.aut == r5.aut) rfl ag4 rfl rfl (Eqs.mono (m := 1) (Eqs.bool Try.underlying4) (by decide)) (EqF.cons (b := r48.vis == r5.vis) rfl ag4 rfl rfl (Eqs.mono (m := 1) (Eqs.bool Try.underlying4) (by decide)) (EqF.cons (b := r48.paste == r5.paste) rfl ag4 rfl rfl (Eqs.mono (m := 1) (Eqs.bool Try.underlying4) (by decide)) (EqF.cons (b := r48.focus == r5.focus) rfl ag4 rfl rfl (Eqs.mono (m := 1) (Eqs.bool Try.underlying4) (by decide)) (EqF.cons (b := r48.sync == r5.sync) rfl ag4 rfl rfl (Eqs.mono (m := 1) (Eqs.bool Try.underlying4) (by decide)) (EqF.cons (b := r48.keypad == r5.keypad) rfl ag4 rfl rfl (Eqs.mono (m := 1) (Eqs.bool Try.underlying4) (by decide)) (EqF.cons (b := decide (r48.mouse = r5.mouse)) rfl ag3 rfl rfl (Eqs.mono (m := 1) (Eqs.int Try.underlying3) (by decide)) (EqF.cons (b := r48.sgr == r5.sgr) rfl ag4 rfl rfl (Eqs.mono (m := 1) (Eqs.bool Try.underlying4) (by decide)) (EqF.nil))))))))))))))) rfl)) ?_
          refine Sd.take 14 rfl rfl rfl (by kernel_rfl) (by kernel_rfl) (by kernel_rfl) Cut.panic (Want.none rfl) (Y.pickF rfl g49 rfl) ?_
          refine Sd.done (by kernel_rfl) ?_
          exact Sx.cut () trivial ⟨rfl, rfl, rfl, rfl, rfl, rfl, (someB (by first | (simp [h10, g49, g49p]; done) | (simp_all; done) | ((simp [h10, g49, g49p]) <;> grind))), trivial⟩ [0, 1] (by decide) rfl (fun _ h => h)
      · intro _ _
        show Sx _ _ _ [(2, .bool dec), (3, .bool on), (9, .pointer (some ⟨b2, 0, none⟩)), (11, .int .i64 ((numbersS dec).getD q (0 : Int))), (12, .pointer (some ⟨b6, 0, none⟩)), (13, .bool (dec && ((decide (((numbersS dec).getD q (0 : Int)) = 9)) || ((decide ((1000 : Int) ≤ ((numbersS dec).getD q (0 : Int)))) && (decide (((numbersS dec).getD q (0 : Int)) ≤ 1003)))))), (70, .bool ((decide (r47 ≠ 2)) || (!(MdEq r48 r5))))] [(some b6, .cells (List.toArray [.bool r5.ins, .bool r5.nl, .bool r5.ck, .bool r5.inv, .bool r5.org, .bool r5.aut, .bool r5.vis, .bool r5.paste, .bool r5.focus, .bool r5.sync, .bool r5.keypad, .int .i64 r5.mouse, .bool r5.sgr]) 23 (0, 0)), (some b2, .cells (List.toArray [.bool r1.ins, .bool r1.nl, .bool r1.ck, .bool r1.inv, .bool r1.org, .bool r1.aut, .bool r1.vis, .bool r1.paste, .bool r1.focus, .bool r1.sync, .bool r1.keypad, .int .i64 r1.mouse, .bool r1.sgr]) 23 (0, 0))] _
        refine Sx.next ?_
        refine Sc.cond rfl (fun h50 => ?_) (fun h50 => ?_)
        · skip
          refine Sc.seq ?_
          refine Sc.region ?_
          refine Seg.y rfl rfl (Want.none rfl) (Y.assign rfl) ?_
          refine Seg.nil ?_
          refine Sx.next ?_
          refine Sc.ret ?_
          refine Sx.next_ret ?_
          refine Sx.body (.inl rfl) (res1 rfl (Rv.tmp rfl)) (fun w hs => ?_)
          refine RetV.eq ?_ hs
          subst hr1
          subst hr5
          subst hr47
          subst hr48
          clear hs
          have hc := of_check b
          have hk := known_get dec q hql
          generalize (numbersS dec).getD q 0 = n at *
          have a1 := al1 (ofS b) hc dec n on hk
          have a2 := al2 (ofS b) hc dec n on hk
          exfalso; first | (simp_all [toldS]; done) | grind [toldS]
        · skip
          refine Sc.skip ?_
          refine Sx.next ?_
          refine Sc.seq ?_
          refine Sc.seq ?_
          refine Sc.region ?_
          refine Seg.y rfl rfl (Want.none rfl) (Y.build (v := .agg (List.toArray [.bool false, .bool true])) rfl (fun w => by kernel_rfl)) ?_
          refine Seg.y rfl rfl (Want.none rfl) (Y.move rfl) ?_
          refine Seg.nil ?_
          refine Sx.next ?_
          refine Sc.block ?_
          refine Sc.rounds 3 ?_
          refine Sr.succ ?_
          refine Sc.seq ?_
          refine Sc.region ?_
          refine Seg.y rfl rfl (Want.none rfl) (Y.binOp (v := .bool true) rfl rfl (B.lt _ _ _)) ?_
          refine Seg.nil ?_
          refine Sx.next ?_
          refine Sc.seq ?_
          refine Sc.condT rfl rfl ?_
          refine Sc.skip ?_
          refine Sx.next ?_
          refine Sc.seq ?_
          refine Sc.block ?_
          refine Sc.seq ?_
          refine Sc.region ?_
          refine Seg.y rfl rfl (Want.none rfl) (Y.index (v := .bool false) rfl rfl (fun w => by kernel_rfl)) ?_
          refine Seg.y rfl rfl (Want.none rfl) (Y.assign rfl) ?_
          refine Seg.nil ?_
          refine Sx.next ?_
          refine Sc.seq ?_
          refine Sc.region ?_
          refine Seg.y rfl rfl (Want.none rfl) (Y.move rfl) ?_
          refine Seg.callR (val := fun ((a51, c52) : Option Addr × Nat) => .slice a51 ((numbersS false).length) c52) (Φ := fun ((a51, c52) : Option Addr × Nat) => fun w => RowV 1 encI a51 (numbersS false) w) rfl rfl (Want.none rfl) (K.func rfl co25) (fun w hs => numbers_c false _ w hs.dc_lt   ) (fun ⟨a51, c52⟩ => ?_)
          refine Seg.y rfl rfl (Want.none rfl) (Y.assign rfl) ?_
          refine Seg.nil ?_
          refine Sx.next ?_
          refine Sc.seq ?_
          refine Sc.region ?_
          refine Seg.y rfl rfl (Want.none rfl) (Y.assign rfl) ?_
          refine Seg.nil ?_
          refine Sx.next ?_
          refine Sc.block ?_
          refine Sc.loop (fun (k7 : Nat) => k7 ≤ (numbersS false).length) (fun (k7 : Nat) => (numbersS false).length - k7) (fun (k7 : Nat) => [(2, .bool dec), (3, .bool on), (9, .pointer (some ⟨b2, 0, none⟩)), (11, .int .i64 ((numbersS dec).getD q (0 : Int))), (12, .pointer (some ⟨b6, 0, none⟩)), (13, .bool (dec && ((decide (((numbersS dec).getD q (0 : Int)) = 9)) || ((decide ((1000 : Int) ≤ ((numbersS dec).getD q (0 : Int)))) && (decide (((numbersS dec).getD q (0 : Int)) ≤ 1003)))))), (16, .bool false), (17, .slice a51 ((numbersS false).length) c52), (18, .int .i64 (k7 : Int)), (71, .agg (List.toArray [.bool false, .bool true])), (72, .int .i64 0)]) (fun (k7 : Nat) => [(some b6, .cells (List.toArray [.bool r5.ins, .bool r5.nl, .bool r5.ck, .bool r5.inv, .bool r5.org, .bool r5.aut, .bool r5.vis, .bool r5.paste, .bool r5.focus, .bool r5.sync, .bool r5.keypad, .int .i64 r5.mouse, .bool r5.sgr]) 23 (0, 0)), (some b2, .cells (List.toArray [.bool r1.ins, .bool r1.nl, .bool r1.ck, .bool r1.inv, .bool r1.org, .bool r1.aut, .bool r1.vis, .bool r1.paste, .bool r1.focus, .bool r1.sync, .bool r1.keypad, .int .i64 r1.mouse, .bool r1.sgr]) 23 (0, 0))]) (fun (k7 : Nat) => fun w => ((True) ∧ RowV 1 encI a3 (numbersS dec) w) ∧ RowV 1 encI a51 (numbersS false) w) 0 (Nat.zero_le _) (by exact ⟨rfl, rfl, rfl, rfl, rfl, rfl, rfl, rfl, rfl, rfl, rfl, trivial⟩) [0, 1] (by decide) rfl (fun _ h => h) ?_
          rintro k7 hJ1
          have hk7 := hJ1
          have hln7 := num_le false
          show Sc _ _ _ _ [(2, .bool dec), (3, .bool on), (9, .pointer (some ⟨b2, 0, none⟩)), (11, .int .i64 ((numbersS dec).getD q (0 : Int))), (12, .pointer (some ⟨b6, 0, none⟩)), (13, .bool (dec && ((decide (((numbersS dec).getD q (0 : Int)) = 9)) || ((decide ((1000 : Int) ≤ ((numbersS dec).getD q (0 : Int)))) && (decide (((numbersS dec).getD q (0 : Int)) ≤ 1003)))))), (16, .bool false), (17, .slice a51 ((numbersS false).length) c52), (18, .int .i64 (k7 : Int)), (71, .agg (List.toArray [.bool false, .bool true])), (72, .int .i64 0)] [(some b6, .cells (List.toArray [.bool r5.ins, .bool r5.nl, .bool r5.ck, .bool r5.inv, .bool r5.org, .bool r5.aut, .bool r5.vis, .bool r5.paste, .bool r5.focus, .bool r5.sync, .bool r5.keypad, .int .i64 r5.mouse, .bool r5.sgr]) 23 (0, 0)), (some b2, .cells (List.toArray [.bool r1.ins, .bool r1.nl, .bool r1.ck, .bool r1.inv, .bool r1.org, .bool r1.aut, .bool r1.vis, .bool r1.paste, .bool r1.focus, .bool r1.sync, .bool r1.keypad, .int .i64 r1.mouse, .bool r1.sgr]) 23 (0, 0))] (fun w => ((True) ∧ RowV 1 encI a3 (numbersS dec) w) ∧ RowV 1 encI a51 (numbersS false) w)
          refine Sc.seq ?_
          refine Sc.seq ?_
          refine Sc.region ?_
          refine Seg.y rfl rfl (Want.none rfl) (Y.move rfl) ?_
          refine Seg.y rfl rfl (Want.none rfl) (Y.move rfl) ?_
          refine Seg.y rfl rfl (Want.none rfl) (Y.bi rfl (fun w _ => run_len rfl Try.underlying25 w)) ?_
          refine Seg.y rfl rfl (Want.none rfl) (Y.binOp rfl rfl (B.lt _ _ _)) ?_
          refine Seg.nil ?_
          refine Sx.next ?_
          refine Sc.cond rfl (fun h53 => ?_) (fun h53 => ?_)
          · skip
            have h53p := of_decide_eq_true h53
            refine Sc.skip ?_
            refine Sx.next ?_
            refine Sc.seq ?_
            refine Sc.block ?_
            refine Sc.seq ?_
            refine Sc.region ?_
            refine Seg.y rfl rfl (Want.none rfl) (Y.move rfl) ?_
            refine Seg.y rfl rfl (Want.none rfl) (Y.move rfl) ?_
            refine Seg.y rfl rfl (Want.none rfl) (Y.elemAddr rfl rfl Try.underlying25 sz3 (fun w h => ((h.2) k7 _ (getD_some (0 : Int) (by omega))).1) (by omega) (by omega) (by simp : (sadr a51).off + ((k7 : Int)).toNat * 1 = (sadr a51).off + k7 * 1)) ?_
            refine Seg.y rfl rfl (Want.none rfl) (Y.loadF1 rfl ag3 (fun w h => ((h.2) k7 _ (getD_some (0 : Int) (by omega))).2 0 _ rfl)) ?_
            refine Seg.y rfl rfl (Want.none rfl) (Y.assign rfl) ?_
            refine Seg.nil ?_
            refine Sx.next ?_
            refine Sc.seq ?_
            refine Sc.seq ?_
            refine Sc.cut (fun (_ : Unit) => True) (fun (_ : Unit) => [(2, .bool dec), (3, .bool on), (9, .pointer (some ⟨b2, 0, none⟩)), (11, .int .i64 ((numbersS dec).getD q (0 : Int))), (12, .pointer (some ⟨b6, 0, none⟩)), (13, .bool (dec && ((decide (((numbersS dec).getD q (0 : Int)) = 9)) || ((decide ((1000 : Int) ≤ ((numbersS dec).getD q (0 : Int)))) && (decide (((numbersS dec).getD q (0 : Int)) ≤ 1003)))))), (16, .bool false), (17, .slice a51 ((numbersS false).length) c52), (18, .int .i64 (k7 : Int)), (19, .int .i64 ((numbersS false).getD k7 (0 : Int))), (71, .agg (List.toArray [.bool false, .bool true])), (72, .int .i64 0), (94, .bool ((false == dec) && (decide (((numbersS false).getD k7 (0 : Int)) = ((numbersS dec).getD q (0 : Int))))))]) (fun (_ : Unit) => [(some b6, .cells (List.toArray [.bool r5.ins, .bool r5.nl, .bool r5.ck, .bool r5.inv, .bool r5.org, .bool r5.aut, .bool r5.vis, .bool r5.paste, .bool r5.focus, .bool r5.sync, .bool r5.keypad, .int .i64 r5.mouse, .bool r5.sgr]) 23 (0, 0)), (some b2, .cells (List.toArray [.bool r1.ins, .bool r1.nl, .bool r1.ck, .bool r1.inv, .bool r1.org, .bool r1.aut, .bool r1.vis, .bool r1.paste, .bool r1.focus, .bool r1.sync, .bool r1.keypad, .int .i64 r1.mouse, .bool r1.sgr]) 23 (0, 0))]) (fun _ => fun w => ((True) ∧ RowV 1 encI a3 (numbersS dec) w) ∧ RowV 1 encI a51 (numbersS false) w) ?_ ?_
            · skip
              refine Sc.region ?_
              refine Seg.y rfl rfl (Want.none rfl) (Y.move rfl) ?_
              refine Seg.y rfl rfl (Want.none rfl) (Y.move rfl) ?_
              refine Seg.y rfl rfl (Want.none rfl) (Y.binOp rfl rfl (B.eqB _ _ Try.underlying4)) ?_
              refine Seg.y rfl rfl (Want.none rfl) (Y.move rfl) ?_
              rcases Bool.eq_false_or_eq_true (false == dec) with g54 | g54
              · skip
                refine Seg.y rfl rfl (Want.some 3 90 true rfl rfl rfl g54) (Y.move rfl) ?_
                refine Seg.y rfl rfl (Want.some 3 90 true rfl rfl rfl g54) (Y.move rfl) ?_
                refine Seg.y rfl rfl (Want.some 3 90 true rfl rfl rfl g54) (Y.binOp rfl rfl (B.eq _ _ _)) ?_
                refine Seg.y rfl rfl (Want.none rfl) (Y.pickT rfl g54 rfl) ?_
                refine Seg.nil ?_
                exact Sx.cut () trivial ⟨rfl, rfl, rfl, rfl, rfl, rfl, rfl, rfl, rfl, rfl, rfl, rfl, (someB (by first | (simp [h10, h50, h53, h53p, g54]; done) | (simp_all; done) | ((simp [h10, h50, h53, h53p, g54]) <;> grind))), trivial⟩ [0, 1] (by decide) rfl (fun _ h => h)
              · skip
                refine Seg.skip rfl rfl (Skip.some 3 90 true rfl rfl rfl g54) ?_
                refine Seg.skip rfl rfl (Skip.some 3 90 true rfl rfl rfl g54) ?_
                refine Seg.skip rfl rfl (Skip.some 3 90 true rfl rfl rfl g54) ?_
                refine Seg.y rfl rfl (Want.none rfl) (Y.pickF rfl g54 rfl) ?_
                refine Seg.nil ?_
                exact Sx.cut () trivial ⟨rfl, rfl, rfl, rfl, rfl, rfl, rfl, rfl, rfl, rfl, rfl, rfl, (someB (by first | (simp [h10, h50, h53, h53p, g54]; done) | (simp_all; done) | ((simp [h10, h50, h53, h53p, g54]) <;> grind))), trivial⟩ [0, 1] (by decide) rfl (fun _ h => h)
            · intro _ _
              show Sx _ _ _ [(2, .bool dec), (3, .bool on), (9, .pointer (some ⟨b2, 0, none⟩)), (11, .int .i64 ((numbersS dec).getD q (0 : Int))), (12, .pointer (some ⟨b6, 0, none⟩)), (13, .bool (dec && ((decide (((numbersS dec).getD q (0 : Int)) = 9)) || ((decide ((1000 : Int) ≤ ((numbersS dec).getD q (0 : Int)))) && (decide (((numbersS dec).getD q (0 : Int)) ≤ 1003)))))), (16, .bool false), (17, .slice a51 ((numbersS false).length) c52), (18, .int .i64 (k7 : Int)), (19, .int .i64 ((numbersS false).getD k7 (0 : Int))), (71, .agg (List.toArray [.bool false, .bool true])), (72, .int .i64 0), (94, .bool ((false == dec) && (decide (((numbersS false).getD k7 (0 : Int)) = ((numbersS dec).getD q (0 : Int))))))] [(some b6, .cells (List.toArray [.bool r5.ins, .bool r5.nl, .bool r5.ck, .bool r5.inv, .bool r5.org, .bool r5.aut, .bool r5.vis, .bool r5.paste, .bool r5.focus, .bool r5.sync, .bool r5.keypad, .int .i64 r5.mouse, .bool r5.sgr]) 23 (0, 0)), (some b2, .cells (List.toArray [.bool r1.ins, .bool r1.nl, .bool r1.ck, .bool r1.inv, .bool r1.org, .bool r1.aut, .bool r1.vis, .bool r1.paste, .bool r1.focus, .bool r1.sync, .bool r1.keypad, .int .i64 r1.mouse, .bool r1.sgr]) 23 (0, 0))] _
              refine Sx.next ?_
              refine Sc.cond rfl (fun h55 => ?_) (fun h55 => ?_)
              · skip
                refine Sc.exit ?_
                refine Sx.next_exit ?_
                refine Sx.block_exit ?_
                refine Sx.next ?_
                refine Sc.region ?_
                refine Seg.y rfl rfl (Want.none rfl) (Y.move rfl) ?_
                refine Seg.y rfl rfl (Want.none rfl) (Y.binOp rfl rfl (B.add _ _ _ ((k7 : Int) + 1) (wr_i64 (by omega)))) ?_
                refine Seg.y rfl rfl (Want.none rfl) (Y.assign rfl) ?_
                refine Seg.nil ?_
                exact Sx.head (k7 + 1) (by first | omega | (simp at *; omega)) (by first | omega | (dsimp only; omega)) ⟨rfl, rfl, rfl, rfl, rfl, rfl, rfl, rfl, rfl, rfl, rfl, trivial⟩ [0, 1] (by decide) rfl (fun _ h => h)
              · skip
                refine Sc.skip ?_
                refine Sx.next ?_
                refine Sc.seq ?_
                refine Sc.region ?_
                refine Seg.y rfl rfl (Want.none rfl) (Y.move rfl) ?_
                refine Seg.y rfl rfl (Want.none rfl) (Y.move rfl) ?_
                refine Seg.skip rfl rfl (Skip.some 1 96 true rfl rfl rfl rfl) ?_
                refine Seg.skip rfl rfl (Skip.some 1 96 true rfl rfl rfl rfl) ?_
                refine Seg.skip rfl rfl (Skip.some 1 96 true rfl rfl rfl rfl) ?_
                refine Seg.skip rfl rfl (Skip.undef 4 99 false rfl rfl rfl) ?_
                refine Seg.skip rfl rfl (Skip.undef 4 99 false rfl rfl rfl) ?_
                refine Seg.skip rfl rfl (Skip.undef 4 99 false rfl rfl rfl) ?_
                refine Seg.skip rfl rfl (Skip.undef 7 102 true rfl rfl rfl) ?_
                refine Seg.skip rfl rfl (Skip.undef 7 102 true rfl rfl rfl) ?_
                refine Seg.skip rfl rfl (Skip.undef 4 99 false rfl rfl rfl) ?_
                refine Seg.skip rfl rfl (Skip.some 1 96 true rfl rfl rfl rfl) ?_
                refine Seg.y rfl rfl (Want.none rfl) (Y.pickF rfl rfl rfl) ?_
                refine Seg.y rfl rfl (Want.none rfl) (Y.assign rfl) ?_
                refine Seg.nil ?_
                refine Sx.next ?_
                refine Sc.seq ?_
                refine Sc.region ?_
                refine Seg.y rfl rfl (Want.none rfl) (Y.loadN (vs := [.bool r1.ins, .bool r1.nl, .bool r1.ck, .bool r1.inv, .bool r1.org, .bool r1.aut, .bool r1.vis, .bool r1.paste, .bool r1.focus, .bool r1.sync, .bool r1.keypad, .int .i64 r1.mouse, .bool r1.sgr]) 1 rfl rfl rfl rfl ag23 sz23) ?_
                refine Seg.y rfl rfl (Want.none rfl) (Y.move rfl) ?_
                refine Seg.y rfl rfl (Want.none rfl) (Y.move rfl) ?_
                obtain ⟨r56, hr56⟩ : ∃ x, x = lstate r1 false ((numbersS false).getD k7 (0 : Int)) false := ⟨_, rfl⟩
                refine Seg.callV (v := .int .i64 r56) rfl rfl (Want.none rfl) (K.func rfl co26) (fun w hs => by rw [hr56]; exact lstate_c r1 false ((numbersS false).getD k7 (0 : Int)) false w ) ?_
                refine Seg.y rfl rfl (Want.none rfl) (Y.assign rfl) ?_
                refine Seg.nil ?_
                refine Sx.next ?_
                refine Sc.seq ?_
                refine Sc.seq ?_
                refine Sc.cut (fun (_ : Unit) => True) (fun (_ : Unit) => [(2, .bool dec), (3, .bool on), (9, .pointer (some ⟨b2, 0, none⟩)), (11, .int .i64 ((numbersS dec).getD q (0 : Int))), (12, .pointer (some ⟨b6, 0, none⟩)), (13, .bool (dec && ((decide (((numbersS dec).getD q (0 : Int)) = 9)) || ((decide ((1000 : Int) ≤ ((numbersS dec).getD q (0 : Int)))) && (decide (((numbersS dec).getD q (0 : Int)) ≤ 1003)))))), (16, .bool false), (17, .slice a51 ((numbersS false).length) c52), (18, .int .i64 (k7 : Int)), (19, .int .i64 ((numbersS false).getD k7 (0 : Int))), (21, .int .i64 r56), (71, .agg (List.toArray [.bool false, .bool true])), (72, .int .i64 0), (118, .bool (((dec && ((decide (((numbersS dec).getD q (0 : Int)) = 9)) || ((decide ((1000 : Int) ≤ ((numbersS dec).getD q (0 : Int)))) && (decide (((numbersS dec).getD q (0 : Int)) ≤ 1003))))) && false) && on))]) (fun (_ : Unit) => [(some b6, .cells (List.toArray [.bool r5.ins, .bool r5.nl, .bool r5.ck, .bool r5.inv, .bool r5.org, .bool r5.aut, .bool r5.vis, .bool r5.paste, .bool r5.focus, .bool r5.sync, .bool r5.keypad, .int .i64 r5.mouse, .bool r5.sgr]) 23 (0, 0)), (some b2, .cells (List.toArray [.bool r1.ins, .bool r1.nl, .bool r1.ck, .bool r1.inv, .bool r1.org, .bool r1.aut, .bool r1.vis, .bool r1.paste, .bool r1.focus, .bool r1.sync, .bool r1.keypad, .int .i64 r1.mouse, .bool r1.sgr]) 23 (0, 0))]) (fun _ => fun w => ((True) ∧ RowV 1 encI a3 (numbersS dec) w) ∧ RowV 1 encI a51 (numbersS false) w) ?_ ?_
                · skip
                  refine Sc.region ?_
                  refine Seg.y rfl rfl (Want.none rfl) (Y.move rfl) ?_
                  refine Seg.y rfl rfl (Want.none rfl) (Y.move rfl) ?_
                  rcases Bool.eq_false_or_eq_true (dec && ((decide (((numbersS dec).getD q (0 : Int)) = 9)) || ((decide ((1000 : Int) ≤ ((numbersS dec).getD q (0 : Int)))) && (decide (((numbersS dec).getD q (0 : Int)) ≤ 1003))))) with g57 | g57
                  · skip
                    refine Seg.y rfl rfl (Want.some 1 113 true rfl rfl rfl g57) (Y.move rfl) ?_
                    refine Seg.y rfl rfl (Want.none rfl) (Y.pickT rfl g57 rfl) ?_
                    refine Seg.y rfl rfl (Want.none rfl) (Y.move rfl) ?_
                    refine Seg.skip rfl rfl (Skip.some 4 116 true rfl rfl rfl rfl) ?_
                    refine Seg.y rfl rfl (Want.none rfl) (Y.pickF rfl rfl rfl) ?_
                    refine Seg.nil ?_
                    exact Sx.cut () trivial ⟨rfl, rfl, rfl, rfl, rfl, rfl, rfl, rfl, rfl, rfl, rfl, rfl, rfl, (someB (by first | (simp [h10, h50, h53, h53p, h55, g57]; done) | (simp_all; done) | ((simp [h10, h50, h53, h53p, h55, g57]) <;> grind))), trivial⟩ [0, 1] (by decide) rfl (fun _ h => h)
                  · skip
                    refine Seg.skip rfl rfl (Skip.some 1 113 true rfl rfl rfl g57) ?_
                    refine Seg.y rfl rfl (Want.none rfl) (Y.pickF rfl g57 rfl) ?_
                    refine Seg.y rfl rfl (Want.none rfl) (Y.move rfl) ?_
                    refine Seg.skip rfl rfl (Skip.some 4 116 true rfl rfl rfl rfl) ?_
                    refine Seg.y rfl rfl (Want.none rfl) (Y.pickF rfl rfl rfl) ?_
                    refine Seg.nil ?_
                    exact Sx.cut () trivial ⟨rfl, rfl, rfl, rfl, rfl, rfl, rfl, rfl, rfl, rfl, rfl, rfl, rfl, (someB (by first | (simp [h10, h50, h53, h53p, h55, g57]; done) | (simp_all; done) | ((simp [h10, h50, h53, h53p, h55, g57]) <;> grind))), trivial⟩ [0, 1] (by decide) rfl (fun _ h => h)
                · intro _ _
                  show Sx _ _ _ [(2, .bool dec), (3, .bool on), (9, .pointer (some ⟨b2, 0, none⟩)), (11, .int .i64 ((numbersS dec).getD q (0 : Int))), (12, .pointer (some ⟨b6, 0, none⟩)), (13, .bool (dec && ((decide (((numbersS dec).getD q (0 : Int)) = 9)) || ((decide ((1000 : Int) ≤ ((numbersS dec).getD q (0 : Int)))) && (decide (((numbersS dec).getD q (0 : Int)) ≤ 1003)))))), (16, .bool false), (17, .slice a51 ((numbersS false).length) c52), (18, .int .i64 (k7 : Int)), (19, .int .i64 ((numbersS false).getD k7 (0 : Int))), (21, .int .i64 r56), (71, .agg (List.toArray [.bool false, .bool true])), (72, .int .i64 0), (118, .bool (((dec && ((decide (((numbersS dec).getD q (0 : Int)) = 9)) || ((decide ((1000 : Int) ≤ ((numbersS dec).getD q (0 : Int)))) && (decide (((numbersS dec).getD q (0 : Int)) ≤ 1003))))) && false) && on))] [(some b6, .cells (List.toArray [.bool r5.ins, .bool r5.nl, .bool r5.ck, .bool r5.inv, .bool r5.org, .bool r5.aut, .bool r5.vis, .bool r5.paste, .bool r5.focus, .bool r5.sync, .bool r5.keypad, .int .i64 r5.mouse, .bool r5.sgr]) 23 (0, 0)), (some b2, .cells (List.toArray [.bool r1.ins, .bool r1.nl, .bool r1.ck, .bool r1.inv, .bool r1.org, .bool r1.aut, .bool r1.vis, .bool r1.paste, .bool r1.focus, .bool r1.sync, .bool r1.keypad, .int .i64 r1.mouse, .bool r1.sgr]) 23 (0, 0))] _
                  refine Sx.next ?_
                  refine Sc.cond rfl (fun h58 => ?_) (fun h58 => ?_)
                  · skip
                    refine Sc.region ?_
                    refine Seg.y rfl rfl (Want.none rfl) (Y.assign rfl) ?_
                    refine Seg.nil ?_
                    refine Sx.next ?_
                    refine Sc.seq ?_
                    refine Sc.region ?_
                    refine Seg.y rfl rfl (Want.none rfl) (Y.loadN (vs := [.bool r5.ins, .bool r5.nl, .bool r5.ck, .bool r5.inv, .bool r5.org, .bool r5.aut, .bool r5.vis, .bool r5.paste, .bool r5.focus, .bool r5.sync, .bool r5.keypad, .int .i64 r5.mouse, .bool r5.sgr]) 0 rfl rfl rfl rfl ag23 sz23) ?_
                    refine Seg.y rfl rfl (Want.none rfl) (Y.move rfl) ?_
                    refine Seg.y rfl rfl (Want.none rfl) (Y.move rfl) ?_
                    obtain ⟨r59, hr59⟩ : ∃ x, x = lstate r5 false ((numbersS false).getD k7 (0 : Int)) false := ⟨_, rfl⟩
                    refine Seg.callV (v := .int .i64 r59) rfl rfl (Want.none rfl) (K.func rfl co26) (fun w hs => by rw [hr59]; exact lstate_c r5 false ((numbersS false).getD k7 (0 : Int)) false w ) ?_
                    refine Seg.y rfl rfl (Want.none rfl) (Y.move rfl) ?_
                    refine Seg.y rfl rfl (Want.none rfl) (Y.binOp rfl rfl (B.ne _ _ _)) ?_
                    refine Seg.nil ?_
                    refine Sx.next ?_
                    refine Sc.cond rfl (fun h60 => ?_) (fun h60 => ?_)
                    · skip
                      have h60p := of_decide_eq_true h60
                      refine Sc.seq ?_
                      refine Sc.region ?_
                      refine Seg.y rfl rfl (Want.none rfl) (Y.assign rfl) ?_
                      refine Seg.nil ?_
                      refine Sx.next ?_
                      refine Sc.ret ?_
                      refine Sx.block_ret ?_
                      refine Sx.next_ret ?_
                      refine Sx.loop_ret ?_
                      refine Sx.block_ret ?_
                      refine Sx.block_ret ?_
                      refine Sx.next_ret ?_
                      refine Sx.loop_ret ?_
                      refine Sx.block_ret ?_
                      refine Sx.next_ret ?_
                      refine Sx.body (.inl rfl) (res1 rfl (Rv.tmp rfl)) (fun w hs => ?_)
                      refine RetV.eq ?_ hs
                      subst hr1
                      subst hr5
                      subst hr47
                      subst hr48
                      subst hr56
                      subst hr59
                      clear hs
                      have hc := of_check b
                      have hk := known_get dec q hql
                      have hk2 := known_get false k7 (by omega)
                      generalize (numbersS dec).getD q 0 = n at *
                      generalize (numbersS false).getD k7 0 = k at *
                      have a1 := al1 (ofS b) hc dec n on hk
                      have a2 := al2 (ofS b) hc dec n on hk
                      have a3 := al3 (ofS b) hc dec n on hk false k hk2 (by intro hh; simp_all)
                      exfalso; first | (simp_all [toldS]; done) | grind [toldS]
                    · skip
                      have h60p : r59 = 2 := by simpa using h60
                      refine Sc.skip ?_
                      refine Sx.block_normal ?_
                      refine Sx.next ?_
                      refine Sc.region ?_
                      refine Seg.y rfl rfl (Want.none rfl) (Y.move rfl) ?_
                      refine Seg.y rfl rfl (Want.none rfl) (Y.binOp rfl rfl (B.add _ _ _ ((k7 : Int) + 1) (wr_i64 (by omega)))) ?_
                      refine Seg.y rfl rfl (Want.none rfl) (Y.assign rfl) ?_
                      refine Seg.nil ?_
                      exact Sx.head (k7 + 1) (by first | omega | (simp at *; omega)) (by first | omega | (dsimp only; omega)) ⟨rfl, rfl, rfl, rfl, rfl, rfl, rfl, rfl, rfl, rfl, rfl, trivial⟩ [0, 1] (by decide) rfl (fun _ h => h)
                  · skip
                    refine Sc.skip ?_
                    refine Sx.next ?_
                    refine Sc.seq ?_
                    refine Sc.region ?_
                    refine Seg.y rfl rfl (Want.none rfl) (Y.loadN (vs := [.bool r5.ins, .bool r5.nl, .bool r5.ck, .bool r5.inv, .bool r5.org, .bool r5.aut, .bool r5.vis, .bool r5.paste, .bool r5.focus, .bool r5.sync, .bool r5.keypad, .int .i64 r5.mouse, .bool r5.sgr]) 0 rfl rfl rfl rfl ag23 sz23) ?_
                    refine Seg.y rfl rfl (Want.none rfl) (Y.move rfl) ?_
                    refine Seg.y rfl rfl (Want.none rfl) (Y.move rfl) ?_
                    obtain ⟨r61, hr61⟩ : ∃ x, x = lstate r5 false ((numbersS false).getD k7 (0 : Int)) false := ⟨_, rfl⟩
                    refine Seg.callV (v := .int .i64 r61) rfl rfl (Want.none rfl) (K.func rfl co26) (fun w hs => by rw [hr61]; exact lstate_c r5 false ((numbersS false).getD k7 (0 : Int)) false w ) ?_
                    refine Seg.y rfl rfl (Want.none rfl) (Y.move rfl) ?_
                    refine Seg.y rfl rfl (Want.none rfl) (Y.binOp rfl rfl (B.ne _ _ _)) ?_
                    refine Seg.nil ?_
                    refine Sx.next ?_
                    refine Sc.cond rfl (fun h62 => ?_) (fun h62 => ?_)
                    · skip
                      have h62p := of_decide_eq_true h62
                      refine Sc.seq ?_
                      refine Sc.region ?_
                      refine Seg.y rfl rfl (Want.none rfl) (Y.assign rfl) ?_
                      refine Seg.nil ?_
                      refine Sx.next ?_
                      refine Sc.ret ?_
                      refine Sx.block_ret ?_
                      refine Sx.next_ret ?_
                      refine Sx.loop_ret ?_
                      refine Sx.block_ret ?_
                      refine Sx.block_ret ?_
                      refine Sx.next_ret ?_
                      refine Sx.loop_ret ?_
                      refine Sx.block_ret ?_
                      refine Sx.next_ret ?_
                      refine Sx.body (.inl rfl) (res1 rfl (Rv.tmp rfl)) (fun w hs => ?_)
                      refine RetV.eq ?_ hs
                      subst hr1
                      subst hr5
                      subst hr47
                      subst hr48
                      subst hr56
                      subst hr61
                      clear hs
                      have hc := of_check b
                      have hk := known_get dec q hql
                      have hk2 := known_get false k7 (by omega)
                      generalize (numbersS dec).getD q 0 = n at *
                      generalize (numbersS false).getD k7 0 = k at *
                      have a1 := al1 (ofS b) hc dec n on hk
                      have a2 := al2 (ofS b) hc dec n on hk
                      have a3 := al3 (ofS b) hc dec n on hk false k hk2 (by intro hh; simp_all)
                      exfalso; first | (simp_all [toldS]; done) | grind [toldS]
                    · skip
                      have h62p : r61 = r56 := by simpa using h62
                      refine Sc.skip ?_
                      refine Sx.block_normal ?_
                      refine Sx.next ?_
                      refine Sc.region ?_
                      refine Seg.y rfl rfl (Want.none rfl) (Y.move rfl) ?_
                      refine Seg.y rfl rfl (Want.none rfl) (Y.binOp rfl rfl (B.add _ _ _ ((k7 : Int) + 1) (wr_i64 (by omega)))) ?_
                      refine Seg.y rfl rfl (Want.none rfl) (Y.assign rfl) ?_
                      refine Seg.nil ?_
                      exact Sx.head (k7 + 1) (by first | omega | (simp at *; omega)) (by first | omega | (dsimp only; omega)) ⟨rfl, rfl, rfl, rfl, rfl, rfl, rfl, rfl, rfl, rfl, rfl, trivial⟩ [0, 1] (by decide) rfl (fun _ h => h)
          · skip
            have h53p := of_decide_eq_false h53
            refine Sc.exit ?_
            refine Sx.next_exit ?_
            refine Sx.loop_exit ?_
            refine Sx.block_exit ?_
            refine Sx.block_normal ?_
            refine Sx.next ?_
            refine Sc.region ?_
            refine Seg.y rfl rfl (Want.none rfl) (Y.binOp rfl rfl (B.add _ _ _ 1 (by decide))) ?_
            refine Seg.y rfl rfl (Want.none rfl) (Y.move rfl) ?_
            refine Seg.nil ?_
            refine Sx.round ?_
            refine Sr.succ ?_
            refine Sc.seq ?_
            refine Sc.region ?_
            refine Seg.y rfl rfl (Want.none rfl) (Y.binOp (v := .bool true) rfl rfl (B.lt _ _ _)) ?_
            refine Seg.nil ?_
            refine Sx.next ?_
            refine Sc.seq ?_
            refine Sc.condT rfl rfl ?_
            refine Sc.skip ?_
            refine Sx.next ?_
            refine Sc.seq ?_
            refine Sc.block ?_
            refine Sc.seq ?_
            refine Sc.region ?_
            refine Seg.y rfl rfl (Want.none rfl) (Y.index (v := .bool true) rfl rfl (fun w => by kernel_rfl)) ?_
            refine Seg.y rfl rfl (Want.none rfl) (Y.assign rfl) ?_
            refine Seg.nil ?_
            refine Sx.next ?_
            refine Sc.seq ?_
            refine Sc.region ?_
            refine Seg.y rfl rfl (Want.none rfl) (Y.move rfl) ?_
            refine Seg.callR (val := fun ((a63, c64) : Option Addr × Nat) => .slice a63 ((numbersS true).length) c64) (Φ := fun ((a63, c64) : Option Addr × Nat) => fun w => RowV 1 encI a63 (numbersS true) w) rfl rfl (Want.none rfl) (K.func rfl co25) (fun w hs => numbers_c true _ w hs.dc_lt   ) (fun ⟨a63, c64⟩ => ?_)
            refine Seg.y rfl rfl (Want.none rfl) (Y.assign rfl) ?_
            refine Seg.nil ?_
            refine Sx.next ?_
            refine Sc.seq ?_
            refine Sc.region ?_
            refine Seg.y rfl rfl (Want.none rfl) (Y.assign rfl) ?_
            refine Seg.nil ?_
            refine Sx.next ?_
            refine Sc.block ?_
            refine Sc.loop (fun (k8 : Nat) => k8 ≤ (numbersS true).length) (fun (k8 : Nat) => (numbersS true).length - k8) (fun (k8 : Nat) => [(2, .bool dec), (3, .bool on), (9, .pointer (some ⟨b2, 0, none⟩)), (11, .int .i64 ((numbersS dec).getD q (0 : Int))), (12, .pointer (some ⟨b6, 0, none⟩)), (13, .bool (dec && ((decide (((numbersS dec).getD q (0 : Int)) = 9)) || ((decide ((1000 : Int) ≤ ((numbersS dec).getD q (0 : Int)))) && (decide (((numbersS dec).getD q (0 : Int)) ≤ 1003)))))), (16, .bool true), (17, .slice a63 ((numbersS true).length) c64), (18, .int .i64 (k8 : Int)), (71, .agg (List.toArray [.bool false, .bool true])), (72, .int .i64 1)]) (fun (k8 : Nat) => [(some b6, .cells (List.toArray [.bool r5.ins, .bool r5.nl, .bool r5.ck, .bool r5.inv, .bool r5.org, .bool r5.aut, .bool r5.vis, .bool r5.paste, .bool r5.focus, .bool r5.sync, .bool r5.keypad, .int .i64 r5.mouse, .bool r5.sgr]) 23 (0, 0)), (some b2, .cells (List.toArray [.bool r1.ins, .bool r1.nl, .bool r1.ck, .bool r1.inv, .bool r1.org, .bool r1.aut, .bool r1.vis, .bool r1.paste, .bool r1.focus, .bool r1.sync, .bool r1.keypad, .int .i64 r1.mouse, .bool r1.sgr]) 23 (0, 0))]) (fun (k8 : Nat) => fun w => (((True) ∧ RowV 1 encI a3 (numbersS dec) w) ∧ RowV 1 encI a51 (numbersS false) w) ∧ RowV 1 encI a63 (numbersS true) w) 0 (Nat.zero_le _) (by exact ⟨rfl, rfl, rfl, rfl, rfl, rfl, rfl, rfl, rfl, rfl, rfl, trivial⟩) [0, 1] (by decide) rfl (fun _ h => h) ?_
            rintro k8 hJ1
            have hk8 := hJ1
            have hln8 := num_le true
            show Sc _ _ _ _ [(2, .bool dec), (3, .bool on), (9, .pointer (some ⟨b2, 0, none⟩)), (11, .int .i64 ((numbersS dec).getD q (0 : Int))), (12, .pointer (some ⟨b6, 0, none⟩)), (13, .bool (dec && ((decide (((numbersS dec).getD q (0 : Int)) = 9)) || ((decide ((1000 : Int) ≤ ((numbersS dec).getD q (0 : Int)))) && (decide (((numbersS dec).getD q (0 : Int)) ≤ 1003)))))), (16, .bool true), (17, .slice a63 ((numbersS true).length) c64), (18, .int .i64 (k8 : Int)), (71, .agg (List.toArray [.bool false, .bool true])), (72, .int .i64 1)] [(some b6, .cells (List.toArray [.bool r5.ins, .bool r5.nl, .bool r5.ck, .bool r5.inv, .bool r5.org, .bool r5.aut, .bool r5.vis, .bool r5.paste, .bool r5.focus, .bool r5.sync, .bool r5.keypad, .int .i64 r5.mouse, .bool r5.sgr]) 23 (0, 0)), (some b2, .cells (List.toArray [.bool r1.ins, .bool r1.nl, .bool r1.ck, .bool r1.inv, .bool r1.org, .bool r1.aut, .bool r1.vis, .bool r1.paste, .bool r1.focus, .bool r1.sync, .bool r1.keypad, .int .i64 r1.mouse, .bool r1.sgr]) 23 (0, 0))] (fun w => (((True) ∧ RowV 1 encI a3 (numbersS dec) w) ∧ RowV 1 encI a51 (numbersS false) w) ∧ RowV 1 encI a63 (numbersS true) w)
            refine Sc.seq ?_
            refine Sc.seq ?_
            refine Sc.region ?_
            refine Seg.y rfl rfl (Want.none rfl) (Y.move rfl) ?_
            refine Seg.y rfl rfl (Want.none rfl) (Y.move rfl) ?_
            refine Seg.y rfl rfl (Want.none rfl) (Y.bi rfl (fun w _ => run_len rfl Try.underlying25 w)) ?_
            refine Seg.y rfl rfl (Want.none rfl) (Y.binOp rfl rfl (B.lt _ _ _)) ?_
            refine Seg.nil ?_
            refine Sx.next ?_
            refine Sc.cond rfl (fun h65 => ?_) (fun h65 => ?_)
            · skip
              have h65p := of_decide_eq_true h65
              refine Sc.skip ?_
              refine Sx.next ?_
              refine Sc.seq ?_
              refine Sc.block ?_
              refine Sc.seq ?_
              refine Sc.region ?_
              refine Seg.y rfl rfl (Want.none rfl) (Y.move rfl) ?_
              refine Seg.y rfl rfl (Want.none rfl) (Y.move rfl) ?_
              refine Seg.y rfl rfl (Want.none rfl) (Y.elemAddr rfl rfl Try.underlying25 sz3 (fun w h => ((h.2) k8 _ (getD_some (0 : Int) (by omega))).1) (by omega) (by omega) (by simp : (sadr a63).off + ((k8 : Int)).toNat * 1 = (sadr a63).off + k8 * 1)) ?_
              refine Seg.y rfl rfl (Want.none rfl) (Y.loadF1 rfl ag3 (fun w h => ((h.2) k8 _ (getD_some (0 : Int) (by omega))).2 0 _ rfl)) ?_
              refine Seg.y rfl rfl (Want.none rfl) (Y.assign rfl) ?_
              refine Seg.nil ?_
              refine Sx.next ?_
              refine Sc.seq ?_
              refine Sc.seq ?_
              refine Sc.cut (fun (_ : Unit) => True) (fun (_ : Unit) => [(2, .bool dec), (3, .bool on), (9, .pointer (some ⟨b2, 0, none⟩)), (11, .int .i64 ((numbersS dec).getD q (0 : Int))), (12, .pointer (some ⟨b6, 0, none⟩)), (13, .bool (dec && ((decide (((numbersS dec).getD q (0 : Int)) = 9)) || ((decide ((1000 : Int) ≤ ((numbersS dec).getD q (0 : Int)))) && (decide (((numbersS dec).getD q (0 : Int)) ≤ 1003)))))), (16, .bool true), (17, .slice a63 ((numbersS true).length) c64), (18, .int .i64 (k8 : Int)), (19, .int .i64 ((numbersS true).getD k8 (0 : Int))), (71, .agg (List.toArray [.bool false, .bool true])), (72, .int .i64 1), (94, .bool ((true == dec) && (decide (((numbersS true).getD k8 (0 : Int)) = ((numbersS dec).getD q (0 : Int))))))]) (fun (_ : Unit) => [(some b6, .cells (List.toArray [.bool r5.ins, .bool r5.nl, .bool r5.ck, .bool r5.inv, .bool r5.org, .bool r5.aut, .bool r5.vis, .bool r5.paste, .bool r5.focus, .bool r5.sync, .bool r5.keypad, .int .i64 r5.mouse, .bool r5.sgr]) 23 (0, 0)), (some b2, .cells (List.toArray [.bool r1.ins, .bool r1.nl, .bool r1.ck, .bool r1.inv, .bool r1.org, .bool r1.aut, .bool r1.vis, .bool r1.paste, .bool r1.focus, .bool r1.sync, .bool r1.keypad, .int .i64 r1.mouse, .bool r1.sgr]) 23 (0, 0))]) (fun _ => fun w => (((True) ∧ RowV 1 encI a3 (numbersS dec) w) ∧ RowV 1 encI a51 (numbersS false) w) ∧ RowV 1 encI a63 (numbersS true) w) ?_ ?_
              · skip
                refine Sc.region ?_
                refine Seg.y rfl rfl (Want.none rfl) (Y.move rfl) ?_
                refine Seg.y rfl rfl (Want.none rfl) (Y.move rfl) ?_
                refine Seg.y rfl rfl (Want.none rfl) (Y.binOp rfl rfl (B.eqB _ _ Try.underlying4)) ?_
                refine Seg.y rfl rfl (Want.none rfl) (Y.move rfl) ?_
                rcases Bool.eq_false_or_eq_true (true == dec) with g66 | g66
                · skip
                  refine Seg.y rfl rfl (Want.some 3 90 true rfl rfl rfl g66) (Y.move rfl) ?_
                  refine Seg.y rfl rfl (Want.some 3 90 true rfl rfl rfl g66) (Y.move rfl) ?_
                  refine Seg.y rfl rfl (Want.some 3 90 true rfl rfl rfl g66) (Y.binOp rfl rfl (B.eq _ _ _)) ?_
                  refine Seg.y rfl rfl (Want.none rfl) (Y.pickT rfl g66 rfl) ?_
                  refine Seg.nil ?_
                  exact Sx.cut () trivial ⟨rfl, rfl, rfl, rfl, rfl, rfl, rfl, rfl, rfl, rfl, rfl, rfl, (someB (by first | (simp [h10, h50, h53, h53p, h65, h65p, g66]; done) | (simp_all; done) | ((simp [h10, h50, h53, h53p, h65, h65p, g66]) <;> grind))), trivial⟩ [0, 1] (by decide) rfl (fun _ h => h)
                · skip
                  refine Seg.skip rfl rfl (Skip.some 3 90 true rfl rfl rfl g66) ?_
                  refine Seg.skip rfl rfl (Skip.some 3 90 true rfl rfl rfl g66) ?_
                  refine Seg.skip rfl rfl (Skip.some 3 90 true rfl rfl rfl g66) ?_
                  refine Seg.y rfl rfl (Want.none rfl) (Y.pickF rfl g66 rfl) ?_
                  refine Seg.nil ?_
                  exact Sx.cut () trivial ⟨rfl, rfl, rfl, rfl, rfl, rfl, rfl, rfl, rfl, rfl, rfl, rfl, (someB (by first | (simp [h10, h50, h53, h53p, h65, h65p, g66]; done) | (simp_all; done) | ((simp [h10, h50, h53, h53p, h65, h65p, g66]) <;> grind))), trivial⟩ [0, 1] (by decide) rfl (fun _ h => h)
              · intro _ _
                show Sx _ _ _ [(2, .bool dec), (3, .bool on), (9, .pointer (some ⟨b2, 0, none⟩)), (11, .int .i64 ((numbersS dec).getD q (0 : Int))), (12, .pointer (some ⟨b6, 0, none⟩)), (13, .bool (dec && ((decide (((numbersS dec).getD q (0 : Int)) = 9)) || ((decide ((1000 : Int) ≤ ((numbersS dec).getD q (0 : Int)))) && (decide (((numbersS dec).getD q (0 : Int)) ≤ 1003)))))), (16, .bool true), (17, .slice a63 ((numbersS true).length) c64), (18, .int .i64 (k8 : Int)), (19, .int .i64 ((numbersS true).getD k8 (0 : Int))), (71, .agg (List.toArray [.bool false, .bool true])), (72, .int .i64 1), (94, .bool ((true == dec) && (decide (((numbersS true).getD k8 (0 : Int)) = ((numbersS dec).getD q (0 : Int))))))] [(some b6, .cells (List.toArray [.bool r5.ins, .bool r5.nl, .bool r5.ck, .bool r5.inv, .bool r5.org, .bool r5.aut, .bool r5.vis, .bool r5.paste, .bool r5.focus, .bool r5.sync, .bool r5.keypad, .int .i64 r5.mouse, .bool r5.sgr]) 23 (0, 0)), (some b2, .cells (List.toArray [.bool r1.ins, .bool r1.nl, .bool r1.ck, .bool r1.inv, .bool r1.org, .bool r1.aut, .bool r1.vis, .bool r1.paste, .bool r1.focus, .bool r1.sync, .bool r1.keypad, .int .i64 r1.mouse, .bool r1.sgr]) 23 (0, 0))] _
                refine Sx.next ?_
                refine Sc.cond rfl (fun h67 => ?_) (fun h67 => ?_)
                · skip
                  refine Sc.exit ?_
                  refine Sx.next_exit ?_
                  refine Sx.block_exit ?_
                  refine Sx.next ?_
                  refine Sc.region ?_
                  refine Seg.y rfl rfl (Want.none rfl) (Y.move rfl) ?_
                  refine Seg.y rfl rfl (Want.none rfl) (Y.binOp rfl rfl (B.add _ _ _ ((k8 : Int) + 1) (wr_i64 (by omega)))) ?_
                  refine Seg.y rfl rfl (Want.none rfl) (Y.assign rfl) ?_
                  refine Seg.nil ?_
                  exact Sx.head (k8 + 1) (by first | omega | (simp at *; omega)) (by first | omega | (dsimp only; omega)) ⟨rfl, rfl, rfl, rfl, rfl, rfl, rfl, rfl, rfl, rfl, rfl, trivial⟩ [0, 1] (by decide) rfl (fun _ h => h)
                · skip
                  refine Sc.skip ?_
                  refine Sx.next ?_
                  refine Sc.seq ?_
                  refine Sc.cut (fun (_ : Unit) => True) (fun (_ : Unit) => [(2, .bool dec), (3, .bool on), (9, .pointer (some ⟨b2, 0, none⟩)), (11, .int .i64 ((numbersS dec).getD q (0 : Int))), (12, .pointer (some ⟨b6, 0, none⟩)), (13, .bool (dec && ((decide (((numbersS dec).getD q (0 : Int)) = 9)) || ((decide ((1000 : Int) ≤ ((numbersS dec).getD q (0 : Int)))) && (decide (((numbersS dec).getD q (0 : Int)) ≤ 1003)))))), (16, .bool true), (17, .slice a63 ((numbersS true).length) c64), (18, .int .i64 (k8 : Int)), (19, .int .i64 ((numbersS true).getD k8 (0 : Int))), (20, .bool ((decide (((numbersS true).getD k8 (0 : Int)) = 9)) || ((decide ((1000 : Int) ≤ ((numbersS true).getD k8 (0 : Int)))) && (decide (((numbersS true).getD k8 (0 : Int)) ≤ 1003))))), (71, .agg (List.toArray [.bool false, .bool true])), (72, .int .i64 1)]) (fun (_ : Unit) => [(some b6, .cells (List.toArray [.bool r5.ins, .bool r5.nl, .bool r5.ck, .bool r5.inv, .bool r5.org, .bool r5.aut, .bool r5.vis, .bool r5.paste, .bool r5.focus, .bool r5.sync, .bool r5.keypad, .int .i64 r5.mouse, .bool r5.sgr]) 23 (0, 0)), (some b2, .cells (List.toArray [.bool r1.ins, .bool r1.nl, .bool r1.ck, .bool r1.inv, .bool r1.org, .bool r1.aut, .bool r1.vis, .bool r1.paste, .bool r1.focus, .bool r1.sync, .bool r1.keypad, .int .i64 r1.mouse, .bool r1.sgr]) 23 (0, 0))]) (fun _ => fun w => (((True) ∧ RowV 1 encI a3 (numbersS dec) w) ∧ RowV 1 encI a51 (numbersS false) w) ∧ RowV 1 encI a63 (numbersS true) w) ?_ ?_
                  · skip
                    refine Sc.region ?_
                    refine Seg.y rfl rfl (Want.none rfl) (Y.move rfl) ?_
                    refine Seg.y rfl rfl (Want.none rfl) (Y.move rfl) ?_
                    refine Seg.y rfl rfl (Want.some 1 96 true rfl rfl rfl rfl) (Y.move rfl) ?_
                    refine Seg.y rfl rfl (Want.some 1 96 true rfl rfl rfl rfl) (Y.binOp rfl rfl (B.eq _ _ _)) ?_
                    refine Seg.y rfl rfl (Want.some 1 96 true rfl rfl rfl rfl) (Y.move rfl) ?_
                    rcases Bool.eq_false_or_eq_true (decide (((numbersS true).getD k8 (0 : Int)) = 9)) with g68 | g68
                    · skip
                      have g68p := of_decide_eq_true g68
                      refine Seg.skip rfl rfl (Skip.some 4 99 false rfl rfl rfl g68) ?_
                      refine Seg.skip rfl rfl (Skip.some 4 99 false rfl rfl rfl g68) ?_
                      refine Seg.skip rfl rfl (Skip.some 4 99 false rfl rfl rfl g68) ?_
                      refine Seg.skip rfl rfl (Skip.undef 7 102 true rfl rfl rfl) ?_
                      refine Seg.skip rfl rfl (Skip.undef 7 102 true rfl rfl rfl) ?_
                      refine Seg.skip rfl rfl (Skip.some 4 99 false rfl rfl rfl g68) ?_
                      refine Seg.y rfl rfl (Want.some 1 96 true rfl rfl rfl rfl) (Y.pickT rfl g68 rfl) ?_
                      refine Seg.y rfl rfl (Want.none rfl) (Y.pickT rfl rfl rfl) ?_
                      refine Seg.y rfl rfl (Want.none rfl) (Y.assign rfl) ?_
                      refine Seg.nil ?_
                      exact Sx.cut () trivial ⟨rfl, rfl, rfl, rfl, rfl, rfl, rfl, rfl, rfl, rfl, (someB (by first | (simp [h10, h50, h53, h53p, h65, h65p, h67, g68, g68p]; done) | (simp_all; done) | ((simp [h10, h50, h53, h53p, h65, h65p, h67, g68, g68p]) <;> grind))), rfl, rfl, trivial⟩ [0, 1] (by decide) rfl (fun _ h => h)
                    · skip
                      have g68p := of_decide_eq_false g68
                      refine Seg.y rfl rfl (Want.some 4 99 false rfl rfl rfl g68) (Y.move rfl) ?_
                      refine Seg.y rfl rfl (Want.some 4 99 false rfl rfl rfl g68) (Y.binOp rfl rfl (B.ge _ _ _)) ?_
                      refine Seg.y rfl rfl (Want.some 4 99 false rfl rfl rfl g68) (Y.move rfl) ?_
                      rcases Bool.eq_false_or_eq_true (decide ((1000 : Int) ≤ ((numbersS true).getD k8 (0 : Int)))) with g69 | g69
                      · skip
                        have g69p := of_decide_eq_true g69
                        refine Seg.y rfl rfl (Want.some 7 102 true rfl rfl rfl g69) (Y.move rfl) ?_
                        refine Seg.y rfl rfl (Want.some 7 102 true rfl rfl rfl g69) (Y.binOp rfl rfl (B.le _ _ _)) ?_
                        refine Seg.y rfl rfl (Want.some 4 99 false rfl rfl rfl g68) (Y.pickT rfl g69 rfl) ?_
                        refine Seg.y rfl rfl (Want.some 1 96 true rfl rfl rfl rfl) (Y.pickF rfl g68 rfl) ?_
                        refine Seg.y rfl rfl (Want.none rfl) (Y.pickT rfl rfl rfl) ?_
                        refine Seg.y rfl rfl (Want.none rfl) (Y.assign rfl) ?_
                        refine Seg.nil ?_
                        exact Sx.cut () trivial ⟨rfl, rfl, rfl, rfl, rfl, rfl, rfl, rfl, rfl, rfl, (someB (by first | (simp [h10, h50, h53, h53p, h65, h65p, h67, g68, g68p, g69, g69p]; done) | (simp_all; done) | ((simp [h10, h50, h53, h53p, h65, h65p, h67, g68, g68p, g69, g69p]) <;> grind))), rfl, rfl, trivial⟩ [0, 1] (by decide) rfl (fun _ h => h)
                      · skip
                        have g69p := of_decide_eq_false g69
                        refine Seg.skip rfl rfl (Skip.some 7 102 true rfl rfl rfl g69) ?_
                        refine Seg.skip rfl rfl (Skip.some 7 102 true rfl rfl rfl g69) ?_
                        refine Seg.y rfl rfl (Want.some 4 99 false rfl rfl rfl g68) (Y.pickF rfl g69 rfl) ?_
                        refine Seg.y rfl rfl (Want.some 1 96 true rfl rfl rfl rfl) (Y.pickF rfl g68 rfl) ?_
                        refine Seg.y rfl rfl (Want.none rfl) (Y.pickT rfl rfl rfl) ?_
                        refine Seg.y rfl rfl (Want.none rfl) (Y.assign rfl) ?_
                        refine Seg.nil ?_
                        exact Sx.cut () trivial ⟨rfl, rfl, rfl, rfl, rfl, rfl, rfl, rfl, rfl, rfl, (someB (by first | (simp [h10, h50, h53, h53p, h65, h65p, h67, g68, g68p, g69, g69p]; done) | (simp_all; done) | ((simp [h10, h50, h53, h53p, h65, h65p, h67, g68, g68p, g69, g69p]) <;> grind))), rfl, rfl, trivial⟩ [0, 1] (by decide) rfl (fun _ h => h)
                  · intro _ _
                    show Sx _ _ _ [(2, .bool dec), (3, .bool on), (9, .pointer (some ⟨b2, 0, none⟩)), (11, .int .i64 ((numbersS dec).getD q (0 : Int))), (12, .pointer (some ⟨b6, 0, none⟩)), (13, .bool (dec && ((decide (((numbersS dec).getD q (0 : Int)) = 9)) || ((decide ((1000 : Int) ≤ ((numbersS dec).getD q (0 : Int)))) && (decide (((numbersS dec).getD q (0 : Int)) ≤ 1003)))))), (16, .bool true), (17, .slice a63 ((numbersS true).length) c64), (18, .int .i64 (k8 : Int)), (19, .int .i64 ((numbersS true).getD k8 (0 : Int))), (20, .bool ((decide (((numbersS true).getD k8 (0 : Int)) = 9)) || ((decide ((1000 : Int) ≤ ((numbersS true).getD k8 (0 : Int)))) && (decide (((numbersS true).getD k8 (0 : Int)) ≤ 1003))))), (71, .agg (List.toArray [.bool false, .bool true])), (72, .int .i64 1)] [(some b6, .cells (List.toArray [.bool r5.ins, .bool r5.nl, .bool r5.ck, .bool r5.inv, .bool r5.org, .bool r5.aut, .bool r5.vis, .bool r5.paste, .bool r5.focus, .bool r5.sync, .bool r5.keypad, .int .i64 r5.mouse, .bool r5.sgr]) 23 (0, 0)), (some b2, .cells (List.toArray [.bool r1.ins, .bool r1.nl, .bool r1.ck, .bool r1.inv, .bool r1.org, .bool r1.aut, .bool r1.vis, .bool r1.paste, .bool r1.focus, .bool r1.sync, .bool r1.keypad, .int .i64 r1.mouse, .bool r1.sgr]) 23 (0, 0))] _
                    refine Sx.next ?_
                    refine Sc.seq ?_
                    refine Sc.region ?_
                    refine Seg.y rfl rfl (Want.none rfl) (Y.loadN (vs := [.bool r1.ins, .bool r1.nl, .bool r1.ck, .bool r1.inv, .bool r1.org, .bool r1.aut, .bool r1.vis, .bool r1.paste, .bool r1.focus, .bool r1.sync, .bool r1.keypad, .int .i64 r1.mouse, .bool r1.sgr]) 1 rfl rfl rfl rfl ag23 sz23) ?_
                    refine Seg.y rfl rfl (Want.none rfl) (Y.move rfl) ?_
                    refine Seg.y rfl rfl (Want.none rfl) (Y.move rfl) ?_
                    obtain ⟨r70, hr70⟩ : ∃ x, x = lstate r1 true ((numbersS true).getD k8 (0 : Int)) false := ⟨_, rfl⟩
                    refine Seg.callV (v := .int .i64 r70) rfl rfl (Want.none rfl) (K.func rfl co26) (fun w hs => by rw [hr70]; exact lstate_c r1 true ((numbersS true).getD k8 (0 : Int)) false w ) ?_
                    refine Seg.y rfl rfl (Want.none rfl) (Y.assign rfl) ?_
                    refine Seg.nil ?_
                    refine Sx.next ?_
                    refine Sc.seq ?_
                    refine Sc.seq ?_
                    refine Sc.cut (fun (_ : Unit) => True) (fun (_ : Unit) => [(2, .bool dec), (3, .bool on), (9, .pointer (some ⟨b2, 0, none⟩)), (11, .int .i64 ((numbersS dec).getD q (0 : Int))), (12, .pointer (some ⟨b6, 0, none⟩)), (13, .bool (dec && ((decide (((numbersS dec).getD q (0 : Int)) = 9)) || ((decide ((1000 : Int) ≤ ((numbersS dec).getD q (0 : Int)))) && (decide (((numbersS dec).getD q (0 : Int)) ≤ 1003)))))), (16, .bool true), (17, .slice a63 ((numbersS true).length) c64), (18, .int .i64 (k8 : Int)), (19, .int .i64 ((numbersS true).getD k8 (0 : Int))), (21, .int .i64 r70), (71, .agg (List.toArray [.bool false, .bool true])), (72, .int .i64 1), (118, .bool (((dec && ((decide (((numbersS dec).getD q (0 : Int)) = 9)) || ((decide ((1000 : Int) ≤ ((numbersS dec).getD q (0 : Int)))) && (decide (((numbersS dec).getD q (0 : Int)) ≤ 1003))))) && ((decide (((numbersS true).getD k8 (0 : Int)) = 9)) || ((decide ((1000 : Int) ≤ ((numbersS true).getD k8 (0 : Int)))) && (decide (((numbersS true).getD k8 (0 : Int)) ≤ 1003))))) && on))]) (fun (_ : Unit) => [(some b6, .cells (List.toArray [.bool r5.ins, .bool r5.nl, .bool r5.ck, .bool r5.inv, .bool r5.org, .bool r5.aut, .bool r5.vis, .bool r5.paste, .bool r5.focus, .bool r5.sync, .bool r5.keypad, .int .i64 r5.mouse, .bool r5.sgr]) 23 (0, 0)), (some b2, .cells (List.toArray [.bool r1.ins, .bool r1.nl, .bool r1.ck, .bool r1.inv, .bool r1.org, .bool r1.aut, .bool r1.vis, .bool r1.paste, .bool r1.focus, .bool r1.sync, .bool r1.keypad, .int .i64 r1.mouse, .bool r1.sgr]) 23 (0, 0))]) (fun _ => fun w => (((True) ∧ RowV 1 encI a3 (numbersS dec) w) ∧ RowV 1 encI a51 (numbersS false) w) ∧ RowV 1 encI a63 (numbersS true) w) ?_ ?_
                    · skip
                      refine Sc.region ?_
                      refine Seg.y rfl rfl (Want.none rfl) (Y.move rfl) ?_
                      refine Seg.y rfl rfl (Want.none rfl) (Y.move rfl) ?_
                      rcases Bool.eq_false_or_eq_true (dec && ((decide (((numbersS dec).getD q (0 : Int)) = 9)) || ((decide ((1000 : Int) ≤ ((numbersS dec).getD q (0 : Int)))) && (decide (((numbersS dec).getD q (0 : Int)) ≤ 1003))))) with g71 | g71
                      · skip
                        refine Seg.y rfl rfl (Want.some 1 113 true rfl rfl rfl g71) (Y.move rfl) ?_
                        refine Seg.y rfl rfl (Want.none rfl) (Y.pickT rfl g71 rfl) ?_
                        refine Seg.y rfl rfl (Want.none rfl) (Y.move rfl) ?_
                        rcases Bool.eq_false_or_eq_true ((decide (((numbersS true).getD k8 (0 : Int)) = 9)) || ((decide ((1000 : Int) ≤ ((numbersS true).getD k8 (0 : Int)))) && (decide (((numbersS true).getD k8 (0 : Int)) ≤ 1003)))) with g72 | g72
                        · skip
                          refine Seg.y rfl rfl (Want.some 4 116 true rfl rfl rfl g72) (Y.move rfl) ?_
                          refine Seg.y rfl rfl (Want.none rfl) (Y.pickT rfl g72 rfl) ?_
                          refine Seg.nil ?_
                          exact Sx.cut () trivial ⟨rfl, rfl, rfl, rfl, rfl, rfl, rfl, rfl, rfl, rfl, rfl, rfl, rfl, (someB (by first | (simp [h10, h50, h53, h53p, h65, h65p, h67, g71, g72]; done) | (simp_all; done) | ((simp [h10, h50, h53, h53p, h65, h65p, h67, g71, g72]) <;> grind))), trivial⟩ [0, 1] (by decide) rfl (fun _ h => h)
                        · skip
                          refine Seg.skip rfl rfl (Skip.some 4 116 true rfl rfl rfl g72) ?_
                          refine Seg.y rfl rfl (Want.none rfl) (Y.pickF rfl g72 rfl) ?_
                          refine Seg.nil ?_
                          exact Sx.cut () trivial ⟨rfl, rfl, rfl, rfl, rfl, rfl, rfl, rfl, rfl, rfl, rfl, rfl, rfl, (someB (by first | (simp [h10, h50, h53, h53p, h65, h65p, h67, g71, g72]; done) | (simp_all; done) | ((simp [h10, h50, h53, h53p, h65, h65p, h67, g71, g72]) <;> grind))), trivial⟩ [0, 1] (by decide) rfl (fun _ h => h)
                      · skip
                        refine Seg.skip rfl rfl (Skip.some 1 113 true rfl rfl rfl g71) ?_
                        refine Seg.y rfl rfl (Want.none rfl) (Y.pickF rfl g71 rfl) ?_
                        refine Seg.y rfl rfl (Want.none rfl) (Y.move rfl) ?_
                        refine Seg.skip rfl rfl (Skip.some 4 116 true rfl rfl rfl rfl) ?_
                        refine Seg.y rfl rfl (Want.none rfl) (Y.pickF rfl rfl rfl) ?_
                        refine Seg.nil ?_
                        exact Sx.cut () trivial ⟨rfl, rfl, rfl, rfl, rfl, rfl, rfl, rfl, rfl, rfl, rfl, rfl, rfl, (someB (by first | (simp [h10, h50, h53, h53p, h65, h65p, h67, g71]; done) | (simp_all; done) | ((simp [h10, h50, h53, h53p, h65, h65p, h67, g71]) <;> grind))), trivial⟩ [0, 1] (by decide) rfl (fun _ h => h)
                    · intro _ _
                      show Sx _ _ _ [(2, .bool dec), (3, .bool on), (9, .pointer (some ⟨b2, 0, none⟩)), (11, .int .i64 ((numbersS dec).getD q (0 : Int))), (12, .pointer (some ⟨b6, 0, none⟩)), (13, .bool (dec && ((decide (((numbersS dec).getD q (0 : Int)) = 9)) || ((decide ((1000 : Int) ≤ ((numbersS dec).getD q (0 : Int)))) && (decide (((numbersS dec).getD q (0 : Int)) ≤ 1003)))))), (16, .bool true), (17, .slice a63 ((numbersS true).length) c64), (18, .int .i64 (k8 : Int)), (19, .int .i64 ((numbersS true).getD k8 (0 : Int))), (21, .int .i64 r70), (71, .agg (List.toArray [.bool false, .bool true])), (72, .int .i64 1), (118, .bool (((dec && ((decide (((numbersS dec).getD q (0 : Int)) = 9)) || ((decide ((1000 : Int) ≤ ((numbersS dec).getD q (0 : Int)))) && (decide (((numbersS dec).getD q (0 : Int)) ≤ 1003))))) && ((decide (((numbersS true).getD k8 (0 : Int)) = 9)) || ((decide ((1000 : Int) ≤ ((numbersS true).getD k8 (0 : Int)))) && (decide (((numbersS true).getD k8 (0 : Int)) ≤ 1003))))) && on))] [(some b6, .cells (List.toArray [.bool r5.ins, .bool r5.nl, .bool r5.ck, .bool r5.inv, .bool r5.org, .bool r5.aut, .bool r5.vis, .bool r5.paste, .bool r5.focus, .bool r5.sync, .bool r5.keypad, .int .i64 r5.mouse, .bool r5.sgr]) 23 (0, 0)), (some b2, .cells (List.toArray [.bool r1.ins, .bool r1.nl, .bool r1.ck, .bool r1.inv, .bool r1.org, .bool r1.aut, .bool r1.vis, .bool r1.paste, .bool r1.focus, .bool r1.sync, .bool r1.keypad, .int .i64 r1.mouse, .bool r1.sgr]) 23 (0, 0))] _
                      refine Sx.next ?_
                      refine Sc.cond rfl (fun h73 => ?_) (fun h73 => ?_)
                      · skip
                        refine Sc.region ?_
                        refine Seg.y rfl rfl (Want.none rfl) (Y.assign rfl) ?_
                        refine Seg.nil ?_
                        refine Sx.next ?_
                        refine Sc.seq ?_
                        refine Sc.region ?_
                        refine Seg.y rfl rfl (Want.none rfl) (Y.loadN (vs := [.bool r5.ins, .bool r5.nl, .bool r5.ck, .bool r5.inv, .bool r5.org, .bool r5.aut, .bool r5.vis, .bool r5.paste, .bool r5.focus, .bool r5.sync, .bool r5.keypad, .int .i64 r5.mouse, .bool r5.sgr]) 0 rfl rfl rfl rfl ag23 sz23) ?_
                        refine Seg.y rfl rfl (Want.none rfl) (Y.move rfl) ?_
                        refine Seg.y rfl rfl (Want.none rfl) (Y.move rfl) ?_
                        obtain ⟨r74, hr74⟩ : ∃ x, x = lstate r5 true ((numbersS true).getD k8 (0 : Int)) false := ⟨_, rfl⟩
                        refine Seg.callV (v := .int .i64 r74) rfl rfl (Want.none rfl) (K.func rfl co26) (fun w hs => by rw [hr74]; exact lstate_c r5 true ((numbersS true).getD k8 (0 : Int)) false w ) ?_
                        refine Seg.y rfl rfl (Want.none rfl) (Y.move rfl) ?_
                        refine Seg.y rfl rfl (Want.none rfl) (Y.binOp rfl rfl (B.ne _ _ _)) ?_
                        refine Seg.nil ?_
                        refine Sx.next ?_
                        refine Sc.cond rfl (fun h75 => ?_) (fun h75 => ?_)
                        · skip
                          have h75p := of_decide_eq_true h75
                          refine Sc.seq ?_
                          refine Sc.region ?_
                          refine Seg.y rfl rfl (Want.none rfl) (Y.assign rfl) ?_
                          refine Seg.nil ?_
                          refine Sx.next ?_
                          refine Sc.ret ?_
                          refine Sx.block_ret ?_
                          refine Sx.next_ret ?_
                          refine Sx.loop_ret ?_
                          refine Sx.block_ret ?_
                          refine Sx.block_ret ?_
                          refine Sx.next_ret ?_
                          refine Sx.loop_ret ?_
                          refine Sx.block_ret ?_
                          refine Sx.next_ret ?_
                          refine Sx.body (.inl rfl) (res1 rfl (Rv.tmp rfl)) (fun w hs => ?_)
                          refine RetV.eq ?_ hs
                          subst hr1
                          subst hr5
                          subst hr47
                          subst hr48
                          subst hr70
                          subst hr74
                          clear hs
                          have hc := of_check b
                          have hk := known_get dec q hql
                          have hk2 := known_get true k8 (by omega)
                          generalize (numbersS dec).getD q 0 = n at *
                          generalize (numbersS true).getD k8 0 = k at *
                          have a1 := al1 (ofS b) hc dec n on hk
                          have a2 := al2 (ofS b) hc dec n on hk
                          have a3 := al3 (ofS b) hc dec n on hk true k hk2 (by intro hh; simp_all)
                          exfalso; first | (simp_all [toldS]; done) | grind [toldS]
                        · skip
                          have h75p : r74 = 2 := by simpa using h75
                          refine Sc.skip ?_
                          refine Sx.block_normal ?_
                          refine Sx.next ?_
                          refine Sc.region ?_
                          refine Seg.y rfl rfl (Want.none rfl) (Y.move rfl) ?_
                          refine Seg.y rfl rfl (Want.none rfl) (Y.binOp rfl rfl (B.add _ _ _ ((k8 : Int) + 1) (wr_i64 (by omega)))) ?_
                          refine Seg.y rfl rfl (Want.none rfl) (Y.assign rfl) ?_
                          refine Seg.nil ?_
                          exact Sx.head (k8 + 1) (by first | omega | (simp at *; omega)) (by first | omega | (dsimp only; omega)) ⟨rfl, rfl, rfl, rfl, rfl, rfl, rfl, rfl, rfl, rfl, rfl, trivial⟩ [0, 1] (by decide) rfl (fun _ h => h)
                      · skip
                        refine Sc.skip ?_
                        refine Sx.next ?_
                        refine Sc.seq ?_
                        refine Sc.region ?_
                        refine Seg.y rfl rfl (Want.none rfl) (Y.loadN (vs := [.bool r5.ins, .bool r5.nl, .bool r5.ck, .bool r5.inv, .bool r5.org, .bool r5.aut, .bool r5.vis, .bool r5.paste, .bool r5.focus, .bool r5.sync, .bool r5.keypad, .int .i64 r5.mouse, .bool r5.sgr]) 0 rfl rfl rfl rfl ag23 sz23) ?_
                        refine Seg.y rfl rfl (Want.none rfl) (Y.move rfl) ?_
                        refine Seg.y rfl rfl (Want.none rfl) (Y.move rfl) ?_
                        obtain ⟨r76, hr76⟩ : ∃ x, x = lstate r5 true ((numbersS true).getD k8 (0 : Int)) false := ⟨_, rfl⟩
                        refine Seg.callV (v := .int .i64 r76) rfl rfl (Want.none rfl) (K.func rfl co26) (fun w hs => by rw [hr76]; exact lstate_c r5 true ((numbersS true).getD k8 (0 : Int)) false w ) ?_
                        refine Seg.y rfl rfl (Want.none rfl) (Y.move rfl) ?_
                        refine Seg.y rfl rfl (Want.none rfl) (Y.binOp rfl rfl (B.ne _ _ _)) ?_
                        refine Seg.nil ?_
                        refine Sx.next ?_
                        refine Sc.cond rfl (fun h77 => ?_) (fun h77 => ?_)
                        · skip
                          have h77p := of_decide_eq_true h77
                          refine Sc.seq ?_
                          refine Sc.region ?_
                          refine Seg.y rfl rfl (Want.none rfl) (Y.assign rfl) ?_
                          refine Seg.nil ?_
                          refine Sx.next ?_
                          refine Sc.ret ?_
                          refine Sx.block_ret ?_
                          refine Sx.next_ret ?_
                          refine Sx.loop_ret ?_
                          refine Sx.block_ret ?_
                          refine Sx.block_ret ?_
                          refine Sx.next_ret ?_
                          refine Sx.loop_ret ?_
                          refine Sx.block_ret ?_
                          refine Sx.next_ret ?_
                          refine Sx.body (.inl rfl) (res1 rfl (Rv.tmp rfl)) (fun w hs => ?_)
                          refine RetV.eq ?_ hs
                          subst hr1
                          subst hr5
                          subst hr47
                          subst hr48
                          subst hr70
                          subst hr76
                          clear hs
                          have hc := of_check b
                          have hk := known_get dec q hql
                          have hk2 := known_get true k8 (by omega)
                          generalize (numbersS dec).getD q 0 = n at *
                          generalize (numbersS true).getD k8 0 = k at *
                          have a1 := al1 (ofS b) hc dec n on hk
                          have a2 := al2 (ofS b) hc dec n on hk
                          have a3 := al3 (ofS b) hc dec n on hk true k hk2 (by intro hh; simp_all)
                          exfalso; first | (simp_all [toldS]; done) | grind [toldS]
                        · skip
                          have h77p : r76 = r70 := by simpa using h77
                          refine Sc.skip ?_
                          refine Sx.block_normal ?_
                          refine Sx.next ?_
                          refine Sc.region ?_
                          refine Seg.y rfl rfl (Want.none rfl) (Y.move rfl) ?_
                          refine Seg.y rfl rfl (Want.none rfl) (Y.binOp rfl rfl (B.add _ _ _ ((k8 : Int) + 1) (wr_i64 (by omega)))) ?_
                          refine Seg.y rfl rfl (Want.none rfl) (Y.assign rfl) ?_
                          refine Seg.nil ?_
                          exact Sx.head (k8 + 1) (by first | omega | (simp at *; omega)) (by first | omega | (dsimp only; omega)) ⟨rfl, rfl, rfl, rfl, rfl, rfl, rfl, rfl, rfl, rfl, rfl, trivial⟩ [0, 1] (by decide) rfl (fun _ h => h)
            · skip
              have h65p := of_decide_eq_false h65
              refine Sc.exit ?_
              refine Sx.next_exit ?_
              refine Sx.loop_exit ?_
              refine Sx.block_exit ?_
              refine Sx.block_normal ?_
              refine Sx.next ?_
              refine Sc.region ?_
              refine Seg.y rfl rfl (Want.none rfl) (Y.binOp rfl rfl (B.add _ _ _ 2 (by decide))) ?_
              refine Seg.y rfl rfl (Want.none rfl) (Y.move rfl) ?_
              refine Seg.nil ?_
              refine Sx.round ?_
              refine Sr.succ ?_
              refine Sc.seq ?_
              refine Sc.region ?_
              refine Seg.y rfl rfl (Want.none rfl) (Y.binOp (v := .bool false) rfl rfl (B.lt _ _ _)) ?_
              refine Seg.nil ?_
              refine Sx.next ?_
              refine Sc.seq ?_
              refine Sc.condF rfl rfl ?_
              refine Sc.exit ?_
              refine Sx.next_exit ?_
              refine Sx.loop_exit ?_
              refine Sx.block_exit ?_
              refine Sx.next ?_
              refine Sc.seq ?_
              refine Sc.region ?_
              refine Seg.y rfl rfl (Want.none rfl) (Y.loadN (vs := [.bool r1.ins, .bool r1.nl, .bool r1.ck, .bool r1.inv, .bool r1.org, .bool r1.aut, .bool r1.vis, .bool r1.paste, .bool r1.focus, .bool r1.sync, .bool r1.keypad, .int .i64 r1.mouse, .bool r1.sgr]) 1 rfl rfl rfl rfl ag23 sz23) ?_
              refine Seg.y rfl rfl (Want.none rfl) (Y.move rfl) ?_
              refine Seg.y rfl rfl (Want.none rfl) (Y.move rfl) ?_
              obtain ⟨r78, hr78⟩ : ∃ x, x = lstate r1 dec ((numbersS dec).getD q (0 : Int)) false := ⟨_, rfl⟩
              refine Seg.callV (v := .int .i64 r78) rfl rfl (Want.none rfl) (K.func rfl co26) (fun w hs => by rw [hr78]; exact lstate_c r1 dec ((numbersS dec).getD q (0 : Int)) false w ) ?_
              refine Seg.y rfl rfl (Want.none rfl) (Y.assign rfl) ?_
              refine Seg.nil ?_
              refine Sx.next ?_
              refine Sc.seq ?_
              obtain ⟨r79, hr79⟩ : ∃ x, x = lput r5 dec ((numbersS dec).getD q (0 : Int)) (decide (r78 = 1)) := ⟨_, rfl⟩
              refine Sc.cut (fun (_ : Unit) => True) (fun (_ : Unit) => [(8, .bool ((r5.keypad == r1.keypad) && ((((dec && ((decide (((numbersS dec).getD q (0 : Int)) = 9)) || ((decide ((1000 : Int) ≤ ((numbersS dec).getD q (0 : Int)))) && (decide (((numbersS dec).getD q (0 : Int)) ≤ 1003))))) && on) && (decide (r1.mouse ≠ 0))) || (MdEq r79 r1))))]) (fun (_ : Unit) => []) (fun _ => fun w => (((True) ∧ RowV 1 encI a3 (numbersS dec) w) ∧ RowV 1 encI a51 (numbersS false) w) ∧ RowV 1 encI a63 (numbersS true) w) ?_ ?_
              · skip
                refine Sc.draw (by kernel_rfl) (fun _ h => St.lean [0, 1] (by decide) (fun _ h => h) h rfl) ?_
                refine Sd.take 0 rfl rfl rfl (by kernel_rfl) (by kernel_rfl) (by kernel_rfl) Cut.panic (Want.none rfl) (Y.fieldAddr rfl (A.field Try.underlying23 rfl sz4 rfl rfl)) ?_
                refine Sd.take 1 rfl rfl rfl (by kernel_rfl) (by kernel_rfl) (by kernel_rfl) Cut.panic (Want.none rfl) (Y.load1 0 rfl rfl rfl ag4) ?_
                refine Sd.take 2 rfl rfl rfl (by kernel_rfl) (by kernel_rfl) (by kernel_rfl) Cut.panic (Want.none rfl) (Y.fieldAddr rfl (A.field Try.underlying23 rfl sz4 rfl rfl)) ?_
                refine Sd.take 3 rfl rfl rfl (by kernel_rfl) (by kernel_rfl) (by kernel_rfl) Cut.panic (Want.none rfl) (Y.load1 1 rfl rfl rfl ag4) ?_
                refine Sd.take 4 rfl rfl rfl (by kernel_rfl) (by kernel_rfl) (by kernel_rfl) Cut.panic (Want.none rfl) (Y.binOp rfl rfl (B.eqB _ _ Try.underlying4)) ?_
                refine Sd.take 5 rfl rfl rfl (by kernel_rfl) (by kernel_rfl) (by kernel_rfl) Cut.panic (Want.none rfl) (Y.move rfl) ?_
                rcases Bool.eq_false_or_eq_true (r5.keypad == r1.keypad) with g80 | g80
                · skip
                  refine Sd.take 6 rfl rfl rfl (by kernel_rfl) (by kernel_rfl) (by kernel_rfl) Cut.panic (Want.some 5 135 true rfl rfl rfl g80) (Y.move rfl) ?_
                  refine Sd.take 7 rfl rfl rfl (by kernel_rfl) (by kernel_rfl) (by kernel_rfl) Cut.panic (Want.some 5 135 true rfl rfl rfl g80) (Y.move rfl) ?_
                  rcases Bool.eq_false_or_eq_true (dec && ((decide (((numbersS dec).getD q (0 : Int)) = 9)) || ((decide ((1000 : Int) ≤ ((numbersS dec).getD q (0 : Int)))) && (decide (((numbersS dec).getD q (0 : Int)) ≤ 1003))))) with g81 | g81
                  · skip
                    refine Sd.take 8 rfl rfl rfl (by kernel_rfl) (by kernel_rfl) (by kernel_rfl) Cut.panic (Want.some 7 137 true rfl rfl rfl g81) (Y.move rfl) ?_
                    refine Sd.take 9 rfl rfl rfl (by kernel_rfl) (by kernel_rfl) (by kernel_rfl) Cut.panic (Want.some 5 135 true rfl rfl rfl g80) (Y.pickT rfl g81 rfl) ?_
                    refine Sd.take 10 rfl rfl rfl (by kernel_rfl) (by kernel_rfl) (by kernel_rfl) Cut.panic (Want.some 5 135 true rfl rfl rfl g80) (Y.move rfl) ?_
                    refine Sd.takeSkip 11 rfl rfl rfl (by kernel_rfl) (by kernel_rfl) (by kernel_rfl) Cut.panic (Skip.some 10 140 true rfl rfl rfl h10) ?_
                    refine Sd.takeSkip 12 rfl rfl rfl (by kernel_rfl) (by kernel_rfl) (by kernel_rfl) Cut.panic (Skip.some 10 140 true rfl rfl rfl h10) ?_
                    refine Sd.takeSkip 13 rfl rfl rfl (by kernel_rfl) (by kernel_rfl) (by kernel_rfl) Cut.panic (Skip.some 10 140 true rfl rfl rfl h10) ?_
                    refine Sd.take 14 rfl rfl rfl (by kernel_rfl) (by kernel_rfl) (by kernel_rfl) Cut.panic (Want.some 5 135 true rfl rfl rfl g80) (Y.pickF rfl h10 rfl) ?_
                    refine Sd.take 15 rfl rfl rfl (by kernel_rfl) (by kernel_rfl) (by kernel_rfl) Cut.panic (Want.some 5 135 true rfl rfl rfl g80) (Y.move rfl) ?_
                    refine Sd.take 16 rfl rfl rfl (by kernel_rfl) (by kernel_rfl) (by kernel_rfl) Cut.panic (Want.some 15 145 false rfl rfl rfl rfl) (Y.loadN (vs := [.bool r5.ins, .bool r5.nl, .bool r5.ck, .bool r5.inv, .bool r5.org, .bool r5.aut, .bool r5.vis, .bool r5.paste, .bool r5.focus, .bool r5.sync, .bool r5.keypad, .int .i64 r5.mouse, .bool r5.sgr]) 0 rfl rfl rfl rfl ag23 sz23) ?_
                    refine Sd.take 17 rfl rfl rfl (by kernel_rfl) (by kernel_rfl) (by kernel_rfl) Cut.panic (Want.some 15 145 false rfl rfl rfl rfl) (Y.move rfl) ?_
                    refine Sd.take 18 rfl rfl rfl (by kernel_rfl) (by kernel_rfl) (by kernel_rfl) Cut.panic (Want.some 15 145 false rfl rfl rfl rfl) (Y.move rfl) ?_
                    refine Sd.take 19 rfl rfl rfl (by kernel_rfl) (by kernel_rfl) (by kernel_rfl) Cut.panic (Want.some 15 145 false rfl rfl rfl rfl) (Y.move rfl) ?_
                    refine Sd.take 20 rfl rfl rfl (by kernel_rfl) (by kernel_rfl) (by kernel_rfl) Cut.panic (Want.some 15 145 false rfl rfl rfl rfl) (Y.binOp rfl rfl (B.eq _ _ _)) ?_
                    refine Sd.take 22 rfl rfl rfl (by kernel_rfl) (by kernel_rfl) (by kernel_rfl) Cut.panic (Want.some 15 145 false rfl rfl rfl rfl) (Y.loadN (vs := [.bool r1.ins, .bool r1.nl, .bool r1.ck, .bool r1.inv, .bool r1.org, .bool r1.aut, .bool r1.vis, .bool r1.paste, .bool r1.focus, .bool r1.sync, .bool r1.keypad, .int .i64 r1.mouse, .bool r1.sgr]) 1 rfl rfl rfl rfl ag23 sz23) ?_
                    refine Sd.all [21] (by kernel_rfl) (by decide) (all_cons ?_ all_nil)
                    refine Sp.callV (v := .agg (List.toArray [.bool r79.ins, .bool r79.nl, .bool r79.ck, .bool r79.inv, .bool r79.org, .bool r79.aut, .bool r79.vis, .bool r79.paste, .bool r79.focus, .bool r79.sync, .bool r79.keypad, .int .i64 r79.mouse, .bool r79.sgr])) rfl rfl rfl (Want.some 15 145 false rfl rfl rfl rfl) (K.func rfl co24) (fun w hs => by rw [hr79]; exact lput_c r5 dec ((numbersS dec).getD q (0 : Int)) (decide (r78 = 1)) w ) ?_
                    refine Sd.take 23 rfl rfl rfl (by kernel_rfl) (by kernel_rfl) (by kernel_rfl) Cut.panic (Want.some 15 145 false rfl rfl rfl rfl) (Y.binOp rfl rfl (B.eqS gq23 (Eqs.struct (n := 1) (b := MdEq r79 r1) Try.underlying23 sd23 (EqF.cons (b := r79.ins == r1.ins) rfl ag4 rfl rfl (Eqs.mono (m := 1) (Eqs.bool Try.underlying4) (by decide)) (EqF.cons (b := r79.nl == r1.nl) rfl ag4 rfl rfl (Eqs.mono (m := 1) (Eqs.bool Try.underlying4) (by decide)) (EqF.cons (b := r79.ck == r1.ck) rfl ag4 rfl rfl (Eqs.mono (m := 1) (Eqs.bool Try.underlying4) (by decide)) (EqF.cons (b := r79.inv == r1.inv) rfl ag4 rfl rfl (Eqs.mono (m := 1) (Eqs.bool Try.underlying4) (by decide)) (EqF.cons (b := r79.org == r1.org) rfl ag4 rfl rfl (Eqs.mono (m := 1) (Eqs.bool Try.underlying4) (by decide)) (EqF.cons (b := r79.aut == r1.aut) rfl ag4 rfl rfl (Eqs.mono (m := 1) (Eqs.bool Try.underlying4) (by decide)) (EqF.cons (b := r79.vis == r1.vis) rfl ag4 rfl rfl (Eqs.mono (m := 1) (Eqs.bool Try.underlying4) (by decide)) (EqF.cons (b := r79.paste == r1.paste) rfl ag4 rfl rfl (Eqs.mono (m := 1) (Eqs.bool Try.underlying4) (by decide)) (EqF.cons (b := r79.focus == r1.focus) rfl ag4 rfl rfl (Eqs.mono (m := 1) (Eqs.bool Try.underlying4) (by decide)) (EqF.cons (b := r79.sync == r1.sync) rfl ag4 rfl rfl (Eqs.mono (m := 1) (Eqs.bool Try.underlying4) (by decide)) (EqF.cons (b := r79.keypad == r1.keypad) rfl ag4 rfl rfl (Eqs.mono (m := 1) (Eqs.bool Try.underlying4) (by decide)) (EqF.cons (b := decide (r79.mouse = r1.mouse)) rfl ag3 rfl rfl (Eqs.mono (m := 1) (Eqs.int Try.underlying3) (by decide)) (EqF.cons (b := r79.sgr == r1.sgr) rfl ag4 rfl rfl (Eqs.mono (m := 1) (Eqs.bool Try.underlying4) (by decide)) (EqF.nil))))))))))))))) rfl)) ?_
                    refine Sd.take 24 rfl rfl rfl (by kernel_rfl) (by kernel_rfl) (by kernel_rfl) Cut.panic (Want.some 5 135 true rfl rfl rfl g80) (Y.pickF rfl rfl rfl) ?_
                    refine Sd.take 25 rfl rfl rfl (by kernel_rfl) (by kernel_rfl) (by kernel_rfl) Cut.panic (Want.none rfl) (Y.pickT rfl g80 rfl) ?_
                    refine Sd.take 26 rfl rfl rfl (by kernel_rfl) (by kernel_rfl) (by kernel_rfl) Cut.panic (Want.none rfl) (Y.assign rfl) ?_
                    refine Sd.done (by kernel_rfl) ?_
                    exact Sx.cut () trivial ⟨(someB (by first | (simp [h10, h50, h53, h53p, h65, h65p, g80, g81]; done) | (simp_all; done) | ((simp [h10, h50, h53, h53p, h65, h65p, g80, g81]) <;> grind))), trivial⟩ [] (by decide) rfl (fun _ h => h)
                  · skip
                    refine Sd.takeSkip 8 rfl rfl rfl (by kernel_rfl) (by kernel_rfl) (by kernel_rfl) Cut.panic (Skip.some 7 137 true rfl rfl rfl g81) ?_
                    refine Sd.take 9 rfl rfl rfl (by kernel_rfl) (by kernel_rfl) (by kernel_rfl) Cut.panic (Want.some 5 135 true rfl rfl rfl g80) (Y.pickF rfl g81 rfl) ?_
                    refine Sd.take 10 rfl rfl rfl (by kernel_rfl) (by kernel_rfl) (by kernel_rfl) Cut.panic (Want.some 5 135 true rfl rfl rfl g80) (Y.move rfl) ?_
                    refine Sd.takeSkip 11 rfl rfl rfl (by kernel_rfl) (by kernel_rfl) (by kernel_rfl) Cut.panic (Skip.some 10 140 true rfl rfl rfl rfl) ?_
                    refine Sd.takeSkip 12 rfl rfl rfl (by kernel_rfl) (by kernel_rfl) (by kernel_rfl) Cut.panic (Skip.some 10 140 true rfl rfl rfl rfl) ?_
                    refine Sd.takeSkip 13 rfl rfl rfl (by kernel_rfl) (by kernel_rfl) (by kernel_rfl) Cut.panic (Skip.some 10 140 true rfl rfl rfl rfl) ?_
                    refine Sd.take 14 rfl rfl rfl (by kernel_rfl) (by kernel_rfl) (by kernel_rfl) Cut.panic (Want.some 5 135 true rfl rfl rfl g80) (Y.pickF rfl rfl rfl) ?_
                    refine Sd.take 15 rfl rfl rfl (by kernel_rfl) (by kernel_rfl) (by kernel_rfl) Cut.panic (Want.some 5 135 true rfl rfl rfl g80) (Y.move rfl) ?_
                    refine Sd.take 16 rfl rfl rfl (by kernel_rfl) (by kernel_rfl) (by kernel_rfl) Cut.panic (Want.some 15 145 false rfl rfl rfl rfl) (Y.loadN (vs := [.bool r5.ins, .bool r5.nl, .bool r5.ck, .bool r5.inv, .bool r5.org, .bool r5.aut, .bool r5.vis, .bool r5.paste, .bool r5.focus, .bool r5.sync, .bool r5.keypad, .int .i64 r5.mouse, .bool r5.sgr]) 0 rfl rfl rfl rfl ag23 sz23) ?_
                    refine Sd.take 17 rfl rfl rfl (by kernel_rfl) (by kernel_rfl) (by kernel_rfl) Cut.panic (Want.some 15 145 false rfl rfl rfl rfl) (Y.move rfl) ?_
                    refine Sd.take 18 rfl rfl rfl (by kernel_rfl) (by kernel_rfl) (by kernel_rfl) Cut.panic (Want.some 15 145 false rfl rfl rfl rfl) (Y.move rfl) ?_
                    refine Sd.take 19 rfl rfl rfl (by kernel_rfl) (by kernel_rfl) (by kernel_rfl) Cut.panic (Want.some 15 145 false rfl rfl rfl rfl) (Y.move rfl) ?_
                    refine Sd.take 20 rfl rfl rfl (by kernel_rfl) (by kernel_rfl) (by kernel_rfl) Cut.panic (Want.some 15 145 false rfl rfl rfl rfl) (Y.binOp rfl rfl (B.eq _ _ _)) ?_
                    refine Sd.take 22 rfl rfl rfl (by kernel_rfl) (by kernel_rfl) (by kernel_rfl) Cut.panic (Want.some 15 145 false rfl rfl rfl rfl) (Y.loadN (vs := [.bool r1.ins, .bool r1.nl, .bool r1.ck, .bool r1.inv, .bool r1.org, .bool r1.aut, .bool r1.vis, .bool r1.paste, .bool r1.focus, .bool r1.sync, .bool r1.keypad, .int .i64 r1.mouse, .bool r1.sgr]) 1 rfl rfl rfl rfl ag23 sz23) ?_
                    refine Sd.all [21] (by kernel_rfl) (by decide) (all_cons ?_ all_nil)
                    refine Sp.callV (v := .agg (List.toArray [.bool r79.ins, .bool r79.nl, .bool r79.ck, .bool r79.inv, .bool r79.org, .bool r79.aut, .bool r79.vis, .bool r79.paste, .bool r79.focus, .bool r79.sync, .bool r79.keypad, .int .i64 r79.mouse, .bool r79.sgr])) rfl rfl rfl (Want.some 15 145 false rfl rfl rfl rfl) (K.func rfl co24) (fun w hs => by rw [hr79]; exact lput_c r5 dec ((numbersS dec).getD q (0 : Int)) (decide (r78 = 1)) w ) ?_
                    refine Sd.take 23 rfl rfl rfl (by kernel_rfl) (by kernel_rfl) (by kernel_rfl) Cut.panic (Want.some 15 145 false rfl rfl rfl rfl) (Y.binOp rfl rfl (B.eqS gq23 (Eqs.struct (n := 1) (b := MdEq r79 r1) Try.underlying23 sd23 (EqF.cons (b := r79.ins == r1.ins) rfl ag4 rfl rfl (Eqs.mono (m := 1) (Eqs.bool Try.underlying4) (by decide)) (EqF.cons (b := r79.nl == r1.nl) rfl ag4 rfl rfl (Eqs.mono (m := 1) (Eqs.bool Try.underlying4) (by decide)) (EqF.cons (b := r79.ck == r1.ck) rfl ag4 rfl rfl (Eqs.mono (m := 1) (Eqs.bool Try.underlying4) (by decide)) (EqF.cons (b := r79.inv == r1.inv) rfl ag4 rfl rfl (Eqs.mono (m := 1) (Eqs.bool Try.underlying4) (by decide)) (EqF.cons (b := r79.org == r1.org) rfl ag4 rfl rfl (Eqs.mono (m := 1) (Eqs.bool Try.underlying4) (by decide)) (EqF.cons (b := r79.aut == r1.aut) rfl ag4 rfl rfl (Eqs.mono (m := 1) (Eqs.bool Try.underlying4) (by decide)) (EqF.cons (b := r79.vis == r1.vis) rfl ag4 rfl rfl (Eqs.mono (m := 1) (Eqs.bool Try.underlying4) (by decide)) (EqF.cons (b := r79.paste == r1.paste) rfl ag4 rfl rfl (Eqs.mono (m := 1) (Eqs.bool Try.underlying4) (by decide)) (EqF.cons (b := r79.focus == r1.focus) rfl ag4 rfl rfl (Eqs.mono (m := 1) (Eqs.bool Try.underlying4) (by decide)) (EqF.cons (b := r79.sync == r1.sync) rfl ag4 rfl rfl (Eqs.mono (m := 1) (Eqs.bool Try.underlying4) (by decide)) (EqF.cons (b := r79.keypad == r1.keypad) rfl ag4 rfl rfl (Eqs.mono (m := 1) (Eqs.bool Try.underlying4) (by decide)) (EqF.cons (b := decide (r79.mouse = r1.mouse)) rfl ag3 rfl rfl (Eqs.mono (m := 1) (Eqs.int Try.underlying3) (by decide)) (EqF.cons (b := r79.sgr == r1.sgr) rfl ag4 rfl rfl (Eqs.mono (m := 1) (Eqs.bool Try.underlying4) (by decide)) (EqF.nil))))))))))))))) rfl)) ?_
                    refine Sd.take 24 rfl rfl rfl (by kernel_rfl) (by kernel_rfl) (by kernel_rfl) Cut.panic (Want.some 5 135 true rfl rfl rfl g80) (Y.pickF rfl rfl rfl) ?_
                    refine Sd.take 25 rfl rfl rfl (by kernel_rfl) (by kernel_rfl) (by kernel_rfl) Cut.panic (Want.none rfl) (Y.pickT rfl g80 rfl) ?_
                    refine Sd.take 26 rfl rfl rfl (by kernel_rfl) (by kernel_rfl) (by kernel_rfl) Cut.panic (Want.none rfl) (Y.assign rfl) ?_
                    refine Sd.done (by kernel_rfl) ?_
                    exact Sx.cut () trivial ⟨(someB (by first | (simp [h10, h50, h53, h53p, h65, h65p, g80, g81]; done) | (simp_all; done) | ((simp [h10, h50, h53, h53p, h65, h65p, g80, g81]) <;> grind))), trivial⟩ [] (by decide) rfl (fun _ h => h)
                · skip
                  refine Sd.takeSkip 6 rfl rfl rfl (by kernel_rfl) (by kernel_rfl) (by kernel_rfl) Cut.panic (Skip.some 5 135 true rfl rfl rfl g80) ?_
                  refine Sd.takeSkip 7 rfl rfl rfl (by kernel_rfl) (by kernel_rfl) (by kernel_rfl) Cut.panic (Skip.some 5 135 true rfl rfl rfl g80) ?_
                  refine Sd.takeSkip 8 rfl rfl rfl (by kernel_rfl) (by kernel_rfl) (by kernel_rfl) Cut.panic (Skip.undef 7 137 true rfl rfl rfl) ?_
                  refine Sd.takeSkip 9 rfl rfl rfl (by kernel_rfl) (by kernel_rfl) (by kernel_rfl) Cut.panic (Skip.some 5 135 true rfl rfl rfl g80) ?_
                  refine Sd.takeSkip 10 rfl rfl rfl (by kernel_rfl) (by kernel_rfl) (by kernel_rfl) Cut.panic (Skip.some 5 135 true rfl rfl rfl g80) ?_
                  refine Sd.takeSkip 11 rfl rfl rfl (by kernel_rfl) (by kernel_rfl) (by kernel_rfl) Cut.panic (Skip.undef 10 140 true rfl rfl rfl) ?_
                  refine Sd.takeSkip 12 rfl rfl rfl (by kernel_rfl) (by kernel_rfl) (by kernel_rfl) Cut.panic (Skip.undef 10 140 true rfl rfl rfl) ?_
                  refine Sd.takeSkip 13 rfl rfl rfl (by kernel_rfl) (by kernel_rfl) (by kernel_rfl) Cut.panic (Skip.undef 10 140 true rfl rfl rfl) ?_
                  refine Sd.takeSkip 14 rfl rfl rfl (by kernel_rfl) (by kernel_rfl) (by kernel_rfl) Cut.panic (Skip.some 5 135 true rfl rfl rfl g80) ?_
                  refine Sd.takeSkip 15 rfl rfl rfl (by kernel_rfl) (by kernel_rfl) (by kernel_rfl) Cut.panic (Skip.some 5 135 true rfl rfl rfl g80) ?_
                  refine Sd.takeSkip 16 rfl rfl rfl (by kernel_rfl) (by kernel_rfl) (by kernel_rfl) Cut.panic (Skip.undef 15 145 false rfl rfl rfl) ?_
                  refine Sd.takeSkip 17 rfl rfl rfl (by kernel_rfl) (by kernel_rfl) (by kernel_rfl) Cut.panic (Skip.undef 15 145 false rfl rfl rfl) ?_
                  refine Sd.takeSkip 18 rfl rfl rfl (by kernel_rfl) (by kernel_rfl) (by kernel_rfl) Cut.panic (Skip.undef 15 145 false rfl rfl rfl) ?_
                  refine Sd.takeSkip 19 rfl rfl rfl (by kernel_rfl) (by kernel_rfl) (by kernel_rfl) Cut.panic (Skip.undef 15 145 false rfl rfl rfl) ?_
                  refine Sd.takeSkip 20 rfl rfl rfl (by kernel_rfl) (by kernel_rfl) (by kernel_rfl) Cut.panic (Skip.undef 15 145 false rfl rfl rfl) ?_
                  refine Sd.takeSkip 21 rfl rfl rfl (by kernel_rfl) (by kernel_rfl) (by kernel_rfl) Cut.panic (Skip.undef 15 145 false rfl rfl rfl) ?_
                  refine Sd.takeSkip 22 rfl rfl rfl (by kernel_rfl) (by kernel_rfl) (by kernel_rfl) Cut.panic (Skip.undef 15 145 false rfl rfl rfl) ?_
                  refine Sd.takeSkip 23 rfl rfl rfl (by kernel_rfl) (by kernel_rfl) (by kernel_rfl) Cut.panic (Skip.undef 15 145 false rfl rfl rfl) ?_
                  refine Sd.takeSkip 24 rfl rfl rfl (by kernel_rfl) (by kernel_rfl) (by kernel_rfl) Cut.panic (Skip.some 5 135 true rfl rfl rfl g80) ?_
                  refine Sd.take 25 rfl rfl rfl (by kernel_rfl) (by kernel_rfl) (by kernel_rfl) Cut.panic (Want.none rfl) (Y.pickF rfl g80 rfl) ?_
                  refine Sd.take 26 rfl rfl rfl (by kernel_rfl) (by kernel_rfl) (by kernel_rfl) Cut.panic (Want.none rfl) (Y.assign rfl) ?_
                  refine Sd.done (by kernel_rfl) ?_
                  exact Sx.cut () trivial ⟨(someB (by first | (simp [h10, h50, h53, h53p, h65, h65p, g80]; done) | (simp_all; done) | ((simp [h10, h50, h53, h53p, h65, h65p, g80]) <;> grind))), trivial⟩ [] (by decide) rfl (fun _ h => h)
              · intro _ _
                show Sx _ _ _ [(8, .bool ((r5.keypad == r1.keypad) && ((((dec && ((decide (((numbersS dec).getD q (0 : Int)) = 9)) || ((decide ((1000 : Int) ≤ ((numbersS dec).getD q (0 : Int)))) && (decide (((numbersS dec).getD q (0 : Int)) ≤ 1003))))) && on) && (decide (r1.mouse ≠ 0))) || (MdEq r79 r1))))] [] _
                refine Sx.next ?_
                refine Sc.ret ?_
                refine Sx.body (.inl rfl) (res1 rfl (Rv.tmp rfl)) (fun w hs => ?_)
                refine RetV.eq ?_ hs
                subst hr1
                subst hr5
                subst hr47
                subst hr48
                subst hr78
                subst hr79
                clear hs
                have hc := of_check b
                have hk := known_get dec q hql
                generalize (numbersS dec).getD q 0 = n at *
                have a1 := al1 (ofS b) hc dec n on hk
                have a2 := al2 (ofS b) hc dec n on hk
                have a4 := al4 (ofS b) hc dec n on hk
                refine congrArg Value.bool ?_
                by_cases hm : ((dec = true ∧ (n = 9 ∨ 1000 ≤ n ∧ n ≤ 1003)) ∧ on = true ∧ (ofS b).mouse ≠ 0)
                · clear a1 a2; simp_all
                · have a5 := al5 (ofS b) hc dec n on hk hm; clear a1 a2 hm; simp_all
end Go.Proofs.Ythmigjicibhheaa
