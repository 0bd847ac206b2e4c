/- What the functions of the program and of the reference come to: one theorem a function (part 2). -/
import Derived.Test.YthmigjicibhheaaW1
namespace Go.Proofs.Ythmigjicibhheaa
open Go Go.RowKit Go.Eng
set_option maxRecDepth 100000
set_option linter.unusedVariables false
set_option linter.unusedSimpArgs false
set_option maxHeartbeats 4000000 in
theorem put_c (m : Md) (dec : Bool) (n : Int) (on : Bool) (w : World)  :
    Calls Try.prog 13 #[.agg (List.toArray [.bool m.ins, .bool m.nl, .bool m.ck, .bool m.inv, .bool m.org, .bool m.aut, .bool m.vis, .bool m.paste, .bool m.focus, .bool m.sync, .bool m.keypad, .int .i64 m.mouse, .bool m.sgr]), .bool dec, .int .i64 n, .bool on] w (RetV w (.tuple (List.toArray [.agg (List.toArray [.bool (((putS m dec n on).1).ins), .bool (((putS m dec n on).1).nl), .bool (((putS m dec n on).1).ck), .bool (((putS m dec n on).1).inv), .bool (((putS m dec n on).1).org), .bool (((putS m dec n on).1).aut), .bool (((putS m dec n on).1).vis), .bool (((putS m dec n on).1).paste), .bool (((putS m dec n on).1).focus), .bool (((putS m dec n on).1).sync), .bool (((putS m dec n on).1).keypad), .int .i64 (((putS m dec n on).1).mouse), .bool (((putS m dec n on).1).sgr)]), .bool ((putS m dec n on).2.1), .int .i64 ((putS m dec n on).2.2)]))) := by
  obtain ⟨r0, hsp⟩ : ∃ r, r = putS m dec n on := ⟨_, rfl⟩
  rw [← hsp]
  refine enter (F := fun w => True) [] Try.func13 rfl Try.ntmps13 (by simp) Fut.triv rfl ?_
  refine Sc.seq ?_
  refine Sc.region ?_
  refine Seg.chg rfl rfl (Want.none rfl) (C.box rfl) (fun b1 hb1 => ?_)
  refine Seg.chg rfl rfl (Want.none rfl) (C.alloc zv23 rfl) (fun b2 hb2 => ?_)
  refine Seg.y rfl rfl (Want.none rfl) (Y.assign rfl) ?_
  refine Seg.y rfl rfl (Want.none rfl) (Y.assign rfl) ?_
  refine Seg.nil ?_
  refine Sx.next ?_
  refine Sc.seq ?_
  refine Sc.seq ?_
  refine Sc.region ?_
  refine Seg.y rfl rfl (Want.none rfl) (Y.loadN (vs := [.bool m.ins, .bool m.nl, .bool m.ck, .bool m.inv, .bool m.org, .bool m.aut, .bool m.vis, .bool m.paste, .bool m.focus, .bool m.sync, .bool m.keypad, .int .i64 m.mouse, .bool m.sgr]) 1 rfl rfl rfl rfl ag23 sz23) ?_
  obtain ⟨r3, hr3⟩ : ∃ x, x = checkS m := ⟨_, rfl⟩
  refine Seg.callV (v := .int .i64 r3) rfl rfl (Want.none rfl) (K.func rfl co11) (fun w hs => by rw [hr3]; exact check_c m w ) ?_
  refine Seg.y rfl rfl (Want.none rfl) (Y.assign rfl) ?_
  refine Seg.nil ?_
  refine Sx.next ?_
  refine Sc.seq ?_
  refine Sc.region ?_
  refine Seg.y rfl rfl (Want.none rfl) (Y.move rfl) ?_
  refine Seg.y rfl rfl (Want.none rfl) (Y.binOp rfl rfl (B.ne _ _ _)) ?_
  refine Seg.nil ?_
  refine Sx.next ?_
  refine Sc.cond rfl (fun h4 => ?_) (fun h4 => ?_)
  · skip
    have h4p := of_decide_eq_true h4
    refine Sc.seq ?_
    refine Sc.region ?_
    refine Seg.y rfl rfl (Want.none rfl) (Y.build (v := .agg (List.toArray [.bool false, .bool false, .bool false, .bool false, .bool false, .bool false, .bool false, .bool false, .bool false, .bool false, .bool false, .int .i64 0, .bool false])) rfl (fun w => by kernel_rfl)) ?_
    refine Seg.y rfl rfl (Want.none rfl) (Y.move rfl) ?_
    refine Seg.chs rfl (Want.none rfl) (C.store (cs' := [.bool false, .bool false, .bool false, .bool false, .bool false, .bool false, .bool false, .bool false, .bool false, .bool false, .bool false, .int .i64 0, .bool false]) (vs := [.bool false, .bool false, .bool false, .bool false, .bool false, .bool false, .bool false, .bool false, .bool false, .bool false, .bool false, .int .i64 0, .bool false]) 0 rfl rfl rfl rfl rfl rfl rfl sz23) (fun _ _ => ?_)
    refine Seg.y rfl rfl (Want.none rfl) (Y.assign rfl) ?_
    refine Seg.y rfl rfl (Want.none rfl) (Y.assign rfl) ?_
    refine Seg.nil ?_
    refine Sx.next ?_
    refine Sc.ret ?_
    refine Sx.next_ret ?_
    refine Sx.body (.inl rfl) (res3 rfl (Rv.cell (vs := [.bool false, .bool false, .bool false, .bool false, .bool false, .bool false, .bool false, .bool false, .bool false, .bool false, .bool false, .int .i64 0, .bool false]) 0 rfl rfl rfl rfl ag23 sz23) (Rv.tmp rfl) (Rv.tmp rfl)) (fun w hs => ?_)
    refine RetV.eq ?_ hs
    subst hr3
    simp [putS, rputS, mouseS, h4, h4p] at hsp
    subst hsp
    first | rfl | simp [h4, h4p]
  · skip
    have h4p : r3 = 0 := by simpa using h4
    refine Sc.skip ?_
    refine Sx.next ?_
    refine Sc.seq ?_
    refine Sc.seq ?_
    refine Sc.region ?_
    refine Seg.callR (val := fun (b5 : Nat) => .map (some b5)) (Φ := fun (b5 : Nat) => fun w => w.heap[b5]? = some (.map (List.toArray modeEs) 11)) rfl rfl (Want.none rfl) (K.func rfl co30) (fun w hs => fields_c  _ w hs.dc_lt   ) (fun b5 => ?_)
    refine Seg.y rfl rfl (Want.none rfl) (Y.move rfl) ?_
    refine Seg.y rfl rfl (Want.none rfl) (Y.move rfl) ?_
    refine Seg.y rfl rfl (Want.none rfl) (Y.build (v := .agg (List.toArray [.bool dec, .int .i64 n])) rfl (fun w => by kernel_rfl)) ?_
    rcases mode_cases dec n with ⟨rfl, rfl⟩ | ⟨rfl, rfl⟩ | ⟨rfl, rfl⟩ | ⟨rfl, rfl⟩ | ⟨rfl, rfl⟩ | ⟨rfl, rfl⟩ | ⟨rfl, rfl⟩ | ⟨rfl, rfl⟩ | ⟨rfl, rfl⟩ | ⟨rfl, rfl⟩ | ⟨rfl, rfl⟩ | ⟨rfl, hno⟩ | ⟨rfl, hno⟩
    · skip
      refine Seg.y rfl rfl (Want.none rfl) (Y.lookup (kt := 69) (et := 64) (v := .tuple (List.toArray [.func (.func 35) #[] #[], .bool true])) rfl rfl (fun w hs => (fun h => run_lookup (i := 0) (v := .func (.func 35) #[] #[]) true (h.2) Try.underlying66 (by kernel_rfl) (by kernel_rfl)) hs.fut.now) Try.underlying66) ?_
      refine Seg.y rfl rfl (Want.none rfl) (Y.move rfl) ?_
      refine Seg.y rfl rfl (Want.none rfl) (Y.extract rfl rfl) ?_
      refine Seg.y rfl rfl (Want.none rfl) (Y.extract rfl rfl) ?_
      refine Seg.y rfl rfl (Want.none rfl) (Y.assign rfl) ?_
      refine Seg.y rfl rfl (Want.none rfl) (Y.assign rfl) ?_
      refine Seg.nil ?_
      refine Sx.next ?_
      refine Sc.seq ?_
      refine Sc.region ?_
      refine Seg.y rfl rfl (Want.none rfl) (Y.move rfl) ?_
      refine Seg.nil ?_
      refine Sx.next ?_
      refine Sc.condT rfl rfl ?_
      refine Sc.seq ?_
      refine Sc.region ?_
      refine Seg.y rfl rfl (Want.none rfl) (Y.move rfl) ?_
      refine Seg.callV (v := .pointer (some ⟨b1, 0, none⟩)) rfl rfl (Want.none rfl) (K.value rfl rfl co35) (fun w hs => field1_c b1 w ) ?_
      refine Seg.y rfl rfl (Want.none rfl) (Y.move rfl) ?_
      refine Seg.y rfl rfl (Want.none rfl) (Y.nilCheck rfl) ?_
      refine Seg.chs rfl (Want.none rfl) (C.store (cs' := [.bool on, .bool m.nl, .bool m.ck, .bool m.inv, .bool m.org, .bool m.aut, .bool m.vis, .bool m.paste, .bool m.focus, .bool m.sync, .bool m.keypad, .int .i64 m.mouse, .bool m.sgr]) (vs := [.bool on]) 1 rfl rfl rfl rfl rfl rfl rfl sz4) (fun _ _ => ?_)
      refine Seg.nil ?_
      refine Sx.next ?_
      refine Sc.seq ?_
      refine Sc.region ?_
      refine Seg.y rfl rfl (Want.none rfl) (Y.loadN (vs := [.bool on, .bool m.nl, .bool m.ck, .bool m.inv, .bool m.org, .bool m.aut, .bool m.vis, .bool m.paste, .bool m.focus, .bool m.sync, .bool m.keypad, .int .i64 m.mouse, .bool m.sgr]) 1 rfl rfl rfl rfl ag23 sz23) ?_
      refine Seg.chs rfl (Want.none rfl) (C.store (cs' := [.bool on, .bool m.nl, .bool m.ck, .bool m.inv, .bool m.org, .bool m.aut, .bool m.vis, .bool m.paste, .bool m.focus, .bool m.sync, .bool m.keypad, .int .i64 m.mouse, .bool m.sgr]) (vs := [.bool on, .bool m.nl, .bool m.ck, .bool m.inv, .bool m.org, .bool m.aut, .bool m.vis, .bool m.paste, .bool m.focus, .bool m.sync, .bool m.keypad, .int .i64 m.mouse, .bool m.sgr]) 0 rfl rfl rfl rfl rfl rfl rfl sz23) (fun _ _ => ?_)
      refine Seg.y rfl rfl (Want.none rfl) (Y.assign rfl) ?_
      refine Seg.y rfl rfl (Want.none rfl) (Y.assign rfl) ?_
      refine Seg.nil ?_
      refine Sx.next ?_
      refine Sc.ret ?_
      refine Sx.next_ret ?_
      refine Sx.body (.inl rfl) (res3 rfl (Rv.cell (vs := [.bool on, .bool m.nl, .bool m.ck, .bool m.inv, .bool m.org, .bool m.aut, .bool m.vis, .bool m.paste, .bool m.focus, .bool m.sync, .bool m.keypad, .int .i64 m.mouse, .bool m.sgr]) 0 rfl rfl rfl rfl ag23 sz23) (Rv.tmp rfl) (Rv.tmp rfl)) (fun w hs => ?_)
      refine RetV.eq ?_ hs
      subst hr3
      simp [putS, rputS, mouseS, h4, h4p] at hsp
      subst hsp
      first | rfl | simp [h4, h4p]
    · skip
      refine Seg.y rfl rfl (Want.none rfl) (Y.lookup (kt := 69) (et := 64) (v := .tuple (List.toArray [.func (.func 36) #[] #[], .bool true])) rfl rfl (fun w hs => (fun h => run_lookup (i := 1) (v := .func (.func 36) #[] #[]) true (h.2) Try.underlying66 (by kernel_rfl) (by kernel_rfl)) hs.fut.now) Try.underlying66) ?_
      refine Seg.y rfl rfl (Want.none rfl) (Y.move rfl) ?_
      refine Seg.y rfl rfl (Want.none rfl) (Y.extract rfl rfl) ?_
      refine Seg.y rfl rfl (Want.none rfl) (Y.extract rfl rfl) ?_
      refine Seg.y rfl rfl (Want.none rfl) (Y.assign rfl) ?_
      refine Seg.y rfl rfl (Want.none rfl) (Y.assign rfl) ?_
      refine Seg.nil ?_
      refine Sx.next ?_
      refine Sc.seq ?_
      refine Sc.region ?_
      refine Seg.y rfl rfl (Want.none rfl) (Y.move rfl) ?_
      refine Seg.nil ?_
      refine Sx.next ?_
      refine Sc.condT rfl rfl ?_
      refine Sc.seq ?_
      refine Sc.region ?_
      refine Seg.y rfl rfl (Want.none rfl) (Y.move rfl) ?_
      refine Seg.callV (v := .pointer (some ⟨b1, 1, none⟩)) rfl rfl (Want.none rfl) (K.value rfl rfl co36) (fun w hs => field2_c b1 w ) ?_
      refine Seg.y rfl rfl (Want.none rfl) (Y.move rfl) ?_
      refine Seg.y rfl rfl (Want.none rfl) (Y.nilCheck rfl) ?_
      refine Seg.chs rfl (Want.none rfl) (C.store (cs' := [.bool m.ins, .bool on, .bool m.ck, .bool m.inv, .bool m.org, .bool m.aut, .bool m.vis, .bool m.paste, .bool m.focus, .bool m.sync, .bool m.keypad, .int .i64 m.mouse, .bool m.sgr]) (vs := [.bool on]) 1 rfl rfl rfl rfl rfl rfl rfl sz4) (fun _ _ => ?_)
      refine Seg.nil ?_
      refine Sx.next ?_
      refine Sc.seq ?_
      refine Sc.region ?_
      refine Seg.y rfl rfl (Want.none rfl) (Y.loadN (vs := [.bool m.ins, .bool on, .bool m.ck, .bool m.inv, .bool m.org, .bool m.aut, .bool m.vis, .bool m.paste, .bool m.focus, .bool m.sync, .bool m.keypad, .int .i64 m.mouse, .bool m.sgr]) 1 rfl rfl rfl rfl ag23 sz23) ?_
      refine Seg.chs rfl (Want.none rfl) (C.store (cs' := [.bool m.ins, .bool on, .bool m.ck, .bool m.inv, .bool m.org, .bool m.aut, .bool m.vis, .bool m.paste, .bool m.focus, .bool m.sync, .bool m.keypad, .int .i64 m.mouse, .bool m.sgr]) (vs := [.bool m.ins, .bool on, .bool m.ck, .bool m.inv, .bool m.org, .bool m.aut, .bool m.vis, .bool m.paste, .bool m.focus, .bool m.sync, .bool m.keypad, .int .i64 m.mouse, .bool m.sgr]) 0 rfl rfl rfl rfl rfl rfl rfl sz23) (fun _ _ => ?_)
      refine Seg.y rfl rfl (Want.none rfl) (Y.assign rfl) ?_
      refine Seg.y rfl rfl (Want.none rfl) (Y.assign rfl) ?_
      refine Seg.nil ?_
      refine Sx.next ?_
      refine Sc.ret ?_
      refine Sx.next_ret ?_
      refine Sx.body (.inl rfl) (res3 rfl (Rv.cell (vs := [.bool m.ins, .bool on, .bool m.ck, .bool m.inv, .bool m.org, .bool m.aut, .bool m.vis, .bool m.paste, .bool m.focus, .bool m.sync, .bool m.keypad, .int .i64 m.mouse, .bool m.sgr]) 0 rfl rfl rfl rfl ag23 sz23) (Rv.tmp rfl) (Rv.tmp rfl)) (fun w hs => ?_)
      refine RetV.eq ?_ hs
      subst hr3
      simp [putS, rputS, mouseS, h4, h4p] at hsp
      subst hsp
      first | rfl | simp [h4, h4p]
    · skip
      refine Seg.y rfl rfl (Want.none rfl) (Y.lookup (kt := 69) (et := 64) (v := .tuple (List.toArray [.func (.func 37) #[] #[], .bool true])) rfl rfl (fun w hs => (fun h => run_lookup (i := 2) (v := .func (.func 37) #[] #[]) true (h.2) Try.underlying66 (by kernel_rfl) (by kernel_rfl)) hs.fut.now) Try.underlying66) ?_
      refine Seg.y rfl rfl (Want.none rfl) (Y.move rfl) ?_
      refine Seg.y rfl rfl (Want.none rfl) (Y.extract rfl rfl) ?_
      refine Seg.y rfl rfl (Want.none rfl) (Y.extract rfl rfl) ?_
      refine Seg.y rfl rfl (Want.none rfl) (Y.assign rfl) ?_
      refine Seg.y rfl rfl (Want.none rfl) (Y.assign rfl) ?_
      refine Seg.nil ?_
      refine Sx.next ?_
      refine Sc.seq ?_
      refine Sc.region ?_
      refine Seg.y rfl rfl (Want.none rfl) (Y.move rfl) ?_
      refine Seg.nil ?_
      refine Sx.next ?_
      refine Sc.condT rfl rfl ?_
      refine Sc.seq ?_
      refine Sc.region ?_
      refine Seg.y rfl rfl (Want.none rfl) (Y.move rfl) ?_
      refine Seg.callV (v := .pointer (some ⟨b1, 2, none⟩)) rfl rfl (Want.none rfl) (K.value rfl rfl co37) (fun w hs => field3_c b1 w ) ?_
      refine Seg.y rfl rfl (Want.none rfl) (Y.move rfl) ?_
      refine Seg.y rfl rfl (Want.none rfl) (Y.nilCheck rfl) ?_
      refine Seg.chs rfl (Want.none rfl) (C.store (cs' := [.bool m.ins, .bool m.nl, .bool on, .bool m.inv, .bool m.org, .bool m.aut, .bool m.vis, .bool m.paste, .bool m.focus, .bool m.sync, .bool m.keypad, .int .i64 m.mouse, .bool m.sgr]) (vs := [.bool on]) 1 rfl rfl rfl rfl rfl rfl rfl sz4) (fun _ _ => ?_)
      refine Seg.nil ?_
      refine Sx.next ?_
      refine Sc.seq ?_
      refine Sc.region ?_
      refine Seg.y rfl rfl (Want.none rfl) (Y.loadN (vs := [.bool m.ins, .bool m.nl, .bool on, .bool m.inv, .bool m.org, .bool m.aut, .bool m.vis, .bool m.paste, .bool m.focus, .bool m.sync, .bool m.keypad, .int .i64 m.mouse, .bool m.sgr]) 1 rfl rfl rfl rfl ag23 sz23) ?_
      refine Seg.chs rfl (Want.none rfl) (C.store (cs' := [.bool m.ins, .bool m.nl, .bool on, .bool m.inv, .bool m.org, .bool m.aut, .bool m.vis, .bool m.paste, .bool m.focus, .bool m.sync, .bool m.keypad, .int .i64 m.mouse, .bool m.sgr]) (vs := [.bool m.ins, .bool m.nl, .bool on, .bool m.inv, .bool m.org, .bool m.aut, .bool m.vis, .bool m.paste, .bool m.focus, .bool m.sync, .bool m.keypad, .int .i64 m.mouse, .bool m.sgr]) 0 rfl rfl rfl rfl rfl rfl rfl sz23) (fun _ _ => ?_)
      refine Seg.y rfl rfl (Want.none rfl) (Y.assign rfl) ?_
      refine Seg.y rfl rfl (Want.none rfl) (Y.assign rfl) ?_
      refine Seg.nil ?_
      refine Sx.next ?_
      refine Sc.ret ?_
      refine Sx.next_ret ?_
      refine Sx.body (.inl rfl) (res3 rfl (Rv.cell (vs := [.bool m.ins, .bool m.nl, .bool on, .bool m.inv, .bool m.org, .bool m.aut, .bool m.vis, .bool m.paste, .bool m.focus, .bool m.sync, .bool m.keypad, .int .i64 m.mouse, .bool m.sgr]) 0 rfl rfl rfl rfl ag23 sz23) (Rv.tmp rfl) (Rv.tmp rfl)) (fun w hs => ?_)
      refine RetV.eq ?_ hs
      subst hr3
      simp [putS, rputS, mouseS, h4, h4p] at hsp
      subst hsp
      first | rfl | simp [h4, h4p]
    · skip
      refine Seg.y rfl rfl (Want.none rfl) (Y.lookup (kt := 69) (et := 64) (v := .tuple (List.toArray [.func (.func 38) #[] #[], .bool true])) rfl rfl (fun w hs => (fun h => run_lookup (i := 3) (v := .func (.func 38) #[] #[]) true (h.2) Try.underlying66 (by kernel_rfl) (by kernel_rfl)) hs.fut.now) Try.underlying66) ?_
      refine Seg.y rfl rfl (Want.none rfl) (Y.move rfl) ?_
      refine Seg.y rfl rfl (Want.none rfl) (Y.extract rfl rfl) ?_
      refine Seg.y rfl rfl (Want.none rfl) (Y.extract rfl rfl) ?_
      refine Seg.y rfl rfl (Want.none rfl) (Y.assign rfl) ?_
      refine Seg.y rfl rfl (Want.none rfl) (Y.assign rfl) ?_
      refine Seg.nil ?_
      refine Sx.next ?_
      refine Sc.seq ?_
      refine Sc.region ?_
      refine Seg.y rfl rfl (Want.none rfl) (Y.move rfl) ?_
      refine Seg.nil ?_
      refine Sx.next ?_
      refine Sc.condT rfl rfl ?_
      refine Sc.seq ?_
      refine Sc.region ?_
      refine Seg.y rfl rfl (Want.none rfl) (Y.move rfl) ?_
      refine Seg.callV (v := .pointer (some ⟨b1, 3, none⟩)) rfl rfl (Want.none rfl) (K.value rfl rfl co38) (fun w hs => field4_c b1 w ) ?_
      refine Seg.y rfl rfl (Want.none rfl) (Y.move rfl) ?_
      refine Seg.y rfl rfl (Want.none rfl) (Y.nilCheck rfl) ?_
      refine Seg.chs rfl (Want.none rfl) (C.store (cs' := [.bool m.ins, .bool m.nl, .bool m.ck, .bool on, .bool m.org, .bool m.aut, .bool m.vis, .bool m.paste, .bool m.focus, .bool m.sync, .bool m.keypad, .int .i64 m.mouse, .bool m.sgr]) (vs := [.bool on]) 1 rfl rfl rfl rfl rfl rfl rfl sz4) (fun _ _ => ?_)
      refine Seg.nil ?_
      refine Sx.next ?_
      refine Sc.seq ?_
      refine Sc.region ?_
      refine Seg.y rfl rfl (Want.none rfl) (Y.loadN (vs := [.bool m.ins, .bool m.nl, .bool m.ck, .bool on, .bool m.org, .bool m.aut, .bool m.vis, .bool m.paste, .bool m.focus, .bool m.sync, .bool m.keypad, .int .i64 m.mouse, .bool m.sgr]) 1 rfl rfl rfl rfl ag23 sz23) ?_
      refine Seg.chs rfl (Want.none rfl) (C.store (cs' := [.bool m.ins, .bool m.nl, .bool m.ck, .bool on, .bool m.org, .bool m.aut, .bool m.vis, .bool m.paste, .bool m.focus, .bool m.sync, .bool m.keypad, .int .i64 m.mouse, .bool m.sgr]) (vs := [.bool m.ins, .bool m.nl, .bool m.ck, .bool on, .bool m.org, .bool m.aut, .bool m.vis, .bool m.paste, .bool m.focus, .bool m.sync, .bool m.keypad, .int .i64 m.mouse, .bool m.sgr]) 0 rfl rfl rfl rfl rfl rfl rfl sz23) (fun _ _ => ?_)
      refine Seg.y rfl rfl (Want.none rfl) (Y.assign rfl) ?_
      refine Seg.y rfl rfl (Want.none rfl) (Y.assign rfl) ?_
      refine Seg.nil ?_
      refine Sx.next ?_
      refine Sc.ret ?_
      refine Sx.next_ret ?_
      refine Sx.body (.inl rfl) (res3 rfl (Rv.cell (vs := [.bool m.ins, .bool m.nl, .bool m.ck, .bool on, .bool m.org, .bool m.aut, .bool m.vis, .bool m.paste, .bool m.focus, .bool m.sync, .bool m.keypad, .int .i64 m.mouse, .bool m.sgr]) 0 rfl rfl rfl rfl ag23 sz23) (Rv.tmp rfl) (Rv.tmp rfl)) (fun w hs => ?_)
      refine RetV.eq ?_ hs
      subst hr3
      simp [putS, rputS, mouseS, h4, h4p] at hsp
      subst hsp
      first | rfl | simp [h4, h4p]
    · skip
      refine Seg.y rfl rfl (Want.none rfl) (Y.lookup (kt := 69) (et := 64) (v := .tuple (List.toArray [.func (.func 39) #[] #[], .bool true])) rfl rfl (fun w hs => (fun h => run_lookup (i := 4) (v := .func (.func 39) #[] #[]) true (h.2) Try.underlying66 (by kernel_rfl) (by kernel_rfl)) hs.fut.now) Try.underlying66) ?_
      refine Seg.y rfl rfl (Want.none rfl) (Y.move rfl) ?_
      refine Seg.y rfl rfl (Want.none rfl) (Y.extract rfl rfl) ?_
      refine Seg.y rfl rfl (Want.none rfl) (Y.extract rfl rfl) ?_
      refine Seg.y rfl rfl (Want.none rfl) (Y.assign rfl) ?_
      refine Seg.y rfl rfl (Want.none rfl) (Y.assign rfl) ?_
      refine Seg.nil ?_
      refine Sx.next ?_
      refine Sc.seq ?_
      refine Sc.region ?_
      refine Seg.y rfl rfl (Want.none rfl) (Y.move rfl) ?_
      refine Seg.nil ?_
      refine Sx.next ?_
      refine Sc.condT rfl rfl ?_
      refine Sc.seq ?_
      refine Sc.region ?_
      refine Seg.y rfl rfl (Want.none rfl) (Y.move rfl) ?_
      refine Seg.callV (v := .pointer (some ⟨b1, 4, none⟩)) rfl rfl (Want.none rfl) (K.value rfl rfl co39) (fun w hs => field5_c b1 w ) ?_
      refine Seg.y rfl rfl (Want.none rfl) (Y.move rfl) ?_
      refine Seg.y rfl rfl (Want.none rfl) (Y.nilCheck rfl) ?_
      refine Seg.chs rfl (Want.none rfl) (C.store (cs' := [.bool m.ins, .bool m.nl, .bool m.ck, .bool m.inv, .bool on, .bool m.aut, .bool m.vis, .bool m.paste, .bool m.focus, .bool m.sync, .bool m.keypad, .int .i64 m.mouse, .bool m.sgr]) (vs := [.bool on]) 1 rfl rfl rfl rfl rfl rfl rfl sz4) (fun _ _ => ?_)
      refine Seg.nil ?_
      refine Sx.next ?_
      refine Sc.seq ?_
      refine Sc.region ?_
      refine Seg.y rfl rfl (Want.none rfl) (Y.loadN (vs := [.bool m.ins, .bool m.nl, .bool m.ck, .bool m.inv, .bool on, .bool m.aut, .bool m.vis, .bool m.paste, .bool m.focus, .bool m.sync, .bool m.keypad, .int .i64 m.mouse, .bool m.sgr]) 1 rfl rfl rfl rfl ag23 sz23) ?_
      refine Seg.chs rfl (Want.none rfl) (C.store (cs' := [.bool m.ins, .bool m.nl, .bool m.ck, .bool m.inv, .bool on, .bool m.aut, .bool m.vis, .bool m.paste, .bool m.focus, .bool m.sync, .bool m.keypad, .int .i64 m.mouse, .bool m.sgr]) (vs := [.bool m.ins, .bool m.nl, .bool m.ck, .bool m.inv, .bool on, .bool m.aut, .bool m.vis, .bool m.paste, .bool m.focus, .bool m.sync, .bool m.keypad, .int .i64 m.mouse, .bool m.sgr]) 0 rfl rfl rfl rfl rfl rfl rfl sz23) (fun _ _ => ?_)
      refine Seg.y rfl rfl (Want.none rfl) (Y.assign rfl) ?_
      refine Seg.y rfl rfl (Want.none rfl) (Y.assign rfl) ?_
      refine Seg.nil ?_
      refine Sx.next ?_
      refine Sc.ret ?_
      refine Sx.next_ret ?_
      refine Sx.body (.inl rfl) (res3 rfl (Rv.cell (vs := [.bool m.ins, .bool m.nl, .bool m.ck, .bool m.inv, .bool on, .bool m.aut, .bool m.vis, .bool m.paste, .bool m.focus, .bool m.sync, .bool m.keypad, .int .i64 m.mouse, .bool m.sgr]) 0 rfl rfl rfl rfl ag23 sz23) (Rv.tmp rfl) (Rv.tmp rfl)) (fun w hs => ?_)
      refine RetV.eq ?_ hs
      subst hr3
      simp [putS, rputS, mouseS, h4, h4p] at hsp
      subst hsp
      first | rfl | simp [h4, h4p]
    · skip
      refine Seg.y rfl rfl (Want.none rfl) (Y.lookup (kt := 69) (et := 64) (v := .tuple (List.toArray [.func (.func 40) #[] #[], .bool true])) rfl rfl (fun w hs => (fun h => run_lookup (i := 5) (v := .func (.func 40) #[] #[]) true (h.2) Try.underlying66 (by kernel_rfl) (by kernel_rfl)) hs.fut.now) Try.underlying66) ?_
      refine Seg.y rfl rfl (Want.none rfl) (Y.move rfl) ?_
      refine Seg.y rfl rfl (Want.none rfl) (Y.extract rfl rfl) ?_
      refine Seg.y rfl rfl (Want.none rfl) (Y.extract rfl rfl) ?_
      refine Seg.y rfl rfl (Want.none rfl) (Y.assign rfl) ?_
      refine Seg.y rfl rfl (Want.none rfl) (Y.assign rfl) ?_
      refine Seg.nil ?_
      refine Sx.next ?_
      refine Sc.seq ?_
      refine Sc.region ?_
      refine Seg.y rfl rfl (Want.none rfl) (Y.move rfl) ?_
      refine Seg.nil ?_
      refine Sx.next ?_
      refine Sc.condT rfl rfl ?_
      refine Sc.seq ?_
      refine Sc.region ?_
      refine Seg.y rfl rfl (Want.none rfl) (Y.move rfl) ?_
      refine Seg.callV (v := .pointer (some ⟨b1, 5, none⟩)) rfl rfl (Want.none rfl) (K.value rfl rfl co40) (fun w hs => field6_c b1 w ) ?_
      refine Seg.y rfl rfl (Want.none rfl) (Y.move rfl) ?_
      refine Seg.y rfl rfl (Want.none rfl) (Y.nilCheck rfl) ?_
      refine Seg.chs rfl (Want.none rfl) (C.store (cs' := [.bool m.ins, .bool m.nl, .bool m.ck, .bool m.inv, .bool m.org, .bool on, .bool m.vis, .bool m.paste, .bool m.focus, .bool m.sync, .bool m.keypad, .int .i64 m.mouse, .bool m.sgr]) (vs := [.bool on]) 1 rfl rfl rfl rfl rfl rfl rfl sz4) (fun _ _ => ?_)
      refine Seg.nil ?_
      refine Sx.next ?_
      refine Sc.seq ?_
      refine Sc.region ?_
      refine Seg.y rfl rfl (Want.none rfl) (Y.loadN (vs := [.bool m.ins, .bool m.nl, .bool m.ck, .bool m.inv, .bool m.org, .bool on, .bool m.vis, .bool m.paste, .bool m.focus, .bool m.sync, .bool m.keypad, .int .i64 m.mouse, .bool m.sgr]) 1 rfl rfl rfl rfl ag23 sz23) ?_
      refine Seg.chs rfl (Want.none rfl) (C.store (cs' := [.bool m.ins, .bool m.nl, .bool m.ck, .bool m.inv, .bool m.org, .bool on, .bool m.vis, .bool m.paste, .bool m.focus, .bool m.sync, .bool m.keypad, .int .i64 m.mouse, .bool m.sgr]) (vs := [.bool m.ins, .bool m.nl, .bool m.ck, .bool m.inv, .bool m.org, .bool on, .bool m.vis, .bool m.paste, .bool m.focus, .bool m.sync, .bool m.keypad, .int .i64 m.mouse, .bool m.sgr]) 0 rfl rfl rfl rfl rfl rfl rfl sz23) (fun _ _ => ?_)
      refine Seg.y rfl rfl (Want.none rfl) (Y.assign rfl) ?_
      refine Seg.y rfl rfl (Want.none rfl) (Y.assign rfl) ?_
      refine Seg.nil ?_
      refine Sx.next ?_
      refine Sc.ret ?_
      refine Sx.next_ret ?_
      refine Sx.body (.inl rfl) (res3 rfl (Rv.cell (vs := [.bool m.ins, .bool m.nl, .bool m.ck, .bool m.inv, .bool m.org, .bool on, .bool m.vis, .bool m.paste, .bool m.focus, .bool m.sync, .bool m.keypad, .int .i64 m.mouse, .bool m.sgr]) 0 rfl rfl rfl rfl ag23 sz23) (Rv.tmp rfl) (Rv.tmp rfl)) (fun w hs => ?_)
      refine RetV.eq ?_ hs
      subst hr3
      simp [putS, rputS, mouseS, h4, h4p] at hsp
      subst hsp
      first | rfl | simp [h4, h4p]
    · skip
      refine Seg.y rfl rfl (Want.none rfl) (Y.lookup (kt := 69) (et := 64) (v := .tuple (List.toArray [.func (.func 41) #[] #[], .bool true])) rfl rfl (fun w hs => (fun h => run_lookup (i := 6) (v := .func (.func 41) #[] #[]) true (h.2) Try.underlying66 (by kernel_rfl) (by kernel_rfl)) hs.fut.now) Try.underlying66) ?_
      refine Seg.y rfl rfl (Want.none rfl) (Y.move rfl) ?_
      refine Seg.y rfl rfl (Want.none rfl) (Y.extract rfl rfl) ?_
      refine Seg.y rfl rfl (Want.none rfl) (Y.extract rfl rfl) ?_
      refine Seg.y rfl rfl (Want.none rfl) (Y.assign rfl) ?_
      refine Seg.y rfl rfl (Want.none rfl) (Y.assign rfl) ?_
      refine Seg.nil ?_
      refine Sx.next ?_
      refine Sc.seq ?_
      refine Sc.region ?_
      refine Seg.y rfl rfl (Want.none rfl) (Y.move rfl) ?_
      refine Seg.nil ?_
      refine Sx.next ?_
      refine Sc.condT rfl rfl ?_
      refine Sc.seq ?_
      refine Sc.region ?_
      refine Seg.y rfl rfl (Want.none rfl) (Y.move rfl) ?_
      refine Seg.callV (v := .pointer (some ⟨b1, 6, none⟩)) rfl rfl (Want.none rfl) (K.value rfl rfl co41) (fun w hs => field7_c b1 w ) ?_
      refine Seg.y rfl rfl (Want.none rfl) (Y.move rfl) ?_
      refine Seg.y rfl rfl (Want.none rfl) (Y.nilCheck rfl) ?_
      refine Seg.chs rfl (Want.none rfl) (C.store (cs' := [.bool m.ins, .bool m.nl, .bool m.ck, .bool m.inv, .bool m.org, .bool m.aut, .bool on, .bool m.paste, .bool m.focus, .bool m.sync, .bool m.keypad, .int .i64 m.mouse, .bool m.sgr]) (vs := [.bool on]) 1 rfl rfl rfl rfl rfl rfl rfl sz4) (fun _ _ => ?_)
      refine Seg.nil ?_
      refine Sx.next ?_
      refine Sc.seq ?_
      refine Sc.region ?_
      refine Seg.y rfl rfl (Want.none rfl) (Y.loadN (vs := [.bool m.ins, .bool m.nl, .bool m.ck, .bool m.inv, .bool m.org, .bool m.aut, .bool on, .bool m.paste, .bool m.focus, .bool m.sync, .bool m.keypad, .int .i64 m.mouse, .bool m.sgr]) 1 rfl rfl rfl rfl ag23 sz23) ?_
      refine Seg.chs rfl (Want.none rfl) (C.store (cs' := [.bool m.ins, .bool m.nl, .bool m.ck, .bool m.inv, .bool m.org, .bool m.aut, .bool on, .bool m.paste, .bool m.focus, .bool m.sync, .bool m.keypad, .int .i64 m.mouse, .bool m.sgr]) (vs := [.bool m.ins, .bool m.nl, .bool m.ck, .bool m.inv, .bool m.org, .bool m.aut, .bool on, .bool m.paste, .bool m.focus, .bool m.sync, .bool m.keypad, .int .i64 m.mouse, .bool m.sgr]) 0 rfl rfl rfl rfl rfl rfl rfl sz23) (fun _ _ => ?_)
      refine Seg.y rfl rfl (Want.none rfl) (Y.assign rfl) ?_
      refine Seg.y rfl rfl (Want.none rfl) (Y.assign rfl) ?_
      refine Seg.nil ?_
      refine Sx.next ?_
      refine Sc.ret ?_
      refine Sx.next_ret ?_
      refine Sx.body (.inl rfl) (res3 rfl (Rv.cell (vs := [.bool m.ins, .bool m.nl, .bool m.ck, .bool m.inv, .bool m.org, .bool m.aut, .bool on, .bool m.paste, .bool m.focus, .bool m.sync, .bool m.keypad, .int .i64 m.mouse, .bool m.sgr]) 0 rfl rfl rfl rfl ag23 sz23) (Rv.tmp rfl) (Rv.tmp rfl)) (fun w hs => ?_)
      refine RetV.eq ?_ hs
      subst hr3
      simp [putS, rputS, mouseS, h4, h4p] at hsp
      subst hsp
      first | rfl | simp [h4, h4p]
    · skip
      refine Seg.y rfl rfl (Want.none rfl) (Y.lookup (kt := 69) (et := 64) (v := .tuple (List.toArray [.func (.func 42) #[] #[], .bool true])) rfl rfl (fun w hs => (fun h => run_lookup (i := 7) (v := .func (.func 42) #[] #[]) true (h.2) Try.underlying66 (by kernel_rfl) (by kernel_rfl)) hs.fut.now) Try.underlying66) ?_
      refine Seg.y rfl rfl (Want.none rfl) (Y.move rfl) ?_
      refine Seg.y rfl rfl (Want.none rfl) (Y.extract rfl rfl) ?_
      refine Seg.y rfl rfl (Want.none rfl) (Y.extract rfl rfl) ?_
      refine Seg.y rfl rfl (Want.none rfl) (Y.assign rfl) ?_
      refine Seg.y rfl rfl (Want.none rfl) (Y.assign rfl) ?_
      refine Seg.nil ?_
      refine Sx.next ?_
      refine Sc.seq ?_
      refine Sc.region ?_
      refine Seg.y rfl rfl (Want.none rfl) (Y.move rfl) ?_
      refine Seg.nil ?_
      refine Sx.next ?_
      refine Sc.condT rfl rfl ?_
      refine Sc.seq ?_
      refine Sc.region ?_
      refine Seg.y rfl rfl (Want.none rfl) (Y.move rfl) ?_
      refine Seg.callV (v := .pointer (some ⟨b1, 8, none⟩)) rfl rfl (Want.none rfl) (K.value rfl rfl co42) (fun w hs => field8_c b1 w ) ?_
      refine Seg.y rfl rfl (Want.none rfl) (Y.move rfl) ?_
      refine Seg.y rfl rfl (Want.none rfl) (Y.nilCheck rfl) ?_
      refine Seg.chs rfl (Want.none rfl) (C.store (cs' := [.bool m.ins, .bool m.nl, .bool m.ck, .bool m.inv, .bool m.org, .bool m.aut, .bool m.vis, .bool m.paste, .bool on, .bool m.sync, .bool m.keypad, .int .i64 m.mouse, .bool m.sgr]) (vs := [.bool on]) 1 rfl rfl rfl rfl rfl rfl rfl sz4) (fun _ _ => ?_)
      refine Seg.nil ?_
      refine Sx.next ?_
      refine Sc.seq ?_
      refine Sc.region ?_
      refine Seg.y rfl rfl (Want.none rfl) (Y.loadN (vs := [.bool m.ins, .bool m.nl, .bool m.ck, .bool m.inv, .bool m.org, .bool m.aut, .bool m.vis, .bool m.paste, .bool on, .bool m.sync, .bool m.keypad, .int .i64 m.mouse, .bool m.sgr]) 1 rfl rfl rfl rfl ag23 sz23) ?_
      refine Seg.chs rfl (Want.none rfl) (C.store (cs' := [.bool m.ins, .bool m.nl, .bool m.ck, .bool m.inv, .bool m.org, .bool m.aut, .bool m.vis, .bool m.paste, .bool on, .bool m.sync, .bool m.keypad, .int .i64 m.mouse, .bool m.sgr]) (vs := [.bool m.ins, .bool m.nl, .bool m.ck, .bool m.inv, .bool m.org, .bool m.aut, .bool m.vis, .bool m.paste, .bool on, .bool m.sync, .bool m.keypad, .int .i64 m.mouse, .bool m.sgr]) 0 rfl rfl rfl rfl rfl rfl rfl sz23) (fun _ _ => ?_)
      refine Seg.y rfl rfl (Want.none rfl) (Y.assign rfl) ?_
      refine Seg.y rfl rfl (Want.none rfl) (Y.assign rfl) ?_
      refine Seg.nil ?_
      refine Sx.next ?_
      refine Sc.ret ?_
      refine Sx.next_ret ?_
      refine Sx.body (.inl rfl) (res3 rfl (Rv.cell (vs := [.bool m.ins, .bool m.nl, .bool m.ck, .bool m.inv, .bool m.org, .bool m.aut, .bool m.vis, .bool m.paste, .bool on, .bool m.sync, .bool m.keypad, .int .i64 m.mouse, .bool m.sgr]) 0 rfl rfl rfl rfl ag23 sz23) (Rv.tmp rfl) (Rv.tmp rfl)) (fun w hs => ?_)
      refine RetV.eq ?_ hs
      subst hr3
      simp [putS, rputS, mouseS, h4, h4p] at hsp
      subst hsp
      first | rfl | simp [h4, h4p]
    · skip
      refine Seg.y rfl rfl (Want.none rfl) (Y.lookup (kt := 69) (et := 64) (v := .tuple (List.toArray [.func (.func 43) #[] #[], .bool true])) rfl rfl (fun w hs => (fun h => run_lookup (i := 8) (v := .func (.func 43) #[] #[]) true (h.2) Try.underlying66 (by kernel_rfl) (by kernel_rfl)) hs.fut.now) Try.underlying66) ?_
      refine Seg.y rfl rfl (Want.none rfl) (Y.move rfl) ?_
      refine Seg.y rfl rfl (Want.none rfl) (Y.extract rfl rfl) ?_
      refine Seg.y rfl rfl (Want.none rfl) (Y.extract rfl rfl) ?_
      refine Seg.y rfl rfl (Want.none rfl) (Y.assign rfl) ?_
      refine Seg.y rfl rfl (Want.none rfl) (Y.assign rfl) ?_
      refine Seg.nil ?_
      refine Sx.next ?_
      refine Sc.seq ?_
      refine Sc.region ?_
      refine Seg.y rfl rfl (Want.none rfl) (Y.move rfl) ?_
      refine Seg.nil ?_
      refine Sx.next ?_
      refine Sc.condT rfl rfl ?_
      refine Sc.seq ?_
      refine Sc.region ?_
      refine Seg.y rfl rfl (Want.none rfl) (Y.move rfl) ?_
      refine Seg.callV (v := .pointer (some ⟨b1, 12, none⟩)) rfl rfl (Want.none rfl) (K.value rfl rfl co43) (fun w hs => field9_c b1 w ) ?_
      refine Seg.y rfl rfl (Want.none rfl) (Y.move rfl) ?_
      refine Seg.y rfl rfl (Want.none rfl) (Y.nilCheck rfl) ?_
      refine Seg.chs rfl (Want.none rfl) (C.store (cs' := [.bool m.ins, .bool m.nl, .bool m.ck, .bool m.inv, .bool m.org, .bool m.aut, .bool m.vis, .bool m.paste, .bool m.focus, .bool m.sync, .bool m.keypad, .int .i64 m.mouse, .bool on]) (vs := [.bool on]) 1 rfl rfl rfl rfl rfl rfl rfl sz4) (fun _ _ => ?_)
      refine Seg.nil ?_
      refine Sx.next ?_
      refine Sc.seq ?_
      refine Sc.region ?_
      refine Seg.y rfl rfl (Want.none rfl) (Y.loadN (vs := [.bool m.ins, .bool m.nl, .bool m.ck, .bool m.inv, .bool m.org, .bool m.aut, .bool m.vis, .bool m.paste, .bool m.focus, .bool m.sync, .bool m.keypad, .int .i64 m.mouse, .bool on]) 1 rfl rfl rfl rfl ag23 sz23) ?_
      refine Seg.chs rfl (Want.none rfl) (C.store (cs' := [.bool m.ins, .bool m.nl, .bool m.ck, .bool m.inv, .bool m.org, .bool m.aut, .bool m.vis, .bool m.paste, .bool m.focus, .bool m.sync, .bool m.keypad, .int .i64 m.mouse, .bool on]) (vs := [.bool m.ins, .bool m.nl, .bool m.ck, .bool m.inv, .bool m.org, .bool m.aut, .bool m.vis, .bool m.paste, .bool m.focus, .bool m.sync, .bool m.keypad, .int .i64 m.mouse, .bool on]) 0 rfl rfl rfl rfl rfl rfl rfl sz23) (fun _ _ => ?_)
      refine Seg.y rfl rfl (Want.none rfl) (Y.assign rfl) ?_
      refine Seg.y rfl rfl (Want.none rfl) (Y.assign rfl) ?_
      refine Seg.nil ?_
      refine Sx.next ?_
      refine Sc.ret ?_
      refine Sx.next_ret ?_
      refine Sx.body (.inl rfl) (res3 rfl (Rv.cell (vs := [.bool m.ins, .bool m.nl, .bool m.ck, .bool m.inv, .bool m.org, .bool m.aut, .bool m.vis, .bool m.paste, .bool m.focus, .bool m.sync, .bool m.keypad, .int .i64 m.mouse, .bool on]) 0 rfl rfl rfl rfl ag23 sz23) (Rv.tmp rfl) (Rv.tmp rfl)) (fun w hs => ?_)
      refine RetV.eq ?_ hs
      subst hr3
      simp [putS, rputS, mouseS, h4, h4p] at hsp
      subst hsp
      first | rfl | simp [h4, h4p]
    · skip
      refine Seg.y rfl rfl (Want.none rfl) (Y.lookup (kt := 69) (et := 64) (v := .tuple (List.toArray [.func (.func 44) #[] #[], .bool true])) rfl rfl (fun w hs => (fun h => run_lookup (i := 9) (v := .func (.func 44) #[] #[]) true (h.2) Try.underlying66 (by kernel_rfl) (by kernel_rfl)) hs.fut.now) Try.underlying66) ?_
      refine Seg.y rfl rfl (Want.none rfl) (Y.move rfl) ?_
      refine Seg.y rfl rfl (Want.none rfl) (Y.extract rfl rfl) ?_
      refine Seg.y rfl rfl (Want.none rfl) (Y.extract rfl rfl) ?_
      refine Seg.y rfl rfl (Want.none rfl) (Y.assign rfl) ?_
      refine Seg.y rfl rfl (Want.none rfl) (Y.assign rfl) ?_
      refine Seg.nil ?_
      refine Sx.next ?_
      refine Sc.seq ?_
      refine Sc.region ?_
      refine Seg.y rfl rfl (Want.none rfl) (Y.move rfl) ?_
      refine Seg.nil ?_
      refine Sx.next ?_
      refine Sc.condT rfl rfl ?_
      refine Sc.seq ?_
      refine Sc.region ?_
      refine Seg.y rfl rfl (Want.none rfl) (Y.move rfl) ?_
      refine Seg.callV (v := .pointer (some ⟨b1, 7, none⟩)) rfl rfl (Want.none rfl) (K.value rfl rfl co44) (fun w hs => field10_c b1 w ) ?_
      refine Seg.y rfl rfl (Want.none rfl) (Y.move rfl) ?_
      refine Seg.y rfl rfl (Want.none rfl) (Y.nilCheck rfl) ?_
      refine Seg.chs rfl (Want.none rfl) (C.store (cs' := [.bool m.ins, .bool m.nl, .bool m.ck, .bool m.inv, .bool m.org, .bool m.aut, .bool m.vis, .bool on, .bool m.focus, .bool m.sync, .bool m.keypad, .int .i64 m.mouse, .bool m.sgr]) (vs := [.bool on]) 1 rfl rfl rfl rfl rfl rfl rfl sz4) (fun _ _ => ?_)
      refine Seg.nil ?_
      refine Sx.next ?_
      refine Sc.seq ?_
      refine Sc.region ?_
      refine Seg.y rfl rfl (Want.none rfl) (Y.loadN (vs := [.bool m.ins, .bool m.nl, .bool m.ck, .bool m.inv, .bool m.org, .bool m.aut, .bool m.vis, .bool on, .bool m.focus, .bool m.sync, .bool m.keypad, .int .i64 m.mouse, .bool m.sgr]) 1 rfl rfl rfl rfl ag23 sz23) ?_
      refine Seg.chs rfl (Want.none rfl) (C.store (cs' := [.bool m.ins, .bool m.nl, .bool m.ck, .bool m.inv, .bool m.org, .bool m.aut, .bool m.vis, .bool on, .bool m.focus, .bool m.sync, .bool m.keypad, .int .i64 m.mouse, .bool m.sgr]) (vs := [.bool m.ins, .bool m.nl, .bool m.ck, .bool m.inv, .bool m.org, .bool m.aut, .bool m.vis, .bool on, .bool m.focus, .bool m.sync, .bool m.keypad, .int .i64 m.mouse, .bool m.sgr]) 0 rfl rfl rfl rfl rfl rfl rfl sz23) (fun _ _ => ?_)
      refine Seg.y rfl rfl (Want.none rfl) (Y.assign rfl) ?_
      refine Seg.y rfl rfl (Want.none rfl) (Y.assign rfl) ?_
      refine Seg.nil ?_
      refine Sx.next ?_
      refine Sc.ret ?_
      refine Sx.next_ret ?_
      refine Sx.body (.inl rfl) (res3 rfl (Rv.cell (vs := [.bool m.ins, .bool m.nl, .bool m.ck, .bool m.inv, .bool m.org, .bool m.aut, .bool m.vis, .bool on, .bool m.focus, .bool m.sync, .bool m.keypad, .int .i64 m.mouse, .bool m.sgr]) 0 rfl rfl rfl rfl ag23 sz23) (Rv.tmp rfl) (Rv.tmp rfl)) (fun w hs => ?_)
      refine RetV.eq ?_ hs
      subst hr3
      simp [putS, rputS, mouseS, h4, h4p] at hsp
      subst hsp
      first | rfl | simp [h4, h4p]
    · skip
      refine Seg.y rfl rfl (Want.none rfl) (Y.lookup (kt := 69) (et := 64) (v := .tuple (List.toArray [.func (.func 45) #[] #[], .bool true])) rfl rfl (fun w hs => (fun h => run_lookup (i := 10) (v := .func (.func 45) #[] #[]) true (h.2) Try.underlying66 (by kernel_rfl) (by kernel_rfl)) hs.fut.now) Try.underlying66) ?_
      refine Seg.y rfl rfl (Want.none rfl) (Y.move rfl) ?_
      refine Seg.y rfl rfl (Want.none rfl) (Y.extract rfl rfl) ?_
      refine Seg.y rfl rfl (Want.none rfl) (Y.extract rfl rfl) ?_
      refine Seg.y rfl rfl (Want.none rfl) (Y.assign rfl) ?_
      refine Seg.y rfl rfl (Want.none rfl) (Y.assign rfl) ?_
      refine Seg.nil ?_
      refine Sx.next ?_
      refine Sc.seq ?_
      refine Sc.region ?_
      refine Seg.y rfl rfl (Want.none rfl) (Y.move rfl) ?_
      refine Seg.nil ?_
      refine Sx.next ?_
      refine Sc.condT rfl rfl ?_
      refine Sc.seq ?_
      refine Sc.region ?_
      refine Seg.y rfl rfl (Want.none rfl) (Y.move rfl) ?_
      refine Seg.callV (v := .pointer (some ⟨b1, 9, none⟩)) rfl rfl (Want.none rfl) (K.value rfl rfl co45) (fun w hs => field11_c b1 w ) ?_
      refine Seg.y rfl rfl (Want.none rfl) (Y.move rfl) ?_
      refine Seg.y rfl rfl (Want.none rfl) (Y.nilCheck rfl) ?_
      refine Seg.chs rfl (Want.none rfl) (C.store (cs' := [.bool m.ins, .bool m.nl, .bool m.ck, .bool m.inv, .bool m.org, .bool m.aut, .bool m.vis, .bool m.paste, .bool m.focus, .bool on, .bool m.keypad, .int .i64 m.mouse, .bool m.sgr]) (vs := [.bool on]) 1 rfl rfl rfl rfl rfl rfl rfl sz4) (fun _ _ => ?_)
      refine Seg.nil ?_
      refine Sx.next ?_
      refine Sc.seq ?_
      refine Sc.region ?_
      refine Seg.y rfl rfl (Want.none rfl) (Y.loadN (vs := [.bool m.ins, .bool m.nl, .bool m.ck, .bool m.inv, .bool m.org, .bool m.aut, .bool m.vis, .bool m.paste, .bool m.focus, .bool on, .bool m.keypad, .int .i64 m.mouse, .bool m.sgr]) 1 rfl rfl rfl rfl ag23 sz23) ?_
      refine Seg.chs rfl (Want.none rfl) (C.store (cs' := [.bool m.ins, .bool m.nl, .bool m.ck, .bool m.inv, .bool m.org, .bool m.aut, .bool m.vis, .bool m.paste, .bool m.focus, .bool on, .bool m.keypad, .int .i64 m.mouse, .bool m.sgr]) (vs := [.bool m.ins, .bool m.nl, .bool m.ck, .bool m.inv, .bool m.org, .bool m.aut, .bool m.vis, .bool m.paste, .bool m.focus, .bool on, .bool m.keypad, .int .i64 m.mouse, .bool m.sgr]) 0 rfl rfl rfl rfl rfl rfl rfl sz23) (fun _ _ => ?_)
      refine Seg.y rfl rfl (Want.none rfl) (Y.assign rfl) ?_
      refine Seg.y rfl rfl (Want.none rfl) (Y.assign rfl) ?_
      refine Seg.nil ?_
      refine Sx.next ?_
      refine Sc.ret ?_
      refine Sx.next_ret ?_
      refine Sx.body (.inl rfl) (res3 rfl (Rv.cell (vs := [.bool m.ins, .bool m.nl, .bool m.ck, .bool m.inv, .bool m.org, .bool m.aut, .bool m.vis, .bool m.paste, .bool m.focus, .bool on, .bool m.keypad, .int .i64 m.mouse, .bool m.sgr]) 0 rfl rfl rfl rfl ag23 sz23) (Rv.tmp rfl) (Rv.tmp rfl)) (fun w hs => ?_)
      refine RetV.eq ?_ hs
      subst hr3
      simp [putS, rputS, mouseS, h4, h4p] at hsp
      subst hsp
      first | rfl | simp [h4, h4p]
    · skip
      refine Seg.y rfl rfl (Want.none rfl) (Y.lookup (kt := 69) (et := 64) (v := .tuple (List.toArray [.nilFunc, .bool false])) rfl rfl (fun w hs => (fun h => run_lookup_none true (h.2) Try.underlying66 (by kernel_rfl) (find0 n hno w) (zv64 w)) hs.fut.now) Try.underlying66) ?_
      refine Seg.y rfl rfl (Want.none rfl) (Y.move rfl) ?_
      refine Seg.y rfl rfl (Want.none rfl) (Y.extract rfl rfl) ?_
      refine Seg.y rfl rfl (Want.none rfl) (Y.extract rfl rfl) ?_
      refine Seg.y rfl rfl (Want.none rfl) (Y.assign rfl) ?_
      refine Seg.y rfl rfl (Want.none rfl) (Y.assign rfl) ?_
      refine Seg.nil ?_
      refine Sx.next ?_
      refine Sc.seq ?_
      refine Sc.region ?_
      refine Seg.y rfl rfl (Want.none rfl) (Y.move rfl) ?_
      refine Seg.nil ?_
      refine Sx.next ?_
      refine Sc.condF rfl rfl ?_
      refine Sc.skip ?_
      refine Sx.next ?_
      refine Sc.seq ?_
      refine Sc.seq ?_
      refine Sc.region ?_
      refine Seg.y rfl rfl (Want.none rfl) (Y.move rfl) ?_
      refine Seg.y rfl rfl (Want.none rfl) (Y.unOp rfl (U.not _)) ?_
      refine Seg.y rfl rfl (Want.none rfl) (Y.move rfl) ?_
      refine Seg.skip rfl rfl (Skip.some 2 36 false rfl rfl rfl rfl) ?_
      refine Seg.skip rfl rfl (Skip.some 2 36 false rfl rfl rfl rfl) ?_
      refine Seg.skip rfl rfl (Skip.some 2 36 false rfl rfl rfl rfl) ?_
      refine Seg.skip rfl rfl (Skip.some 2 36 false rfl rfl rfl rfl) ?_
      refine Seg.y rfl rfl (Want.none rfl) (Y.pickT rfl rfl rfl) ?_
      refine Seg.nil ?_
      refine Sx.next ?_
      refine Sc.condT rfl rfl ?_
      refine Sc.seq ?_
      refine Sc.region ?_
      refine Seg.y rfl rfl (Want.none rfl) (Y.loadN (vs := [.bool m.ins, .bool m.nl, .bool m.ck, .bool m.inv, .bool m.org, .bool m.aut, .bool m.vis, .bool m.paste, .bool m.focus, .bool m.sync, .bool m.keypad, .int .i64 m.mouse, .bool m.sgr]) 1 rfl rfl rfl rfl ag23 sz23) ?_
      refine Seg.chs rfl (Want.none rfl) (C.store (cs' := [.bool m.ins, .bool m.nl, .bool m.ck, .bool m.inv, .bool m.org, .bool m.aut, .bool m.vis, .bool m.paste, .bool m.focus, .bool m.sync, .bool m.keypad, .int .i64 m.mouse, .bool m.sgr]) (vs := [.bool m.ins, .bool m.nl, .bool m.ck, .bool m.inv, .bool m.org, .bool m.aut, .bool m.vis, .bool m.paste, .bool m.focus, .bool m.sync, .bool m.keypad, .int .i64 m.mouse, .bool m.sgr]) 0 rfl rfl rfl rfl rfl rfl rfl sz23) (fun _ _ => ?_)
      refine Seg.y rfl rfl (Want.none rfl) (Y.assign rfl) ?_
      refine Seg.y rfl rfl (Want.none rfl) (Y.assign rfl) ?_
      refine Seg.nil ?_
      refine Sx.next ?_
      refine Sc.ret ?_
      refine Sx.next_ret ?_
      refine Sx.body (.inl rfl) (res3 rfl (Rv.cell (vs := [.bool m.ins, .bool m.nl, .bool m.ck, .bool m.inv, .bool m.org, .bool m.aut, .bool m.vis, .bool m.paste, .bool m.focus, .bool m.sync, .bool m.keypad, .int .i64 m.mouse, .bool m.sgr]) 0 rfl rfl rfl rfl ag23 sz23) (Rv.tmp rfl) (Rv.tmp rfl)) (fun w hs => ?_)
      refine RetV.eq ?_ hs
      subst hr3
      simp [putS, rputS, mouseS, h4, h4p, hno] at hsp
      subst hsp
      first | rfl | simp [h4, h4p, hno]
    · skip
      refine Seg.y rfl rfl (Want.none rfl) (Y.lookup (kt := 69) (et := 64) (v := .tuple (List.toArray [.nilFunc, .bool false])) rfl rfl (fun w hs => (fun h => run_lookup_none true (h.2) Try.underlying66 (by kernel_rfl) (find1 n hno w) (zv64 w)) hs.fut.now) Try.underlying66) ?_
      refine Seg.y rfl rfl (Want.none rfl) (Y.move rfl) ?_
      refine Seg.y rfl rfl (Want.none rfl) (Y.extract rfl rfl) ?_
      refine Seg.y rfl rfl (Want.none rfl) (Y.extract rfl rfl) ?_
      refine Seg.y rfl rfl (Want.none rfl) (Y.assign rfl) ?_
      refine Seg.y rfl rfl (Want.none rfl) (Y.assign rfl) ?_
      refine Seg.nil ?_
      refine Sx.next ?_
      refine Sc.seq ?_
      refine Sc.region ?_
      refine Seg.y rfl rfl (Want.none rfl) (Y.move rfl) ?_
      refine Seg.nil ?_
      refine Sx.next ?_
      refine Sc.condF rfl rfl ?_
      refine Sc.skip ?_
      refine Sx.next ?_
      refine Sc.seq ?_
      refine Sc.seq ?_
      refine Sc.region ?_
      refine Seg.y rfl rfl (Want.none rfl) (Y.move rfl) ?_
      refine Seg.y rfl rfl (Want.none rfl) (Y.unOp rfl (U.not _)) ?_
      refine Seg.y rfl rfl (Want.none rfl) (Y.move rfl) ?_
      refine Seg.callR (val := fun (b6 : Nat) => .slice (some ⟨b6, 0, none⟩) 4 4) (Φ := fun (b6 : Nat) => fun w => w.heap[b6]? = some (.cells (List.toArray [.int .i64 9, .int .i64 1000, .int .i64 1002, .int .i64 1003]) 3 (0, 0))) rfl rfl (Want.some 2 36 false rfl rfl rfl rfl) (K.func rfl co29) (fun w hs => mice_c  _ w hs.dc_lt   ) (fun b6 => ?_)
      refine Seg.y rfl rfl (Want.some 2 36 false rfl rfl rfl rfl) (Y.move rfl) ?_
      obtain ⟨r7, hr7⟩ : ∃ x, x = containsS [9, 1000, 1002, 1003] n := ⟨_, rfl⟩
      refine Seg.callV (v := .bool r7) rfl rfl (Want.some 2 36 false rfl rfl rfl rfl) (K.func rfl co28) (fun w hs => by rw [hr7]; exact contains_c (some ⟨b6, 0, none⟩) 4 [9, 1000, 1002, 1003] n _ w hs.dc_lt (hs.fut.mono fun w h => (RowV.block (fun _ => rfl) (h.2) [] rfl)) (by first | omega | (simp; done) | (simp; omega)) ) ?_
      refine Seg.y rfl rfl (Want.some 2 36 false rfl rfl rfl rfl) (Y.unOp rfl (U.not _)) ?_
      refine Seg.y rfl rfl (Want.none rfl) (Y.pickF rfl rfl rfl) ?_
      refine Seg.nil ?_
      refine Sx.next ?_
      refine Sc.cond rfl (fun h8 => ?_) (fun h8 => ?_)
      · skip
        have h8p : (r7) = false := by simpa using h8
        refine Sc.seq ?_
        refine Sc.region ?_
        refine Seg.y rfl rfl (Want.none rfl) (Y.loadN (vs := [.bool m.ins, .bool m.nl, .bool m.ck, .bool m.inv, .bool m.org, .bool m.aut, .bool m.vis, .bool m.paste, .bool m.focus, .bool m.sync, .bool m.keypad, .int .i64 m.mouse, .bool m.sgr]) 1 rfl rfl rfl rfl ag23 sz23) ?_
        refine Seg.chs rfl (Want.none rfl) (C.store (cs' := [.bool m.ins, .bool m.nl, .bool m.ck, .bool m.inv, .bool m.org, .bool m.aut, .bool m.vis, .bool m.paste, .bool m.focus, .bool m.sync, .bool m.keypad, .int .i64 m.mouse, .bool m.sgr]) (vs := [.bool m.ins, .bool m.nl, .bool m.ck, .bool m.inv, .bool m.org, .bool m.aut, .bool m.vis, .bool m.paste, .bool m.focus, .bool m.sync, .bool m.keypad, .int .i64 m.mouse, .bool m.sgr]) 0 rfl rfl rfl rfl rfl rfl rfl sz23) (fun _ _ => ?_)
        refine Seg.y rfl rfl (Want.none rfl) (Y.assign rfl) ?_
        refine Seg.y rfl rfl (Want.none rfl) (Y.assign rfl) ?_
        refine Seg.nil ?_
        refine Sx.next ?_
        refine Sc.ret ?_
        refine Sx.next_ret ?_
        refine Sx.body (.inl rfl) (res3 rfl (Rv.cell (vs := [.bool m.ins, .bool m.nl, .bool m.ck, .bool m.inv, .bool m.org, .bool m.aut, .bool m.vis, .bool m.paste, .bool m.focus, .bool m.sync, .bool m.keypad, .int .i64 m.mouse, .bool m.sgr]) 0 rfl rfl rfl rfl ag23 sz23) (Rv.tmp rfl) (Rv.tmp rfl)) (fun w hs => ?_)
        refine RetV.eq ?_ hs
        subst hr3
        subst hr7
        try simp [contains_mice] at h4
        try simp [contains_mice] at h8
        simp [putS, rputS, h4, h4p, hno, h8, h8p] at hsp
        subst hsp
        first | rfl | simp [h4, h4p, hno, h8, h8p]
      · skip
        have h8p : (r7) = true := by simpa using h8
        refine Sc.skip ?_
        refine Sx.next ?_
        refine Sc.seq ?_
        refine Sc.block ?_
        refine Sc.seq ?_
        refine Sc.region ?_
        refine Seg.y rfl rfl (Want.none rfl) (Y.move rfl) ?_
        refine Seg.y rfl rfl (Want.none rfl) (Y.assign rfl) ?_
        refine Seg.nil ?_
        refine Sx.next ?_
        refine Sc.cond rfl (fun h9 => ?_) (fun h9 => ?_)
        · skip
          refine Sc.region ?_
          refine Seg.y rfl rfl (Want.none rfl) (Y.move rfl) ?_
          refine Seg.y rfl rfl (Want.none rfl) (Y.fieldAddr rfl (A.field Try.underlying23 rfl sz3 rfl rfl)) ?_
          refine Seg.chs rfl (Want.none rfl) (C.store (cs' := [.bool m.ins, .bool m.nl, .bool m.ck, .bool m.inv, .bool m.org, .bool m.aut, .bool m.vis, .bool m.paste, .bool m.focus, .bool m.sync, .bool m.keypad, .int .i64 n, .bool m.sgr]) (vs := [.int .i64 n]) 1 rfl rfl rfl rfl rfl rfl rfl sz3) (fun _ _ => ?_)
          refine Seg.nil ?_
          refine Sx.block_normal ?_
          refine Sx.next ?_
          refine Sc.seq ?_
          refine Sc.region ?_
          refine Seg.y rfl rfl (Want.none rfl) (Y.loadN (vs := [.bool m.ins, .bool m.nl, .bool m.ck, .bool m.inv, .bool m.org, .bool m.aut, .bool m.vis, .bool m.paste, .bool m.focus, .bool m.sync, .bool m.keypad, .int .i64 n, .bool m.sgr]) 1 rfl rfl rfl rfl ag23 sz23) ?_
          refine Seg.chs rfl (Want.none rfl) (C.store (cs' := [.bool m.ins, .bool m.nl, .bool m.ck, .bool m.inv, .bool m.org, .bool m.aut, .bool m.vis, .bool m.paste, .bool m.focus, .bool m.sync, .bool m.keypad, .int .i64 n, .bool m.sgr]) (vs := [.bool m.ins, .bool m.nl, .bool m.ck, .bool m.inv, .bool m.org, .bool m.aut, .bool m.vis, .bool m.paste, .bool m.focus, .bool m.sync, .bool m.keypad, .int .i64 n, .bool m.sgr]) 0 rfl rfl rfl rfl rfl rfl rfl sz23) (fun _ _ => ?_)
          refine Seg.y rfl rfl (Want.none rfl) (Y.assign rfl) ?_
          refine Seg.y rfl rfl (Want.none rfl) (Y.assign rfl) ?_
          refine Seg.nil ?_
          refine Sx.next ?_
          refine Sc.ret ?_
          refine Sx.body (.inl rfl) (res3 rfl (Rv.cell (vs := [.bool m.ins, .bool m.nl, .bool m.ck, .bool m.inv, .bool m.org, .bool m.aut, .bool m.vis, .bool m.paste, .bool m.focus, .bool m.sync, .bool m.keypad, .int .i64 n, .bool m.sgr]) 0 rfl rfl rfl rfl ag23 sz23) (Rv.tmp rfl) (Rv.tmp rfl)) (fun w hs => ?_)
          refine RetV.eq ?_ hs
          subst hr3
          subst hr7
          try simp [contains_mice] at h4
          try simp [contains_mice] at h8
          try simp [contains_mice] at h9
          simp [putS, rputS, h4, h4p, hno, h8, h8p, h9] at hsp
          subst hsp
          first | rfl | simp [h4, h4p, hno, h8, h8p, h9]
        · skip
          refine Sc.seq ?_
          refine Sc.region ?_
          refine Seg.y rfl rfl (Want.none rfl) (Y.fieldAddr rfl (A.field Try.underlying23 rfl sz3 rfl rfl)) ?_
          refine Seg.y rfl rfl (Want.none rfl) (Y.load1 1 rfl rfl rfl ag3) ?_
          refine Seg.y rfl rfl (Want.none rfl) (Y.move rfl) ?_
          refine Seg.y rfl rfl (Want.none rfl) (Y.binOp rfl rfl (B.eq _ _ _)) ?_
          refine Seg.y rfl rfl (Want.none rfl) (Y.assign rfl) ?_
          refine Seg.nil ?_
          refine Sx.next ?_
          refine Sc.cond rfl (fun h10 => ?_) (fun h10 => ?_)
          · skip
            have h10p := of_decide_eq_true h10
            refine Sc.region ?_
            refine Seg.y rfl rfl (Want.none rfl) (Y.fieldAddr rfl (A.field Try.underlying23 rfl sz3 rfl rfl)) ?_
            refine Seg.chs rfl (Want.none rfl) (C.store (cs' := [.bool m.ins, .bool m.nl, .bool m.ck, .bool m.inv, .bool m.org, .bool m.aut, .bool m.vis, .bool m.paste, .bool m.focus, .bool m.sync, .bool m.keypad, .int .i64 0, .bool m.sgr]) (vs := [.int .i64 0]) 1 rfl rfl rfl rfl rfl rfl rfl sz3) (fun _ _ => ?_)
            refine Seg.nil ?_
            refine Sx.block_normal ?_
            refine Sx.next ?_
            refine Sc.seq ?_
            refine Sc.region ?_
            refine Seg.y rfl rfl (Want.none rfl) (Y.loadN (vs := [.bool m.ins, .bool m.nl, .bool m.ck, .bool m.inv, .bool m.org, .bool m.aut, .bool m.vis, .bool m.paste, .bool m.focus, .bool m.sync, .bool m.keypad, .int .i64 0, .bool m.sgr]) 1 rfl rfl rfl rfl ag23 sz23) ?_
            refine Seg.chs rfl (Want.none rfl) (C.store (cs' := [.bool m.ins, .bool m.nl, .bool m.ck, .bool m.inv, .bool m.org, .bool m.aut, .bool m.vis, .bool m.paste, .bool m.focus, .bool m.sync, .bool m.keypad, .int .i64 0, .bool m.sgr]) (vs := [.bool m.ins, .bool m.nl, .bool m.ck, .bool m.inv, .bool m.org, .bool m.aut, .bool m.vis, .bool m.paste, .bool m.focus, .bool m.sync, .bool m.keypad, .int .i64 0, .bool m.sgr]) 0 rfl rfl rfl rfl rfl rfl rfl sz23) (fun _ _ => ?_)
            refine Seg.y rfl rfl (Want.none rfl) (Y.assign rfl) ?_
            refine Seg.y rfl rfl (Want.none rfl) (Y.assign rfl) ?_
            refine Seg.nil ?_
            refine Sx.next ?_
            refine Sc.ret ?_
            refine Sx.body (.inl rfl) (res3 rfl (Rv.cell (vs := [.bool m.ins, .bool m.nl, .bool m.ck, .bool m.inv, .bool m.org, .bool m.aut, .bool m.vis, .bool m.paste, .bool m.focus, .bool m.sync, .bool m.keypad, .int .i64 0, .bool m.sgr]) 0 rfl rfl rfl rfl ag23 sz23) (Rv.tmp rfl) (Rv.tmp rfl)) (fun w hs => ?_)
            refine RetV.eq ?_ hs
            subst hr3
            subst hr7
            try simp [contains_mice] at h4
            try simp [contains_mice] at h8
            try simp [contains_mice] at h9
            try simp [contains_mice] at h10
            simp [putS, rputS, h4, h4p, hno, h8, h8p, h9, h10, h10p] at hsp
            subst hsp
            first | rfl | simp [h4, h4p, hno, h8, h8p, h9, h10, h10p]
          · skip
            have h10p := of_decide_eq_false h10
            refine Sc.skip ?_
            refine Sx.block_normal ?_
            refine Sx.next ?_
            refine Sc.seq ?_
            refine Sc.region ?_
            refine Seg.y rfl rfl (Want.none rfl) (Y.loadN (vs := [.bool m.ins, .bool m.nl, .bool m.ck, .bool m.inv, .bool m.org, .bool m.aut, .bool m.vis, .bool m.paste, .bool m.focus, .bool m.sync, .bool m.keypad, .int .i64 m.mouse, .bool m.sgr]) 1 rfl rfl rfl rfl ag23 sz23) ?_
            refine Seg.chs rfl (Want.none rfl) (C.store (cs' := [.bool m.ins, .bool m.nl, .bool m.ck, .bool m.inv, .bool m.org, .bool m.aut, .bool m.vis, .bool m.paste, .bool m.focus, .bool m.sync, .bool m.keypad, .int .i64 m.mouse, .bool m.sgr]) (vs := [.bool m.ins, .bool m.nl, .bool m.ck, .bool m.inv, .bool m.org, .bool m.aut, .bool m.vis, .bool m.paste, .bool m.focus, .bool m.sync, .bool m.keypad, .int .i64 m.mouse, .bool m.sgr]) 0 rfl rfl rfl rfl rfl rfl rfl sz23) (fun _ _ => ?_)
            refine Seg.y rfl rfl (Want.none rfl) (Y.assign rfl) ?_
            refine Seg.y rfl rfl (Want.none rfl) (Y.assign rfl) ?_
            refine Seg.nil ?_
            refine Sx.next ?_
            refine Sc.ret ?_
            refine Sx.body (.inl rfl) (res3 rfl (Rv.cell (vs := [.bool m.ins, .bool m.nl, .bool m.ck, .bool m.inv, .bool m.org, .bool m.aut, .bool m.vis, .bool m.paste, .bool m.focus, .bool m.sync, .bool m.keypad, .int .i64 m.mouse, .bool m.sgr]) 0 rfl rfl rfl rfl ag23 sz23) (Rv.tmp rfl) (Rv.tmp rfl)) (fun w hs => ?_)
            refine RetV.eq ?_ hs
            subst hr3
            subst hr7
            try simp [contains_mice] at h4
            try simp [contains_mice] at h8
            try simp [contains_mice] at h9
            try simp [contains_mice] at h10
            simp [putS, rputS, h4, h4p, hno, h8, h8p, h9, h10, h10p] at hsp
            subst hsp
            first | rfl | simp [h4, h4p, hno, h8, h8p, h9, h10, h10p]
end Go.Proofs.Ythmigjicibhheaa
