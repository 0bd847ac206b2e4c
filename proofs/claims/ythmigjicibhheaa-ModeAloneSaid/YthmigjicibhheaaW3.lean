/- What the functions of the program and of the reference come to: one theorem a function (part 3). -/
import Derived.Test.YthmigjicibhheaaW2
namespace Go.Proofs.Ythmigjicibhheaa
open Go Go.RowKit Go.Eng
set_option maxRecDepth 100000
set_option linter.unusedVariables false
set_option linter.unusedSimpArgs false
set_option maxHeartbeats 4000000 in
theorem state_c (m : Md) (dec : Bool) (n : Int) (alt : Bool) (w : World)  :
    Calls Try.prog 19 #[.agg (List.toArray [.bool m.ins, .bool m.nl, .bool m.ck, .bool m.inv, .bool m.org, .bool m.aut, .bool m.vis, .bool m.paste, .bool m.focus, .bool m.sync, .bool m.keypad, .int .i64 m.mouse, .bool m.sgr]), .bool dec, .int .i64 n, .bool alt] w (RetV w (.tuple (List.toArray [.int .i64 ((stateS m dec n alt).1), .int .i64 ((stateS m dec n alt).2)]))) := by
  refine enter (F := fun w => True) [] Try.func19 rfl Try.ntmps19 (by simp) Fut.triv rfl ?_
  refine Sc.seq ?_
  refine Sc.region ?_
  refine Seg.chg rfl rfl (Want.none rfl) (C.box rfl) (fun b1 hb1 => ?_)
  refine Seg.y rfl rfl (Want.none rfl) (Y.assign rfl) ?_
  refine Seg.y rfl rfl (Want.none rfl) (Y.assign rfl) ?_
  refine Seg.nil ?_
  refine Sx.next ?_
  refine Sc.seq ?_
  refine Sc.seq ?_
  refine Sc.region ?_
  refine Seg.y rfl rfl (Want.none rfl) (Y.loadN (vs := [.bool m.ins, .bool m.nl, .bool m.ck, .bool m.inv, .bool m.org, .bool m.aut, .bool m.vis, .bool m.paste, .bool m.focus, .bool m.sync, .bool m.keypad, .int .i64 m.mouse, .bool m.sgr]) 0 rfl rfl rfl rfl ag23 sz23) ?_
  obtain ⟨r2, hr2⟩ : ∃ x, x = checkS m := ⟨_, rfl⟩
  refine Seg.callV (v := .int .i64 r2) rfl rfl (Want.none rfl) (K.func rfl co11) (fun w hs => by rw [hr2]; exact check_c m w ) ?_
  refine Seg.y rfl rfl (Want.none rfl) (Y.assign rfl) ?_
  refine Seg.nil ?_
  refine Sx.next ?_
  refine Sc.seq ?_
  refine Sc.region ?_
  refine Seg.y rfl rfl (Want.none rfl) (Y.move rfl) ?_
  refine Seg.y rfl rfl (Want.none rfl) (Y.binOp rfl rfl (B.ne _ _ _)) ?_
  refine Seg.nil ?_
  refine Sx.next ?_
  refine Sc.cond rfl (fun h3 => ?_) (fun h3 => ?_)
  · skip
    have h3p := of_decide_eq_true h3
    refine Sc.seq ?_
    refine Sc.region ?_
    refine Seg.y rfl rfl (Want.none rfl) (Y.move rfl) ?_
    refine Seg.y rfl rfl (Want.none rfl) (Y.assign rfl) ?_
    refine Seg.y rfl rfl (Want.none rfl) (Y.assign rfl) ?_
    refine Seg.nil ?_
    refine Sx.next ?_
    refine Sc.ret ?_
    refine Sx.next_ret ?_
    refine Sx.body (.inl rfl) (res2 rfl (Rv.tmp rfl) (Rv.tmp rfl)) (fun w hs => ?_)
    refine RetV.eq ?_ hs
    subst hr2
    simp [stateS, rstateS, rputS, MdEq, toldS, Bool.cond_eq_ite, mouseS, h3, h3p]
  · skip
    have h3p : r2 = 0 := by simpa using h3
    refine Sc.skip ?_
    refine Sx.next ?_
    refine Sc.seq ?_
    refine Sc.seq ?_
    refine Sc.region ?_
    refine Seg.callR (val := fun (b4 : Nat) => .map (some b4)) (Φ := fun (b4 : Nat) => fun w => w.heap[b4]? = some (.map (List.toArray modeEs) 11)) rfl rfl (Want.none rfl) (K.func rfl co30) (fun w hs => fields_c  _ w hs.dc_lt   ) (fun b4 => ?_)
    refine Seg.y rfl rfl (Want.none rfl) (Y.move rfl) ?_
    refine Seg.y rfl rfl (Want.none rfl) (Y.move rfl) ?_
    refine Seg.y rfl rfl (Want.none rfl) (Y.build (v := .agg (List.toArray [.bool dec, .int .i64 n])) rfl (fun w => by kernel_rfl)) ?_
    rcases mode_cases dec n with ⟨rfl, rfl⟩ | ⟨rfl, rfl⟩ | ⟨rfl, rfl⟩ | ⟨rfl, rfl⟩ | ⟨rfl, rfl⟩ | ⟨rfl, rfl⟩ | ⟨rfl, rfl⟩ | ⟨rfl, rfl⟩ | ⟨rfl, rfl⟩ | ⟨rfl, rfl⟩ | ⟨rfl, rfl⟩ | ⟨rfl, hno⟩ | ⟨rfl, hno⟩
    · skip
      refine Seg.y rfl rfl (Want.none rfl) (Y.lookup (kt := 69) (et := 64) (v := .tuple (List.toArray [.func (.func 35) #[] #[], .bool true])) rfl rfl (fun w hs => (fun h => run_lookup (i := 0) (v := .func (.func 35) #[] #[]) true (h.2) Try.underlying66 (by kernel_rfl) (by kernel_rfl)) hs.fut.now) Try.underlying66) ?_
      refine Seg.y rfl rfl (Want.none rfl) (Y.move rfl) ?_
      refine Seg.y rfl rfl (Want.none rfl) (Y.extract rfl rfl) ?_
      refine Seg.y rfl rfl (Want.none rfl) (Y.extract rfl rfl) ?_
      refine Seg.y rfl rfl (Want.none rfl) (Y.assign rfl) ?_
      refine Seg.y rfl rfl (Want.none rfl) (Y.assign rfl) ?_
      refine Seg.nil ?_
      refine Sx.next ?_
      refine Sc.seq ?_
      refine Sc.region ?_
      refine Seg.y rfl rfl (Want.none rfl) (Y.move rfl) ?_
      refine Seg.nil ?_
      refine Sx.next ?_
      refine Sc.condT rfl rfl ?_
      refine Sc.seq ?_
      refine Sc.region ?_
      refine Seg.y rfl rfl (Want.none rfl) (Y.move rfl) ?_
      refine Seg.callV (v := .pointer (some ⟨b1, 0, none⟩)) rfl rfl (Want.none rfl) (K.value rfl rfl co35) (fun w hs => field1_c b1 w ) ?_
      refine Seg.y rfl rfl (Want.none rfl) (Y.nilCheck rfl) ?_
      refine Seg.y rfl rfl (Want.none rfl) (Y.load1 0 rfl rfl rfl ag4) ?_
      obtain ⟨r5, hr5⟩ : ∃ x, x = toldS m.ins := ⟨_, rfl⟩
      have hbr5 : 1 ≤ r5 ∧ r5 ≤ 2 := by rw [hr5]; exact told_bd _
      refine Seg.callV (v := .int .i64 r5) rfl rfl (Want.none rfl) (K.func rfl co32) (fun w hs => by rw [hr5]; exact told_c m.ins w ) ?_
      refine Seg.y rfl rfl (Want.none rfl) (Y.assign rfl) ?_
      refine Seg.y rfl rfl (Want.none rfl) (Y.assign rfl) ?_
      refine Seg.nil ?_
      refine Sx.next ?_
      refine Sc.ret ?_
      refine Sx.next_ret ?_
      refine Sx.body (.inl rfl) (res2 rfl (Rv.tmp rfl) (Rv.tmp rfl)) (fun w hs => ?_)
      refine RetV.eq ?_ hs
      subst hr2
      subst hr5
      simp [stateS, rstateS, rputS, MdEq, toldS, Bool.cond_eq_ite, mouseS, h3, h3p]
    · skip
      refine Seg.y rfl rfl (Want.none rfl) (Y.lookup (kt := 69) (et := 64) (v := .tuple (List.toArray [.func (.func 36) #[] #[], .bool true])) rfl rfl (fun w hs => (fun h => run_lookup (i := 1) (v := .func (.func 36) #[] #[]) true (h.2) Try.underlying66 (by kernel_rfl) (by kernel_rfl)) hs.fut.now) Try.underlying66) ?_
      refine Seg.y rfl rfl (Want.none rfl) (Y.move rfl) ?_
      refine Seg.y rfl rfl (Want.none rfl) (Y.extract rfl rfl) ?_
      refine Seg.y rfl rfl (Want.none rfl) (Y.extract rfl rfl) ?_
      refine Seg.y rfl rfl (Want.none rfl) (Y.assign rfl) ?_
      refine Seg.y rfl rfl (Want.none rfl) (Y.assign rfl) ?_
      refine Seg.nil ?_
      refine Sx.next ?_
      refine Sc.seq ?_
      refine Sc.region ?_
      refine Seg.y rfl rfl (Want.none rfl) (Y.move rfl) ?_
      refine Seg.nil ?_
      refine Sx.next ?_
      refine Sc.condT rfl rfl ?_
      refine Sc.seq ?_
      refine Sc.region ?_
      refine Seg.y rfl rfl (Want.none rfl) (Y.move rfl) ?_
      refine Seg.callV (v := .pointer (some ⟨b1, 1, none⟩)) rfl rfl (Want.none rfl) (K.value rfl rfl co36) (fun w hs => field2_c b1 w ) ?_
      refine Seg.y rfl rfl (Want.none rfl) (Y.nilCheck rfl) ?_
      refine Seg.y rfl rfl (Want.none rfl) (Y.load1 0 rfl rfl rfl ag4) ?_
      obtain ⟨r6, hr6⟩ : ∃ x, x = toldS m.nl := ⟨_, rfl⟩
      have hbr6 : 1 ≤ r6 ∧ r6 ≤ 2 := by rw [hr6]; exact told_bd _
      refine Seg.callV (v := .int .i64 r6) rfl rfl (Want.none rfl) (K.func rfl co32) (fun w hs => by rw [hr6]; exact told_c m.nl w ) ?_
      refine Seg.y rfl rfl (Want.none rfl) (Y.assign rfl) ?_
      refine Seg.y rfl rfl (Want.none rfl) (Y.assign rfl) ?_
      refine Seg.nil ?_
      refine Sx.next ?_
      refine Sc.ret ?_
      refine Sx.next_ret ?_
      refine Sx.body (.inl rfl) (res2 rfl (Rv.tmp rfl) (Rv.tmp rfl)) (fun w hs => ?_)
      refine RetV.eq ?_ hs
      subst hr2
      subst hr6
      simp [stateS, rstateS, rputS, MdEq, toldS, Bool.cond_eq_ite, mouseS, h3, h3p]
    · skip
      refine Seg.y rfl rfl (Want.none rfl) (Y.lookup (kt := 69) (et := 64) (v := .tuple (List.toArray [.func (.func 37) #[] #[], .bool true])) rfl rfl (fun w hs => (fun h => run_lookup (i := 2) (v := .func (.func 37) #[] #[]) true (h.2) Try.underlying66 (by kernel_rfl) (by kernel_rfl)) hs.fut.now) Try.underlying66) ?_
      refine Seg.y rfl rfl (Want.none rfl) (Y.move rfl) ?_
      refine Seg.y rfl rfl (Want.none rfl) (Y.extract rfl rfl) ?_
      refine Seg.y rfl rfl (Want.none rfl) (Y.extract rfl rfl) ?_
      refine Seg.y rfl rfl (Want.none rfl) (Y.assign rfl) ?_
      refine Seg.y rfl rfl (Want.none rfl) (Y.assign rfl) ?_
      refine Seg.nil ?_
      refine Sx.next ?_
      refine Sc.seq ?_
      refine Sc.region ?_
      refine Seg.y rfl rfl (Want.none rfl) (Y.move rfl) ?_
      refine Seg.nil ?_
      refine Sx.next ?_
      refine Sc.condT rfl rfl ?_
      refine Sc.seq ?_
      refine Sc.region ?_
      refine Seg.y rfl rfl (Want.none rfl) (Y.move rfl) ?_
      refine Seg.callV (v := .pointer (some ⟨b1, 2, none⟩)) rfl rfl (Want.none rfl) (K.value rfl rfl co37) (fun w hs => field3_c b1 w ) ?_
      refine Seg.y rfl rfl (Want.none rfl) (Y.nilCheck rfl) ?_
      refine Seg.y rfl rfl (Want.none rfl) (Y.load1 0 rfl rfl rfl ag4) ?_
      obtain ⟨r7, hr7⟩ : ∃ x, x = toldS m.ck := ⟨_, rfl⟩
      have hbr7 : 1 ≤ r7 ∧ r7 ≤ 2 := by rw [hr7]; exact told_bd _
      refine Seg.callV (v := .int .i64 r7) rfl rfl (Want.none rfl) (K.func rfl co32) (fun w hs => by rw [hr7]; exact told_c m.ck w ) ?_
      refine Seg.y rfl rfl (Want.none rfl) (Y.assign rfl) ?_
      refine Seg.y rfl rfl (Want.none rfl) (Y.assign rfl) ?_
      refine Seg.nil ?_
      refine Sx.next ?_
      refine Sc.ret ?_
      refine Sx.next_ret ?_
      refine Sx.body (.inl rfl) (res2 rfl (Rv.tmp rfl) (Rv.tmp rfl)) (fun w hs => ?_)
      refine RetV.eq ?_ hs
      subst hr2
      subst hr7
      simp [stateS, rstateS, rputS, MdEq, toldS, Bool.cond_eq_ite, mouseS, h3, h3p]
    · skip
      refine Seg.y rfl rfl (Want.none rfl) (Y.lookup (kt := 69) (et := 64) (v := .tuple (List.toArray [.func (.func 38) #[] #[], .bool true])) rfl rfl (fun w hs => (fun h => run_lookup (i := 3) (v := .func (.func 38) #[] #[]) true (h.2) Try.underlying66 (by kernel_rfl) (by kernel_rfl)) hs.fut.now) Try.underlying66) ?_
      refine Seg.y rfl rfl (Want.none rfl) (Y.move rfl) ?_
      refine Seg.y rfl rfl (Want.none rfl) (Y.extract rfl rfl) ?_
      refine Seg.y rfl rfl (Want.none rfl) (Y.extract rfl rfl) ?_
      refine Seg.y rfl rfl (Want.none rfl) (Y.assign rfl) ?_
      refine Seg.y rfl rfl (Want.none rfl) (Y.assign rfl) ?_
      refine Seg.nil ?_
      refine Sx.next ?_
      refine Sc.seq ?_
      refine Sc.region ?_
      refine Seg.y rfl rfl (Want.none rfl) (Y.move rfl) ?_
      refine Seg.nil ?_
      refine Sx.next ?_
      refine Sc.condT rfl rfl ?_
      refine Sc.seq ?_
      refine Sc.region ?_
      refine Seg.y rfl rfl (Want.none rfl) (Y.move rfl) ?_
      refine Seg.callV (v := .pointer (some ⟨b1, 3, none⟩)) rfl rfl (Want.none rfl) (K.value rfl rfl co38) (fun w hs => field4_c b1 w ) ?_
      refine Seg.y rfl rfl (Want.none rfl) (Y.nilCheck rfl) ?_
      refine Seg.y rfl rfl (Want.none rfl) (Y.load1 0 rfl rfl rfl ag4) ?_
      obtain ⟨r8, hr8⟩ : ∃ x, x = toldS m.inv := ⟨_, rfl⟩
      have hbr8 : 1 ≤ r8 ∧ r8 ≤ 2 := by rw [hr8]; exact told_bd _
      refine Seg.callV (v := .int .i64 r8) rfl rfl (Want.none rfl) (K.func rfl co32) (fun w hs => by rw [hr8]; exact told_c m.inv w ) ?_
      refine Seg.y rfl rfl (Want.none rfl) (Y.assign rfl) ?_
      refine Seg.y rfl rfl (Want.none rfl) (Y.assign rfl) ?_
      refine Seg.nil ?_
      refine Sx.next ?_
      refine Sc.ret ?_
      refine Sx.next_ret ?_
      refine Sx.body (.inl rfl) (res2 rfl (Rv.tmp rfl) (Rv.tmp rfl)) (fun w hs => ?_)
      refine RetV.eq ?_ hs
      subst hr2
      subst hr8
      simp [stateS, rstateS, rputS, MdEq, toldS, Bool.cond_eq_ite, mouseS, h3, h3p]
    · skip
      refine Seg.y rfl rfl (Want.none rfl) (Y.lookup (kt := 69) (et := 64) (v := .tuple (List.toArray [.func (.func 39) #[] #[], .bool true])) rfl rfl (fun w hs => (fun h => run_lookup (i := 4) (v := .func (.func 39) #[] #[]) true (h.2) Try.underlying66 (by kernel_rfl) (by kernel_rfl)) hs.fut.now) Try.underlying66) ?_
      refine Seg.y rfl rfl (Want.none rfl) (Y.move rfl) ?_
      refine Seg.y rfl rfl (Want.none rfl) (Y.extract rfl rfl) ?_
      refine Seg.y rfl rfl (Want.none rfl) (Y.extract rfl rfl) ?_
      refine Seg.y rfl rfl (Want.none rfl) (Y.assign rfl) ?_
      refine Seg.y rfl rfl (Want.none rfl) (Y.assign rfl) ?_
      refine Seg.nil ?_
      refine Sx.next ?_
      refine Sc.seq ?_
      refine Sc.region ?_
      refine Seg.y rfl rfl (Want.none rfl) (Y.move rfl) ?_
      refine Seg.nil ?_
      refine Sx.next ?_
      refine Sc.condT rfl rfl ?_
      refine Sc.seq ?_
      refine Sc.region ?_
      refine Seg.y rfl rfl (Want.none rfl) (Y.move rfl) ?_
      refine Seg.callV (v := .pointer (some ⟨b1, 4, none⟩)) rfl rfl (Want.none rfl) (K.value rfl rfl co39) (fun w hs => field5_c b1 w ) ?_
      refine Seg.y rfl rfl (Want.none rfl) (Y.nilCheck rfl) ?_
      refine Seg.y rfl rfl (Want.none rfl) (Y.load1 0 rfl rfl rfl ag4) ?_
      obtain ⟨r9, hr9⟩ : ∃ x, x = toldS m.org := ⟨_, rfl⟩
      have hbr9 : 1 ≤ r9 ∧ r9 ≤ 2 := by rw [hr9]; exact told_bd _
      refine Seg.callV (v := .int .i64 r9) rfl rfl (Want.none rfl) (K.func rfl co32) (fun w hs => by rw [hr9]; exact told_c m.org w ) ?_
      refine Seg.y rfl rfl (Want.none rfl) (Y.assign rfl) ?_
      refine Seg.y rfl rfl (Want.none rfl) (Y.assign rfl) ?_
      refine Seg.nil ?_
      refine Sx.next ?_
      refine Sc.ret ?_
      refine Sx.next_ret ?_
      refine Sx.body (.inl rfl) (res2 rfl (Rv.tmp rfl) (Rv.tmp rfl)) (fun w hs => ?_)
      refine RetV.eq ?_ hs
      subst hr2
      subst hr9
      simp [stateS, rstateS, rputS, MdEq, toldS, Bool.cond_eq_ite, mouseS, h3, h3p]
    · skip
      refine Seg.y rfl rfl (Want.none rfl) (Y.lookup (kt := 69) (et := 64) (v := .tuple (List.toArray [.func (.func 40) #[] #[], .bool true])) rfl rfl (fun w hs => (fun h => run_lookup (i := 5) (v := .func (.func 40) #[] #[]) true (h.2) Try.underlying66 (by kernel_rfl) (by kernel_rfl)) hs.fut.now) Try.underlying66) ?_
      refine Seg.y rfl rfl (Want.none rfl) (Y.move rfl) ?_
      refine Seg.y rfl rfl (Want.none rfl) (Y.extract rfl rfl) ?_
      refine Seg.y rfl rfl (Want.none rfl) (Y.extract rfl rfl) ?_
      refine Seg.y rfl rfl (Want.none rfl) (Y.assign rfl) ?_
      refine Seg.y rfl rfl (Want.none rfl) (Y.assign rfl) ?_
      refine Seg.nil ?_
      refine Sx.next ?_
      refine Sc.seq ?_
      refine Sc.region ?_
      refine Seg.y rfl rfl (Want.none rfl) (Y.move rfl) ?_
      refine Seg.nil ?_
      refine Sx.next ?_
      refine Sc.condT rfl rfl ?_
      refine Sc.seq ?_
      refine Sc.region ?_
      refine Seg.y rfl rfl (Want.none rfl) (Y.move rfl) ?_
      refine Seg.callV (v := .pointer (some ⟨b1, 5, none⟩)) rfl rfl (Want.none rfl) (K.value rfl rfl co40) (fun w hs => field6_c b1 w ) ?_
      refine Seg.y rfl rfl (Want.none rfl) (Y.nilCheck rfl) ?_
      refine Seg.y rfl rfl (Want.none rfl) (Y.load1 0 rfl rfl rfl ag4) ?_
      obtain ⟨r10, hr10⟩ : ∃ x, x = toldS m.aut := ⟨_, rfl⟩
      have hbr10 : 1 ≤ r10 ∧ r10 ≤ 2 := by rw [hr10]; exact told_bd _
      refine Seg.callV (v := .int .i64 r10) rfl rfl (Want.none rfl) (K.func rfl co32) (fun w hs => by rw [hr10]; exact told_c m.aut w ) ?_
      refine Seg.y rfl rfl (Want.none rfl) (Y.assign rfl) ?_
      refine Seg.y rfl rfl (Want.none rfl) (Y.assign rfl) ?_
      refine Seg.nil ?_
      refine Sx.next ?_
      refine Sc.ret ?_
      refine Sx.next_ret ?_
      refine Sx.body (.inl rfl) (res2 rfl (Rv.tmp rfl) (Rv.tmp rfl)) (fun w hs => ?_)
      refine RetV.eq ?_ hs
      subst hr2
      subst hr10
      simp [stateS, rstateS, rputS, MdEq, toldS, Bool.cond_eq_ite, mouseS, h3, h3p]
    · skip
      refine Seg.y rfl rfl (Want.none rfl) (Y.lookup (kt := 69) (et := 64) (v := .tuple (List.toArray [.func (.func 41) #[] #[], .bool true])) rfl rfl (fun w hs => (fun h => run_lookup (i := 6) (v := .func (.func 41) #[] #[]) true (h.2) Try.underlying66 (by kernel_rfl) (by kernel_rfl)) hs.fut.now) Try.underlying66) ?_
      refine Seg.y rfl rfl (Want.none rfl) (Y.move rfl) ?_
      refine Seg.y rfl rfl (Want.none rfl) (Y.extract rfl rfl) ?_
      refine Seg.y rfl rfl (Want.none rfl) (Y.extract rfl rfl) ?_
      refine Seg.y rfl rfl (Want.none rfl) (Y.assign rfl) ?_
      refine Seg.y rfl rfl (Want.none rfl) (Y.assign rfl) ?_
      refine Seg.nil ?_
      refine Sx.next ?_
      refine Sc.seq ?_
      refine Sc.region ?_
      refine Seg.y rfl rfl (Want.none rfl) (Y.move rfl) ?_
      refine Seg.nil ?_
      refine Sx.next ?_
      refine Sc.condT rfl rfl ?_
      refine Sc.seq ?_
      refine Sc.region ?_
      refine Seg.y rfl rfl (Want.none rfl) (Y.move rfl) ?_
      refine Seg.callV (v := .pointer (some ⟨b1, 6, none⟩)) rfl rfl (Want.none rfl) (K.value rfl rfl co41) (fun w hs => field7_c b1 w ) ?_
      refine Seg.y rfl rfl (Want.none rfl) (Y.nilCheck rfl) ?_
      refine Seg.y rfl rfl (Want.none rfl) (Y.load1 0 rfl rfl rfl ag4) ?_
      obtain ⟨r11, hr11⟩ : ∃ x, x = toldS m.vis := ⟨_, rfl⟩
      have hbr11 : 1 ≤ r11 ∧ r11 ≤ 2 := by rw [hr11]; exact told_bd _
      refine Seg.callV (v := .int .i64 r11) rfl rfl (Want.none rfl) (K.func rfl co32) (fun w hs => by rw [hr11]; exact told_c m.vis w ) ?_
      refine Seg.y rfl rfl (Want.none rfl) (Y.assign rfl) ?_
      refine Seg.y rfl rfl (Want.none rfl) (Y.assign rfl) ?_
      refine Seg.nil ?_
      refine Sx.next ?_
      refine Sc.ret ?_
      refine Sx.next_ret ?_
      refine Sx.body (.inl rfl) (res2 rfl (Rv.tmp rfl) (Rv.tmp rfl)) (fun w hs => ?_)
      refine RetV.eq ?_ hs
      subst hr2
      subst hr11
      simp [stateS, rstateS, rputS, MdEq, toldS, Bool.cond_eq_ite, mouseS, h3, h3p]
    · skip
      refine Seg.y rfl rfl (Want.none rfl) (Y.lookup (kt := 69) (et := 64) (v := .tuple (List.toArray [.func (.func 42) #[] #[], .bool true])) rfl rfl (fun w hs => (fun h => run_lookup (i := 7) (v := .func (.func 42) #[] #[]) true (h.2) Try.underlying66 (by kernel_rfl) (by kernel_rfl)) hs.fut.now) Try.underlying66) ?_
      refine Seg.y rfl rfl (Want.none rfl) (Y.move rfl) ?_
      refine Seg.y rfl rfl (Want.none rfl) (Y.extract rfl rfl) ?_
      refine Seg.y rfl rfl (Want.none rfl) (Y.extract rfl rfl) ?_
      refine Seg.y rfl rfl (Want.none rfl) (Y.assign rfl) ?_
      refine Seg.y rfl rfl (Want.none rfl) (Y.assign rfl) ?_
      refine Seg.nil ?_
      refine Sx.next ?_
      refine Sc.seq ?_
      refine Sc.region ?_
      refine Seg.y rfl rfl (Want.none rfl) (Y.move rfl) ?_
      refine Seg.nil ?_
      refine Sx.next ?_
      refine Sc.condT rfl rfl ?_
      refine Sc.seq ?_
      refine Sc.region ?_
      refine Seg.y rfl rfl (Want.none rfl) (Y.move rfl) ?_
      refine Seg.callV (v := .pointer (some ⟨b1, 8, none⟩)) rfl rfl (Want.none rfl) (K.value rfl rfl co42) (fun w hs => field8_c b1 w ) ?_
      refine Seg.y rfl rfl (Want.none rfl) (Y.nilCheck rfl) ?_
      refine Seg.y rfl rfl (Want.none rfl) (Y.load1 0 rfl rfl rfl ag4) ?_
      obtain ⟨r12, hr12⟩ : ∃ x, x = toldS m.focus := ⟨_, rfl⟩
      have hbr12 : 1 ≤ r12 ∧ r12 ≤ 2 := by rw [hr12]; exact told_bd _
      refine Seg.callV (v := .int .i64 r12) rfl rfl (Want.none rfl) (K.func rfl co32) (fun w hs => by rw [hr12]; exact told_c m.focus w ) ?_
      refine Seg.y rfl rfl (Want.none rfl) (Y.assign rfl) ?_
      refine Seg.y rfl rfl (Want.none rfl) (Y.assign rfl) ?_
      refine Seg.nil ?_
      refine Sx.next ?_
      refine Sc.ret ?_
      refine Sx.next_ret ?_
      refine Sx.body (.inl rfl) (res2 rfl (Rv.tmp rfl) (Rv.tmp rfl)) (fun w hs => ?_)
      refine RetV.eq ?_ hs
      subst hr2
      subst hr12
      simp [stateS, rstateS, rputS, MdEq, toldS, Bool.cond_eq_ite, mouseS, h3, h3p]
    · skip
      refine Seg.y rfl rfl (Want.none rfl) (Y.lookup (kt := 69) (et := 64) (v := .tuple (List.toArray [.func (.func 43) #[] #[], .bool true])) rfl rfl (fun w hs => (fun h => run_lookup (i := 8) (v := .func (.func 43) #[] #[]) true (h.2) Try.underlying66 (by kernel_rfl) (by kernel_rfl)) hs.fut.now) Try.underlying66) ?_
      refine Seg.y rfl rfl (Want.none rfl) (Y.move rfl) ?_
      refine Seg.y rfl rfl (Want.none rfl) (Y.extract rfl rfl) ?_
      refine Seg.y rfl rfl (Want.none rfl) (Y.extract rfl rfl) ?_
      refine Seg.y rfl rfl (Want.none rfl) (Y.assign rfl) ?_
      refine Seg.y rfl rfl (Want.none rfl) (Y.assign rfl) ?_
      refine Seg.nil ?_
      refine Sx.next ?_
      refine Sc.seq ?_
      refine Sc.region ?_
      refine Seg.y rfl rfl (Want.none rfl) (Y.move rfl) ?_
      refine Seg.nil ?_
      refine Sx.next ?_
      refine Sc.condT rfl rfl ?_
      refine Sc.seq ?_
      refine Sc.region ?_
      refine Seg.y rfl rfl (Want.none rfl) (Y.move rfl) ?_
      refine Seg.callV (v := .pointer (some ⟨b1, 12, none⟩)) rfl rfl (Want.none rfl) (K.value rfl rfl co43) (fun w hs => field9_c b1 w ) ?_
      refine Seg.y rfl rfl (Want.none rfl) (Y.nilCheck rfl) ?_
      refine Seg.y rfl rfl (Want.none rfl) (Y.load1 0 rfl rfl rfl ag4) ?_
      obtain ⟨r13, hr13⟩ : ∃ x, x = toldS m.sgr := ⟨_, rfl⟩
      have hbr13 : 1 ≤ r13 ∧ r13 ≤ 2 := by rw [hr13]; exact told_bd _
      refine Seg.callV (v := .int .i64 r13) rfl rfl (Want.none rfl) (K.func rfl co32) (fun w hs => by rw [hr13]; exact told_c m.sgr w ) ?_
      refine Seg.y rfl rfl (Want.none rfl) (Y.assign rfl) ?_
      refine Seg.y rfl rfl (Want.none rfl) (Y.assign rfl) ?_
      refine Seg.nil ?_
      refine Sx.next ?_
      refine Sc.ret ?_
      refine Sx.next_ret ?_
      refine Sx.body (.inl rfl) (res2 rfl (Rv.tmp rfl) (Rv.tmp rfl)) (fun w hs => ?_)
      refine RetV.eq ?_ hs
      subst hr2
      subst hr13
      simp [stateS, rstateS, rputS, MdEq, toldS, Bool.cond_eq_ite, mouseS, h3, h3p]
    · skip
      refine Seg.y rfl rfl (Want.none rfl) (Y.lookup (kt := 69) (et := 64) (v := .tuple (List.toArray [.func (.func 44) #[] #[], .bool true])) rfl rfl (fun w hs => (fun h => run_lookup (i := 9) (v := .func (.func 44) #[] #[]) true (h.2) Try.underlying66 (by kernel_rfl) (by kernel_rfl)) hs.fut.now) Try.underlying66) ?_
      refine Seg.y rfl rfl (Want.none rfl) (Y.move rfl) ?_
      refine Seg.y rfl rfl (Want.none rfl) (Y.extract rfl rfl) ?_
      refine Seg.y rfl rfl (Want.none rfl) (Y.extract rfl rfl) ?_
      refine Seg.y rfl rfl (Want.none rfl) (Y.assign rfl) ?_
      refine Seg.y rfl rfl (Want.none rfl) (Y.assign rfl) ?_
      refine Seg.nil ?_
      refine Sx.next ?_
      refine Sc.seq ?_
      refine Sc.region ?_
      refine Seg.y rfl rfl (Want.none rfl) (Y.move rfl) ?_
      refine Seg.nil ?_
      refine Sx.next ?_
      refine Sc.condT rfl rfl ?_
      refine Sc.seq ?_
      refine Sc.region ?_
      refine Seg.y rfl rfl (Want.none rfl) (Y.move rfl) ?_
      refine Seg.callV (v := .pointer (some ⟨b1, 7, none⟩)) rfl rfl (Want.none rfl) (K.value rfl rfl co44) (fun w hs => field10_c b1 w ) ?_
      refine Seg.y rfl rfl (Want.none rfl) (Y.nilCheck rfl) ?_
      refine Seg.y rfl rfl (Want.none rfl) (Y.load1 0 rfl rfl rfl ag4) ?_
      obtain ⟨r14, hr14⟩ : ∃ x, x = toldS m.paste := ⟨_, rfl⟩
      have hbr14 : 1 ≤ r14 ∧ r14 ≤ 2 := by rw [hr14]; exact told_bd _
      refine Seg.callV (v := .int .i64 r14) rfl rfl (Want.none rfl) (K.func rfl co32) (fun w hs => by rw [hr14]; exact told_c m.paste w ) ?_
      refine Seg.y rfl rfl (Want.none rfl) (Y.assign rfl) ?_
      refine Seg.y rfl rfl (Want.none rfl) (Y.assign rfl) ?_
      refine Seg.nil ?_
      refine Sx.next ?_
      refine Sc.ret ?_
      refine Sx.next_ret ?_
      refine Sx.body (.inl rfl) (res2 rfl (Rv.tmp rfl) (Rv.tmp rfl)) (fun w hs => ?_)
      refine RetV.eq ?_ hs
      subst hr2
      subst hr14
      simp [stateS, rstateS, rputS, MdEq, toldS, Bool.cond_eq_ite, mouseS, h3, h3p]
    · skip
      refine Seg.y rfl rfl (Want.none rfl) (Y.lookup (kt := 69) (et := 64) (v := .tuple (List.toArray [.func (.func 45) #[] #[], .bool true])) rfl rfl (fun w hs => (fun h => run_lookup (i := 10) (v := .func (.func 45) #[] #[]) true (h.2) Try.underlying66 (by kernel_rfl) (by kernel_rfl)) hs.fut.now) Try.underlying66) ?_
      refine Seg.y rfl rfl (Want.none rfl) (Y.move rfl) ?_
      refine Seg.y rfl rfl (Want.none rfl) (Y.extract rfl rfl) ?_
      refine Seg.y rfl rfl (Want.none rfl) (Y.extract rfl rfl) ?_
      refine Seg.y rfl rfl (Want.none rfl) (Y.assign rfl) ?_
      refine Seg.y rfl rfl (Want.none rfl) (Y.assign rfl) ?_
      refine Seg.nil ?_
      refine Sx.next ?_
      refine Sc.seq ?_
      refine Sc.region ?_
      refine Seg.y rfl rfl (Want.none rfl) (Y.move rfl) ?_
      refine Seg.nil ?_
      refine Sx.next ?_
      refine Sc.condT rfl rfl ?_
      refine Sc.seq ?_
      refine Sc.region ?_
      refine Seg.y rfl rfl (Want.none rfl) (Y.move rfl) ?_
      refine Seg.callV (v := .pointer (some ⟨b1, 9, none⟩)) rfl rfl (Want.none rfl) (K.value rfl rfl co45) (fun w hs => field11_c b1 w ) ?_
      refine Seg.y rfl rfl (Want.none rfl) (Y.nilCheck rfl) ?_
      refine Seg.y rfl rfl (Want.none rfl) (Y.load1 0 rfl rfl rfl ag4) ?_
      obtain ⟨r15, hr15⟩ : ∃ x, x = toldS m.sync := ⟨_, rfl⟩
      have hbr15 : 1 ≤ r15 ∧ r15 ≤ 2 := by rw [hr15]; exact told_bd _
      refine Seg.callV (v := .int .i64 r15) rfl rfl (Want.none rfl) (K.func rfl co32) (fun w hs => by rw [hr15]; exact told_c m.sync w ) ?_
      refine Seg.y rfl rfl (Want.none rfl) (Y.assign rfl) ?_
      refine Seg.y rfl rfl (Want.none rfl) (Y.assign rfl) ?_
      refine Seg.nil ?_
      refine Sx.next ?_
      refine Sc.ret ?_
      refine Sx.next_ret ?_
      refine Sx.body (.inl rfl) (res2 rfl (Rv.tmp rfl) (Rv.tmp rfl)) (fun w hs => ?_)
      refine RetV.eq ?_ hs
      subst hr2
      subst hr15
      simp [stateS, rstateS, rputS, MdEq, toldS, Bool.cond_eq_ite, mouseS, h3, h3p]
    · skip
      refine Seg.y rfl rfl (Want.none rfl) (Y.lookup (kt := 69) (et := 64) (v := .tuple (List.toArray [.nilFunc, .bool false])) rfl rfl (fun w hs => (fun h => run_lookup_none true (h.2) Try.underlying66 (by kernel_rfl) (find0 n hno w) (zv64 w)) hs.fut.now) Try.underlying66) ?_
      refine Seg.y rfl rfl (Want.none rfl) (Y.move rfl) ?_
      refine Seg.y rfl rfl (Want.none rfl) (Y.extract rfl rfl) ?_
      refine Seg.y rfl rfl (Want.none rfl) (Y.extract rfl rfl) ?_
      refine Seg.y rfl rfl (Want.none rfl) (Y.assign rfl) ?_
      refine Seg.y rfl rfl (Want.none rfl) (Y.assign rfl) ?_
      refine Seg.nil ?_
      refine Sx.next ?_
      refine Sc.seq ?_
      refine Sc.region ?_
      refine Seg.y rfl rfl (Want.none rfl) (Y.move rfl) ?_
      refine Seg.nil ?_
      refine Sx.next ?_
      refine Sc.condF rfl rfl ?_
      refine Sc.skip ?_
      refine Sx.next ?_
      refine Sc.seq ?_
      refine Sc.block ?_
      refine Sc.seq ?_
      refine Sc.region ?_
      refine Seg.y rfl rfl (Want.none rfl) (Y.move rfl) ?_
      refine Seg.y rfl rfl (Want.none rfl) (Y.unOp rfl (U.not _)) ?_
      refine Seg.y rfl rfl (Want.none rfl) (Y.assign rfl) ?_
      refine Seg.nil ?_
      refine Sx.next ?_
      refine Sc.condT rfl rfl ?_
      refine Sc.seq ?_
      refine Sc.region ?_
      refine Seg.y rfl rfl (Want.none rfl) (Y.assign rfl) ?_
      refine Seg.y rfl rfl (Want.none rfl) (Y.assign rfl) ?_
      refine Seg.nil ?_
      refine Sx.next ?_
      refine Sc.ret ?_
      refine Sx.block_ret ?_
      refine Sx.next_ret ?_
      refine Sx.body (.inl rfl) (res2 rfl (Rv.tmp rfl) (Rv.tmp rfl)) (fun w hs => ?_)
      refine RetV.eq ?_ hs
      subst hr2
      simp [stateS, rstateS, rputS, MdEq, toldS, Bool.cond_eq_ite, mouseS, h3, h3p, hno]
    · skip
      refine Seg.y rfl rfl (Want.none rfl) (Y.lookup (kt := 69) (et := 64) (v := .tuple (List.toArray [.nilFunc, .bool false])) rfl rfl (fun w hs => (fun h => run_lookup_none true (h.2) Try.underlying66 (by kernel_rfl) (find1 n hno w) (zv64 w)) hs.fut.now) Try.underlying66) ?_
      refine Seg.y rfl rfl (Want.none rfl) (Y.move rfl) ?_
      refine Seg.y rfl rfl (Want.none rfl) (Y.extract rfl rfl) ?_
      refine Seg.y rfl rfl (Want.none rfl) (Y.extract rfl rfl) ?_
      refine Seg.y rfl rfl (Want.none rfl) (Y.assign rfl) ?_
      refine Seg.y rfl rfl (Want.none rfl) (Y.assign rfl) ?_
      refine Seg.nil ?_
      refine Sx.next ?_
      refine Sc.seq ?_
      refine Sc.region ?_
      refine Seg.y rfl rfl (Want.none rfl) (Y.move rfl) ?_
      refine Seg.nil ?_
      refine Sx.next ?_
      refine Sc.condF rfl rfl ?_
      refine Sc.skip ?_
      refine Sx.next ?_
      refine Sc.seq ?_
      refine Sc.block ?_
      refine Sc.seq ?_
      refine Sc.region ?_
      refine Seg.y rfl rfl (Want.none rfl) (Y.move rfl) ?_
      refine Seg.y rfl rfl (Want.none rfl) (Y.unOp rfl (U.not _)) ?_
      refine Seg.y rfl rfl (Want.none rfl) (Y.assign rfl) ?_
      refine Seg.nil ?_
      refine Sx.next ?_
      refine Sc.condF rfl rfl ?_
      refine Sc.seq ?_
      refine Sc.region ?_
      refine Seg.callR (val := fun (b16 : Nat) => .slice (some ⟨b16, 0, none⟩) 4 4) (Φ := fun (b16 : Nat) => fun w => w.heap[b16]? = some (.cells (List.toArray [.int .i64 9, .int .i64 1000, .int .i64 1002, .int .i64 1003]) 3 (0, 0))) rfl rfl (Want.none rfl) (K.func rfl co29) (fun w hs => mice_c  _ w hs.dc_lt   ) (fun b16 => ?_)
      refine Seg.y rfl rfl (Want.none rfl) (Y.move rfl) ?_
      obtain ⟨r17, hr17⟩ : ∃ x, x = containsS [9, 1000, 1002, 1003] n := ⟨_, rfl⟩
      refine Seg.callV (v := .bool r17) rfl rfl (Want.none rfl) (K.func rfl co28) (fun w hs => by rw [hr17]; exact contains_c (some ⟨b16, 0, none⟩) 4 [9, 1000, 1002, 1003] n _ w hs.dc_lt (hs.fut.mono fun w h => (RowV.block (fun _ => rfl) (h.2) [] rfl)) (by first | omega | (simp; done) | (simp; omega)) ) ?_
      refine Seg.y rfl rfl (Want.none rfl) (Y.assign rfl) ?_
      refine Seg.nil ?_
      refine Sx.next ?_
      refine Sc.cond rfl (fun h18 => ?_) (fun h18 => ?_)
      · skip
        refine Sc.seq ?_
        refine Sc.region ?_
        refine Seg.y rfl rfl (Want.none rfl) (Y.fieldAddr rfl (A.field Try.underlying23 rfl sz3 rfl rfl)) ?_
        refine Seg.y rfl rfl (Want.none rfl) (Y.load1 0 rfl rfl rfl ag3) ?_
        refine Seg.y rfl rfl (Want.none rfl) (Y.move rfl) ?_
        refine Seg.y rfl rfl (Want.none rfl) (Y.binOp rfl rfl (B.eq _ _ _)) ?_
        obtain ⟨r19, hr19⟩ : ∃ x, x = toldS (decide (m.mouse = n)) := ⟨_, rfl⟩
        have hbr19 : 1 ≤ r19 ∧ r19 ≤ 2 := by rw [hr19]; exact told_bd _
        refine Seg.callV (v := .int .i64 r19) rfl rfl (Want.none rfl) (K.func rfl co32) (fun w hs => by rw [hr19]; exact told_c (decide (m.mouse = n)) w ) ?_
        refine Seg.y rfl rfl (Want.none rfl) (Y.assign rfl) ?_
        refine Seg.y rfl rfl (Want.none rfl) (Y.assign rfl) ?_
        refine Seg.nil ?_
        refine Sx.next ?_
        refine Sc.ret ?_
        refine Sx.block_ret ?_
        refine Sx.next_ret ?_
        refine Sx.body (.inl rfl) (res2 rfl (Rv.tmp rfl) (Rv.tmp rfl)) (fun w hs => ?_)
        refine RetV.eq ?_ hs
        subst hr2
        subst hr17
        subst hr19
        try simp [contains_mice] at h3
        try simp [contains_mice] at h18
        rw [show stateS m true n alt = (rstateS m true n alt, 0) from by simp [stateS, h3, h3p, h18], rstate_d1 m n alt hno]; simp [h3, h3p, h18, toldS] <;> simp [mouseS]
      · skip
        refine Sc.seq ?_
        refine Sc.seq ?_
        refine Sc.region ?_
        refine Seg.y rfl rfl (Want.none rfl) (Y.move rfl) ?_
        refine Seg.y rfl rfl (Want.none rfl) (Y.binOp rfl rfl (B.eq _ _ _)) ?_
        refine Seg.y rfl rfl (Want.none rfl) (Y.assign rfl) ?_
        refine Seg.nil ?_
        refine Sx.next ?_
        refine Sc.cond rfl (fun h20 => ?_) (fun h20 => ?_)
        · skip
          have h20p := of_decide_eq_true h20
          refine Sc.skip ?_
          refine Sx.next ?_
          refine Sc.condT rfl h20 ?_
          refine Sc.seq ?_
          refine Sc.region ?_
          refine Seg.y rfl rfl (Want.none rfl) (Y.move rfl) ?_
          obtain ⟨r21, hr21⟩ : ∃ x, x = toldS alt := ⟨_, rfl⟩
          have hbr21 : 1 ≤ r21 ∧ r21 ≤ 2 := by rw [hr21]; exact told_bd _
          refine Seg.callV (v := .int .i64 r21) rfl rfl (Want.none rfl) (K.func rfl co32) (fun w hs => by rw [hr21]; exact told_c alt w ) ?_
          refine Seg.y rfl rfl (Want.none rfl) (Y.assign rfl) ?_
          refine Seg.y rfl rfl (Want.none rfl) (Y.assign rfl) ?_
          refine Seg.nil ?_
          refine Sx.next ?_
          refine Sc.ret ?_
          refine Sx.block_ret ?_
          refine Sx.next_ret ?_
          refine Sx.body (.inl rfl) (res2 rfl (Rv.tmp rfl) (Rv.tmp rfl)) (fun w hs => ?_)
          refine RetV.eq ?_ hs
          subst hr2
          subst hr17
          subst hr21
          try simp [contains_mice] at h3
          try simp [contains_mice] at h18
          try simp [contains_mice] at h20
          rw [show stateS m true n alt = (rstateS m true n alt, 0) from by simp [stateS, h3, h3p, h18, h20, h20p], rstate_d1 m n alt hno]; simp [h3, h3p, h18, h20, h20p, toldS] <;> simp [mouseS]
        · skip
          have h20p := of_decide_eq_false h20
          refine Sc.seq ?_
          refine Sc.region ?_
          refine Seg.y rfl rfl (Want.none rfl) (Y.move rfl) ?_
          refine Seg.y rfl rfl (Want.none rfl) (Y.binOp rfl rfl (B.eq _ _ _)) ?_
          refine Seg.y rfl rfl (Want.none rfl) (Y.assign rfl) ?_
          refine Seg.nil ?_
          refine Sx.next ?_
          refine Sc.cond rfl (fun h22 => ?_) (fun h22 => ?_)
          · skip
            have h22p := of_decide_eq_true h22
            refine Sc.skip ?_
            refine Sx.next ?_
            refine Sc.condT rfl h22 ?_
            refine Sc.seq ?_
            refine Sc.region ?_
            refine Seg.y rfl rfl (Want.none rfl) (Y.move rfl) ?_
            obtain ⟨r23, hr23⟩ : ∃ x, x = toldS alt := ⟨_, rfl⟩
            have hbr23 : 1 ≤ r23 ∧ r23 ≤ 2 := by rw [hr23]; exact told_bd _
            refine Seg.callV (v := .int .i64 r23) rfl rfl (Want.none rfl) (K.func rfl co32) (fun w hs => by rw [hr23]; exact told_c alt w ) ?_
            refine Seg.y rfl rfl (Want.none rfl) (Y.assign rfl) ?_
            refine Seg.y rfl rfl (Want.none rfl) (Y.assign rfl) ?_
            refine Seg.nil ?_
            refine Sx.next ?_
            refine Sc.ret ?_
            refine Sx.block_ret ?_
            refine Sx.next_ret ?_
            refine Sx.body (.inl rfl) (res2 rfl (Rv.tmp rfl) (Rv.tmp rfl)) (fun w hs => ?_)
            refine RetV.eq ?_ hs
            subst hr2
            subst hr17
            subst hr23
            try simp [contains_mice] at h3
            try simp [contains_mice] at h18
            try simp [contains_mice] at h20
            try simp [contains_mice] at h22
            rw [show stateS m true n alt = (rstateS m true n alt, 0) from by simp [stateS, h3, h3p, h18, h20, h20p, h22, h22p], rstate_d1 m n alt hno]; simp [h3, h3p, h18, h20, h20p, h22, h22p, toldS] <;> simp [mouseS]
          · skip
            have h22p := of_decide_eq_false h22
            refine Sc.region ?_
            refine Seg.y rfl rfl (Want.none rfl) (Y.move rfl) ?_
            refine Seg.y rfl rfl (Want.none rfl) (Y.binOp rfl rfl (B.eq _ _ _)) ?_
            refine Seg.y rfl rfl (Want.none rfl) (Y.assign rfl) ?_
            refine Seg.nil ?_
            refine Sx.next ?_
            refine Sc.cond rfl (fun h24 => ?_) (fun h24 => ?_)
            · skip
              have h24p := of_decide_eq_true h24
              refine Sc.seq ?_
              refine Sc.region ?_
              refine Seg.y rfl rfl (Want.none rfl) (Y.move rfl) ?_
              obtain ⟨r25, hr25⟩ : ∃ x, x = toldS alt := ⟨_, rfl⟩
              have hbr25 : 1 ≤ r25 ∧ r25 ≤ 2 := by rw [hr25]; exact told_bd _
              refine Seg.callV (v := .int .i64 r25) rfl rfl (Want.none rfl) (K.func rfl co32) (fun w hs => by rw [hr25]; exact told_c alt w ) ?_
              refine Seg.y rfl rfl (Want.none rfl) (Y.assign rfl) ?_
              refine Seg.y rfl rfl (Want.none rfl) (Y.assign rfl) ?_
              refine Seg.nil ?_
              refine Sx.next ?_
              refine Sc.ret ?_
              refine Sx.block_ret ?_
              refine Sx.next_ret ?_
              refine Sx.body (.inl rfl) (res2 rfl (Rv.tmp rfl) (Rv.tmp rfl)) (fun w hs => ?_)
              refine RetV.eq ?_ hs
              subst hr2
              subst hr17
              subst hr25
              try simp [contains_mice] at h3
              try simp [contains_mice] at h18
              try simp [contains_mice] at h20
              try simp [contains_mice] at h22
              try simp [contains_mice] at h24
              rw [show stateS m true n alt = (rstateS m true n alt, 0) from by simp [stateS, h3, h3p, h18, h20, h20p, h22, h22p, h24, h24p], rstate_d1 m n alt hno]; simp [h3, h3p, h18, h20, h20p, h22, h22p, h24, h24p, toldS] <;> simp [mouseS]
            · skip
              have h24p := of_decide_eq_false h24
              refine Sc.skip ?_
              refine Sx.block_normal ?_
              refine Sx.next ?_
              refine Sc.seq ?_
              refine Sc.region ?_
              refine Seg.y rfl rfl (Want.none rfl) (Y.assign rfl) ?_
              refine Seg.y rfl rfl (Want.none rfl) (Y.assign rfl) ?_
              refine Seg.nil ?_
              refine Sx.next ?_
              refine Sc.ret ?_
              refine Sx.body (.inl rfl) (res2 rfl (Rv.tmp rfl) (Rv.tmp rfl)) (fun w hs => ?_)
              refine RetV.eq ?_ hs
              subst hr2
              subst hr17
              try simp [contains_mice] at h3
              try simp [contains_mice] at h18
              try simp [contains_mice] at h20
              try simp [contains_mice] at h22
              try simp [contains_mice] at h24
              rw [show stateS m true n alt = (rstateS m true n alt, 0) from by simp [stateS, h3, h3p, h18, h20, h20p, h22, h22p, h24, h24p], rstate_d1 m n alt hno]; simp [h3, h3p, h18, h20, h20p, h22, h22p, h24, h24p, toldS] <;> simp [mouseS]
end Go.Proofs.Ythmigjicibhheaa
