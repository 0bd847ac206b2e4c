/- What the functions of the program and of the reference come to: one theorem a function (part 1). -/
import Derived.Test.YthmigjicibhheaaW0
namespace Go.Proofs.Ythmigjicibhheaa
open Go Go.RowKit Go.Eng
set_option maxRecDepth 100000
set_option linter.unusedVariables false
set_option linter.unusedSimpArgs false
set_option maxHeartbeats 4000000 in
theorem modes_c (Dc : List Nat) (w : World) (hD : ∀ k ∈ Dc, k < w.heap.size)  :
    Calls Try.prog 33 #[] w (Ret Dc [] w (fun (y0 : Nat) => .slice (some ⟨y0, 0, none⟩) 11 11) (fun (y0 : Nat) => fun w => w.heap[y0]? = some (.cells (List.toArray [.bool false, .int .i64 4, .func (.func 35) #[] #[], .bool false, .int .i64 20, .func (.func 36) #[] #[], .bool true, .int .i64 1, .func (.func 37) #[] #[], .bool true, .int .i64 5, .func (.func 38) #[] #[], .bool true, .int .i64 6, .func (.func 39) #[] #[], .bool true, .int .i64 7, .func (.func 40) #[] #[], .bool true, .int .i64 25, .func (.func 41) #[] #[], .bool true, .int .i64 1004, .func (.func 42) #[] #[], .bool true, .int .i64 1006, .func (.func 43) #[] #[], .bool true, .int .i64 2004, .func (.func 44) #[] #[], .bool true, .int .i64 2026, .func (.func 45) #[] #[]]) 77 (0, 0)))) := by
  refine enter (F := fun w => True) Dc Try.func33 rfl Try.ntmps33 hD Fut.triv rfl ?_
  refine Sc.seq ?_
  refine Sc.region ?_
  refine Seg.y rfl rfl (Want.none rfl) (Y.assign rfl) ?_
  refine Seg.nil ?_
  refine Sx.next ?_
  refine Sc.seq ?_
  refine Sc.region ?_
  refine Seg.y rfl rfl (Want.none rfl) (Y.build (v := .agg (List.toArray [.bool false, .int .i64 4, .func (.func 35) #[] #[]])) rfl (fun w => by kernel_rfl)) ?_
  refine Seg.y rfl rfl (Want.none rfl) (Y.build (v := .agg (List.toArray [.bool false, .int .i64 20, .func (.func 36) #[] #[]])) rfl (fun w => by kernel_rfl)) ?_
  refine Seg.y rfl rfl (Want.none rfl) (Y.build (v := .agg (List.toArray [.bool true, .int .i64 1, .func (.func 37) #[] #[]])) rfl (fun w => by kernel_rfl)) ?_
  refine Seg.y rfl rfl (Want.none rfl) (Y.build (v := .agg (List.toArray [.bool true, .int .i64 5, .func (.func 38) #[] #[]])) rfl (fun w => by kernel_rfl)) ?_
  refine Seg.y rfl rfl (Want.none rfl) (Y.build (v := .agg (List.toArray [.bool true, .int .i64 6, .func (.func 39) #[] #[]])) rfl (fun w => by kernel_rfl)) ?_
  refine Seg.y rfl rfl (Want.none rfl) (Y.build (v := .agg (List.toArray [.bool true, .int .i64 7, .func (.func 40) #[] #[]])) rfl (fun w => by kernel_rfl)) ?_
  refine Seg.y rfl rfl (Want.none rfl) (Y.build (v := .agg (List.toArray [.bool true, .int .i64 25, .func (.func 41) #[] #[]])) rfl (fun w => by kernel_rfl)) ?_
  refine Seg.y rfl rfl (Want.none rfl) (Y.build (v := .agg (List.toArray [.bool true, .int .i64 1004, .func (.func 42) #[] #[]])) rfl (fun w => by kernel_rfl)) ?_
  refine Seg.y rfl rfl (Want.none rfl) (Y.build (v := .agg (List.toArray [.bool true, .int .i64 1006, .func (.func 43) #[] #[]])) rfl (fun w => by kernel_rfl)) ?_
  refine Seg.y rfl rfl (Want.none rfl) (Y.build (v := .agg (List.toArray [.bool true, .int .i64 2004, .func (.func 44) #[] #[]])) rfl (fun w => by kernel_rfl)) ?_
  refine Seg.y rfl rfl (Want.none rfl) (Y.build (v := .agg (List.toArray [.bool true, .int .i64 2026, .func (.func 45) #[] #[]])) rfl (fun w => by kernel_rfl)) ?_
  refine Seg.chg rfl rfl (Want.none rfl) (C.buildSlice (e := 77) (cs := [.bool false, .int .i64 4, .func (.func 35) #[] #[], .bool false, .int .i64 20, .func (.func 36) #[] #[], .bool true, .int .i64 1, .func (.func 37) #[] #[], .bool true, .int .i64 5, .func (.func 38) #[] #[], .bool true, .int .i64 6, .func (.func 39) #[] #[], .bool true, .int .i64 7, .func (.func 40) #[] #[], .bool true, .int .i64 25, .func (.func 41) #[] #[], .bool true, .int .i64 1004, .func (.func 42) #[] #[], .bool true, .int .i64 1006, .func (.func 43) #[] #[], .bool true, .int .i64 2004, .func (.func 44) #[] #[], .bool true, .int .i64 2026, .func (.func 45) #[] #[]]) rfl (fun w => by kernel_rfl)) (fun b1 hb1 => ?_)
  refine Seg.freeze 0 rfl hb1 ?_
  refine Seg.y rfl rfl (Want.none rfl) (Y.assign rfl) ?_
  refine Seg.nil ?_
  refine Sx.next ?_
  refine Sc.ret ?_
  refine Sx.body (.inl rfl) (res1 rfl (Rv.tmp rfl)) (fun w hs => ?_)
  exact Ret.eq b1 rfl hs (fun w h _ => h.2)

set_option maxHeartbeats 4000000 in
theorem field1_c (b : Nat) (w : World)  :
    Calls Try.prog 35 #[.pointer (some ⟨b, 0, none⟩)] w (RetV w (.pointer (some ⟨b, 0, none⟩))) := by
  refine enter (F := fun w => True) [] Try.func35 rfl Try.ntmps35 (by simp) Fut.triv rfl ?_
  refine Sc.seq ?_
  refine Sc.region ?_
  refine Seg.y rfl rfl (Want.none rfl) (Y.assign rfl) ?_
  refine Seg.nil ?_
  refine Sx.next ?_
  refine Sc.seq ?_
  refine Sc.region ?_
  refine Seg.y rfl rfl (Want.none rfl) (Y.move rfl) ?_
  refine Seg.y rfl rfl (Want.none rfl) (Y.nilCheck rfl) ?_
  refine Seg.y rfl rfl (Want.none rfl) (Y.fieldAddr rfl (A.field Try.underlying23 rfl sz4 rfl rfl)) ?_
  refine Seg.y rfl rfl (Want.none rfl) (Y.assign rfl) ?_
  refine Seg.nil ?_
  refine Sx.next ?_
  refine Sc.ret ?_
  refine Sx.body (.inl rfl) (res1 rfl (Rv.tmp rfl)) (fun w hs => ?_)
  refine RetV.eq ?_ hs
  rfl

set_option maxHeartbeats 4000000 in
theorem field2_c (b : Nat) (w : World)  :
    Calls Try.prog 36 #[.pointer (some ⟨b, 0, none⟩)] w (RetV w (.pointer (some ⟨b, 1, none⟩))) := by
  refine enter (F := fun w => True) [] Try.func36 rfl Try.ntmps36 (by simp) Fut.triv rfl ?_
  refine Sc.seq ?_
  refine Sc.region ?_
  refine Seg.y rfl rfl (Want.none rfl) (Y.assign rfl) ?_
  refine Seg.nil ?_
  refine Sx.next ?_
  refine Sc.seq ?_
  refine Sc.region ?_
  refine Seg.y rfl rfl (Want.none rfl) (Y.move rfl) ?_
  refine Seg.y rfl rfl (Want.none rfl) (Y.nilCheck rfl) ?_
  refine Seg.y rfl rfl (Want.none rfl) (Y.fieldAddr rfl (A.field Try.underlying23 rfl sz4 rfl rfl)) ?_
  refine Seg.y rfl rfl (Want.none rfl) (Y.assign rfl) ?_
  refine Seg.nil ?_
  refine Sx.next ?_
  refine Sc.ret ?_
  refine Sx.body (.inl rfl) (res1 rfl (Rv.tmp rfl)) (fun w hs => ?_)
  refine RetV.eq ?_ hs
  rfl

set_option maxHeartbeats 4000000 in
theorem field3_c (b : Nat) (w : World)  :
    Calls Try.prog 37 #[.pointer (some ⟨b, 0, none⟩)] w (RetV w (.pointer (some ⟨b, 2, none⟩))) := by
  refine enter (F := fun w => True) [] Try.func37 rfl Try.ntmps37 (by simp) Fut.triv rfl ?_
  refine Sc.seq ?_
  refine Sc.region ?_
  refine Seg.y rfl rfl (Want.none rfl) (Y.assign rfl) ?_
  refine Seg.nil ?_
  refine Sx.next ?_
  refine Sc.seq ?_
  refine Sc.region ?_
  refine Seg.y rfl rfl (Want.none rfl) (Y.move rfl) ?_
  refine Seg.y rfl rfl (Want.none rfl) (Y.nilCheck rfl) ?_
  refine Seg.y rfl rfl (Want.none rfl) (Y.fieldAddr rfl (A.field Try.underlying23 rfl sz4 rfl rfl)) ?_
  refine Seg.y rfl rfl (Want.none rfl) (Y.assign rfl) ?_
  refine Seg.nil ?_
  refine Sx.next ?_
  refine Sc.ret ?_
  refine Sx.body (.inl rfl) (res1 rfl (Rv.tmp rfl)) (fun w hs => ?_)
  refine RetV.eq ?_ hs
  rfl

set_option maxHeartbeats 4000000 in
theorem field4_c (b : Nat) (w : World)  :
    Calls Try.prog 38 #[.pointer (some ⟨b, 0, none⟩)] w (RetV w (.pointer (some ⟨b, 3, none⟩))) := by
  refine enter (F := fun w => True) [] Try.func38 rfl Try.ntmps38 (by simp) Fut.triv rfl ?_
  refine Sc.seq ?_
  refine Sc.region ?_
  refine Seg.y rfl rfl (Want.none rfl) (Y.assign rfl) ?_
  refine Seg.nil ?_
  refine Sx.next ?_
  refine Sc.seq ?_
  refine Sc.region ?_
  refine Seg.y rfl rfl (Want.none rfl) (Y.move rfl) ?_
  refine Seg.y rfl rfl (Want.none rfl) (Y.nilCheck rfl) ?_
  refine Seg.y rfl rfl (Want.none rfl) (Y.fieldAddr rfl (A.field Try.underlying23 rfl sz4 rfl rfl)) ?_
  refine Seg.y rfl rfl (Want.none rfl) (Y.assign rfl) ?_
  refine Seg.nil ?_
  refine Sx.next ?_
  refine Sc.ret ?_
  refine Sx.body (.inl rfl) (res1 rfl (Rv.tmp rfl)) (fun w hs => ?_)
  refine RetV.eq ?_ hs
  rfl

set_option maxHeartbeats 4000000 in
theorem field5_c (b : Nat) (w : World)  :
    Calls Try.prog 39 #[.pointer (some ⟨b, 0, none⟩)] w (RetV w (.pointer (some ⟨b, 4, none⟩))) := by
  refine enter (F := fun w => True) [] Try.func39 rfl Try.ntmps39 (by simp) Fut.triv rfl ?_
  refine Sc.seq ?_
  refine Sc.region ?_
  refine Seg.y rfl rfl (Want.none rfl) (Y.assign rfl) ?_
  refine Seg.nil ?_
  refine Sx.next ?_
  refine Sc.seq ?_
  refine Sc.region ?_
  refine Seg.y rfl rfl (Want.none rfl) (Y.move rfl) ?_
  refine Seg.y rfl rfl (Want.none rfl) (Y.nilCheck rfl) ?_
  refine Seg.y rfl rfl (Want.none rfl) (Y.fieldAddr rfl (A.field Try.underlying23 rfl sz4 rfl rfl)) ?_
  refine Seg.y rfl rfl (Want.none rfl) (Y.assign rfl) ?_
  refine Seg.nil ?_
  refine Sx.next ?_
  refine Sc.ret ?_
  refine Sx.body (.inl rfl) (res1 rfl (Rv.tmp rfl)) (fun w hs => ?_)
  refine RetV.eq ?_ hs
  rfl

set_option maxHeartbeats 4000000 in
theorem field6_c (b : Nat) (w : World)  :
    Calls Try.prog 40 #[.pointer (some ⟨b, 0, none⟩)] w (RetV w (.pointer (some ⟨b, 5, none⟩))) := by
  refine enter (F := fun w => True) [] Try.func40 rfl Try.ntmps40 (by simp) Fut.triv rfl ?_
  refine Sc.seq ?_
  refine Sc.region ?_
  refine Seg.y rfl rfl (Want.none rfl) (Y.assign rfl) ?_
  refine Seg.nil ?_
  refine Sx.next ?_
  refine Sc.seq ?_
  refine Sc.region ?_
  refine Seg.y rfl rfl (Want.none rfl) (Y.move rfl) ?_
  refine Seg.y rfl rfl (Want.none rfl) (Y.nilCheck rfl) ?_
  refine Seg.y rfl rfl (Want.none rfl) (Y.fieldAddr rfl (A.field Try.underlying23 rfl sz4 rfl rfl)) ?_
  refine Seg.y rfl rfl (Want.none rfl) (Y.assign rfl) ?_
  refine Seg.nil ?_
  refine Sx.next ?_
  refine Sc.ret ?_
  refine Sx.body (.inl rfl) (res1 rfl (Rv.tmp rfl)) (fun w hs => ?_)
  refine RetV.eq ?_ hs
  rfl

set_option maxHeartbeats 4000000 in
theorem field7_c (b : Nat) (w : World)  :
    Calls Try.prog 41 #[.pointer (some ⟨b, 0, none⟩)] w (RetV w (.pointer (some ⟨b, 6, none⟩))) := by
  refine enter (F := fun w => True) [] Try.func41 rfl Try.ntmps41 (by simp) Fut.triv rfl ?_
  refine Sc.seq ?_
  refine Sc.region ?_
  refine Seg.y rfl rfl (Want.none rfl) (Y.assign rfl) ?_
  refine Seg.nil ?_
  refine Sx.next ?_
  refine Sc.seq ?_
  refine Sc.region ?_
  refine Seg.y rfl rfl (Want.none rfl) (Y.move rfl) ?_
  refine Seg.y rfl rfl (Want.none rfl) (Y.nilCheck rfl) ?_
  refine Seg.y rfl rfl (Want.none rfl) (Y.fieldAddr rfl (A.field Try.underlying23 rfl sz4 rfl rfl)) ?_
  refine Seg.y rfl rfl (Want.none rfl) (Y.assign rfl) ?_
  refine Seg.nil ?_
  refine Sx.next ?_
  refine Sc.ret ?_
  refine Sx.body (.inl rfl) (res1 rfl (Rv.tmp rfl)) (fun w hs => ?_)
  refine RetV.eq ?_ hs
  rfl

set_option maxHeartbeats 4000000 in
theorem field8_c (b : Nat) (w : World)  :
    Calls Try.prog 42 #[.pointer (some ⟨b, 0, none⟩)] w (RetV w (.pointer (some ⟨b, 8, none⟩))) := by
  refine enter (F := fun w => True) [] Try.func42 rfl Try.ntmps42 (by simp) Fut.triv rfl ?_
  refine Sc.seq ?_
  refine Sc.region ?_
  refine Seg.y rfl rfl (Want.none rfl) (Y.assign rfl) ?_
  refine Seg.nil ?_
  refine Sx.next ?_
  refine Sc.seq ?_
  refine Sc.region ?_
  refine Seg.y rfl rfl (Want.none rfl) (Y.move rfl) ?_
  refine Seg.y rfl rfl (Want.none rfl) (Y.nilCheck rfl) ?_
  refine Seg.y rfl rfl (Want.none rfl) (Y.fieldAddr rfl (A.field Try.underlying23 rfl sz4 rfl rfl)) ?_
  refine Seg.y rfl rfl (Want.none rfl) (Y.assign rfl) ?_
  refine Seg.nil ?_
  refine Sx.next ?_
  refine Sc.ret ?_
  refine Sx.body (.inl rfl) (res1 rfl (Rv.tmp rfl)) (fun w hs => ?_)
  refine RetV.eq ?_ hs
  rfl

set_option maxHeartbeats 4000000 in
theorem field9_c (b : Nat) (w : World)  :
    Calls Try.prog 43 #[.pointer (some ⟨b, 0, none⟩)] w (RetV w (.pointer (some ⟨b, 12, none⟩))) := by
  refine enter (F := fun w => True) [] Try.func43 rfl Try.ntmps43 (by simp) Fut.triv rfl ?_
  refine Sc.seq ?_
  refine Sc.region ?_
  refine Seg.y rfl rfl (Want.none rfl) (Y.assign rfl) ?_
  refine Seg.nil ?_
  refine Sx.next ?_
  refine Sc.seq ?_
  refine Sc.region ?_
  refine Seg.y rfl rfl (Want.none rfl) (Y.move rfl) ?_
  refine Seg.y rfl rfl (Want.none rfl) (Y.nilCheck rfl) ?_
  refine Seg.y rfl rfl (Want.none rfl) (Y.fieldAddr rfl (A.field Try.underlying23 rfl sz4 rfl rfl)) ?_
  refine Seg.y rfl rfl (Want.none rfl) (Y.assign rfl) ?_
  refine Seg.nil ?_
  refine Sx.next ?_
  refine Sc.ret ?_
  refine Sx.body (.inl rfl) (res1 rfl (Rv.tmp rfl)) (fun w hs => ?_)
  refine RetV.eq ?_ hs
  rfl

set_option maxHeartbeats 4000000 in
theorem field10_c (b : Nat) (w : World)  :
    Calls Try.prog 44 #[.pointer (some ⟨b, 0, none⟩)] w (RetV w (.pointer (some ⟨b, 7, none⟩))) := by
  refine enter (F := fun w => True) [] Try.func44 rfl Try.ntmps44 (by simp) Fut.triv rfl ?_
  refine Sc.seq ?_
  refine Sc.region ?_
  refine Seg.y rfl rfl (Want.none rfl) (Y.assign rfl) ?_
  refine Seg.nil ?_
  refine Sx.next ?_
  refine Sc.seq ?_
  refine Sc.region ?_
  refine Seg.y rfl rfl (Want.none rfl) (Y.move rfl) ?_
  refine Seg.y rfl rfl (Want.none rfl) (Y.nilCheck rfl) ?_
  refine Seg.y rfl rfl (Want.none rfl) (Y.fieldAddr rfl (A.field Try.underlying23 rfl sz4 rfl rfl)) ?_
  refine Seg.y rfl rfl (Want.none rfl) (Y.assign rfl) ?_
  refine Seg.nil ?_
  refine Sx.next ?_
  refine Sc.ret ?_
  refine Sx.body (.inl rfl) (res1 rfl (Rv.tmp rfl)) (fun w hs => ?_)
  refine RetV.eq ?_ hs
  rfl

set_option maxHeartbeats 4000000 in
theorem field11_c (b : Nat) (w : World)  :
    Calls Try.prog 45 #[.pointer (some ⟨b, 0, none⟩)] w (RetV w (.pointer (some ⟨b, 9, none⟩))) := by
  refine enter (F := fun w => True) [] Try.func45 rfl Try.ntmps45 (by simp) Fut.triv rfl ?_
  refine Sc.seq ?_
  refine Sc.region ?_
  refine Seg.y rfl rfl (Want.none rfl) (Y.assign rfl) ?_
  refine Seg.nil ?_
  refine Sx.next ?_
  refine Sc.seq ?_
  refine Sc.region ?_
  refine Seg.y rfl rfl (Want.none rfl) (Y.move rfl) ?_
  refine Seg.y rfl rfl (Want.none rfl) (Y.nilCheck rfl) ?_
  refine Seg.y rfl rfl (Want.none rfl) (Y.fieldAddr rfl (A.field Try.underlying23 rfl sz4 rfl rfl)) ?_
  refine Seg.y rfl rfl (Want.none rfl) (Y.assign rfl) ?_
  refine Seg.nil ?_
  refine Sx.next ?_
  refine Sc.ret ?_
  refine Sx.body (.inl rfl) (res1 rfl (Rv.tmp rfl)) (fun w hs => ?_)
  refine RetV.eq ?_ hs
  rfl

set_option maxHeartbeats 4000000 in
theorem fields_c (Dc : List Nat) (w : World) (hD : ∀ k ∈ Dc, k < w.heap.size)  :
    Calls Try.prog 30 #[] w (Ret Dc [] w (fun (y0 : Nat) => .map (some y0)) (fun (y0 : Nat) => fun w => w.heap[y0]? = some (.map (List.toArray modeEs) 11))) := by
  refine enter (F := fun w => True) Dc Try.func30 rfl Try.ntmps30 hD Fut.triv rfl ?_
  refine Sc.seq ?_
  refine Sc.region ?_
  refine Seg.y rfl rfl (Want.none rfl) (Y.assign rfl) ?_
  refine Seg.nil ?_
  refine Sx.next ?_
  refine Sc.seq ?_
  refine Sc.region ?_
  refine Seg.chg rfl rfl (Want.none rfl) (C.makeMap) (fun b1 hb1 => ?_)
  refine Seg.y rfl rfl (Want.none rfl) (Y.assign rfl) ?_
  refine Seg.nil ?_
  refine Sx.next ?_
  refine Sc.seq ?_
  refine Sc.seq ?_
  refine Sc.region ?_
  refine Seg.callR (val := fun (b2 : Nat) => .slice (some ⟨b2, 0, none⟩) 11 11) (Φ := fun (b2 : Nat) => fun w => w.heap[b2]? = some (.cells (List.toArray [.bool false, .int .i64 4, .func (.func 35) #[] #[], .bool false, .int .i64 20, .func (.func 36) #[] #[], .bool true, .int .i64 1, .func (.func 37) #[] #[], .bool true, .int .i64 5, .func (.func 38) #[] #[], .bool true, .int .i64 6, .func (.func 39) #[] #[], .bool true, .int .i64 7, .func (.func 40) #[] #[], .bool true, .int .i64 25, .func (.func 41) #[] #[], .bool true, .int .i64 1004, .func (.func 42) #[] #[], .bool true, .int .i64 1006, .func (.func 43) #[] #[], .bool true, .int .i64 2004, .func (.func 44) #[] #[], .bool true, .int .i64 2026, .func (.func 45) #[] #[]]) 77 (0, 0))) rfl rfl (Want.none rfl) (K.func rfl co33) (fun w hs => modes_c  _ w hs.dc_lt   ) (fun b2 => ?_)
  refine Seg.y rfl rfl (Want.none rfl) (Y.bi rfl (fun w _ => run_len rfl Try.underlying74 w)) ?_
  refine Seg.y rfl rfl (Want.none rfl) (Y.move rfl) ?_
  refine Seg.nil ?_
  refine Sx.next ?_
  refine Sc.block ?_
  refine Sc.rounds 12 ?_
  refine Sr.succ ?_
  refine Sc.seq ?_
  refine Sc.region ?_
  refine Seg.y rfl rfl (Want.none rfl) (Y.binOp (v := .bool true) rfl rfl (B.lt _ _ _)) ?_
  refine Seg.nil ?_
  refine Sx.next ?_
  refine Sc.seq ?_
  refine Sc.condT rfl rfl ?_
  refine Sc.skip ?_
  refine Sx.next ?_
  refine Sc.seq ?_
  refine Sc.block ?_
  refine Sc.seq ?_
  refine Sc.region ?_
  refine Seg.y rfl rfl (Want.none rfl) (Y.indexAddr rfl rfl (A.index Try.underlying74 sz77 (by decide) (by decide) rfl)) ?_
  refine Seg.y rfl rfl (Want.none rfl) (Y.loadFN (vs := [.bool false, .int .i64 4, .func (.func 35) #[] #[]]) rfl ag77 sz77 rfl (fun w h => blk_cells (n := 3) (h.2) rfl)) ?_
  refine Seg.chg rfl rfl (Want.none rfl) (C.alloc zv77 rfl) (fun b3 hb3 => ?_)
  refine Seg.chs rfl (Want.none rfl) (C.store (cs' := [.bool false, .int .i64 4, .func (.func 35) #[] #[]]) (vs := [.bool false, .int .i64 4, .func (.func 35) #[] #[]]) 0 rfl rfl rfl rfl rfl rfl rfl sz77) (fun _ _ => ?_)
  refine Seg.nil ?_
  refine Sx.next ?_
  refine Sc.region ?_
  refine Seg.y rfl rfl (Want.none rfl) (Y.move rfl) ?_
  refine Seg.y rfl rfl (Want.none rfl) (Y.fieldAddr rfl (A.field Try.underlying77 rfl sz4 rfl rfl)) ?_
  refine Seg.y rfl rfl (Want.none rfl) (Y.load1 0 rfl rfl rfl ag4) ?_
  refine Seg.y rfl rfl (Want.none rfl) (Y.fieldAddr rfl (A.field Try.underlying77 rfl sz3 rfl rfl)) ?_
  refine Seg.y rfl rfl (Want.none rfl) (Y.load1 0 rfl rfl rfl ag3) ?_
  refine Seg.y rfl rfl (Want.none rfl) (Y.build (v := .agg (List.toArray [.bool false, .int .i64 4])) rfl (fun w => by kernel_rfl)) ?_
  refine Seg.y rfl rfl (Want.none rfl) (Y.fieldAddr rfl (A.field Try.underlying77 rfl sz64 rfl rfl)) ?_
  refine Seg.y rfl rfl (Want.none rfl) (Y.load1 0 rfl rfl rfl ag64) ?_
  refine Seg.chs rfl (Want.none rfl) (C.mapNew 1 rfl rfl rfl rfl Try.underlying66 (fun w => by kernel_rfl) (fun w => by kernel_rfl)) (fun _ _ => ?_)
  refine Seg.nil ?_
  refine Sx.block_normal ?_
  refine Sx.next ?_
  refine Sc.region ?_
  refine Seg.y rfl rfl (Want.none rfl) (Y.binOp rfl rfl (B.add _ _ _ 1 (by decide))) ?_
  refine Seg.y rfl rfl (Want.none rfl) (Y.move rfl) ?_
  refine Seg.nil ?_
  refine Sx.round ?_
  refine Sr.succ ?_
  refine Sc.seq ?_
  refine Sc.region ?_
  refine Seg.y rfl rfl (Want.none rfl) (Y.binOp (v := .bool true) rfl rfl (B.lt _ _ _)) ?_
  refine Seg.nil ?_
  refine Sx.next ?_
  refine Sc.seq ?_
  refine Sc.condT rfl rfl ?_
  refine Sc.skip ?_
  refine Sx.next ?_
  refine Sc.seq ?_
  refine Sc.block ?_
  refine Sc.seq ?_
  refine Sc.region ?_
  refine Seg.y rfl rfl (Want.none rfl) (Y.indexAddr rfl rfl (A.index Try.underlying74 sz77 (by decide) (by decide) rfl)) ?_
  refine Seg.y rfl rfl (Want.none rfl) (Y.loadFN (vs := [.bool false, .int .i64 20, .func (.func 36) #[] #[]]) rfl ag77 sz77 rfl (fun w h => blk_cells (n := 3) (h.2) rfl)) ?_
  refine Seg.chg rfl rfl (Want.none rfl) (C.alloc zv77 rfl) (fun b4 hb4 => ?_)
  refine Seg.chs rfl (Want.none rfl) (C.store (cs' := [.bool false, .int .i64 20, .func (.func 36) #[] #[]]) (vs := [.bool false, .int .i64 20, .func (.func 36) #[] #[]]) 0 rfl rfl rfl rfl rfl rfl rfl sz77) (fun _ _ => ?_)
  refine Seg.nil ?_
  refine Sx.next ?_
  refine Sc.region ?_
  refine Seg.y rfl rfl (Want.none rfl) (Y.move rfl) ?_
  refine Seg.y rfl rfl (Want.none rfl) (Y.fieldAddr rfl (A.field Try.underlying77 rfl sz4 rfl rfl)) ?_
  refine Seg.y rfl rfl (Want.none rfl) (Y.load1 0 rfl rfl rfl ag4) ?_
  refine Seg.y rfl rfl (Want.none rfl) (Y.fieldAddr rfl (A.field Try.underlying77 rfl sz3 rfl rfl)) ?_
  refine Seg.y rfl rfl (Want.none rfl) (Y.load1 0 rfl rfl rfl ag3) ?_
  refine Seg.y rfl rfl (Want.none rfl) (Y.build (v := .agg (List.toArray [.bool false, .int .i64 20])) rfl (fun w => by kernel_rfl)) ?_
  refine Seg.y rfl rfl (Want.none rfl) (Y.fieldAddr rfl (A.field Try.underlying77 rfl sz64 rfl rfl)) ?_
  refine Seg.y rfl rfl (Want.none rfl) (Y.load1 0 rfl rfl rfl ag64) ?_
  refine Seg.chs rfl (Want.none rfl) (C.mapNew 2 rfl rfl rfl rfl Try.underlying66 (fun w => by kernel_rfl) (fun w => by kernel_rfl)) (fun _ _ => ?_)
  refine Seg.nil ?_
  refine Sx.block_normal ?_
  refine Sx.next ?_
  refine Sc.region ?_
  refine Seg.y rfl rfl (Want.none rfl) (Y.binOp rfl rfl (B.add _ _ _ 2 (by decide))) ?_
  refine Seg.y rfl rfl (Want.none rfl) (Y.move rfl) ?_
  refine Seg.nil ?_
  refine Sx.round ?_
  refine Sr.succ ?_
  refine Sc.seq ?_
  refine Sc.region ?_
  refine Seg.y rfl rfl (Want.none rfl) (Y.binOp (v := .bool true) rfl rfl (B.lt _ _ _)) ?_
  refine Seg.nil ?_
  refine Sx.next ?_
  refine Sc.seq ?_
  refine Sc.condT rfl rfl ?_
  refine Sc.skip ?_
  refine Sx.next ?_
  refine Sc.seq ?_
  refine Sc.block ?_
  refine Sc.seq ?_
  refine Sc.region ?_
  refine Seg.y rfl rfl (Want.none rfl) (Y.indexAddr rfl rfl (A.index Try.underlying74 sz77 (by decide) (by decide) rfl)) ?_
  refine Seg.y rfl rfl (Want.none rfl) (Y.loadFN (vs := [.bool true, .int .i64 1, .func (.func 37) #[] #[]]) rfl ag77 sz77 rfl (fun w h => blk_cells (n := 3) (h.2) rfl)) ?_
  refine Seg.chg rfl rfl (Want.none rfl) (C.alloc zv77 rfl) (fun b5 hb5 => ?_)
  refine Seg.chs rfl (Want.none rfl) (C.store (cs' := [.bool true, .int .i64 1, .func (.func 37) #[] #[]]) (vs := [.bool true, .int .i64 1, .func (.func 37) #[] #[]]) 0 rfl rfl rfl rfl rfl rfl rfl sz77) (fun _ _ => ?_)
  refine Seg.nil ?_
  refine Sx.next ?_
  refine Sc.region ?_
  refine Seg.y rfl rfl (Want.none rfl) (Y.move rfl) ?_
  refine Seg.y rfl rfl (Want.none rfl) (Y.fieldAddr rfl (A.field Try.underlying77 rfl sz4 rfl rfl)) ?_
  refine Seg.y rfl rfl (Want.none rfl) (Y.load1 0 rfl rfl rfl ag4) ?_
  refine Seg.y rfl rfl (Want.none rfl) (Y.fieldAddr rfl (A.field Try.underlying77 rfl sz3 rfl rfl)) ?_
  refine Seg.y rfl rfl (Want.none rfl) (Y.load1 0 rfl rfl rfl ag3) ?_
  refine Seg.y rfl rfl (Want.none rfl) (Y.build (v := .agg (List.toArray [.bool true, .int .i64 1])) rfl (fun w => by kernel_rfl)) ?_
  refine Seg.y rfl rfl (Want.none rfl) (Y.fieldAddr rfl (A.field Try.underlying77 rfl sz64 rfl rfl)) ?_
  refine Seg.y rfl rfl (Want.none rfl) (Y.load1 0 rfl rfl rfl ag64) ?_
  refine Seg.chs rfl (Want.none rfl) (C.mapNew 3 rfl rfl rfl rfl Try.underlying66 (fun w => by kernel_rfl) (fun w => by kernel_rfl)) (fun _ _ => ?_)
  refine Seg.nil ?_
  refine Sx.block_normal ?_
  refine Sx.next ?_
  refine Sc.region ?_
  refine Seg.y rfl rfl (Want.none rfl) (Y.binOp rfl rfl (B.add _ _ _ 3 (by decide))) ?_
  refine Seg.y rfl rfl (Want.none rfl) (Y.move rfl) ?_
  refine Seg.nil ?_
  refine Sx.round ?_
  refine Sr.succ ?_
  refine Sc.seq ?_
  refine Sc.region ?_
  refine Seg.y rfl rfl (Want.none rfl) (Y.binOp (v := .bool true) rfl rfl (B.lt _ _ _)) ?_
  refine Seg.nil ?_
  refine Sx.next ?_
  refine Sc.seq ?_
  refine Sc.condT rfl rfl ?_
  refine Sc.skip ?_
  refine Sx.next ?_
  refine Sc.seq ?_
  refine Sc.block ?_
  refine Sc.seq ?_
  refine Sc.region ?_
  refine Seg.y rfl rfl (Want.none rfl) (Y.indexAddr rfl rfl (A.index Try.underlying74 sz77 (by decide) (by decide) rfl)) ?_
  refine Seg.y rfl rfl (Want.none rfl) (Y.loadFN (vs := [.bool true, .int .i64 5, .func (.func 38) #[] #[]]) rfl ag77 sz77 rfl (fun w h => blk_cells (n := 3) (h.2) rfl)) ?_
  refine Seg.chg rfl rfl (Want.none rfl) (C.alloc zv77 rfl) (fun b6 hb6 => ?_)
  refine Seg.chs rfl (Want.none rfl) (C.store (cs' := [.bool true, .int .i64 5, .func (.func 38) #[] #[]]) (vs := [.bool true, .int .i64 5, .func (.func 38) #[] #[]]) 0 rfl rfl rfl rfl rfl rfl rfl sz77) (fun _ _ => ?_)
  refine Seg.nil ?_
  refine Sx.next ?_
  refine Sc.region ?_
  refine Seg.y rfl rfl (Want.none rfl) (Y.move rfl) ?_
  refine Seg.y rfl rfl (Want.none rfl) (Y.fieldAddr rfl (A.field Try.underlying77 rfl sz4 rfl rfl)) ?_
  refine Seg.y rfl rfl (Want.none rfl) (Y.load1 0 rfl rfl rfl ag4) ?_
  refine Seg.y rfl rfl (Want.none rfl) (Y.fieldAddr rfl (A.field Try.underlying77 rfl sz3 rfl rfl)) ?_
  refine Seg.y rfl rfl (Want.none rfl) (Y.load1 0 rfl rfl rfl ag3) ?_
  refine Seg.y rfl rfl (Want.none rfl) (Y.build (v := .agg (List.toArray [.bool true, .int .i64 5])) rfl (fun w => by kernel_rfl)) ?_
  refine Seg.y rfl rfl (Want.none rfl) (Y.fieldAddr rfl (A.field Try.underlying77 rfl sz64 rfl rfl)) ?_
  refine Seg.y rfl rfl (Want.none rfl) (Y.load1 0 rfl rfl rfl ag64) ?_
  refine Seg.chs rfl (Want.none rfl) (C.mapNew 4 rfl rfl rfl rfl Try.underlying66 (fun w => by kernel_rfl) (fun w => by kernel_rfl)) (fun _ _ => ?_)
  refine Seg.nil ?_
  refine Sx.block_normal ?_
  refine Sx.next ?_
  refine Sc.region ?_
  refine Seg.y rfl rfl (Want.none rfl) (Y.binOp rfl rfl (B.add _ _ _ 4 (by decide))) ?_
  refine Seg.y rfl rfl (Want.none rfl) (Y.move rfl) ?_
  refine Seg.nil ?_
  refine Sx.round ?_
  refine Sr.succ ?_
  refine Sc.seq ?_
  refine Sc.region ?_
  refine Seg.y rfl rfl (Want.none rfl) (Y.binOp (v := .bool true) rfl rfl (B.lt _ _ _)) ?_
  refine Seg.nil ?_
  refine Sx.next ?_
  refine Sc.seq ?_
  refine Sc.condT rfl rfl ?_
  refine Sc.skip ?_
  refine Sx.next ?_
  refine Sc.seq ?_
  refine Sc.block ?_
  refine Sc.seq ?_
  refine Sc.region ?_
  refine Seg.y rfl rfl (Want.none rfl) (Y.indexAddr rfl rfl (A.index Try.underlying74 sz77 (by decide) (by decide) rfl)) ?_
  refine Seg.y rfl rfl (Want.none rfl) (Y.loadFN (vs := [.bool true, .int .i64 6, .func (.func 39) #[] #[]]) rfl ag77 sz77 rfl (fun w h => blk_cells (n := 3) (h.2) rfl)) ?_
  refine Seg.chg rfl rfl (Want.none rfl) (C.alloc zv77 rfl) (fun b7 hb7 => ?_)
  refine Seg.chs rfl (Want.none rfl) (C.store (cs' := [.bool true, .int .i64 6, .func (.func 39) #[] #[]]) (vs := [.bool true, .int .i64 6, .func (.func 39) #[] #[]]) 0 rfl rfl rfl rfl rfl rfl rfl sz77) (fun _ _ => ?_)
  refine Seg.nil ?_
  refine Sx.next ?_
  refine Sc.region ?_
  refine Seg.y rfl rfl (Want.none rfl) (Y.move rfl) ?_
  refine Seg.y rfl rfl (Want.none rfl) (Y.fieldAddr rfl (A.field Try.underlying77 rfl sz4 rfl rfl)) ?_
  refine Seg.y rfl rfl (Want.none rfl) (Y.load1 0 rfl rfl rfl ag4) ?_
  refine Seg.y rfl rfl (Want.none rfl) (Y.fieldAddr rfl (A.field Try.underlying77 rfl sz3 rfl rfl)) ?_
  refine Seg.y rfl rfl (Want.none rfl) (Y.load1 0 rfl rfl rfl ag3) ?_
  refine Seg.y rfl rfl (Want.none rfl) (Y.build (v := .agg (List.toArray [.bool true, .int .i64 6])) rfl (fun w => by kernel_rfl)) ?_
  refine Seg.y rfl rfl (Want.none rfl) (Y.fieldAddr rfl (A.field Try.underlying77 rfl sz64 rfl rfl)) ?_
  refine Seg.y rfl rfl (Want.none rfl) (Y.load1 0 rfl rfl rfl ag64) ?_
  refine Seg.chs rfl (Want.none rfl) (C.mapNew 5 rfl rfl rfl rfl Try.underlying66 (fun w => by kernel_rfl) (fun w => by kernel_rfl)) (fun _ _ => ?_)
  refine Seg.nil ?_
  refine Sx.block_normal ?_
  refine Sx.next ?_
  refine Sc.region ?_
  refine Seg.y rfl rfl (Want.none rfl) (Y.binOp rfl rfl (B.add _ _ _ 5 (by decide))) ?_
  refine Seg.y rfl rfl (Want.none rfl) (Y.move rfl) ?_
  refine Seg.nil ?_
  refine Sx.round ?_
  refine Sr.succ ?_
  refine Sc.seq ?_
  refine Sc.region ?_
  refine Seg.y rfl rfl (Want.none rfl) (Y.binOp (v := .bool true) rfl rfl (B.lt _ _ _)) ?_
  refine Seg.nil ?_
  refine Sx.next ?_
  refine Sc.seq ?_
  refine Sc.condT rfl rfl ?_
  refine Sc.skip ?_
  refine Sx.next ?_
  refine Sc.seq ?_
  refine Sc.block ?_
  refine Sc.seq ?_
  refine Sc.region ?_
  refine Seg.y rfl rfl (Want.none rfl) (Y.indexAddr rfl rfl (A.index Try.underlying74 sz77 (by decide) (by decide) rfl)) ?_
  refine Seg.y rfl rfl (Want.none rfl) (Y.loadFN (vs := [.bool true, .int .i64 7, .func (.func 40) #[] #[]]) rfl ag77 sz77 rfl (fun w h => blk_cells (n := 3) (h.2) rfl)) ?_
  refine Seg.chg rfl rfl (Want.none rfl) (C.alloc zv77 rfl) (fun b8 hb8 => ?_)
  refine Seg.chs rfl (Want.none rfl) (C.store (cs' := [.bool true, .int .i64 7, .func (.func 40) #[] #[]]) (vs := [.bool true, .int .i64 7, .func (.func 40) #[] #[]]) 0 rfl rfl rfl rfl rfl rfl rfl sz77) (fun _ _ => ?_)
  refine Seg.nil ?_
  refine Sx.next ?_
  refine Sc.region ?_
  refine Seg.y rfl rfl (Want.none rfl) (Y.move rfl) ?_
  refine Seg.y rfl rfl (Want.none rfl) (Y.fieldAddr rfl (A.field Try.underlying77 rfl sz4 rfl rfl)) ?_
  refine Seg.y rfl rfl (Want.none rfl) (Y.load1 0 rfl rfl rfl ag4) ?_
  refine Seg.y rfl rfl (Want.none rfl) (Y.fieldAddr rfl (A.field Try.underlying77 rfl sz3 rfl rfl)) ?_
  refine Seg.y rfl rfl (Want.none rfl) (Y.load1 0 rfl rfl rfl ag3) ?_
  refine Seg.y rfl rfl (Want.none rfl) (Y.build (v := .agg (List.toArray [.bool true, .int .i64 7])) rfl (fun w => by kernel_rfl)) ?_
  refine Seg.y rfl rfl (Want.none rfl) (Y.fieldAddr rfl (A.field Try.underlying77 rfl sz64 rfl rfl)) ?_
  refine Seg.y rfl rfl (Want.none rfl) (Y.load1 0 rfl rfl rfl ag64) ?_
  refine Seg.chs rfl (Want.none rfl) (C.mapNew 6 rfl rfl rfl rfl Try.underlying66 (fun w => by kernel_rfl) (fun w => by kernel_rfl)) (fun _ _ => ?_)
  refine Seg.nil ?_
  refine Sx.block_normal ?_
  refine Sx.next ?_
  refine Sc.region ?_
  refine Seg.y rfl rfl (Want.none rfl) (Y.binOp rfl rfl (B.add _ _ _ 6 (by decide))) ?_
  refine Seg.y rfl rfl (Want.none rfl) (Y.move rfl) ?_
  refine Seg.nil ?_
  refine Sx.round ?_
  refine Sr.succ ?_
  refine Sc.seq ?_
  refine Sc.region ?_
  refine Seg.y rfl rfl (Want.none rfl) (Y.binOp (v := .bool true) rfl rfl (B.lt _ _ _)) ?_
  refine Seg.nil ?_
  refine Sx.next ?_
  refine Sc.seq ?_
  refine Sc.condT rfl rfl ?_
  refine Sc.skip ?_
  refine Sx.next ?_
  refine Sc.seq ?_
  refine Sc.block ?_
  refine Sc.seq ?_
  refine Sc.region ?_
  refine Seg.y rfl rfl (Want.none rfl) (Y.indexAddr rfl rfl (A.index Try.underlying74 sz77 (by decide) (by decide) rfl)) ?_
  refine Seg.y rfl rfl (Want.none rfl) (Y.loadFN (vs := [.bool true, .int .i64 25, .func (.func 41) #[] #[]]) rfl ag77 sz77 rfl (fun w h => blk_cells (n := 3) (h.2) rfl)) ?_
  refine Seg.chg rfl rfl (Want.none rfl) (C.alloc zv77 rfl) (fun b9 hb9 => ?_)
  refine Seg.chs rfl (Want.none rfl) (C.store (cs' := [.bool true, .int .i64 25, .func (.func 41) #[] #[]]) (vs := [.bool true, .int .i64 25, .func (.func 41) #[] #[]]) 0 rfl rfl rfl rfl rfl rfl rfl sz77) (fun _ _ => ?_)
  refine Seg.nil ?_
  refine Sx.next ?_
  refine Sc.region ?_
  refine Seg.y rfl rfl (Want.none rfl) (Y.move rfl) ?_
  refine Seg.y rfl rfl (Want.none rfl) (Y.fieldAddr rfl (A.field Try.underlying77 rfl sz4 rfl rfl)) ?_
  refine Seg.y rfl rfl (Want.none rfl) (Y.load1 0 rfl rfl rfl ag4) ?_
  refine Seg.y rfl rfl (Want.none rfl) (Y.fieldAddr rfl (A.field Try.underlying77 rfl sz3 rfl rfl)) ?_
  refine Seg.y rfl rfl (Want.none rfl) (Y.load1 0 rfl rfl rfl ag3) ?_
  refine Seg.y rfl rfl (Want.none rfl) (Y.build (v := .agg (List.toArray [.bool true, .int .i64 25])) rfl (fun w => by kernel_rfl)) ?_
  refine Seg.y rfl rfl (Want.none rfl) (Y.fieldAddr rfl (A.field Try.underlying77 rfl sz64 rfl rfl)) ?_
  refine Seg.y rfl rfl (Want.none rfl) (Y.load1 0 rfl rfl rfl ag64) ?_
  refine Seg.chs rfl (Want.none rfl) (C.mapNew 7 rfl rfl rfl rfl Try.underlying66 (fun w => by kernel_rfl) (fun w => by kernel_rfl)) (fun _ _ => ?_)
  refine Seg.nil ?_
  refine Sx.block_normal ?_
  refine Sx.next ?_
  refine Sc.region ?_
  refine Seg.y rfl rfl (Want.none rfl) (Y.binOp rfl rfl (B.add _ _ _ 7 (by decide))) ?_
  refine Seg.y rfl rfl (Want.none rfl) (Y.move rfl) ?_
  refine Seg.nil ?_
  refine Sx.round ?_
  refine Sr.succ ?_
  refine Sc.seq ?_
  refine Sc.region ?_
  refine Seg.y rfl rfl (Want.none rfl) (Y.binOp (v := .bool true) rfl rfl (B.lt _ _ _)) ?_
  refine Seg.nil ?_
  refine Sx.next ?_
  refine Sc.seq ?_
  refine Sc.condT rfl rfl ?_
  refine Sc.skip ?_
  refine Sx.next ?_
  refine Sc.seq ?_
  refine Sc.block ?_
  refine Sc.seq ?_
  refine Sc.region ?_
  refine Seg.y rfl rfl (Want.none rfl) (Y.indexAddr rfl rfl (A.index Try.underlying74 sz77 (by decide) (by decide) rfl)) ?_
  refine Seg.y rfl rfl (Want.none rfl) (Y.loadFN (vs := [.bool true, .int .i64 1004, .func (.func 42) #[] #[]]) rfl ag77 sz77 rfl (fun w h => blk_cells (n := 3) (h.2) rfl)) ?_
  refine Seg.chg rfl rfl (Want.none rfl) (C.alloc zv77 rfl) (fun b10 hb10 => ?_)
  refine Seg.chs rfl (Want.none rfl) (C.store (cs' := [.bool true, .int .i64 1004, .func (.func 42) #[] #[]]) (vs := [.bool true, .int .i64 1004, .func (.func 42) #[] #[]]) 0 rfl rfl rfl rfl rfl rfl rfl sz77) (fun _ _ => ?_)
  refine Seg.nil ?_
  refine Sx.next ?_
  refine Sc.region ?_
  refine Seg.y rfl rfl (Want.none rfl) (Y.move rfl) ?_
  refine Seg.y rfl rfl (Want.none rfl) (Y.fieldAddr rfl (A.field Try.underlying77 rfl sz4 rfl rfl)) ?_
  refine Seg.y rfl rfl (Want.none rfl) (Y.load1 0 rfl rfl rfl ag4) ?_
  refine Seg.y rfl rfl (Want.none rfl) (Y.fieldAddr rfl (A.field Try.underlying77 rfl sz3 rfl rfl)) ?_
  refine Seg.y rfl rfl (Want.none rfl) (Y.load1 0 rfl rfl rfl ag3) ?_
  refine Seg.y rfl rfl (Want.none rfl) (Y.build (v := .agg (List.toArray [.bool true, .int .i64 1004])) rfl (fun w => by kernel_rfl)) ?_
  refine Seg.y rfl rfl (Want.none rfl) (Y.fieldAddr rfl (A.field Try.underlying77 rfl sz64 rfl rfl)) ?_
  refine Seg.y rfl rfl (Want.none rfl) (Y.load1 0 rfl rfl rfl ag64) ?_
  refine Seg.chs rfl (Want.none rfl) (C.mapNew 8 rfl rfl rfl rfl Try.underlying66 (fun w => by kernel_rfl) (fun w => by kernel_rfl)) (fun _ _ => ?_)
  refine Seg.nil ?_
  refine Sx.block_normal ?_
  refine Sx.next ?_
  refine Sc.region ?_
  refine Seg.y rfl rfl (Want.none rfl) (Y.binOp rfl rfl (B.add _ _ _ 8 (by decide))) ?_
  refine Seg.y rfl rfl (Want.none rfl) (Y.move rfl) ?_
  refine Seg.nil ?_
  refine Sx.round ?_
  refine Sr.succ ?_
  refine Sc.seq ?_
  refine Sc.region ?_
  refine Seg.y rfl rfl (Want.none rfl) (Y.binOp (v := .bool true) rfl rfl (B.lt _ _ _)) ?_
  refine Seg.nil ?_
  refine Sx.next ?_
  refine Sc.seq ?_
  refine Sc.condT rfl rfl ?_
  refine Sc.skip ?_
  refine Sx.next ?_
  refine Sc.seq ?_
  refine Sc.block ?_
  refine Sc.seq ?_
  refine Sc.region ?_
  refine Seg.y rfl rfl (Want.none rfl) (Y.indexAddr rfl rfl (A.index Try.underlying74 sz77 (by decide) (by decide) rfl)) ?_
  refine Seg.y rfl rfl (Want.none rfl) (Y.loadFN (vs := [.bool true, .int .i64 1006, .func (.func 43) #[] #[]]) rfl ag77 sz77 rfl (fun w h => blk_cells (n := 3) (h.2) rfl)) ?_
  refine Seg.chg rfl rfl (Want.none rfl) (C.alloc zv77 rfl) (fun b11 hb11 => ?_)
  refine Seg.chs rfl (Want.none rfl) (C.store (cs' := [.bool true, .int .i64 1006, .func (.func 43) #[] #[]]) (vs := [.bool true, .int .i64 1006, .func (.func 43) #[] #[]]) 0 rfl rfl rfl rfl rfl rfl rfl sz77) (fun _ _ => ?_)
  refine Seg.nil ?_
  refine Sx.next ?_
  refine Sc.region ?_
  refine Seg.y rfl rfl (Want.none rfl) (Y.move rfl) ?_
  refine Seg.y rfl rfl (Want.none rfl) (Y.fieldAddr rfl (A.field Try.underlying77 rfl sz4 rfl rfl)) ?_
  refine Seg.y rfl rfl (Want.none rfl) (Y.load1 0 rfl rfl rfl ag4) ?_
  refine Seg.y rfl rfl (Want.none rfl) (Y.fieldAddr rfl (A.field Try.underlying77 rfl sz3 rfl rfl)) ?_
  refine Seg.y rfl rfl (Want.none rfl) (Y.load1 0 rfl rfl rfl ag3) ?_
  refine Seg.y rfl rfl (Want.none rfl) (Y.build (v := .agg (List.toArray [.bool true, .int .i64 1006])) rfl (fun w => by kernel_rfl)) ?_
  refine Seg.y rfl rfl (Want.none rfl) (Y.fieldAddr rfl (A.field Try.underlying77 rfl sz64 rfl rfl)) ?_
  refine Seg.y rfl rfl (Want.none rfl) (Y.load1 0 rfl rfl rfl ag64) ?_
  refine Seg.chs rfl (Want.none rfl) (C.mapNew 9 rfl rfl rfl rfl Try.underlying66 (fun w => by kernel_rfl) (fun w => by kernel_rfl)) (fun _ _ => ?_)
  refine Seg.nil ?_
  refine Sx.block_normal ?_
  refine Sx.next ?_
  refine Sc.region ?_
  refine Seg.y rfl rfl (Want.none rfl) (Y.binOp rfl rfl (B.add _ _ _ 9 (by decide))) ?_
  refine Seg.y rfl rfl (Want.none rfl) (Y.move rfl) ?_
  refine Seg.nil ?_
  refine Sx.round ?_
  refine Sr.succ ?_
  refine Sc.seq ?_
  refine Sc.region ?_
  refine Seg.y rfl rfl (Want.none rfl) (Y.binOp (v := .bool true) rfl rfl (B.lt _ _ _)) ?_
  refine Seg.nil ?_
  refine Sx.next ?_
  refine Sc.seq ?_
  refine Sc.condT rfl rfl ?_
  refine Sc.skip ?_
  refine Sx.next ?_
  refine Sc.seq ?_
  refine Sc.block ?_
  refine Sc.seq ?_
  refine Sc.region ?_
  refine Seg.y rfl rfl (Want.none rfl) (Y.indexAddr rfl rfl (A.index Try.underlying74 sz77 (by decide) (by decide) rfl)) ?_
  refine Seg.y rfl rfl (Want.none rfl) (Y.loadFN (vs := [.bool true, .int .i64 2004, .func (.func 44) #[] #[]]) rfl ag77 sz77 rfl (fun w h => blk_cells (n := 3) (h.2) rfl)) ?_
  refine Seg.chg rfl rfl (Want.none rfl) (C.alloc zv77 rfl) (fun b12 hb12 => ?_)
  refine Seg.chs rfl (Want.none rfl) (C.store (cs' := [.bool true, .int .i64 2004, .func (.func 44) #[] #[]]) (vs := [.bool true, .int .i64 2004, .func (.func 44) #[] #[]]) 0 rfl rfl rfl rfl rfl rfl rfl sz77) (fun _ _ => ?_)
  refine Seg.nil ?_
  refine Sx.next ?_
  refine Sc.region ?_
  refine Seg.y rfl rfl (Want.none rfl) (Y.move rfl) ?_
  refine Seg.y rfl rfl (Want.none rfl) (Y.fieldAddr rfl (A.field Try.underlying77 rfl sz4 rfl rfl)) ?_
  refine Seg.y rfl rfl (Want.none rfl) (Y.load1 0 rfl rfl rfl ag4) ?_
  refine Seg.y rfl rfl (Want.none rfl) (Y.fieldAddr rfl (A.field Try.underlying77 rfl sz3 rfl rfl)) ?_
  refine Seg.y rfl rfl (Want.none rfl) (Y.load1 0 rfl rfl rfl ag3) ?_
  refine Seg.y rfl rfl (Want.none rfl) (Y.build (v := .agg (List.toArray [.bool true, .int .i64 2004])) rfl (fun w => by kernel_rfl)) ?_
  refine Seg.y rfl rfl (Want.none rfl) (Y.fieldAddr rfl (A.field Try.underlying77 rfl sz64 rfl rfl)) ?_
  refine Seg.y rfl rfl (Want.none rfl) (Y.load1 0 rfl rfl rfl ag64) ?_
  refine Seg.chs rfl (Want.none rfl) (C.mapNew 10 rfl rfl rfl rfl Try.underlying66 (fun w => by kernel_rfl) (fun w => by kernel_rfl)) (fun _ _ => ?_)
  refine Seg.nil ?_
  refine Sx.block_normal ?_
  refine Sx.next ?_
  refine Sc.region ?_
  refine Seg.y rfl rfl (Want.none rfl) (Y.binOp rfl rfl (B.add _ _ _ 10 (by decide))) ?_
  refine Seg.y rfl rfl (Want.none rfl) (Y.move rfl) ?_
  refine Seg.nil ?_
  refine Sx.round ?_
  refine Sr.succ ?_
  refine Sc.seq ?_
  refine Sc.region ?_
  refine Seg.y rfl rfl (Want.none rfl) (Y.binOp (v := .bool true) rfl rfl (B.lt _ _ _)) ?_
  refine Seg.nil ?_
  refine Sx.next ?_
  refine Sc.seq ?_
  refine Sc.condT rfl rfl ?_
  refine Sc.skip ?_
  refine Sx.next ?_
  refine Sc.seq ?_
  refine Sc.block ?_
  refine Sc.seq ?_
  refine Sc.region ?_
  refine Seg.y rfl rfl (Want.none rfl) (Y.indexAddr rfl rfl (A.index Try.underlying74 sz77 (by decide) (by decide) rfl)) ?_
  refine Seg.y rfl rfl (Want.none rfl) (Y.loadFN (vs := [.bool true, .int .i64 2026, .func (.func 45) #[] #[]]) rfl ag77 sz77 rfl (fun w h => blk_cells (n := 3) (h.2) rfl)) ?_
  refine Seg.chg rfl rfl (Want.none rfl) (C.alloc zv77 rfl) (fun b13 hb13 => ?_)
  refine Seg.chs rfl (Want.none rfl) (C.store (cs' := [.bool true, .int .i64 2026, .func (.func 45) #[] #[]]) (vs := [.bool true, .int .i64 2026, .func (.func 45) #[] #[]]) 0 rfl rfl rfl rfl rfl rfl rfl sz77) (fun _ _ => ?_)
  refine Seg.nil ?_
  refine Sx.next ?_
  refine Sc.region ?_
  refine Seg.y rfl rfl (Want.none rfl) (Y.move rfl) ?_
  refine Seg.y rfl rfl (Want.none rfl) (Y.fieldAddr rfl (A.field Try.underlying77 rfl sz4 rfl rfl)) ?_
  refine Seg.y rfl rfl (Want.none rfl) (Y.load1 0 rfl rfl rfl ag4) ?_
  refine Seg.y rfl rfl (Want.none rfl) (Y.fieldAddr rfl (A.field Try.underlying77 rfl sz3 rfl rfl)) ?_
  refine Seg.y rfl rfl (Want.none rfl) (Y.load1 0 rfl rfl rfl ag3) ?_
  refine Seg.y rfl rfl (Want.none rfl) (Y.build (v := .agg (List.toArray [.bool true, .int .i64 2026])) rfl (fun w => by kernel_rfl)) ?_
  refine Seg.y rfl rfl (Want.none rfl) (Y.fieldAddr rfl (A.field Try.underlying77 rfl sz64 rfl rfl)) ?_
  refine Seg.y rfl rfl (Want.none rfl) (Y.load1 0 rfl rfl rfl ag64) ?_
  refine Seg.chs rfl (Want.none rfl) (C.mapNew 11 rfl rfl rfl rfl Try.underlying66 (fun w => by kernel_rfl) (fun w => by kernel_rfl)) (fun _ _ => ?_)
  refine Seg.nil ?_
  refine Sx.block_normal ?_
  refine Sx.next ?_
  refine Sc.region ?_
  refine Seg.y rfl rfl (Want.none rfl) (Y.binOp rfl rfl (B.add _ _ _ 11 (by decide))) ?_
  refine Seg.y rfl rfl (Want.none rfl) (Y.move rfl) ?_
  refine Seg.nil ?_
  refine Sx.round ?_
  refine Sr.succ ?_
  refine Sc.seq ?_
  refine Sc.region ?_
  refine Seg.y rfl rfl (Want.none rfl) (Y.binOp (v := .bool false) rfl rfl (B.lt _ _ _)) ?_
  refine Seg.nil ?_
  refine Sx.next ?_
  refine Sc.seq ?_
  refine Sc.condF rfl rfl ?_
  refine Sc.exit ?_
  refine Sx.next_exit ?_
  refine Sx.loop_exit ?_
  refine Sx.block_exit ?_
  refine Sx.next ?_
  refine Sc.seq ?_
  refine Sc.region ?_
  refine Seg.y rfl rfl (Want.none rfl) (Y.move rfl) ?_
  refine Seg.y rfl rfl (Want.none rfl) (Y.assign rfl) ?_
  refine Seg.nil ?_
  refine Sx.next ?_
  refine Sc.ret ?_
  refine Sx.body (.inl rfl) (res1 rfl (Rv.tmp rfl)) (fun w hs => ?_)
  exact Ret.eq b1 rfl hs (fun w _ hn => hn.get 11 rfl hb1)
end Go.Proofs.Ythmigjicibhheaa
