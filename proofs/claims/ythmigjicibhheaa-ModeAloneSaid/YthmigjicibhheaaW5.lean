/- What the functions of the program and of the reference come to: one theorem a function (part 5). -/
import Derived.Test.YthmigjicibhheaaW4
namespace Go.Proofs.Ythmigjicibhheaa
open Go Go.RowKit Go.Eng
set_option maxRecDepth 100000
set_option linter.unusedVariables false
set_option linter.unusedSimpArgs false
set_option maxHeartbeats 4000000 in
theorem numbers_c (dec : Bool) (Dc : List Nat) (w : World) (hD : ∀ k ∈ Dc, k < w.heap.size)  :
    Calls Try.prog 25 #[.bool dec] w (Ret Dc [] w (fun ((y0, y1) : Option Addr × Nat) => .slice y0 ((numbersS dec).length) y1) (fun ((y0, y1) : Option Addr × Nat) => fun w => RowV 1 encI y0 (numbersS dec) w)) := by
  refine enter (F := fun w => True) Dc Try.func25 rfl Try.ntmps25 hD Fut.triv rfl ?_
  refine Sc.seq ?_
  refine Sc.region ?_
  refine Seg.y rfl rfl (Want.none rfl) (Y.assign rfl) ?_
  refine Seg.nil ?_
  refine Sx.next ?_
  refine Sc.seq ?_
  refine Sc.seq ?_
  refine Sc.region ?_
  refine Seg.y rfl rfl (Want.none rfl) (Y.move rfl) ?_
  refine Seg.nil ?_
  refine Sx.next ?_
  refine Sc.cond rfl (fun h1 => ?_) (fun h1 => ?_)
  · skip
    refine Sc.seq ?_
    refine Sc.region ?_
    refine Seg.chg rfl rfl (Want.none rfl) (C.buildSlice (e := 3) (cs := [.int .i64 1, .int .i64 5, .int .i64 6, .int .i64 7, .int .i64 25, .int .i64 1004, .int .i64 1006, .int .i64 2004, .int .i64 2026, .int .i64 9, .int .i64 1000, .int .i64 1002, .int .i64 1003]) rfl (fun w => by kernel_rfl)) (fun b2 hb2 => ?_)
    refine Seg.freeze 0 rfl hb2 ?_
    refine Seg.y rfl rfl (Want.none rfl) (Y.assign rfl) ?_
    refine Seg.nil ?_
    refine Sx.next ?_
    refine Sc.ret ?_
    refine Sx.next_ret ?_
    refine Sx.body (.inl rfl) (res1 rfl (Rv.tmp rfl)) (fun w hs => ?_)
    subst h1
    exact Ret.eq (some ⟨b2, 0, none⟩, 13) rfl hs (fun w h _ => RowV.block (fun _ => rfl) h.2 [] rfl)
  · skip
    refine Sc.skip ?_
    refine Sx.next ?_
    refine Sc.seq ?_
    refine Sc.region ?_
    refine Seg.chg rfl rfl (Want.none rfl) (C.buildSlice (e := 3) (cs := [.int .i64 4, .int .i64 20]) rfl (fun w => by kernel_rfl)) (fun b3 hb3 => ?_)
    refine Seg.freeze 0 rfl hb3 ?_
    refine Seg.y rfl rfl (Want.none rfl) (Y.assign rfl) ?_
    refine Seg.nil ?_
    refine Sx.next ?_
    refine Sc.ret ?_
    refine Sx.body (.inl rfl) (res1 rfl (Rv.tmp rfl)) (fun w hs => ?_)
    subst h1
    exact Ret.eq (some ⟨b3, 0, none⟩, 2) rfl hs (fun w h _ => RowV.block (fun _ => rfl) h.2 [] rfl)
end Go.Proofs.Ythmigjicibhheaa
