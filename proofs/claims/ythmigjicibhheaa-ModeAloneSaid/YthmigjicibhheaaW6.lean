/- What the functions of the program and of the reference come to: one theorem a function (part 6). -/
import Derived.Test.YthmigjicibhheaaW5
namespace Go.Proofs.Ythmigjicibhheaa
open Go Go.RowKit Go.Eng
set_option maxRecDepth 100000
set_option linter.unusedVariables false
set_option linter.unusedSimpArgs false
set_option maxHeartbeats 4000000 in
theorem same_c (aa : Option Addr) (am : Nat) (a : List Ac) (ba : Option Addr) (bm : Nat) (b : List Ac) (Dc : List Nat) (w : World) (hD : ∀ k ∈ Dc, k < w.heap.size) (hF : Fut Dc w (fun w => RowV 6 encAc aa a w ∧ RowV 6 encAc ba b w)) (hla : a.length ≤ 4611686018427387904) (hlb : b.length ≤ 4611686018427387904)  :
    Calls Try.prog 22 #[.slice aa a.length am, .slice ba b.length bm] w (RetV w (.bool (sameS a b))) := by
  refine enter (F := fun w => RowV 6 encAc aa a w ∧ RowV 6 encAc ba b w) Dc Try.func22 rfl Try.ntmps22 hD hF rfl ?_
  refine Sc.seq ?_
  refine Sc.region ?_
  refine Seg.y rfl rfl (Want.none rfl) (Y.assign rfl) ?_
  refine Seg.nil ?_
  refine Sx.next ?_
  refine Sc.seq ?_
  refine Sc.seq ?_
  refine Sc.region ?_
  refine Seg.y rfl rfl (Want.none rfl) (Y.move rfl) ?_
  refine Seg.y rfl rfl (Want.none rfl) (Y.bi rfl (fun w _ => run_len rfl Try.underlying44 w)) ?_
  refine Seg.y rfl rfl (Want.none rfl) (Y.move rfl) ?_
  refine Seg.y rfl rfl (Want.none rfl) (Y.bi rfl (fun w _ => run_len rfl Try.underlying44 w)) ?_
  refine Seg.y rfl rfl (Want.none rfl) (Y.binOp rfl rfl (B.ne _ _ _)) ?_
  refine Seg.nil ?_
  refine Sx.next ?_
  refine Sc.cond rfl (fun h1 => ?_) (fun h1 => ?_)
  · skip
    have h1p := of_decide_eq_true h1
    refine Sc.seq ?_
    refine Sc.region ?_
    refine Seg.y rfl rfl (Want.none rfl) (Y.assign rfl) ?_
    refine Seg.nil ?_
    refine Sx.next ?_
    refine Sc.ret ?_
    refine Sx.next_ret ?_
    refine Sx.body (.inl rfl) (res1 rfl (Rv.tmp rfl)) (fun w hs => ?_)
    refine RetV.eq ?_ hs
    first | rw [hj, same_end a b k (by omega) (by omega)] | (rw [hj, same_step a b k (by omega) (by omega)]; simp_all; done) | rw [same_len a b (by omega)]
  · skip
    have h1p : (a.length : Int) = (b.length : Int) := by simpa using h1
    refine Sc.skip ?_
    refine Sx.next ?_
    refine Sc.seq ?_
    refine Sc.seq ?_
    refine Sc.region ?_
    refine Seg.y rfl rfl (Want.none rfl) (Y.assign rfl) ?_
    refine Seg.nil ?_
    refine Sx.next ?_
    refine Sc.block ?_
    refine Sc.loop (fun (k : Nat) => k ≤ a.length ∧ sameS a b = sameS (a.drop k) (b.drop k)) (fun (k : Nat) => a.length - k) (fun (k : Nat) => [(0, .slice aa a.length am), (1, .slice ba b.length bm), (5, .int .i64 (k : Int))]) (fun (k : Nat) => []) (fun (k : Nat) => fun w => RowV 6 encAc aa a w ∧ RowV 6 encAc ba b w) 0 ⟨Nat.zero_le _, rfl⟩ (by exact ⟨rfl, rfl, rfl, trivial⟩) [] (by decide) rfl (fun _ h => h) ?_
    rintro k hJ0
    obtain ⟨hk, hj⟩ := hJ0
    show Sc _ _ _ _ [(0, .slice aa a.length am), (1, .slice ba b.length bm), (5, .int .i64 (k : Int))] [] (fun w => RowV 6 encAc aa a w ∧ RowV 6 encAc ba b w)
    refine Sc.seq ?_
    refine Sc.seq ?_
    refine Sc.region ?_
    refine Seg.y rfl rfl (Want.none rfl) (Y.move rfl) ?_
    refine Seg.y rfl rfl (Want.none rfl) (Y.move rfl) ?_
    refine Seg.y rfl rfl (Want.none rfl) (Y.bi rfl (fun w _ => run_len rfl Try.underlying44 w)) ?_
    refine Seg.y rfl rfl (Want.none rfl) (Y.binOp rfl rfl (B.lt _ _ _)) ?_
    refine Seg.nil ?_
    refine Sx.next ?_
    refine Sc.cond rfl (fun h2 => ?_) (fun h2 => ?_)
    · skip
      have h2p := of_decide_eq_true h2
      refine Sc.skip ?_
      refine Sx.next ?_
      refine Sc.seq ?_
      refine Sc.block ?_
      refine Sc.seq ?_
      refine Sc.cut (fun (_ : Unit) => True) (fun (_ : Unit) => [(0, .slice aa a.length am), (1, .slice ba b.length bm), (5, .int .i64 (k : Int)), (25, .bool (!(AcEq (⟨(a.getD k Ac.zero).kind, (a.getD k Ac.zero).n, (a.getD k Ac.zero).m, ((a.getD k Ac.zero).col), (a.getD k Ac.zero).text⟩ : Ac) (⟨(b.getD k Ac.zero).kind, (b.getD k Ac.zero).n, (b.getD k Ac.zero).m, ((b.getD k Ac.zero).col), (b.getD k Ac.zero).text⟩ : Ac))))]) (fun (_ : Unit) => []) (fun _ => fun w => RowV 6 encAc aa a w ∧ RowV 6 encAc ba b w) ?_ ?_
      · skip
        refine Sc.draw (by kernel_rfl) (fun _ h => St.lean [] (by decide) (fun _ h => h) h rfl) ?_
        refine Sd.take 0 rfl rfl rfl (by kernel_rfl) (by kernel_rfl) (by kernel_rfl) Cut.panic (Want.none rfl) (Y.move rfl) ?_
        refine Sd.take 1 rfl rfl rfl (by kernel_rfl) (by kernel_rfl) (by kernel_rfl) Cut.panic (Want.none rfl) (Y.move rfl) ?_
        refine Sd.take 2 rfl rfl rfl (by kernel_rfl) (by kernel_rfl) (by kernel_rfl) Cut.panic (Want.none rfl) (Y.elemAddr rfl rfl Try.underlying44 sz53 (fun w h => ((h.1) k _ (getD_some Ac.zero (by omega))).1) (by omega) (by omega) (by simp : (sadr aa).off + ((k : Int)).toNat * 6 = (sadr aa).off + k * 6)) ?_
        refine Sd.take 3 rfl rfl rfl (by kernel_rfl) (by kernel_rfl) (by kernel_rfl) Cut.panic (Want.none rfl) (Y.loadFN (vs := [.int .i64 ((a.getD k Ac.zero).kind), .int .i64 ((a.getD k Ac.zero).n), .int .i64 ((a.getD k Ac.zero).m), .int .i64 (((a.getD k Ac.zero).col).k), .int .i64 (((a.getD k Ac.zero).col).n), .string ((a.getD k Ac.zero).text)]) rfl ag53 sz53 rfl (fun w h => ((h.1) k _ (getD_some Ac.zero (by omega))).2)) ?_
        refine Sd.take 4 rfl rfl rfl (by kernel_rfl) (by kernel_rfl) (by kernel_rfl) Cut.panic (Want.none rfl) (Y.move rfl) ?_
        refine Sd.take 5 rfl rfl rfl (by kernel_rfl) (by kernel_rfl) (by kernel_rfl) Cut.panic (Want.none rfl) (Y.move rfl) ?_
        refine Sd.take 6 rfl rfl rfl (by kernel_rfl) (by kernel_rfl) (by kernel_rfl) Cut.panic (Want.none rfl) (Y.elemAddr rfl rfl Try.underlying44 sz53 (fun w h => ((h.2) k _ (getD_some Ac.zero (by omega))).1) (by omega) (by omega) (by simp : (sadr ba).off + ((k : Int)).toNat * 6 = (sadr ba).off + k * 6)) ?_
        refine Sd.take 7 rfl rfl rfl (by kernel_rfl) (by kernel_rfl) (by kernel_rfl) Cut.panic (Want.none rfl) (Y.loadFN (vs := [.int .i64 ((b.getD k Ac.zero).kind), .int .i64 ((b.getD k Ac.zero).n), .int .i64 ((b.getD k Ac.zero).m), .int .i64 (((b.getD k Ac.zero).col).k), .int .i64 (((b.getD k Ac.zero).col).n), .string ((b.getD k Ac.zero).text)]) rfl ag53 sz53 rfl (fun w h => ((h.2) k _ (getD_some Ac.zero (by omega))).2)) ?_
        refine Sd.take 8 rfl rfl rfl (by kernel_rfl) (by kernel_rfl) (by kernel_rfl) Cut.panic (Want.none rfl) (Y.binOp rfl rfl (B.neS gq53 (Eqs.struct (n := 2) (b := AcEq (⟨(a.getD k Ac.zero).kind, (a.getD k Ac.zero).n, (a.getD k Ac.zero).m, ((a.getD k Ac.zero).col), (a.getD k Ac.zero).text⟩ : Ac) (⟨(b.getD k Ac.zero).kind, (b.getD k Ac.zero).n, (b.getD k Ac.zero).m, ((b.getD k Ac.zero).col), (b.getD k Ac.zero).text⟩ : Ac)) Try.underlying53 sd53 (EqF.cons (b := decide ((a.getD k Ac.zero).kind = (b.getD k Ac.zero).kind)) rfl ag3 rfl rfl (Eqs.mono (m := 2) (Eqs.int Try.underlying3) (by decide)) (EqF.cons (b := decide ((a.getD k Ac.zero).n = (b.getD k Ac.zero).n)) rfl ag3 rfl rfl (Eqs.mono (m := 2) (Eqs.int Try.underlying3) (by decide)) (EqF.cons (b := decide ((a.getD k Ac.zero).m = (b.getD k Ac.zero).m)) rfl ag3 rfl rfl (Eqs.mono (m := 2) (Eqs.int Try.underlying3) (by decide)) (EqF.consN (b := CoEq ((a.getD k Ac.zero).col) ((b.getD k Ac.zero).col)) rfl ag51 sz51 rfl rfl (Eqs.mono (m := 2) (Eqs.struct (n := 1) (b := CoEq ((a.getD k Ac.zero).col) ((b.getD k Ac.zero).col)) Try.underlying51 sd51 (EqF.cons (b := decide (((a.getD k Ac.zero).col).k = ((b.getD k Ac.zero).col).k)) rfl ag3 rfl rfl (Eqs.mono (m := 1) (Eqs.int Try.underlying3) (by decide)) (EqF.cons (b := decide (((a.getD k Ac.zero).col).n = ((b.getD k Ac.zero).col).n)) rfl ag3 rfl rfl (Eqs.mono (m := 1) (Eqs.int Try.underlying3) (by decide)) (EqF.nil)))) (by decide)) (EqF.cons (b := ((a.getD k Ac.zero).text).data.toList == ((b.getD k Ac.zero).text).data.toList) rfl ag9 rfl rfl (Eqs.mono (m := 2) (Eqs.str Try.underlying9) (by decide)) (EqF.nil))))))) rfl)) ?_
        refine Sd.done (by kernel_rfl) ?_
        exact Sx.cut () trivial ⟨rfl, rfl, rfl, rfl, trivial⟩ [] (by decide) rfl (fun _ h => h)
      · intro _ _
        show Sx _ _ _ [(0, .slice aa a.length am), (1, .slice ba b.length bm), (5, .int .i64 (k : Int)), (25, .bool (!(AcEq (⟨(a.getD k Ac.zero).kind, (a.getD k Ac.zero).n, (a.getD k Ac.zero).m, ((a.getD k Ac.zero).col), (a.getD k Ac.zero).text⟩ : Ac) (⟨(b.getD k Ac.zero).kind, (b.getD k Ac.zero).n, (b.getD k Ac.zero).m, ((b.getD k Ac.zero).col), (b.getD k Ac.zero).text⟩ : Ac))))] [] _
        refine Sx.next ?_
        refine Sc.cond rfl (fun h3 => ?_) (fun h3 => ?_)
        · skip
          have h3p : (AcEq (⟨(a.getD k Ac.zero).kind, (a.getD k Ac.zero).n, (a.getD k Ac.zero).m, ((a.getD k Ac.zero).col), (a.getD k Ac.zero).text⟩ : Ac) (⟨(b.getD k Ac.zero).kind, (b.getD k Ac.zero).n, (b.getD k Ac.zero).m, ((b.getD k Ac.zero).col), (b.getD k Ac.zero).text⟩ : Ac)) = false := by simpa using h3
          refine Sc.seq ?_
          refine Sc.region ?_
          refine Seg.y rfl rfl (Want.none rfl) (Y.assign rfl) ?_
          refine Seg.nil ?_
          refine Sx.next ?_
          refine Sc.ret ?_
          refine Sx.block_ret ?_
          refine Sx.next_ret ?_
          refine Sx.loop_ret ?_
          refine Sx.block_ret ?_
          refine Sx.next_ret ?_
          refine Sx.body (.inl rfl) (res1 rfl (Rv.tmp rfl)) (fun w hs => ?_)
          refine RetV.eq ?_ hs
          first | rw [hj, same_end a b k (by omega) (by omega)] | (rw [hj, same_step a b k (by omega) (by omega)]; simp_all; done) | rw [same_len a b (by omega)]
        · skip
          have h3p : (AcEq (⟨(a.getD k Ac.zero).kind, (a.getD k Ac.zero).n, (a.getD k Ac.zero).m, ((a.getD k Ac.zero).col), (a.getD k Ac.zero).text⟩ : Ac) (⟨(b.getD k Ac.zero).kind, (b.getD k Ac.zero).n, (b.getD k Ac.zero).m, ((b.getD k Ac.zero).col), (b.getD k Ac.zero).text⟩ : Ac)) = true := by simpa using h3
          refine Sc.skip ?_
          refine Sx.block_normal ?_
          refine Sx.next ?_
          refine Sc.region ?_
          refine Seg.y rfl rfl (Want.none rfl) (Y.move rfl) ?_
          refine Seg.y rfl rfl (Want.none rfl) (Y.binOp rfl rfl (B.add _ _ _ ((k : Int) + 1) (wr_i64 (by omega)))) ?_
          refine Seg.y rfl rfl (Want.none rfl) (Y.assign rfl) ?_
          refine Seg.nil ?_
          exact Sx.head (k + 1) ⟨by omega, by rw [hj, same_step a b k (by omega) (by omega)]; simp_all⟩ (by first | omega | (dsimp only; omega)) ⟨rfl, rfl, rfl, trivial⟩ [] (by decide) rfl (fun _ h => h)
    · skip
      have h2p := of_decide_eq_false h2
      refine Sc.exit ?_
      refine Sx.next_exit ?_
      refine Sx.loop_exit ?_
      refine Sx.block_exit ?_
      refine Sx.next ?_
      refine Sc.seq ?_
      refine Sc.region ?_
      refine Seg.y rfl rfl (Want.none rfl) (Y.assign rfl) ?_
      refine Seg.nil ?_
      refine Sx.next ?_
      refine Sc.ret ?_
      refine Sx.body (.inl rfl) (res1 rfl (Rv.tmp rfl)) (fun w hs => ?_)
      refine RetV.eq ?_ hs
      first | rw [hj, same_end a b k (by omega) (by omega)] | (rw [hj, same_step a b k (by omega) (by omega)]; simp_all; done) | rw [same_len a b (by omega)]

set_option maxHeartbeats 4000000 in
theorem nums_c (n : Int) (Dc : List Nat) (w : World) (hD : ∀ k ∈ Dc, k < w.heap.size)  :
    Calls Try.prog 9 #[.int .i64 n] w (Ret Dc [] w (fun ((y0, y1) : Option Addr × Nat) => .slice y0 ((numsS n).length) y1) (fun ((y0, y1) : Option Addr × Nat) => fun w => RowV 1 encI y0 (numsS n) w)) := by
  refine enter (F := fun w => True) Dc Try.func9 rfl Try.ntmps9 hD Fut.triv rfl ?_
  refine Sc.seq ?_
  refine Sc.region ?_
  refine Seg.y rfl rfl (Want.none rfl) (Y.assign rfl) ?_
  refine Seg.nil ?_
  refine Sx.next ?_
  refine Sc.seq ?_
  refine Sc.region ?_
  refine Seg.y rfl rfl (Want.none rfl) (Y.move rfl) ?_
  refine Seg.chg rfl rfl (Want.none rfl) (C.buildSlice (e := 3) (cs := [.int .i64 n, .int .i64 3, .int .i64 47, .int .i64 1047, .int .i64 1048, .int .i64 1049]) rfl (fun w => by kernel_rfl)) (fun b1 hb1 => ?_)
  refine Seg.callR (val := fun ((a2, c3) : Option Addr × Nat) => .slice a2 ((numbersS false).length) c3) (Φ := fun ((a2, c3) : Option Addr × Nat) => fun w => RowV 1 encI a2 (numbersS false) w) rfl rfl (Want.none rfl) (K.func rfl co25) (fun w hs => numbers_c false _ w hs.dc_lt   ) (fun ⟨a2, c3⟩ => ?_)
  refine Seg.chg rfl rfl (Want.none rfl) (C.appendL (enc := encI) (acc := [n, 3, 47, 1047, 1048, 1049]) (bs := (numbersS false)) (spare := []) (free := 0) (ob := (some b1)) 0 (fun _ => rfl) (fun _ => rfl) rfl rfl rfl (App.full hb1) (fun w hs => (fun h => (h.2).read (fun _ => rfl)) hs.fut.now) Try.underlying25 Try.underlying25 sz3 zv3 rfl inf3 (Nat.le_of_ble_eq_true rfl) (Nat.le_of_ble_eq_true rfl)) (fun ⟨ob4, fr4, sp4⟩ hA4 => ?_)
  refine Seg.callR (val := fun ((a6, c7) : Option Addr × Nat) => .slice a6 ((numbersS true).length) c7) (Φ := fun ((a6, c7) : Option Addr × Nat) => fun w => RowV 1 encI a6 (numbersS true) w) rfl rfl (Want.none rfl) (K.func rfl co25) (fun w hs => numbers_c true _ w hs.dc_lt   ) (fun ⟨a6, c7⟩ => ?_)
  refine Seg.chg rfl rfl (Want.none rfl) (C.appendL (enc := encI) (acc := ([n, 3, 47, 1047, 1048, 1049] ++ (numbersS false))) (bs := (numbersS true)) (spare := sp4) (free := fr4) (ob := ob4) 0 (fun _ => rfl) (fun _ => rfl) rfl rfl rfl hA4 (fun w hs => (fun h => (h.2).read (fun _ => rfl)) hs.fut.now) Try.underlying25 Try.underlying25 sz3 zv3 rfl inf3 (Nat.le_of_ble_eq_true rfl) (Nat.le_of_ble_eq_true rfl)) (fun ⟨ob8, fr8, sp8⟩ hA8 => ?_)
  refine Seg.y rfl rfl (Want.none rfl) (Y.move rfl) ?_
  refine Seg.y rfl rfl (Want.none rfl) (Y.binOp rfl rfl (B.rem _ _ _ _ (by decide) rfl)) ?_
  refine Seg.chg rfl rfl (Want.none rfl) (C.buildSlice (e := 3) (cs := [.int .i64 (Int.tmod n 2100)]) rfl (fun w => by kernel_rfl)) (fun b9 hb9 => ?_)
  refine Seg.freeze 0 rfl hb9 ?_
  refine Seg.chg rfl rfl (Want.none rfl) (C.appendL (enc := encI) (acc := ([n, 3, 47, 1047, 1048, 1049] ++ (numbersS false) ++ (numbersS true))) (bs := [Int.tmod n 2100]) (spare := sp8) (free := fr8) (ob := ob8) 0 (fun _ => rfl) (fun _ => rfl) rfl rfl rfl hA8 (fun w hs => (fun h => .inr ⟨_, _, rfl, blk_cells (o := 0) (n := 1) (h.2) rfl⟩) hs.fut.now) Try.underlying25 Try.underlying25 sz3 zv3 rfl inf3 (Nat.le_of_ble_eq_true rfl) (Nat.le_of_ble_eq_true rfl)) (fun ⟨ob10, fr10, sp10⟩ hA10 => ?_)
  refine Seg.y rfl rfl (Want.none rfl) (Y.assign rfl) ?_
  refine Seg.nil ?_
  refine Sx.next ?_
  refine Sc.ret ?_
  refine Sx.body (.inl rfl) (res1 rfl (Rv.tmp rfl)) (fun w hs => ?_)
  exact Ret.eq (ob10.map mkA, _) rfl hs (fun w _ hn => row_out hn 0 rfl hA10 (fun _ => rfl))

set_option maxHeartbeats 4000000 in
theorem of_c (b : Int) (w : World) (hb0 : 0 ≤ b ∧ b ≤ 65535) :
    Calls Try.prog 10 #[.int .u16 b] w (RetV w (.agg (List.toArray [.bool ((ofS b).ins), .bool ((ofS b).nl), .bool ((ofS b).ck), .bool ((ofS b).inv), .bool ((ofS b).org), .bool ((ofS b).aut), .bool ((ofS b).vis), .bool ((ofS b).paste), .bool ((ofS b).focus), .bool ((ofS b).sync), .bool ((ofS b).keypad), .int .i64 ((ofS b).mouse), .bool ((ofS b).sgr)]))) := by
  refine enter (F := fun w => True) [] Try.func10 rfl Try.ntmps10 (by simp) Fut.triv rfl ?_
  refine Sc.seq ?_
  refine Sc.region ?_
  refine Seg.chg rfl rfl (Want.none rfl) (C.alloc zv23 rfl) (fun b1 hb1 => ?_)
  refine Seg.nil ?_
  refine Sx.next ?_
  refine Sc.seq ?_
  obtain ⟨r2, hr2⟩ : ∃ x, x = bitS b 0 := ⟨_, rfl⟩
  obtain ⟨r3, hr3⟩ : ∃ x, x = bitS b 1 := ⟨_, rfl⟩
  obtain ⟨r4, hr4⟩ : ∃ x, x = bitS b 2 := ⟨_, rfl⟩
  obtain ⟨r5, hr5⟩ : ∃ x, x = bitS b 3 := ⟨_, rfl⟩
  obtain ⟨r6, hr6⟩ : ∃ x, x = bitS b 4 := ⟨_, rfl⟩
  obtain ⟨r7, hr7⟩ : ∃ x, x = bitS b 5 := ⟨_, rfl⟩
  obtain ⟨r8, hr8⟩ : ∃ x, x = bitS b 6 := ⟨_, rfl⟩
  obtain ⟨r9, hr9⟩ : ∃ x, x = bitS b 7 := ⟨_, rfl⟩
  obtain ⟨r10, hr10⟩ : ∃ x, x = bitS b 8 := ⟨_, rfl⟩
  obtain ⟨r11, hr11⟩ : ∃ x, x = bitS b 9 := ⟨_, rfl⟩
  obtain ⟨r12, hr12⟩ : ∃ x, x = bitS b 10 := ⟨_, rfl⟩
  obtain ⟨r13, hr13⟩ : ∃ x, x = bitS b 11 := ⟨_, rfl⟩
  refine Sc.cut (fun (_ : Unit) => True) (fun (_ : Unit) => [(2, .pointer (some ⟨b1, 0, none⟩))]) (fun (_ : Unit) => [(some b1, .cells (List.toArray [.bool r2, .bool r3, .bool r4, .bool r5, .bool r6, .bool (!r7), .bool (!r8), .bool r9, .bool r10, .bool r11, .bool r12, .int .i64 (([0, 0, 0, 0, 9, 1000, 1002, 1003] : List Int).getD (Int.tmod (Int.fdiv b (2 ^ min (12 : Int).toNat 16)) 8).toNat 0), .bool r13]) 23 (0, 0))]) (fun _ => fun w => True) ?_ ?_
  · skip
    refine Sc.draw (by kernel_rfl) (fun _ h => St.lean [] (by decide) (fun _ h => h) h rfl) ?_
    refine Sd.take 0 rfl rfl rfl (by kernel_rfl) (by kernel_rfl) (by kernel_rfl) Cut.panic (Want.none rfl) (Y.move rfl) ?_
    refine Sd.take 2 rfl rfl rfl (by kernel_rfl) (by kernel_rfl) (by kernel_rfl) Cut.panic (Want.none rfl) (Y.move rfl) ?_
    refine Sd.take 4 rfl rfl rfl (by kernel_rfl) (by kernel_rfl) (by kernel_rfl) Cut.panic (Want.none rfl) (Y.move rfl) ?_
    refine Sd.take 6 rfl rfl rfl (by kernel_rfl) (by kernel_rfl) (by kernel_rfl) Cut.panic (Want.none rfl) (Y.move rfl) ?_
    refine Sd.take 8 rfl rfl rfl (by kernel_rfl) (by kernel_rfl) (by kernel_rfl) Cut.panic (Want.none rfl) (Y.move rfl) ?_
    refine Sd.take 10 rfl rfl rfl (by kernel_rfl) (by kernel_rfl) (by kernel_rfl) Cut.panic (Want.none rfl) (Y.move rfl) ?_
    refine Sd.take 13 rfl rfl rfl (by kernel_rfl) (by kernel_rfl) (by kernel_rfl) Cut.panic (Want.none rfl) (Y.move rfl) ?_
    refine Sd.take 16 rfl rfl rfl (by kernel_rfl) (by kernel_rfl) (by kernel_rfl) Cut.panic (Want.none rfl) (Y.move rfl) ?_
    refine Sd.take 18 rfl rfl rfl (by kernel_rfl) (by kernel_rfl) (by kernel_rfl) Cut.panic (Want.none rfl) (Y.move rfl) ?_
    refine Sd.take 20 rfl rfl rfl (by kernel_rfl) (by kernel_rfl) (by kernel_rfl) Cut.panic (Want.none rfl) (Y.move rfl) ?_
    refine Sd.take 22 rfl rfl rfl (by kernel_rfl) (by kernel_rfl) (by kernel_rfl) Cut.panic (Want.none rfl) (Y.move rfl) ?_
    refine Sd.take 24 rfl rfl rfl (by kernel_rfl) (by kernel_rfl) (by kernel_rfl) Cut.panic (Want.none rfl) (Y.move rfl) ?_
    refine Sd.take 26 rfl rfl rfl (by kernel_rfl) (by kernel_rfl) (by kernel_rfl) Cut.panic (Want.none rfl) (Y.build (v := .agg (List.toArray [.int .i64 0, .int .i64 0, .int .i64 0, .int .i64 0, .int .i64 9, .int .i64 1000, .int .i64 1002, .int .i64 1003])) rfl (fun w => by kernel_rfl)) ?_
    refine Sd.take 27 rfl rfl rfl (by kernel_rfl) (by kernel_rfl) (by kernel_rfl) Cut.panic (Want.none rfl) (Y.move rfl) ?_
    refine Sd.take 28 rfl rfl rfl (by kernel_rfl) (by kernel_rfl) (by kernel_rfl) Cut.panic (Want.none rfl) (Y.binOp rfl rfl (B.shr _ _ _ _ _ (by omega) rfl)) ?_
    refine Sd.take 29 rfl rfl rfl (by kernel_rfl) (by kernel_rfl) (by kernel_rfl) Cut.panic (Want.none rfl) (Y.binOp rfl rfl (B.rem _ _ _ _ (by decide) rfl)) ?_
    refine Sd.take 30 rfl rfl rfl (by kernel_rfl) (by kernel_rfl) (by kernel_rfl) Cut.panic (Want.none rfl) (Y.index rfl rfl (run_indexI (xs := [0, 0, 0, 0, 9, 1000, 1002, 1003]) Try.underlying61 sz3 ag3 rfl (of_idx b hb0).1 (of_idx b hb0).2)) ?_
    refine Sd.all [1] (by kernel_rfl) (by decide) (all_cons ?_ all_nil)
    refine Sp.callV (v := .bool r2) rfl rfl rfl (Want.none rfl) (K.func rfl co27) (fun w hs => by rw [hr2]; exact bit_c b 0 w (by decide)) ?_
    refine Sd.all [3] (by kernel_rfl) (by decide) (all_cons ?_ all_nil)
    refine Sp.callV (v := .bool r3) rfl rfl rfl (Want.none rfl) (K.func rfl co27) (fun w hs => by rw [hr3]; exact bit_c b 1 w (by decide)) ?_
    refine Sd.all [5] (by kernel_rfl) (by decide) (all_cons ?_ all_nil)
    refine Sp.callV (v := .bool r4) rfl rfl rfl (Want.none rfl) (K.func rfl co27) (fun w hs => by rw [hr4]; exact bit_c b 2 w (by decide)) ?_
    refine Sd.all [7] (by kernel_rfl) (by decide) (all_cons ?_ all_nil)
    refine Sp.callV (v := .bool r5) rfl rfl rfl (Want.none rfl) (K.func rfl co27) (fun w hs => by rw [hr5]; exact bit_c b 3 w (by decide)) ?_
    refine Sd.all [9] (by kernel_rfl) (by decide) (all_cons ?_ all_nil)
    refine Sp.callV (v := .bool r6) rfl rfl rfl (Want.none rfl) (K.func rfl co27) (fun w hs => by rw [hr6]; exact bit_c b 4 w (by decide)) ?_
    refine Sd.all [11] (by kernel_rfl) (by decide) (all_cons ?_ all_nil)
    refine Sp.callV (v := .bool r7) rfl rfl rfl (Want.none rfl) (K.func rfl co27) (fun w hs => by rw [hr7]; exact bit_c b 5 w (by decide)) ?_
    refine Sd.take 12 rfl rfl rfl (by kernel_rfl) (by kernel_rfl) (by kernel_rfl) Cut.panic (Want.none rfl) (Y.unOp rfl (U.not _)) ?_
    refine Sd.all [14] (by kernel_rfl) (by decide) (all_cons ?_ all_nil)
    refine Sp.callV (v := .bool r8) rfl rfl rfl (Want.none rfl) (K.func rfl co27) (fun w hs => by rw [hr8]; exact bit_c b 6 w (by decide)) ?_
    refine Sd.take 15 rfl rfl rfl (by kernel_rfl) (by kernel_rfl) (by kernel_rfl) Cut.panic (Want.none rfl) (Y.unOp rfl (U.not _)) ?_
    refine Sd.all [17] (by kernel_rfl) (by decide) (all_cons ?_ all_nil)
    refine Sp.callV (v := .bool r9) rfl rfl rfl (Want.none rfl) (K.func rfl co27) (fun w hs => by rw [hr9]; exact bit_c b 7 w (by decide)) ?_
    refine Sd.all [19] (by kernel_rfl) (by decide) (all_cons ?_ all_nil)
    refine Sp.callV (v := .bool r10) rfl rfl rfl (Want.none rfl) (K.func rfl co27) (fun w hs => by rw [hr10]; exact bit_c b 8 w (by decide)) ?_
    refine Sd.all [21] (by kernel_rfl) (by decide) (all_cons ?_ all_nil)
    refine Sp.callV (v := .bool r11) rfl rfl rfl (Want.none rfl) (K.func rfl co27) (fun w hs => by rw [hr11]; exact bit_c b 9 w (by decide)) ?_
    refine Sd.all [23] (by kernel_rfl) (by decide) (all_cons ?_ all_nil)
    refine Sp.callV (v := .bool r12) rfl rfl rfl (Want.none rfl) (K.func rfl co27) (fun w hs => by rw [hr12]; exact bit_c b 10 w (by decide)) ?_
    refine Sd.all [25] (by kernel_rfl) (by decide) (all_cons ?_ all_nil)
    refine Sp.callV (v := .bool r13) rfl rfl rfl (Want.none rfl) (K.func rfl co27) (fun w hs => by rw [hr13]; exact bit_c b 11 w (by decide)) ?_
    refine Sd.take 31 rfl rfl rfl (by kernel_rfl) (by kernel_rfl) (by kernel_rfl) Cut.panic (Want.none rfl) (Y.build (v := .agg (List.toArray [.bool r2, .bool r3, .bool r4, .bool r5, .bool r6, .bool (!r7), .bool (!r8), .bool r9, .bool r10, .bool r11, .bool r12, .int .i64 (([0, 0, 0, 0, 9, 1000, 1002, 1003] : List Int).getD (Int.tmod (Int.fdiv b (2 ^ min (12 : Int).toNat 16)) 8).toNat 0), .bool r13])) rfl (fun w => by kernel_rfl)) ?_
    refine Sd.all [32] (by kernel_rfl) (by decide) (all_cons ?_ all_nil)
    refine Sp.chgs rfl rfl (Want.none rfl) (C.store (cs' := [.bool r2, .bool r3, .bool r4, .bool r5, .bool r6, .bool (!r7), .bool (!r8), .bool r9, .bool r10, .bool r11, .bool r12, .int .i64 (([0, 0, 0, 0, 9, 1000, 1002, 1003] : List Int).getD (Int.tmod (Int.fdiv b (2 ^ min (12 : Int).toNat 16)) 8).toNat 0), .bool r13]) (vs := [.bool r2, .bool r3, .bool r4, .bool r5, .bool r6, .bool (!r7), .bool (!r8), .bool r9, .bool r10, .bool r11, .bool r12, .int .i64 (([0, 0, 0, 0, 9, 1000, 1002, 1003] : List Int).getD (Int.tmod (Int.fdiv b (2 ^ min (12 : Int).toNat 16)) 8).toNat 0), .bool r13]) 0 rfl rfl rfl rfl rfl rfl rfl sz23) (fun _ _ _ h => St.lean [] (by decide) (fun _ h => h) h rfl) (fun _ _ => ?_)
    refine Sd.done (by kernel_rfl) ?_
    exact Sx.cut () trivial ⟨rfl, trivial⟩ [0] (by decide) rfl (fun _ h => h)
  · intro _ _
    show Sx _ _ _ [(2, .pointer (some ⟨b1, 0, none⟩))] [(some b1, .cells (List.toArray [.bool r2, .bool r3, .bool r4, .bool r5, .bool r6, .bool (!r7), .bool (!r8), .bool r9, .bool r10, .bool r11, .bool r12, .int .i64 (([0, 0, 0, 0, 9, 1000, 1002, 1003] : List Int).getD (Int.tmod (Int.fdiv b (2 ^ min (12 : Int).toNat 16)) 8).toNat 0), .bool r13]) 23 (0, 0))] _
    refine Sx.next ?_
    refine Sc.ret ?_
    refine Sx.body (.inl rfl) (res1 rfl (Rv.cell (vs := [.bool r2, .bool r3, .bool r4, .bool r5, .bool r6, .bool (!r7), .bool (!r8), .bool r9, .bool r10, .bool r11, .bool r12, .int .i64 (([0, 0, 0, 0, 9, 1000, 1002, 1003] : List Int).getD (Int.tmod (Int.fdiv b (2 ^ min (12 : Int).toNat 16)) 8).toNat 0), .bool r13]) 0 rfl rfl rfl rfl ag23 sz23)) (fun w hs => ?_)
    refine RetV.eq ?_ hs
    subst hr2
    subst hr3
    subst hr4
    subst hr5
    subst hr6
    subst hr7
    subst hr8
    subst hr9
    subst hr10
    subst hr11
    subst hr12
    subst hr13
    rfl
end Go.Proofs.Ythmigjicibhheaa
