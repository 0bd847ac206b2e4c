/- The law ParamKnown: for every input the call returns true, and the arguments read behind it as they read before. No condition. -/
import Derived.Test.YtadmkfclgpbebaaDoorX10
namespace Go.Proofs.YtadmkfclgpbebaaDoor
set_option linter.all false
open Go Go.Sx
set_option maxRecDepth 100000
set_option linter.unusedVariables false
set_option linter.unusedSimpArgs false
def rowsS (j : Int) : List (Option (List Int)) → List UInt8
  | [] => []
  | p :: r => rowS j 0 (el p) ++ rowsS (j + 1) r
theorem rows_pre {j n : Int} {l : Option (List (Option (List Int)))} (hn : n = ((el l).length : Int)) (hj : 0 ≤ j) : ¬j < n ∨ (rowsS j ((el l).drop j.toNat)).length = (rowS j 0 (el ((el l).getD j.toNat default))).length + (rowsS (j + 1) ((el l).drop (j + 1).toNat)).length := by
  by_cases h : j < n
  · refine .inr ?_
    rw [drop_step (el l) hj (by omega)]
    exact List.length_append
  · exact .inl h
def pou_s : List U → Option (Nat × List U)
  | [u_l, .int .i64 n, .int .i64 j, u_b] => (decS rP u_l).bind fun l => (decS rB u_b).bind fun b => if n = ((el l).length : Int) ∧ 0 ≤ j ∧ j ≤ n ∧ n ≤ 1000000 ∧ (el b).length + (rowsS j ((el l).drop j.toNat)).length ≤ 100000000 ∧ ∀ p ∈ el l, (el p).length ≤ 1000000 ∧ ∀ x ∈ el p, -1 ≤ x ∧ x ≤ 1000000000 then some (0, [encS rB (catS b (some (bI (rowsS j ((el l).drop j.toNat)))))]) else none
  | _ => none
theorem pou_s_e (l : (Option (List (Option (List Int))))) (n : Int) (j : Int) (b : (Option (List Int))) (hc : n = ((el l).length : Int) ∧ 0 ≤ j ∧ j ≤ n ∧ n ≤ 1000000 ∧ (el b).length + (rowsS j ((el l).drop j.toNat)).length ≤ 100000000 ∧ ∀ p ∈ el l, (el p).length ≤ 1000000 ∧ ∀ x ∈ el p, -1 ≤ x ∧ x ≤ 1000000000) : pou_s [encS rP l, .int .i64 n, .int .i64 j, encS rB b] = some (0, [encS rB (catS b (some (bI (rowsS j ((el l).drop j.toNat)))))]) := by
  simp only [pou_s, decS_enc, Option.bind_some]
  exact if_pos hc
def pou_D : LoopD := ⟨[(0, yv 8), (9, dat 9 0 11), (10, h 1 3), (11, h 2 3)], [(8, .lp 25 [true, true, true, false, true, false] [junk, junk, junk, junk, junk, .pointer (some ⟨5, 0, none⟩), junk, junk, junk, junk, junk, junk, junk, junk, junk, junk, junk, junk, junk, junk, junk, junk] 0), (5, .cells 71 [.pointer (some ⟨5, 0, none⟩), own 10 3 11]), (10, .sq 3 11 5 11), (9, .frz), (11, .frz)], 4, [⟨.exit 0, [(0, yv 8)], [(8, .lp 25 [true, true, true, false, true, false] [junk, junk, junk, junk, junk, .pointer (some ⟨5, 0, none⟩), junk, junk, junk, junk, junk, junk, junk, junk, junk, junk, junk, junk, junk, junk, junk, junk] 0), (5, .cells 71 [.pointer (some ⟨5, 0, none⟩), own 12 0 11]), (12, .sq 0 11 5 13), (13, .frz)], 1⟩]⟩
noncomputable def pou_B : Code := (Tryd.f60.body).getD .skip
noncomputable def pou_x : Code := match codeAt [true, false] pou_B with | some (.loop x) => x | _ => .skip
theorem pou_b : Tryd.f60.body = some pou_B := rfl
theorem pou_p : codeAt [true, false] pou_B = some (.loop pou_x) := by kernel_rfl
def pou_t : Tr := .lt 8 (.bin .lss) [h 2 3, h 1 3] <| .br 4 (.lt 8 (.inbs 1) [h 2 3, h 0 11] <| .br 5 (.dt 11 (.get 1 0) [h 0 11, h 2 3] <| .lt 3 (.len) [h 6 11] <| .fn pin_s [h 2 3, h 0 11, h 1 3, h 2 3, h 6 11, h 7 3, .int .i64 (0), h 3 11] 4 <| .lt 3 (.bin .add) [h 10 3, .int .i64 (1)] <| .ret [.int .i64 (-1), h 8 11, h 9 3, h 12 3, h 11 11]) (.no)) (.ret [.int .i64 (0), h 3 11])
def pou_m : List U → Nat
  | [u_l, .int .i64 n, .int .i64 j, u_b] => (match decS rP u_l with | some l => (match decS rB u_b with | some b => (n - j).toNat | none => 0) | none => 0)
  | _ => 0
theorem pou_me (l : (Option (List (Option (List Int))))) (n : Int) (j : Int) (b : (Option (List Int))) : pou_m [encS rP l, .int .i64 n, .int .i64 j, encS rB b] = (n - j).toNat := by
  simp only [pou_m, decS_enc]
theorem pou_c {G : Nat → Option Obj} (hst : StartOk Tryd.prog G gl H0 n0) : ∀ (E : Nat → U) (base : Nat), @CodeOk ⟨E, G⟩ Tryd.prog base gl Tryd.f60.ntmps pou_x (loopF Tryd.prog gl n0 14 pou_D pou_s) := by
  refine loop_ok (C := cx L_ito P_pin) (dep := 60) (f := 60) (n0 := n0) (nB := 14) (H0 := H0) pou_m pou_t (cxg (L_ito_ok hst) (P_pin_ok hst)) hst Tryd.func60 pou_b pou_p (by kernel_rfl) (by kernel_rfl) (by kernel_rfl) ?_
  intro us d outs hs
  have hs0 := hs
  unfold pou_s at hs
  split at hs
  · skip
    rename_i u_l n j u_b
    have hq_l := Option.bind_eq_some_iff.1 hs
    clear hs
    obtain ⟨l, hd_l, hs⟩ := hq_l
    replace hd_l := decS_eq hd_l
    subst hd_l
    have hq_b := Option.bind_eq_some_iff.1 hs
    clear hs
    obtain ⟨b, hd_b, hs⟩ := hq_b
    replace hd_b := decS_eq hd_b
    subst hd_b
    split at hs
    · rename_i hc
      clear hs hs0
      have hr := hc.2.2.2.2.1
      have hq := rows_pre hc.1 hc.2.1
      refine ⟨rfl, ?_⟩
      unfold pou_t
      refine s0 (.cons 3 _ (.cons 2 _ (.cons 1 _ (.cons 0 _ (.nil))))) rfl (by simp [Ev.ok, Ev.len]) ?_
      refine s1 (ev_lss _ _ _) rfl rfl rfl ?_
      first | refine s5 rfl (fun g0 => ?_) (fun g0 => ?_) | refine s5B rfl (fun g0 => ?_) (fun g0 => ?_)
      · refine s7 [.int .i64 _, encS rB _] rfl ?_
        refine leaf_exit (d := 0) ?_
        rw [pou_s_e l n j b hc, drop_end (i := j) (el l) (by omega)]; rfl
      refine s1 (ev_inbsS rfl) rfl rfl rfl ?_
      first | refine s5 rfl (fun g1 => ?_) (fun g1 => ?_) | refine s5B rfl (fun g1 => ?_) (fun g1 => ?_)
      · refine s8 ?_
        first | omega | (simp_all; done) | (simp_all; omega)
      refine s2 (r := rI) (ev_getS rfl (by omega) (by omega) rfl) rfl rfl ?_
      refine s1 (ev_lenS _ _) rfl rfl rfl ?_
      refine s3 (pin_s_e _ _ _ _ _ _ _ _ ⟨rfl, by omega, by omega, by have := (all_get hc.2.2.2.2.2 (i := j) (by omega) (by omega)).1; omega, by omega, by omega, by show _ + (rowS j 0 (el ((el l).getD j.toNat default))).length ≤ _; omega, (all_get hc.2.2.2.2.2 (by omega) (by omega)).2⟩) rfl ?_
      show Tr.sav _ _ (.cons 11 _ (.cons 10 _ (.cons 9 _ (.cons 8 _ _))))
      first | refine s1 (ev_addW (wrap64 (by omega) (by omega))) rfl rfl rfl ?_ | refine s1 (ev_add _ _ _) rfl rfl rfl ?_
      refine s7 [.int .i64 _, encS rP _, .int .i64 _, .int .i64 _, encS rB _] rfl ?_
      refine leaf_back ?_ ?_
      have hl : (rowsS j ((el l).drop j.toNat)) = rowS j 0 (el ((el l).getD j.toNat default)) ++ rowsS (j + 1) ((el l).drop (j + 1).toNat) := by rw [drop_step (el l) hc.2.1 (by omega)]; rfl
      have hz : ∀ q : Option (List Int), (el q).drop (0 : Int).toNat = el q := fun q => rfl
      · rw [pou_s_e l n (j + 1) _ ⟨hc.1, by omega, by omega, hc.2.2.2.1, by rw [el_catS, el_some, List.length_append, bI_len, hz]; rw [hl, List.length_append] at hr; omega, hc.2.2.2.2.2⟩, pou_s_e l n j b hc, catS_catS, ← bI_app, hz, hl]
      · rw [pou_me, pou_me]; omega
    · cases hs
  · cases hs
noncomputable def P_pou : List LpE := (60, ([true, false], loopF Tryd.prog gl n0 14 pou_D pou_s)) :: P_pin
theorem P_pou_ok {G : Nat → Option Obj} (hst : StartOk Tryd.prog G gl H0 n0) : LpsOk Tryd.prog G gl P_pou := .cons Tryd.func60 pou_b pou_p (pou_c hst) (P_pin_ok hst)
end Go.Proofs.YtadmkfclgpbebaaDoor

namespace Go.Proofs.YtadmkfclgpbebaaDoor
set_option linter.all false
open Go Go.Sx
set_option maxRecDepth 100000
set_option linter.unusedVariables false
set_option linter.unusedSimpArgs false
def printS (l : Rws) : List UInt8 × Int := if checkS l ≠ 0 then ([], checkS l) else (rowsS 0 (el l), 0)
theorem rng_none : ∀ n ∈ el (none : Option (List Int)), 0 ≤ n ∧ n < 256 := fun n h => by cases h
theorem rng_cat {x : Option (List Int)} {s : List UInt8} (h : ∀ n ∈ el x, 0 ≤ n ∧ n < 256) : ∀ n ∈ el (catS x (some (bI s))), 0 ≤ n ∧ n < 256 := fun n hn => by
  rw [el_catS] at hn
  rcases List.mem_append.1 hn with h1 | h1
  · exact h n h1
  · exact bI_rng h1
theorem part_len {n : Int} (h0 : -1 ≤ n) (h1 : n ≤ 9999) : (partS n).length ≤ 21 := by
  unfold partS
  split
  · decide
  · exact Lib.itoa_length_le n (by omega) (by omega)
theorem row_len : ∀ {i k : Int} {r : List Int}, (∀ n ∈ r, -1 ≤ n ∧ n ≤ 9999) → (rowS i k r).length ≤ 22 * r.length
  | i, k, [], _ => Nat.zero_le _
  | i, k, n :: r, h => by
    have h1 := h n List.mem_cons_self
    have h2 := part_len h1.1 h1.2
    have h3 := ahead_len i k
    have ih := row_len (i := i) (k := k + 1) fun m hm => h m (List.mem_cons_of_mem _ hm)
    rw [row_cons]
    simp only [List.length_append, List.length_cons]
    omega
theorem rows_len : ∀ {j : Int} {ps : List (Option (List Int))}, (∀ p ∈ ps, (el p).length ≤ 6 ∧ ∀ n ∈ el p, -1 ≤ n ∧ n ≤ 9999) → (rowsS j ps).length ≤ 132 * ps.length
  | j, [], _ => Nat.zero_le _
  | j, p :: ps, h => by
    have h1 := h p List.mem_cons_self
    have h2 := row_len (i := j) (k := 0) h1.2
    have ih := rows_len (j := j + 1) fun q hq => h q (List.mem_cons_of_mem _ hq)
    have : (rowsS j (p :: ps)).length = (rowS j 0 (el p)).length + (rowsS (j + 1) ps).length := List.length_append
    simp only [List.length_cons]
    omega
theorem prt_all (l : Rws) (h : checkS l = 0) : ∀ p ∈ el l, (el p).length ≤ 1000000 ∧ ∀ x ∈ el p, -1 ≤ x ∧ x ≤ 1000000000 := fun p hp => by
  rcases check_bd l with h1 | ⟨_, _, h3⟩
  · omega
  · obtain ⟨_, b, c⟩ := h3 p hp
    exact ⟨by omega, fun x hx => by have := c x hx; omega⟩
theorem prt_pre (l : Rws) : checkS l = 150 ∨ checkS l = 0 ∧ (el l).length ≤ 16 ∧ (((el l).length : Int) = 0 ∨ 1 ≤ (el ((el l).getD (Int.toNat 0) default)).length ∧ (el ((el l).getD (Int.toNat 0) default)).length ≤ 6 ∧
    -1 ≤ (el ((el l).getD (Int.toNat 0) default)).getD (Int.toNat 0) default ∧ (el ((el l).getD (Int.toNat 0) default)).getD (Int.toNat 0) default ≤ 9999 ∧ (Lib.itoa ((el ((el l).getD (Int.toNat 0) default)).getD (Int.toNat 0) default)).length ≤ 21 ∧
    (rowS 0 1 ((el ((el l).getD (Int.toNat 0) default)).drop (Int.toNat 1))).length ≤ 132 ∧ (rowsS (0 + 1) ((el l).drop (0 + 1 : Int).toNat)).length ≤ 2112) := by
  rcases check_bd l with h1 | ⟨h1, h2, h3⟩
  · exact .inl h1
  · refine .inr ⟨h1, h2, ?_⟩
    by_cases h0 : ((el l).length : Int) = 0
    · exact .inl h0
    · obtain ⟨a, b, c⟩ := all_get (i := 0) h3 (by omega) (by omega)
      have d := all_get (i := 0) c (by omega) (by omega)
      refine .inr ⟨a, b, d.1, d.2, Lib.itoa_length_le _ (by omega) (by omega), ?_, ?_⟩
      · refine Nat.le_trans (row_len fun n hn => c n (List.mem_of_mem_drop hn)) ?_
        rw [List.length_drop]; omega
      · refine Nat.le_trans (rows_len fun p hp => (h3 p (List.mem_of_mem_drop hp)).2) ?_
        rw [List.length_drop]; omega
theorem prt_fin {l : Rws} (h0 : 0 < (el l).length) (h1 : 0 < (el ((el l).getD (Int.toNat 0) default)).length) (A : List UInt8) (hA : A = partS ((el ((el l).getD (Int.toNat 0) default)).getD (Int.toNat 0) default)) :
    iB (el (catS (catS (catS none (some (bI A))) (some (bI (rowS 0 1 ((el ((el l).getD (Int.toNat 0) default)).drop (Int.toNat 1)))))) (some (bI (rowsS (0 + 1) ((el l).drop (0 + 1 : Int).toNat)))))) = rowsS 0 (el l) := by
  have e1 : rowsS 0 (el l) = rowS 0 0 (el ((el l).getD (Int.toNat 0) default)) ++ rowsS (0 + 1) ((el l).drop (0 + 1 : Int).toNat) := by
    have := drop_step (el l) (i := 0) (by omega) (by omega)
    rw [drop_zero'] at this
    conv => lhs; rw [this]
    rfl
  have e2 : rowS 0 0 (el ((el l).getD (Int.toNat 0) default)) = A ++ rowS 0 1 ((el ((el l).getD (Int.toNat 0) default)).drop (Int.toNat 1)) := by
    have := drop_step (el ((el l).getD (Int.toNat 0) default)) (i := 0) (by omega) (by omega)
    rw [drop_zero'] at this
    conv => lhs; rw [this]
    rw [row_cons, hA]
    rfl
  rw [e1, e2, catS_catS, catS_catS, ← bI_app, ← bI_app, el_catS, el_some]
  show iB ([] ++ bI _) = _
  rw [List.nil_append, iB_bI, List.append_assoc]
theorem print_0 (l : Rws) (h : checkS l ≠ 0) : printS l = ([], checkS l) := if_pos h
theorem print_1 (l : Rws) (h : checkS l = 0) : printS l = (rowsS 0 (el l), 0) := if_neg (by omega)
def prt_s : List U → Option (Nat × List U)
  | [u_l] => (decS rP u_l).bind fun l => if (el l).length ≤ 1000000000 ∧ ∀ p ∈ el l, (el p).length ≤ 1000000000 then some (0, [.str ((printS l).1), .int .i64 ((printS l).2)]) else none
  | _ => none
theorem prt_s_e (l : (Option (List (Option (List Int))))) (hc : (el l).length ≤ 1000000000 ∧ ∀ p ∈ el l, (el p).length ≤ 1000000000) : prt_s [encS rP l] = some (0, [.str ((printS l).1), .int .i64 ((printS l).2)]) := by
  simp only [prt_s, decS_enc, Option.bind_some]
  exact if_pos hc
def prt_t : Tr := .fn chk_s [h 0 11] 1 <| .lt 8 (.bin .neq) [h 1 3, .int .i64 (0)] <| .br 2 (.ret [.string ⟨⟨[]⟩⟩, h 1 3]) (.lt 3 (.len) [h 0 11] <| .lt 8 (.bin .lss) [.int .i64 (0), h 3 3] <| .br 4 (.lt 8 (.inbs 1) [.int .i64 (0), h 0 11] <| .br 5 (.dt 11 (.get 1 0) [h 0 11, .int .i64 (0)] <| .lt 3 (.len) [h 6 11] <| .lt 8 (.bin .lss) [.int .i64 (0), h 7 3] <| .br 8 (.lt 8 (.inbs 1) [.int .i64 (0), h 6 11] <| .br 9 (.lt 3 (.get 1 0) [h 6 11, .int .i64 (0)] <| .lt 8 (.bin .neq) [h 10 3, .int .i64 (-1)] <| .br 11 (.fn ito_s [h 10 3] 1 <| .lt 9 (.bin .add) [.string ⟨⟨[]⟩⟩, h 12 9] <| .dt 11 (.nilw 1) [] <| .dt 11 (.cats) [h 14 11, h 13 9] <| .lt 3 (.len) [h 13 9] <| .fn pin_s [.int .i64 (0), h 0 11, h 3 3, .int .i64 (0), h 6 11, h 7 3, .int .i64 (1), h 15 11] 4 <| .lt 3 (.bin .add) [h 19 3, .int .i64 (1)] <| .fn pou_s [h 17 11, h 18 3, h 21 3, h 20 11] 1 <| .lt 3 (.len) [h 22 11] <| .lt 9 (.ustr) [h 22 11, h 23 3] <| .ret [h 24 9, .int .i64 (0)]) (.dt 11 (.nilw 1) [] <| .fn pin_s [.int .i64 (0), h 0 11, h 3 3, .int .i64 (0), h 6 11, h 7 3, .int .i64 (1), h 12 11] 4 <| .lt 3 (.bin .add) [h 15 3, .int .i64 (1)] <| .fn pou_s [h 13 11, h 14 3, h 17 3, h 16 11] 1 <| .lt 3 (.len) [h 18 11] <| .lt 9 (.ustr) [h 18 11, h 19 3] <| .ret [h 20 9, .int .i64 (0)])) (.no)) (.lt 8 (.bin .lss) [.int .i64 (1), h 3 3] <| .br 9 (.lt 8 (.inbs 1) [.int .i64 (1), h 0 11] <| .br 10 (.dt 11 (.get 1 0) [h 0 11, .int .i64 (1)] <| .lt 3 (.len) [h 11 11] <| .lt 8 (.bin .lss) [.int .i64 (0), h 12 3] <| .br 13 (.lt 8 (.inbs 1) [.int .i64 (0), h 11 11] <| .br 14 (.lt 3 (.get 1 0) [h 11 11, .int .i64 (0)] <| .lt 8 (.bin .neq) [h 15 3, .int .i64 (-1)] <| .br 16 (.fn ito_s [h 15 3] 1 <| .lt 9 (.bin .add) [.string ⟨⟨[59]⟩⟩, h 17 9] <| .dt 11 (.nilw 1) [] <| .dt 11 (.cats) [h 19 11, h 18 9] <| .lt 3 (.len) [h 18 9] <| .fn pin_s [.int .i64 (1), h 0 11, h 3 3, .int .i64 (1), h 11 11, h 12 3, .int .i64 (1), h 20 11] 4 <| .lt 3 (.bin .add) [h 24 3, .int .i64 (1)] <| .fn pou_s [h 22 11, h 23 3, h 26 3, h 25 11] 1 <| .lt 3 (.len) [h 27 11] <| .lt 9 (.ustr) [h 27 11, h 28 3] <| .ret [h 29 9, .int .i64 (0)]) (.dt 11 (.mk 1) [.int .u8 (59)] <| .fn pin_s [.int .i64 (1), h 0 11, h 3 3, .int .i64 (1), h 11 11, h 12 3, .int .i64 (1), h 17 11] 4 <| .lt 3 (.bin .add) [h 20 3, .int .i64 (1)] <| .fn pou_s [h 18 11, h 19 3, h 22 3, h 21 11] 1 <| .lt 3 (.len) [h 23 11] <| .lt 9 (.ustr) [h 23 11, h 24 3] <| .ret [h 25 9, .int .i64 (0)])) (.no)) (.lt 8 (.bin .lss) [.int .i64 (2), h 3 3] <| .br 14 (.lt 8 (.inbs 1) [.int .i64 (2), h 0 11] <| .br 15 (.dt 11 (.get 1 0) [h 0 11, .int .i64 (2)] <| .lt 3 (.len) [h 16 11] <| .lt 8 (.bin .lss) [.int .i64 (0), h 17 3] <| .br 18 (.lt 8 (.inbs 1) [.int .i64 (0), h 16 11] <| .br 19 (.lt 3 (.get 1 0) [h 16 11, .int .i64 (0)] <| .lt 8 (.bin .neq) [h 20 3, .int .i64 (-1)] <| .br 21 (.fn ito_s [h 20 3] 1 <| .lt 9 (.bin .add) [.string ⟨⟨[59]⟩⟩, h 22 9] <| .dt 11 (.nilw 1) [] <| .dt 11 (.cats) [h 24 11, h 23 9] <| .lt 3 (.len) [h 23 9] <| .fn pin_s [.int .i64 (2), h 0 11, h 3 3, .int .i64 (2), h 16 11, h 17 3, .int .i64 (1), h 25 11] 4 <| .lt 3 (.bin .add) [h 29 3, .int .i64 (1)] <| .fn pou_s [h 27 11, h 28 3, h 31 3, h 30 11] 1 <| .lt 3 (.len) [h 32 11] <| .lt 9 (.ustr) [h 32 11, h 33 3] <| .ret [h 34 9, .int .i64 (0)]) (.dt 11 (.mk 1) [.int .u8 (59)] <| .fn pin_s [.int .i64 (2), h 0 11, h 3 3, .int .i64 (2), h 16 11, h 17 3, .int .i64 (1), h 22 11] 4 <| .lt 3 (.bin .add) [h 25 3, .int .i64 (1)] <| .fn pou_s [h 23 11, h 24 3, h 27 3, h 26 11] 1 <| .lt 3 (.len) [h 28 11] <| .lt 9 (.ustr) [h 28 11, h 29 3] <| .ret [h 30 9, .int .i64 (0)])) (.no)) (.lt 8 (.bin .lss) [.int .i64 (3), h 3 3] <| .br 19 (.no) (.ret [.string ⟨⟨[]⟩⟩, .int .i64 (0)]))) (.no)) (.ret [.string ⟨⟨[]⟩⟩, .int .i64 (0)]))) (.no)) (.ret [.string ⟨⟨[]⟩⟩, .int .i64 (0)]))) (.no)) (.ret [.string ⟨⟨[]⟩⟩, .int .i64 (0)]))
theorem prt_c {G : Nat → Option Obj} (hst : StartOk Tryd.prog G gl H0 n0) : ConOk Tryd.prog G 25 [.s 11] prt_s [.s 9, .s 3] := by
  refine con_of_tree (C := cx L_ito P_pou) (d := 60) prt_t (cxg (L_ito_ok hst) (P_pou_ok hst)) hst ⟨Tryd.f25, _, Tryd.func25, rfl⟩ (by kernel_rfl) (by kernel_rfl) ?_
  intro us outs hs
  unfold prt_s at hs
  split at hs
  · skip
    rename_i u_l
    have hq_l := Option.bind_eq_some_iff.1 hs
    clear hs
    obtain ⟨l, hd_l, hs⟩ := hq_l
    replace hd_l := decS_eq hd_l
    subst hd_l
    split at hs
    · rename_i hc
      cases hs
      have hb := prt_pre l
      have hn0 : (el (none : Option (List Int))).length = 0 := rfl
      unfold prt_t
      refine s0 (.cons 0 _ (.nil)) rfl (by simp [Ev.ok, Ev.len]) ?_
      refine s31 (chk_s_e _ (by omega)) rfl ?_
      refine s1 (ev_neq _ _ _) rfl rfl rfl ?_
      first | refine s4 rfl (fun g0 => ?_) (fun g0 => ?_) | refine s4B rfl (fun g0 => ?_) (fun g0 => ?_)
      · refine s7 [.str _, .int .i64 _] rfl ?_
        first | (exfalso; omega) | (rw [print_0 l (by omega)]; done) | (rw [print_1 l (by omega), show el l = [] from List.length_eq_zero_iff.1 (by omega)]; rfl) | (rw [print_1 l (by omega)]; exact congrArg (fun s => [U.str s, U.int .i64 0]) (prt_fin (by omega) (by omega) _ (by clear hb hc; generalize (el ((el l).getD (Int.toNat 0) default)).getD (Int.toNat 0) default = g at *; simp [partS, *]))) | (rw [print_1 l (by omega)]; exact congrArg (fun s => [U.str s, U.int .i64 0]) (prt_fin (l := l) (by omega) (by omega) [] (by clear hb hc; generalize (el ((el l).getD (Int.toNat 0) default)).getD (Int.toNat 0) default = g at *; simp [partS, *])))
      refine s1 (ev_lenS _ _) rfl rfl rfl ?_
      refine s1 (ev_lss _ _ _) rfl rfl rfl ?_
      first | refine s5 rfl (fun g1 => ?_) (fun g1 => ?_) | refine s5B rfl (fun g1 => ?_) (fun g1 => ?_)
      · refine s7 [.str _, .int .i64 _] rfl ?_
        first | (exfalso; omega) | (rw [print_0 l (by omega)]; done) | (rw [print_1 l (by omega), show el l = [] from List.length_eq_zero_iff.1 (by omega)]; rfl) | (rw [print_1 l (by omega)]; exact congrArg (fun s => [U.str s, U.int .i64 0]) (prt_fin (by omega) (by omega) _ (by clear hb hc; generalize (el ((el l).getD (Int.toNat 0) default)).getD (Int.toNat 0) default = g at *; simp [partS, *]))) | (rw [print_1 l (by omega)]; exact congrArg (fun s => [U.str s, U.int .i64 0]) (prt_fin (l := l) (by omega) (by omega) [] (by clear hb hc; generalize (el ((el l).getD (Int.toNat 0) default)).getD (Int.toNat 0) default = g at *; simp [partS, *])))
      refine s1 (ev_inbsS rfl) rfl rfl rfl ?_
      first | refine s5 rfl (fun g2 => ?_) (fun g2 => ?_) | refine s5B rfl (fun g2 => ?_) (fun g2 => ?_)
      · refine s8 ?_
        first | omega | (simp_all; done) | (simp_all; omega)
      refine s2 (r := rI) (ev_getS rfl (by omega) (by omega) rfl) rfl rfl ?_
      refine s1 (ev_lenS _ _) rfl rfl rfl ?_
      refine s1 (ev_lss _ _ _) rfl rfl rfl ?_
      first | refine s4 rfl (fun g3 => ?_) (fun g3 => ?_) | refine s4B rfl (fun g3 => ?_) (fun g3 => ?_)
      · refine s1 (ev_inbsS rfl) rfl rfl rfl ?_
        first | refine s5 rfl (fun g4 => ?_) (fun g4 => ?_) | refine s5B rfl (fun g4 => ?_) (fun g4 => ?_)
        · refine s8 ?_
          first | omega | (simp_all; done) | (simp_all; omega)
        refine s1 (u := .int .i64 _) (ev_getS rfl (by omega) (by omega) rfl) rfl rfl rfl ?_
        refine s1 (ev_neq _ _ _) rfl rfl rfl ?_
        first | refine s4 rfl (fun g5 => ?_) (fun g5 => ?_) | refine s4B rfl (fun g5 => ?_) (fun g5 => ?_)
        · refine s31 (ito_s_e _ (by omega)) rfl ?_
          refine s1 (ev_cat _ _ (by first | omega | (simp only [List.length_append, List.length_cons, List.length_nil]; omega) | (simp only [el_catS, el_some, List.length_append, bI_len, List.length_cons, List.length_nil]; omega))) rfl rfl rfl ?_
          refine s2 (r := rB) (ev_nilwS rfl) rfl rfl ?_
          refine s2 (r := rB) (ev_catsS rfl (by first | omega | (simp only [List.length_append, List.length_cons, List.length_nil]; omega) | (simp only [el_catS, el_some, List.length_append, bI_len, List.length_cons, List.length_nil]; omega))) rfl rfl ?_
          refine s1 (ev_len _) rfl rfl rfl ?_
          refine s3 (pin_s_e _ _ _ _ _ _ _ _ ⟨rfl, by omega, by omega, by omega, by omega, by omega, by first | omega | (simp only [el_catS, el_some, List.length_append, bI_len, List.length_nil, List.length_cons]; omega), by first | exact (all_get (prt_all l (by omega)) (i := 0) (by omega) (by omega)).2 | (exfalso; omega)⟩) rfl ?_
          show Tr.sav _ _ (.cons 20 _ (.cons 19 _ (.cons 18 _ (.cons 17 _ _))))
          first | refine s1 (ev_addW (wrap64 (by omega) (by omega))) rfl rfl rfl ?_ | refine s1 (ev_add _ _ _) rfl rfl rfl ?_
          refine s31 (pou_s_e _ _ _ _ ⟨rfl, by omega, by omega, by omega, by first | omega | (simp only [el_catS, el_some, List.length_append, bI_len, List.length_nil, List.length_cons]; omega), prt_all l (by omega)⟩) rfl ?_
          refine s1 (ev_lenS _ _) rfl rfl rfl ?_
          refine s1 (ev_ustrS rfl (by omega) (by first | omega | (simp only [List.length_append, List.length_cons, List.length_nil]; omega) | (simp only [el_catS, el_some, List.length_append, bI_len, List.length_cons, List.length_nil]; omega)) (by first | exact rng_none | exact rng_cat rng_none | exact rng_cat (rng_cat rng_none) | exact rng_cat (rng_cat (rng_cat rng_none)) | (exfalso; omega))) rfl rfl rfl ?_
          refine s7 [.str _, .int .i64 _] rfl ?_
          first | (exfalso; omega) | (rw [print_0 l (by omega)]; done) | (rw [print_1 l (by omega), show el l = [] from List.length_eq_zero_iff.1 (by omega)]; rfl) | (rw [print_1 l (by omega)]; exact congrArg (fun s => [U.str s, U.int .i64 0]) (prt_fin (by omega) (by omega) _ (by clear hb hc; generalize (el ((el l).getD (Int.toNat 0) default)).getD (Int.toNat 0) default = g at *; simp [partS, *]))) | (rw [print_1 l (by omega)]; exact congrArg (fun s => [U.str s, U.int .i64 0]) (prt_fin (l := l) (by omega) (by omega) [] (by clear hb hc; generalize (el ((el l).getD (Int.toNat 0) default)).getD (Int.toNat 0) default = g at *; simp [partS, *])))
        refine s2 (r := rB) (ev_nilwS rfl) rfl rfl ?_
        refine s3 (pin_s_e _ _ _ _ _ _ _ _ ⟨rfl, by omega, by omega, by omega, by omega, by omega, by first | omega | (simp only [el_catS, el_some, List.length_append, bI_len, List.length_nil, List.length_cons]; omega), by first | exact (all_get (prt_all l (by omega)) (i := 0) (by omega) (by omega)).2 | (exfalso; omega)⟩) rfl ?_
        show Tr.sav _ _ (.cons 16 _ (.cons 15 _ (.cons 14 _ (.cons 13 _ _))))
        first | refine s1 (ev_addW (wrap64 (by omega) (by omega))) rfl rfl rfl ?_ | refine s1 (ev_add _ _ _) rfl rfl rfl ?_
        refine s31 (pou_s_e _ _ _ _ ⟨rfl, by omega, by omega, by omega, by first | omega | (simp only [el_catS, el_some, List.length_append, bI_len, List.length_nil, List.length_cons]; omega), prt_all l (by omega)⟩) rfl ?_
        refine s1 (ev_lenS _ _) rfl rfl rfl ?_
        refine s1 (ev_ustrS rfl (by omega) (by first | omega | (simp only [List.length_append, List.length_cons, List.length_nil]; omega) | (simp only [el_catS, el_some, List.length_append, bI_len, List.length_cons, List.length_nil]; omega)) (by first | exact rng_none | exact rng_cat rng_none | exact rng_cat (rng_cat rng_none) | exact rng_cat (rng_cat (rng_cat rng_none)) | (exfalso; omega))) rfl rfl rfl ?_
        refine s7 [.str _, .int .i64 _] rfl ?_
        first | (exfalso; omega) | (rw [print_0 l (by omega)]; done) | (rw [print_1 l (by omega), show el l = [] from List.length_eq_zero_iff.1 (by omega)]; rfl) | (rw [print_1 l (by omega)]; exact congrArg (fun s => [U.str s, U.int .i64 0]) (prt_fin (by omega) (by omega) _ (by clear hb hc; generalize (el ((el l).getD (Int.toNat 0) default)).getD (Int.toNat 0) default = g at *; simp [partS, *]))) | (rw [print_1 l (by omega)]; exact congrArg (fun s => [U.str s, U.int .i64 0]) (prt_fin (l := l) (by omega) (by omega) [] (by clear hb hc; generalize (el ((el l).getD (Int.toNat 0) default)).getD (Int.toNat 0) default = g at *; simp [partS, *])))
      refine s1 (ev_lss _ _ _) rfl rfl rfl ?_
      first | refine s5 rfl (fun g4 => ?_) (fun g4 => ?_) | refine s5B rfl (fun g4 => ?_) (fun g4 => ?_)
      · refine s7 [.str _, .int .i64 _] rfl ?_
        first | (exfalso; omega) | (rw [print_0 l (by omega)]; done) | (rw [print_1 l (by omega), show el l = [] from List.length_eq_zero_iff.1 (by omega)]; rfl) | (rw [print_1 l (by omega)]; exact congrArg (fun s => [U.str s, U.int .i64 0]) (prt_fin (by omega) (by omega) _ (by clear hb hc; generalize (el ((el l).getD (Int.toNat 0) default)).getD (Int.toNat 0) default = g at *; simp [partS, *]))) | (rw [print_1 l (by omega)]; exact congrArg (fun s => [U.str s, U.int .i64 0]) (prt_fin (l := l) (by omega) (by omega) [] (by clear hb hc; generalize (el ((el l).getD (Int.toNat 0) default)).getD (Int.toNat 0) default = g at *; simp [partS, *])))
      refine s1 (ev_inbsS rfl) rfl rfl rfl ?_
      first | refine s5 rfl (fun g5 => ?_) (fun g5 => ?_) | refine s5B rfl (fun g5 => ?_) (fun g5 => ?_)
      · refine s8 ?_
        first | omega | (simp_all; done) | (simp_all; omega)
      refine s2 (r := rI) (ev_getS rfl (by omega) (by omega) rfl) rfl rfl ?_
      refine s1 (ev_lenS _ _) rfl rfl rfl ?_
      refine s1 (ev_lss _ _ _) rfl rfl rfl ?_
      first | refine s4 rfl (fun g6 => ?_) (fun g6 => ?_) | refine s4B rfl (fun g6 => ?_) (fun g6 => ?_)
      · refine s1 (ev_inbsS rfl) rfl rfl rfl ?_
        first | refine s5 rfl (fun g7 => ?_) (fun g7 => ?_) | refine s5B rfl (fun g7 => ?_) (fun g7 => ?_)
        · refine s8 ?_
          first | omega | (simp_all; done) | (simp_all; omega)
        refine s1 (u := .int .i64 _) (ev_getS rfl (by omega) (by omega) rfl) rfl rfl rfl ?_
        refine s1 (ev_neq _ _ _) rfl rfl rfl ?_
        first | refine s4 rfl (fun g8 => ?_) (fun g8 => ?_) | refine s4B rfl (fun g8 => ?_) (fun g8 => ?_)
        · refine s31 (ito_s_e _ (by omega)) rfl ?_
          refine s1 (ev_cat _ _ (by first | omega | (simp only [List.length_append, List.length_cons, List.length_nil]; omega) | (simp only [el_catS, el_some, List.length_append, bI_len, List.length_cons, List.length_nil]; omega))) rfl rfl rfl ?_
          refine s2 (r := rB) (ev_nilwS rfl) rfl rfl ?_
          refine s2 (r := rB) (ev_catsS rfl (by first | omega | (simp only [List.length_append, List.length_cons, List.length_nil]; omega) | (simp only [el_catS, el_some, List.length_append, bI_len, List.length_cons, List.length_nil]; omega))) rfl rfl ?_
          refine s1 (ev_len _) rfl rfl rfl ?_
          refine s3 (pin_s_e _ _ _ _ _ _ _ _ ⟨rfl, by omega, by omega, by omega, by omega, by omega, by first | omega | (simp only [el_catS, el_some, List.length_append, bI_len, List.length_nil, List.length_cons]; omega), by first | exact (all_get (prt_all l (by omega)) (i := 0) (by omega) (by omega)).2 | (exfalso; omega)⟩) rfl ?_
          show Tr.sav _ _ (.cons 25 _ (.cons 24 _ (.cons 23 _ (.cons 22 _ _))))
          first | refine s1 (ev_addW (wrap64 (by omega) (by omega))) rfl rfl rfl ?_ | refine s1 (ev_add _ _ _) rfl rfl rfl ?_
          refine s31 (pou_s_e _ _ _ _ ⟨rfl, by omega, by omega, by omega, by first | omega | (simp only [el_catS, el_some, List.length_append, bI_len, List.length_nil, List.length_cons]; omega), prt_all l (by omega)⟩) rfl ?_
          refine s1 (ev_lenS _ _) rfl rfl rfl ?_
          refine s1 (ev_ustrS rfl (by omega) (by first | omega | (simp only [List.length_append, List.length_cons, List.length_nil]; omega) | (simp only [el_catS, el_some, List.length_append, bI_len, List.length_cons, List.length_nil]; omega)) (by first | exact rng_none | exact rng_cat rng_none | exact rng_cat (rng_cat rng_none) | exact rng_cat (rng_cat (rng_cat rng_none)) | (exfalso; omega))) rfl rfl rfl ?_
          refine s7 [.str _, .int .i64 _] rfl ?_
          first | (exfalso; omega) | (rw [print_0 l (by omega)]; done) | (rw [print_1 l (by omega), show el l = [] from List.length_eq_zero_iff.1 (by omega)]; rfl) | (rw [print_1 l (by omega)]; exact congrArg (fun s => [U.str s, U.int .i64 0]) (prt_fin (by omega) (by omega) _ (by clear hb hc; generalize (el ((el l).getD (Int.toNat 0) default)).getD (Int.toNat 0) default = g at *; simp [partS, *]))) | (rw [print_1 l (by omega)]; exact congrArg (fun s => [U.str s, U.int .i64 0]) (prt_fin (l := l) (by omega) (by omega) [] (by clear hb hc; generalize (el ((el l).getD (Int.toNat 0) default)).getD (Int.toNat 0) default = g at *; simp [partS, *])))
        refine s2 (r := rB) (ev_mkS [_] rfl (by decide) rfl) rfl rfl ?_
        refine s3 (pin_s_e _ _ _ _ _ _ _ _ ⟨rfl, by omega, by omega, by omega, by omega, by omega, by first | omega | (simp only [el_catS, el_some, List.length_append, bI_len, List.length_nil, List.length_cons]; omega), by first | exact (all_get (prt_all l (by omega)) (i := 0) (by omega) (by omega)).2 | (exfalso; omega)⟩) rfl ?_
        show Tr.sav _ _ (.cons 21 _ (.cons 20 _ (.cons 19 _ (.cons 18 _ _))))
        first | refine s1 (ev_addW (wrap64 (by omega) (by omega))) rfl rfl rfl ?_ | refine s1 (ev_add _ _ _) rfl rfl rfl ?_
        refine s31 (pou_s_e _ _ _ _ ⟨rfl, by omega, by omega, by omega, by first | omega | (simp only [el_catS, el_some, List.length_append, bI_len, List.length_nil, List.length_cons]; omega), prt_all l (by omega)⟩) rfl ?_
        refine s1 (ev_lenS _ _) rfl rfl rfl ?_
        refine s1 (ev_ustrS rfl (by omega) (by first | omega | (simp only [List.length_append, List.length_cons, List.length_nil]; omega) | (simp only [el_catS, el_some, List.length_append, bI_len, List.length_cons, List.length_nil]; omega)) (by first | exact rng_none | exact rng_cat rng_none | exact rng_cat (rng_cat rng_none) | exact rng_cat (rng_cat (rng_cat rng_none)) | (exfalso; omega))) rfl rfl rfl ?_
        refine s7 [.str _, .int .i64 _] rfl ?_
        first | (exfalso; omega) | (rw [print_0 l (by omega)]; done) | (rw [print_1 l (by omega), show el l = [] from List.length_eq_zero_iff.1 (by omega)]; rfl) | (rw [print_1 l (by omega)]; exact congrArg (fun s => [U.str s, U.int .i64 0]) (prt_fin (by omega) (by omega) _ (by clear hb hc; generalize (el ((el l).getD (Int.toNat 0) default)).getD (Int.toNat 0) default = g at *; simp [partS, *]))) | (rw [print_1 l (by omega)]; exact congrArg (fun s => [U.str s, U.int .i64 0]) (prt_fin (l := l) (by omega) (by omega) [] (by clear hb hc; generalize (el ((el l).getD (Int.toNat 0) default)).getD (Int.toNat 0) default = g at *; simp [partS, *])))
      refine s1 (ev_lss _ _ _) rfl rfl rfl ?_
      first | refine s5 rfl (fun g7 => ?_) (fun g7 => ?_) | refine s5B rfl (fun g7 => ?_) (fun g7 => ?_)
      · refine s7 [.str _, .int .i64 _] rfl ?_
        first | (exfalso; omega) | (rw [print_0 l (by omega)]; done) | (rw [print_1 l (by omega), show el l = [] from List.length_eq_zero_iff.1 (by omega)]; rfl) | (rw [print_1 l (by omega)]; exact congrArg (fun s => [U.str s, U.int .i64 0]) (prt_fin (by omega) (by omega) _ (by clear hb hc; generalize (el ((el l).getD (Int.toNat 0) default)).getD (Int.toNat 0) default = g at *; simp [partS, *]))) | (rw [print_1 l (by omega)]; exact congrArg (fun s => [U.str s, U.int .i64 0]) (prt_fin (l := l) (by omega) (by omega) [] (by clear hb hc; generalize (el ((el l).getD (Int.toNat 0) default)).getD (Int.toNat 0) default = g at *; simp [partS, *])))
      refine s1 (ev_inbsS rfl) rfl rfl rfl ?_
      first | refine s5 rfl (fun g8 => ?_) (fun g8 => ?_) | refine s5B rfl (fun g8 => ?_) (fun g8 => ?_)
      · refine s8 ?_
        first | omega | (simp_all; done) | (simp_all; omega)
      refine s2 (r := rI) (ev_getS rfl (by omega) (by omega) rfl) rfl rfl ?_
      refine s1 (ev_lenS _ _) rfl rfl rfl ?_
      refine s1 (ev_lss _ _ _) rfl rfl rfl ?_
      first | refine s4 rfl (fun g9 => ?_) (fun g9 => ?_) | refine s4B rfl (fun g9 => ?_) (fun g9 => ?_)
      · refine s1 (ev_inbsS rfl) rfl rfl rfl ?_
        first | refine s5 rfl (fun g10 => ?_) (fun g10 => ?_) | refine s5B rfl (fun g10 => ?_) (fun g10 => ?_)
        · refine s8 ?_
          first | omega | (simp_all; done) | (simp_all; omega)
        refine s1 (u := .int .i64 _) (ev_getS rfl (by omega) (by omega) rfl) rfl rfl rfl ?_
        refine s1 (ev_neq _ _ _) rfl rfl rfl ?_
        first | refine s4 rfl (fun g11 => ?_) (fun g11 => ?_) | refine s4B rfl (fun g11 => ?_) (fun g11 => ?_)
        · refine s31 (ito_s_e _ (by omega)) rfl ?_
          refine s1 (ev_cat _ _ (by first | omega | (simp only [List.length_append, List.length_cons, List.length_nil]; omega) | (simp only [el_catS, el_some, List.length_append, bI_len, List.length_cons, List.length_nil]; omega))) rfl rfl rfl ?_
          refine s2 (r := rB) (ev_nilwS rfl) rfl rfl ?_
          refine s2 (r := rB) (ev_catsS rfl (by first | omega | (simp only [List.length_append, List.length_cons, List.length_nil]; omega) | (simp only [el_catS, el_some, List.length_append, bI_len, List.length_cons, List.length_nil]; omega))) rfl rfl ?_
          refine s1 (ev_len _) rfl rfl rfl ?_
          refine s3 (pin_s_e _ _ _ _ _ _ _ _ ⟨rfl, by omega, by omega, by omega, by omega, by omega, by first | omega | (simp only [el_catS, el_some, List.length_append, bI_len, List.length_nil, List.length_cons]; omega), by first | exact (all_get (prt_all l (by omega)) (i := 0) (by omega) (by omega)).2 | (exfalso; omega)⟩) rfl ?_
          show Tr.sav _ _ (.cons 30 _ (.cons 29 _ (.cons 28 _ (.cons 27 _ _))))
          first | refine s1 (ev_addW (wrap64 (by omega) (by omega))) rfl rfl rfl ?_ | refine s1 (ev_add _ _ _) rfl rfl rfl ?_
          refine s31 (pou_s_e _ _ _ _ ⟨rfl, by omega, by omega, by omega, by first | omega | (simp only [el_catS, el_some, List.length_append, bI_len, List.length_nil, List.length_cons]; omega), prt_all l (by omega)⟩) rfl ?_
          refine s1 (ev_lenS _ _) rfl rfl rfl ?_
          refine s1 (ev_ustrS rfl (by omega) (by first | omega | (simp only [List.length_append, List.length_cons, List.length_nil]; omega) | (simp only [el_catS, el_some, List.length_append, bI_len, List.length_cons, List.length_nil]; omega)) (by first | exact rng_none | exact rng_cat rng_none | exact rng_cat (rng_cat rng_none) | exact rng_cat (rng_cat (rng_cat rng_none)) | (exfalso; omega))) rfl rfl rfl ?_
          refine s7 [.str _, .int .i64 _] rfl ?_
          first | (exfalso; omega) | (rw [print_0 l (by omega)]; done) | (rw [print_1 l (by omega), show el l = [] from List.length_eq_zero_iff.1 (by omega)]; rfl) | (rw [print_1 l (by omega)]; exact congrArg (fun s => [U.str s, U.int .i64 0]) (prt_fin (by omega) (by omega) _ (by clear hb hc; generalize (el ((el l).getD (Int.toNat 0) default)).getD (Int.toNat 0) default = g at *; simp [partS, *]))) | (rw [print_1 l (by omega)]; exact congrArg (fun s => [U.str s, U.int .i64 0]) (prt_fin (l := l) (by omega) (by omega) [] (by clear hb hc; generalize (el ((el l).getD (Int.toNat 0) default)).getD (Int.toNat 0) default = g at *; simp [partS, *])))
        refine s2 (r := rB) (ev_mkS [_] rfl (by decide) rfl) rfl rfl ?_
        refine s3 (pin_s_e _ _ _ _ _ _ _ _ ⟨rfl, by omega, by omega, by omega, by omega, by omega, by first | omega | (simp only [el_catS, el_some, List.length_append, bI_len, List.length_nil, List.length_cons]; omega), by first | exact (all_get (prt_all l (by omega)) (i := 0) (by omega) (by omega)).2 | (exfalso; omega)⟩) rfl ?_
        show Tr.sav _ _ (.cons 26 _ (.cons 25 _ (.cons 24 _ (.cons 23 _ _))))
        first | refine s1 (ev_addW (wrap64 (by omega) (by omega))) rfl rfl rfl ?_ | refine s1 (ev_add _ _ _) rfl rfl rfl ?_
        refine s31 (pou_s_e _ _ _ _ ⟨rfl, by omega, by omega, by omega, by first | omega | (simp only [el_catS, el_some, List.length_append, bI_len, List.length_nil, List.length_cons]; omega), prt_all l (by omega)⟩) rfl ?_
        refine s1 (ev_lenS _ _) rfl rfl rfl ?_
        refine s1 (ev_ustrS rfl (by omega) (by first | omega | (simp only [List.length_append, List.length_cons, List.length_nil]; omega) | (simp only [el_catS, el_some, List.length_append, bI_len, List.length_cons, List.length_nil]; omega)) (by first | exact rng_none | exact rng_cat rng_none | exact rng_cat (rng_cat rng_none) | exact rng_cat (rng_cat (rng_cat rng_none)) | (exfalso; omega))) rfl rfl rfl ?_
        refine s7 [.str _, .int .i64 _] rfl ?_
        first | (exfalso; omega) | (rw [print_0 l (by omega)]; done) | (rw [print_1 l (by omega), show el l = [] from List.length_eq_zero_iff.1 (by omega)]; rfl) | (rw [print_1 l (by omega)]; exact congrArg (fun s => [U.str s, U.int .i64 0]) (prt_fin (by omega) (by omega) _ (by clear hb hc; generalize (el ((el l).getD (Int.toNat 0) default)).getD (Int.toNat 0) default = g at *; simp [partS, *]))) | (rw [print_1 l (by omega)]; exact congrArg (fun s => [U.str s, U.int .i64 0]) (prt_fin (l := l) (by omega) (by omega) [] (by clear hb hc; generalize (el ((el l).getD (Int.toNat 0) default)).getD (Int.toNat 0) default = g at *; simp [partS, *])))
      refine s1 (ev_lss _ _ _) rfl rfl rfl ?_
      first | refine s4 rfl (fun g10 => ?_) (fun g10 => ?_) | refine s4B rfl (fun g10 => ?_) (fun g10 => ?_)
      · refine s8 ?_
        first | omega | (simp_all; done) | (simp_all; omega)
      refine s7 [.str _, .int .i64 _] rfl ?_
      first | (exfalso; omega) | (rw [print_0 l (by omega)]; done) | (rw [print_1 l (by omega), show el l = [] from List.length_eq_zero_iff.1 (by omega)]; rfl) | (rw [print_1 l (by omega)]; exact congrArg (fun s => [U.str s, U.int .i64 0]) (prt_fin (by omega) (by omega) _ (by clear hb hc; generalize (el ((el l).getD (Int.toNat 0) default)).getD (Int.toNat 0) default = g at *; simp [partS, *]))) | (rw [print_1 l (by omega)]; exact congrArg (fun s => [U.str s, U.int .i64 0]) (prt_fin (l := l) (by omega) (by omega) [] (by clear hb hc; generalize (el ((el l).getD (Int.toNat 0) default)).getD (Int.toNat 0) default = g at *; simp [partS, *])))
    · cases hs
  · cases hs
noncomputable def L_prt : List (FuncId × FnC) := (25, conF Tryd.prog [.s 11] prt_s [.s 9, .s 3]) :: L_ito
theorem L_prt_ok {G : Nat → Option Obj} (hst : StartOk Tryd.prog G gl H0 n0) : ConsOk Tryd.prog G gl L_prt := .cons (prt_c hst) (L_ito_ok hst)
end Go.Proofs.YtadmkfclgpbebaaDoor

namespace Go.Proofs.YtadmkfclgpbebaaDoor
set_option linter.all false
open Go Go.Sx
set_option maxRecDepth 100000
set_option linter.unusedVariables false
set_option linter.unusedSimpArgs false
def rwl_s : List U → Option (Nat × List U)
  | [u_l, u_out, .int .i64 i] => (decS rP u_l).bind fun l => (decS rP u_out).bind fun out => if 0 ≤ i ∧ i ≤ ((el l).length : Int) ∧ ((el out).length : Int) = i ∧ (el l).length ≤ 100000000 then some (0, [encS rP (catS out (some ((el l).drop i.toNat)))]) else none
  | _ => none
theorem rwl_s_e (l : (Option (List (Option (List Int))))) (out : (Option (List (Option (List Int))))) (i : Int) (hc : 0 ≤ i ∧ i ≤ ((el l).length : Int) ∧ ((el out).length : Int) = i ∧ (el l).length ≤ 100000000) : rwl_s [encS rP l, encS rP out, .int .i64 i] = some (0, [encS rP (catS out (some ((el l).drop i.toNat)))]) := by
  simp only [rwl_s, decS_enc, Option.bind_some]
  exact if_pos hc
def rwl_D : LoopD := ⟨[(0, dat 5 0 11), (3, own 6 1 11), (4, h 2 3)], [(6, .sq 1 11 47 7), (5, .frz), (7, .frz)], 3, [⟨.exit 0, [(3, own 8 0 11)], [(8, .sq 0 11 47 9), (9, .frz)], 1⟩]⟩
noncomputable def rwl_B : Code := (Tryd.f24.body).getD .skip
noncomputable def rwl_x : Code := match codeAt [true, true, false, true, false] rwl_B with | some (.loop x) => x | _ => .skip
theorem rwl_b : Tryd.f24.body = some rwl_B := rfl
theorem rwl_p : codeAt [true, true, false, true, false] rwl_B = some (.loop rwl_x) := by kernel_rfl
def rwl_t : Tr := .lt 3 (.len) [h 0 11] <| .lt 8 (.bin .lss) [h 2 3, h 3 3] <| .br 4 (.lt 8 (.inbs 1) [h 2 3, h 0 11] <| .br 5 (.dt 11 (.get 1 0) [h 0 11, h 2 3] <| .dt 11 (.snoc 1) [h 1 11, h 6 11] <| .lt 3 (.bin .add) [h 2 3, .int .i64 (1)] <| .ret [.int .i64 (-1), h 0 11, h 7 11, h 8 3]) (.no)) (.ret [.int .i64 (0), h 1 11])
def rwl_m : List U → Nat
  | [u_l, u_out, .int .i64 i] => (match decS rP u_l with | some l => (match decS rP u_out with | some out => ((el l).length - i).toNat | none => 0) | none => 0)
  | _ => 0
theorem rwl_me (l : (Option (List (Option (List Int))))) (out : (Option (List (Option (List Int))))) (i : Int) : rwl_m [encS rP l, encS rP out, .int .i64 i] = ((el l).length - i).toNat := by
  simp only [rwl_m, decS_enc]
theorem rwl_c {G : Nat → Option Obj} (hst : StartOk Tryd.prog G gl H0 n0) : ∀ (E : Nat → U) (base : Nat), @CodeOk ⟨E, G⟩ Tryd.prog base gl Tryd.f24.ntmps rwl_x (loopF Tryd.prog gl n0 10 rwl_D rwl_s) := by
  refine loop_ok (C := cx L_prt P_pou) (dep := 60) (f := 24) (n0 := n0) (nB := 10) (H0 := H0) rwl_m rwl_t (cxg (L_prt_ok hst) (P_pou_ok hst)) hst Tryd.func24 rwl_b rwl_p (by kernel_rfl) (by kernel_rfl) (by kernel_rfl) ?_
  intro us d outs hs
  have hs0 := hs
  unfold rwl_s at hs
  split at hs
  · skip
    rename_i u_l u_out i
    have hq_l := Option.bind_eq_some_iff.1 hs
    clear hs
    obtain ⟨l, hd_l, hs⟩ := hq_l
    replace hd_l := decS_eq hd_l
    subst hd_l
    have hq_out := Option.bind_eq_some_iff.1 hs
    clear hs
    obtain ⟨out, hd_out, hs⟩ := hq_out
    replace hd_out := decS_eq hd_out
    subst hd_out
    split at hs
    · rename_i hc
      clear hs hs0
      refine ⟨rfl, ?_⟩
      unfold rwl_t
      refine s0 (.cons 2 _ (.cons 1 _ (.cons 0 _ (.nil)))) rfl (by simp [Ev.ok, Ev.len]) ?_
      refine s1 (ev_lenS _ _) rfl rfl rfl ?_
      refine s1 (ev_lss _ _ _) rfl rfl rfl ?_
      first | refine s5 rfl (fun g0 => ?_) (fun g0 => ?_) | refine s5B rfl (fun g0 => ?_) (fun g0 => ?_)
      · refine s7 [.int .i64 _, encS rP _] rfl ?_
        refine leaf_exit (d := 0) ?_
        rw [rwl_s_e l out i hc, drop_end (el l) (by omega)]; rfl
      refine s1 (ev_inbsS rfl) rfl rfl rfl ?_
      first | refine s5 rfl (fun g1 => ?_) (fun g1 => ?_) | refine s5B rfl (fun g1 => ?_) (fun g1 => ?_)
      · refine s8 ?_
        first | omega | (simp_all; done) | (simp_all; omega)
      refine s2 (r := rI) (ev_getS rfl (by omega) (by omega) rfl) rfl rfl ?_
      refine s2 (r := rP) (ev_snocR rfl rfl (by decide) (by omega)) rfl rfl ?_
      first | refine s1 (ev_addW (wrap64 (by omega) (by omega))) rfl rfl rfl ?_ | refine s1 (ev_add _ _ _) rfl rfl rfl ?_
      refine s7 [.int .i64 _, encS rP _, encS rP _, .int .i64 _] rfl ?_
      refine leaf_back ?_ ?_
      · rw [rwl_s_e l out i hc, drop_step (el l) (by omega) (by omega), ← catS_cons]
        exact rwl_s_e _ _ _ ⟨by omega, by omega, by simp [el_some]; omega, hc.2.2.2⟩
      · rw [rwl_me, rwl_me]; omega
    · cases hs
  · cases hs
noncomputable def P_rwl : List LpE := (24, ([true, true, false, true, false], loopF Tryd.prog gl n0 10 rwl_D rwl_s)) :: P_pou
theorem P_rwl_ok {G : Nat → Option Obj} (hst : StartOk Tryd.prog G gl H0 n0) : LpsOk Tryd.prog G gl P_rwl := .cons Tryd.func24 rwl_b rwl_p (rwl_c hst) (P_pou_ok hst)
def rw_s : List U → Option (Nat × List U)
  | [u_l] => (decS rP u_l).bind fun l => if (el l).length ≤ 100000000 then some (0, [encS rP (catS none (some (el l)))]) else none
  | _ => none
theorem rw_s_e (l : (Option (List (Option (List Int))))) (hc : (el l).length ≤ 100000000) : rw_s [encS rP l] = some (0, [encS rP (catS none (some (el l)))]) := by
  simp only [rw_s, decS_enc, Option.bind_some]
  exact if_pos hc
def rw_t : Tr := .dt 11 (.nilw 1) [] <| .fn rwl_s [h 0 11, h 1 11, .int .i64 (0)] 1 <| .ret [h 2 11]
theorem rw_c {G : Nat → Option Obj} (hst : StartOk Tryd.prog G gl H0 n0) : ConOk Tryd.prog G 24 [.s 11] rw_s [.s 11] := by
  refine con_of_tree (C := cx L_prt P_rwl) (d := 60) rw_t (cxg (L_prt_ok hst) (P_rwl_ok hst)) hst ⟨Tryd.f24, _, Tryd.func24, rfl⟩ (by kernel_rfl) (by kernel_rfl) ?_
  intro us outs hs
  unfold rw_s at hs
  split at hs
  · skip
    rename_i u_l
    have hq_l := Option.bind_eq_some_iff.1 hs
    clear hs
    obtain ⟨l, hd_l, hs⟩ := hq_l
    replace hd_l := decS_eq hd_l
    subst hd_l
    split at hs
    · rename_i hc
      cases hs
      unfold rw_t
      refine s0 (.cons 0 _ (.nil)) rfl (by simp [Ev.ok, Ev.len]) ?_
      refine s2 (r := rP) (ev_nilwS rfl) rfl rfl ?_
      refine s31 (rwl_s_e l none 0 ⟨by decide, by omega, rfl, hc⟩) rfl ?_
      refine s7 [encS rP _] rfl ?_
      rfl
    · cases hs
  · cases hs
noncomputable def L_rw : List (FuncId × FnC) := (24, conF Tryd.prog [.s 11] rw_s [.s 11]) :: L_prt
theorem L_rw_ok {G : Nat → Option Obj} (hst : StartOk Tryd.prog G gl H0 n0) : ConsOk Tryd.prog G gl L_rw := .cons (rw_c hst) (L_prt_ok hst)
end Go.Proofs.YtadmkfclgpbebaaDoor

namespace Go.Proofs.YtadmkfclgpbebaaDoor
set_option linter.all false
open Go Go.Sx
set_option maxRecDepth 100000
set_option linter.unusedVariables false
set_option linter.unusedSimpArgs false
def rep_s : List U → Option (Nat × List U)
  | [.str s, .int .i64 c] => if 0 ≤ c ∧ c ≤ 1000000000 ∧ s.length * c.toNat ≤ 1000000000 then some (0, [.str (Lib.repeatL s c.toNat)]) else none
  | _ => none
theorem rep_s_e (s : (List UInt8)) (c : Int) (hc : 0 ≤ c ∧ c ≤ 1000000000 ∧ s.length * c.toNat ≤ 1000000000) : rep_s [.str s, .int .i64 c] = some (0, [.str (Lib.repeatL s c.toNat)]) := if_pos hc
theorem rep_c {G : Nat → Option Obj} (hst : StartOk Tryd.prog G gl H0 n0) : ConOk Tryd.prog G 19 [.s 9, .s 3] rep_s [.s 9] := by
  intro us outs w vs R hsh hs hG hR
  unfold rep_s at hs
  split at hs
  · skip
    rename_i s c
    split at hs
    · rename_i hc
      cases hs
      have hv := val_of_shL (vs2 := [.string ⟨⟨s⟩⟩, .int .i64 c]) hsh rfl
      subst hv
      refine con_end (vr := [.string ⟨⟨Lib.repeatL s c.toNat⟩⟩]) Tryd.func19 rfl (by kernel_rfl) rfl ?_
      obtain ⟨k, rfl⟩ : ∃ k : Nat, c = k := ⟨c.toNat, by omega⟩
      rw [Int.toNat_natCast] at hc ⊢
      by_cases h0 : k = 0
      · subst h0
        exact (Tryd.strings_Repeat_zero ⟨⟨s⟩⟩ w).mono fun e w' ⟨h1, h2⟩ => ⟨h1, by subst h2; exact RowKit.Below.refl _ _⟩
      by_cases h1 : k = 1
      · subst h1
        exact (Tryd.strings_Repeat_one ⟨⟨s⟩⟩ w).mono fun e w' ⟨h1, h2⟩ => ⟨by rw [Lib.repeatL_one]; exact h1, by subst h2; exact RowKit.Below.refl _ _⟩
      by_cases h2 : s = []
      · subst h2
        exact (Tryd.strings_Repeat_empty ⟨⟨[]⟩⟩ k w (by omega) (by omega) rfl).mono fun e w' ⟨h1, h2⟩ => ⟨by rw [Lib.repeatL_nil]; exact h1, by subst h2; exact RowKit.Below.refl _ _⟩
      have h3 : 0 < s.length := List.length_pos_iff.2 h2
      exact (Tryd.strings_Repeat_main ⟨⟨s⟩⟩ k w (by omega) (by omega) (by show s.length * k ≤ _; omega) h3).mono fun e w' ⟨h1, h2⟩ => ⟨h1, h2⟩
    · cases hs
  · cases hs
noncomputable def L_rep : List (FuncId × FnC) := (19, conF Tryd.prog [.s 9, .s 3] rep_s [.s 9]) :: L_rw
theorem L_rep_ok {G : Nat → Option Obj} (hst : StartOk Tryd.prog G gl H0 n0) : ConsOk Tryd.prog G gl L_rep := .cons (rep_c hst) (L_rw_ok hst)
end Go.Proofs.YtadmkfclgpbebaaDoor

namespace Go.Proofs.YtadmkfclgpbebaaDoor
set_option linter.all false
open Go Go.Sx
set_option maxRecDepth 100000
set_option linter.unusedVariables false
set_option linter.unusedSimpArgs false
def wks_s : List U → Option (Nat × List U)
  | [] => some (0, [.bool (true)])
  | _ => none
def wks_t : Tr := .fn prs_s [.string ⟨⟨[49, 59, 50, 58, 51]⟩⟩] 2 <| .lt 8 (.bin .eql) [h 1 3, .int .i64 (0)] <| .br 2 (.dt 11 (.mk 1) [.int .i64 (1)] <| .dt 11 (.mk 1) [.int .i64 (2), .int .i64 (3)] <| .dt 11 (.mk 1) [h 3 11, h 4 11] <| .fn rw_s [h 5 11] 1 <| .fn rsame_s [h 0 11, h 6 11] 1 <| .br 7 (.fn prs_s [.string ⟨⟨[]⟩⟩] 2 <| .lt 8 (.bin .eql) [h 9 3, .int .i64 (0)] <| .br 10 (.dt 11 (.nilw 1) [] <| .fn rw_s [h 11 11] 1 <| .fn rsame_s [h 8 11, h 12 11] 1 <| .br 13 (.fn prs_s [.string ⟨⟨[59]⟩⟩] 2 <| .lt 8 (.bin .eql) [h 15 3, .int .i64 (0)] <| .br 16 (.dt 11 (.mk 1) [.int .i64 (-1)] <| .dt 11 (.mk 1) [.int .i64 (-1)] <| .dt 11 (.mk 1) [h 17 11, h 18 11] <| .fn rw_s [h 19 11] 1 <| .fn rsame_s [h 14 11, h 20 11] 1 <| .br 21 (.fn prs_s [.string ⟨⟨[48, 48, 55]⟩⟩] 2 <| .lt 8 (.bin .eql) [h 23 3, .int .i64 (0)] <| .br 24 (.dt 11 (.mk 1) [.int .i64 (7)] <| .dt 11 (.mk 1) [h 25 11] <| .fn rw_s [h 26 11] 1 <| .fn rsame_s [h 22 11, h 27 11] 1 <| .br 28 (.fn prs_s [.string ⟨⟨[57, 57, 57, 57, 57]⟩⟩] 2 <| .lt 8 (.bin .eql) [h 30 3, .int .i64 (0)] <| .br 31 (.dt 11 (.mk 1) [.int .i64 (9999)] <| .dt 11 (.mk 1) [h 32 11] <| .fn rw_s [h 33 11] 1 <| .fn rsame_s [h 29 11, h 34 11] 1 <| .br 35 (.fn prs_s [.string ⟨⟨[52, 58]⟩⟩] 2 <| .lt 8 (.bin .eql) [h 37 3, .int .i64 (0)] <| .br 38 (.dt 11 (.mk 1) [.int .i64 (4), .int .i64 (-1)] <| .dt 11 (.mk 1) [h 39 11] <| .fn rw_s [h 40 11] 1 <| .fn rsame_s [h 36 11, h 41 11] 1 <| .dt 11 (.mk 1) [.int .i64 (38), .int .i64 (2), .int .i64 (-1), .int .i64 (9), .int .i64 (8), .int .i64 (7)] <| .dt 11 (.mk 1) [.int .i64 (1)] <| .dt 11 (.mk 1) [h 43 11, h 44 11] <| .fn rw_s [h 45 11] 1 <| .fn prt_s [h 46 11] 2 <| .dt 11 (.mk 1) [.int .i64 (-1)] <| .dt 11 (.mk 1) [h 49 11] <| .fn rw_s [h 50 11] 1 <| .fn chk_s [h 51 11] 1 <| .lt 8 (.bin .eql) [h 52 3, .int .i64 (150)] <| .br 53 (.dt 11 (.mk 1) [.int .i64 (10000)] <| .dt 11 (.mk 1) [h 54 11] <| .fn rw_s [h 55 11] 1 <| .fn chk_s [h 56 11] 1 <| .lt 8 (.bin .eql) [h 57 3, .int .i64 (150)] <| .br 58 (.dt 11 (.nilw 1) [] <| .dt 11 (.mk 1) [h 59 11] <| .fn rw_s [h 60 11] 1 <| .fn chk_s [h 61 11] 1 <| .lt 8 (.bin .eql) [h 62 3, .int .i64 (150)] <| .dt 11 (.mk 1) [.int .i64 (5)] <| .dt 11 (.mk 1) [.int .i64 (-1)] <| .dt 11 (.mk 1) [h 64 11, h 65 11] <| .fn rw_s [h 66 11] 1 <| .fn val_s [h 67 11, .int .i64 (0), .int .i64 (9)] 1 <| .lt 8 (.bin .eql) [h 68 3, .int .i64 (5)] <| .br 69 (.fn val_s [h 67 11, .int .i64 (1), .int .i64 (9)] 1 <| .lt 8 (.bin .eql) [h 70 3, .int .i64 (9)] <| .br 71 (.fn val_s [h 67 11, .int .i64 (2), .int .i64 (9)] 1 <| .lt 8 (.bin .eql) [h 72 3, .int .i64 (9)] <| .br 42 (.lt 8 (.bin .eql) [h 47 9, .string ⟨⟨[51, 56, 58, 50, 58, 58, 57, 58, 56, 58, 55, 59, 49]⟩⟩] <| .br 74 (.lt 8 (.bin .eql) [h 48 3, .int .i64 (0)] <| .br 75 (.br 63 (.fn prs_s [.string ⟨⟨[49, 97]⟩⟩] 2 <| .lt 8 (.bin .eql) [h 77 3, .int .i64 (6)] <| .br 78 (.lt 3 (.len) [h 76 11] <| .lt 8 (.bin .eql) [h 79 3, .int .i64 (0)] <| .br 80 (.fn rep_s [.string ⟨⟨[59]⟩⟩, .int .i64 (16)] 1 <| .fn prs_s [h 81 9] 2 <| .lt 8 (.bin .eql) [h 83 3, .int .i64 (3)] <| .br 84 (.lt 3 (.len) [h 82 11] <| .lt 8 (.bin .eql) [h 85 3, .int .i64 (0)] <| .br 86 (.fn prs_s [.string ⟨⟨[49, 58, 50, 58, 51, 58, 52, 58, 53, 58, 54, 58]⟩⟩] 2 <| .lt 8 (.bin .eql) [h 88 3, .int .i64 (3)] <| .br 89 (.lt 3 (.len) [h 87 11] <| .lt 8 (.bin .eql) [h 90 3, .int .i64 (0)] <| .br 91 (.ret [h 73 8]) (.no)) (.no)) (.no)) (.no)) (.no)) (.no)) (.no)) (.no)) (.no)) (.no)) (.no)) (.no)) (.no)) (.no)) (.no)) (.no)) (.no)) (.no)) (.no)) (.no)) (.no)) (.no)) (.no)) (.no)) (.no)
theorem wks_c {G : Nat → Option Obj} (hst : StartOk Tryd.prog G gl H0 n0) : ConOk Tryd.prog G 15 [] wks_s [.s 8] := by
  refine con_of_tree (C := cx L_rep P_rwl) (d := 60) wks_t (cxg (L_rep_ok hst) (P_rwl_ok hst)) hst ⟨Tryd.f15, _, Tryd.func15, rfl⟩ (by kernel_rfl) (by kernel_rfl) ?_
  intro us outs hs
  unfold wks_s at hs
  split at hs
  · skip
    skip
    cases hs
    unfold wks_t
    refine s0 (.nil) rfl (by simp [Ev.ok, Ev.len]) ?_
    refine s32 (prs_s_e _) rfl rfl ?_
    refine s1 (ev_eql _ _ _) rfl rfl rfl ?_
    first | refine s5 rfl (fun g0 => ?_) (fun g0 => ?_) | refine s5B rfl (fun g0 => ?_) (fun g0 => ?_)
    · refine s8 ?_
      (refine absurd ?_ (by assumption); decide +kernel)
    refine s2 (r := rI) (ev_mkS [_] rfl (by decide) rfl) rfl rfl ?_
    refine s2 (r := rI) (ev_mkS [_, _] rfl (by decide) rfl) rfl rfl ?_
    refine s2 (r := rP) (ev_mkS [_, _] rfl (by decide) rfl) rfl rfl ?_
    refine s31 (rw_s_e _ (by decide +kernel)) rfl ?_
    refine s31 (rsame_s_e _ _ (by decide +kernel)) rfl ?_
    first | refine s5 rfl (fun g1 => ?_) (fun g1 => ?_) | refine s5B rfl (fun g1 => ?_) (fun g1 => ?_)
    · refine s8 ?_
      (refine absurd ?_ (by assumption); decide +kernel)
    refine s32 (prs_s_e _) rfl rfl ?_
    refine s1 (ev_eql _ _ _) rfl rfl rfl ?_
    first | refine s5 rfl (fun g2 => ?_) (fun g2 => ?_) | refine s5B rfl (fun g2 => ?_) (fun g2 => ?_)
    · refine s8 ?_
      (refine absurd ?_ (by assumption); decide +kernel)
    refine s2 (r := rP) (ev_nilwS rfl) rfl rfl ?_
    refine s31 (rw_s_e _ (by decide +kernel)) rfl ?_
    refine s31 (rsame_s_e _ _ (by decide +kernel)) rfl ?_
    first | refine s5 rfl (fun g3 => ?_) (fun g3 => ?_) | refine s5B rfl (fun g3 => ?_) (fun g3 => ?_)
    · refine s8 ?_
      (refine absurd ?_ (by assumption); decide +kernel)
    refine s32 (prs_s_e _) rfl rfl ?_
    refine s1 (ev_eql _ _ _) rfl rfl rfl ?_
    first | refine s5 rfl (fun g4 => ?_) (fun g4 => ?_) | refine s5B rfl (fun g4 => ?_) (fun g4 => ?_)
    · refine s8 ?_
      (refine absurd ?_ (by assumption); decide +kernel)
    refine s2 (r := rI) (ev_mkS [_] rfl (by decide) rfl) rfl rfl ?_
    refine s2 (r := rI) (ev_mkS [_] rfl (by decide) rfl) rfl rfl ?_
    refine s2 (r := rP) (ev_mkS [_, _] rfl (by decide) rfl) rfl rfl ?_
    refine s31 (rw_s_e _ (by decide +kernel)) rfl ?_
    refine s31 (rsame_s_e _ _ (by decide +kernel)) rfl ?_
    first | refine s5 rfl (fun g5 => ?_) (fun g5 => ?_) | refine s5B rfl (fun g5 => ?_) (fun g5 => ?_)
    · refine s8 ?_
      (refine absurd ?_ (by assumption); decide +kernel)
    refine s32 (prs_s_e _) rfl rfl ?_
    refine s1 (ev_eql _ _ _) rfl rfl rfl ?_
    first | refine s5 rfl (fun g6 => ?_) (fun g6 => ?_) | refine s5B rfl (fun g6 => ?_) (fun g6 => ?_)
    · refine s8 ?_
      (refine absurd ?_ (by assumption); decide +kernel)
    refine s2 (r := rI) (ev_mkS [_] rfl (by decide) rfl) rfl rfl ?_
    refine s2 (r := rP) (ev_mkS [_] rfl (by decide) rfl) rfl rfl ?_
    refine s31 (rw_s_e _ (by decide +kernel)) rfl ?_
    refine s31 (rsame_s_e _ _ (by decide +kernel)) rfl ?_
    first | refine s5 rfl (fun g7 => ?_) (fun g7 => ?_) | refine s5B rfl (fun g7 => ?_) (fun g7 => ?_)
    · refine s8 ?_
      (refine absurd ?_ (by assumption); decide +kernel)
    refine s32 (prs_s_e _) rfl rfl ?_
    refine s1 (ev_eql _ _ _) rfl rfl rfl ?_
    first | refine s5 rfl (fun g8 => ?_) (fun g8 => ?_) | refine s5B rfl (fun g8 => ?_) (fun g8 => ?_)
    · refine s8 ?_
      (refine absurd ?_ (by assumption); decide +kernel)
    refine s2 (r := rI) (ev_mkS [_] rfl (by decide) rfl) rfl rfl ?_
    refine s2 (r := rP) (ev_mkS [_] rfl (by decide) rfl) rfl rfl ?_
    refine s31 (rw_s_e _ (by decide +kernel)) rfl ?_
    refine s31 (rsame_s_e _ _ (by decide +kernel)) rfl ?_
    first | refine s5 rfl (fun g9 => ?_) (fun g9 => ?_) | refine s5B rfl (fun g9 => ?_) (fun g9 => ?_)
    · refine s8 ?_
      (refine absurd ?_ (by assumption); decide +kernel)
    refine s32 (prs_s_e _) rfl rfl ?_
    refine s1 (ev_eql _ _ _) rfl rfl rfl ?_
    first | refine s5 rfl (fun g10 => ?_) (fun g10 => ?_) | refine s5B rfl (fun g10 => ?_) (fun g10 => ?_)
    · refine s8 ?_
      (refine absurd ?_ (by assumption); decide +kernel)
    refine s2 (r := rI) (ev_mkS [_, _] rfl (by decide) rfl) rfl rfl ?_
    refine s2 (r := rP) (ev_mkS [_] rfl (by decide) rfl) rfl rfl ?_
    refine s31 (rw_s_e _ (by decide +kernel)) rfl ?_
    refine s31 (rsame_s_e _ _ (by decide +kernel)) rfl ?_
    refine s2 (r := rI) (ev_mkS [_, _, _, _, _, _] rfl (by decide) rfl) rfl rfl ?_
    refine s2 (r := rI) (ev_mkS [_] rfl (by decide) rfl) rfl rfl ?_
    refine s2 (r := rP) (ev_mkS [_, _] rfl (by decide) rfl) rfl rfl ?_
    refine s31 (rw_s_e _ (by decide +kernel)) rfl ?_
    refine s32 (prt_s_e _ (by decide +kernel)) rfl rfl ?_
    refine s2 (r := rI) (ev_mkS [_] rfl (by decide) rfl) rfl rfl ?_
    refine s2 (r := rP) (ev_mkS [_] rfl (by decide) rfl) rfl rfl ?_
    refine s31 (rw_s_e _ (by decide +kernel)) rfl ?_
    refine s31 (chk_s_e _ (by decide +kernel)) rfl ?_
    refine s1 (ev_eql _ _ _) rfl rfl rfl ?_
    first | refine s5 rfl (fun g11 => ?_) (fun g11 => ?_) | refine s5B rfl (fun g11 => ?_) (fun g11 => ?_)
    · refine s8 ?_
      (refine absurd ?_ (by assumption); decide +kernel)
    refine s2 (r := rI) (ev_mkS [_] rfl (by decide) rfl) rfl rfl ?_
    refine s2 (r := rP) (ev_mkS [_] rfl (by decide) rfl) rfl rfl ?_
    refine s31 (rw_s_e _ (by decide +kernel)) rfl ?_
    refine s31 (chk_s_e _ (by decide +kernel)) rfl ?_
    refine s1 (ev_eql _ _ _) rfl rfl rfl ?_
    first | refine s5 rfl (fun g12 => ?_) (fun g12 => ?_) | refine s5B rfl (fun g12 => ?_) (fun g12 => ?_)
    · refine s8 ?_
      (refine absurd ?_ (by assumption); decide +kernel)
    refine s2 (r := rI) (ev_nilwS rfl) rfl rfl ?_
    refine s2 (r := rP) (ev_mkS [_] rfl (by decide) rfl) rfl rfl ?_
    refine s31 (rw_s_e _ (by decide +kernel)) rfl ?_
    refine s31 (chk_s_e _ (by decide +kernel)) rfl ?_
    refine s1 (ev_eql _ _ _) rfl rfl rfl ?_
    refine s2 (r := rI) (ev_mkS [_] rfl (by decide) rfl) rfl rfl ?_
    refine s2 (r := rI) (ev_mkS [_] rfl (by decide) rfl) rfl rfl ?_
    refine s2 (r := rP) (ev_mkS [_, _] rfl (by decide) rfl) rfl rfl ?_
    refine s31 (rw_s_e _ (by decide +kernel)) rfl ?_
    refine s31 (val_s_e _ _ _ (by decide)) rfl ?_
    refine s1 (ev_eql _ _ _) rfl rfl rfl ?_
    first | refine s5 rfl (fun g13 => ?_) (fun g13 => ?_) | refine s5B rfl (fun g13 => ?_) (fun g13 => ?_)
    · refine s8 ?_
      (refine absurd ?_ (by assumption); decide +kernel)
    refine s31 (val_s_e _ _ _ (by decide)) rfl ?_
    refine s1 (ev_eql _ _ _) rfl rfl rfl ?_
    first | refine s5 rfl (fun g14 => ?_) (fun g14 => ?_) | refine s5B rfl (fun g14 => ?_) (fun g14 => ?_)
    · refine s8 ?_
      (refine absurd ?_ (by assumption); decide +kernel)
    refine s31 (val_s_e _ _ _ (by decide)) rfl ?_
    refine s1 (ev_eql _ _ _) rfl rfl rfl ?_
    first | refine s5 rfl (fun g15 => ?_) (fun g15 => ?_) | refine s5B rfl (fun g15 => ?_) (fun g15 => ?_)
    · refine s8 ?_
      (refine absurd ?_ (by assumption); decide +kernel)
    refine s1 (ev_seq _ _) rfl rfl rfl ?_
    first | refine s5 rfl (fun g16 => ?_) (fun g16 => ?_) | refine s5B rfl (fun g16 => ?_) (fun g16 => ?_)
    · refine s8 ?_
      (refine absurd ?_ (by assumption); decide +kernel)
    refine s1 (ev_eql _ _ _) rfl rfl rfl ?_
    first | refine s5 rfl (fun g17 => ?_) (fun g17 => ?_) | refine s5B rfl (fun g17 => ?_) (fun g17 => ?_)
    · refine s8 ?_
      (refine absurd ?_ (by assumption); decide +kernel)
    first | refine s5 rfl (fun g18 => ?_) (fun g18 => ?_) | refine s5B rfl (fun g18 => ?_) (fun g18 => ?_)
    · refine s8 ?_
      (refine absurd ?_ (by assumption); decide +kernel)
    refine s32 (prs_s_e _) rfl rfl ?_
    refine s1 (ev_eql _ _ _) rfl rfl rfl ?_
    first | refine s5 rfl (fun g19 => ?_) (fun g19 => ?_) | refine s5B rfl (fun g19 => ?_) (fun g19 => ?_)
    · refine s8 ?_
      (refine absurd ?_ (by assumption); decide +kernel)
    refine s1 (ev_lenS _ _) rfl rfl rfl ?_
    refine s1 (ev_eql _ _ _) rfl rfl rfl ?_
    first | refine s5 rfl (fun g20 => ?_) (fun g20 => ?_) | refine s5B rfl (fun g20 => ?_) (fun g20 => ?_)
    · refine s8 ?_
      (refine absurd ?_ (by assumption); decide +kernel)
    refine s31 (rep_s_e _ _ (by decide)) rfl ?_
    refine s32 (prs_s_e _) rfl rfl ?_
    refine s1 (ev_eql _ _ _) rfl rfl rfl ?_
    first | refine s5 rfl (fun g21 => ?_) (fun g21 => ?_) | refine s5B rfl (fun g21 => ?_) (fun g21 => ?_)
    · refine s8 ?_
      (refine absurd ?_ (by assumption); decide +kernel)
    refine s1 (ev_lenS _ _) rfl rfl rfl ?_
    refine s1 (ev_eql _ _ _) rfl rfl rfl ?_
    first | refine s5 rfl (fun g22 => ?_) (fun g22 => ?_) | refine s5B rfl (fun g22 => ?_) (fun g22 => ?_)
    · refine s8 ?_
      (refine absurd ?_ (by assumption); decide +kernel)
    refine s32 (prs_s_e _) rfl rfl ?_
    refine s1 (ev_eql _ _ _) rfl rfl rfl ?_
    first | refine s5 rfl (fun g23 => ?_) (fun g23 => ?_) | refine s5B rfl (fun g23 => ?_) (fun g23 => ?_)
    · refine s8 ?_
      (refine absurd ?_ (by assumption); decide +kernel)
    refine s1 (ev_lenS _ _) rfl rfl rfl ?_
    refine s1 (ev_eql _ _ _) rfl rfl rfl ?_
    first | refine s4 rfl (fun g24 => ?_) (fun g24 => ?_) | refine s4B rfl (fun g24 => ?_) (fun g24 => ?_)
    · refine s7 [.bool _] rfl ?_
      exact congrArg (fun b => [U.bool b]) (decide_eq_true (by decide +kernel))
    refine s8 ?_
    (refine absurd ?_ (by assumption); decide +kernel)
  · cases hs
noncomputable def L_wks : List (FuncId × FnC) := (15, conF Tryd.prog [] wks_s [.s 8]) :: L_rep
theorem L_wks_ok {G : Nat → Option Obj} (hst : StartOk Tryd.prog G gl H0 n0) : ConsOk Tryd.prog G gl L_wks := .cons (wks_c hst) (L_rep_ok hst)
end Go.Proofs.YtadmkfclgpbebaaDoor

namespace Go.Proofs.YtadmkfclgpbebaaDoor
set_option linter.all false
open Go Go.Sx
set_option maxRecDepth 100000
set_option linter.unusedVariables false
set_option linter.unusedSimpArgs false
noncomputable def U_stpo : List (FuncId × FnC) := (22, conF Tryd.prog [.s 11] chk_s [.s 3]) :: L0
theorem U_stpo_ok {G : Nat → Option Obj} (hst : StartOk Tryd.prog G gl H0 n0) : ConsOk Tryd.prog G gl U_stpo := (.cons (chk_c hst) .nil)
def stpo_s : List U → Option (Nat × List U)
  | [u_l, .int .u8 c] => (decS rP u_l).bind fun l => if (el l).length ≤ 1000000000 ∧ ∀ p ∈ el l, (el p).length ≤ 1000000000 then some (0, [encS rP ((stepS l c).1), .int .i64 ((stepS l c).2)]) else none
  | _ => none
theorem stpo_s_e (l : (Option (List (Option (List Int))))) (c : Int) (hc : (el l).length ≤ 1000000000 ∧ ∀ p ∈ el l, (el p).length ≤ 1000000000) : stpo_s [encS rP l, .int .u8 c] = some (0, [encS rP ((stepS l c).1), .int .i64 ((stepS l c).2)]) := by
  simp only [stpo_s, decS_enc, Option.bind_some]
  exact if_pos hc
def stpo_t : Tr := .fn chk_s [h 0 11] 1 <| .lt 8 (.bin .neq) [h 2 3, .int .i64 (0)] <| .br 3 (.dt 11 (.nilw 1) [] <| .ret [h 4 11, h 2 3]) (.lt 3 (.len) [h 0 11] <| .lt 8 (.bin .eql) [h 4 3, .int .i64 (0)] <| .br 5 (.lt 8 (.bin .eql) [h 1 4, .int .u8 (59)] <| .br 6 (.dt 11 (.mk 1) [.int .i64 (-1)] <| .dt 11 (.mk 1) [.int .i64 (-1)] <| .dt 11 (.mk 1) [h 7 11, h 8 11] <| .ret [h 9 11, .int .i64 (0)]) (.lt 8 (.bin .eql) [h 1 4, .int .u8 (58)] <| .br 7 (.dt 11 (.mk 1) [.int .i64 (-1), .int .i64 (-1)] <| .dt 11 (.mk 1) [h 8 11] <| .ret [h 9 11, .int .i64 (0)]) (.lt 8 (.bin .eql) [h 1 4, .int .u8 (59)] <| .br 8 (.dt 11 (.nilw 1) [] <| .ret [h 9 11, .int .i64 (3)]) (.lt 8 (.bin .eql) [h 1 4, .int .u8 (58)] <| .br 9 (.dt 11 (.nilw 1) [] <| .ret [h 10 11, .int .i64 (3)]) (.lt 8 (.bin .geq) [h 1 4, .int .u8 (48)] <| .br 10 (.lt 8 (.bin .leq) [h 1 4, .int .u8 (57)] <| .br 11 (.lt 4 (.bin .sub) [h 1 4, .int .u8 (48)] <| .lt 3 (.conv .i64) [h 12 4] <| .lt 3 (.bin .add) [.int .i64 (0), h 13 3] <| .lt 3 (.min) [h 14 3, .int .i64 (9999)] <| .dt 11 (.mk 1) [h 15 3] <| .dt 11 (.mk 1) [h 16 11] <| .ret [h 17 11, .int .i64 (0)]) (.dt 11 (.nilw 1) [] <| .ret [h 12 11, .int .i64 (6)])) (.dt 11 (.nilw 1) [] <| .ret [h 11 11, .int .i64 (6)])))))) (.lt 3 (.bin .sub) [h 4 3, .int .i64 (1)] <| .lt 8 (.inbs 1) [h 6 3, h 0 11] <| .br 7 (.dt 11 (.get 1 0) [h 0 11, h 6 3] <| .lt 8 (.bin .eql) [h 1 4, .int .u8 (59)] <| .br 9 (.lt 8 (.bin .lss) [h 4 3, .int .i64 (16)] <| .br 10 (.dt 11 (.subs 1) [h 0 11, .int .i64 (0), h 4 3] <| .dt 11 (.mk 1) [.int .i64 (-1)] <| .dt 11 (.snoc 1) [h 11 11, h 12 11] <| .ret [h 13 11, .int .i64 (0)]) (.lt 8 (.bin .eql) [h 1 4, .int .u8 (58)] <| .br 11 (.lt 3 (.len) [h 8 11] <| .lt 8 (.bin .lss) [h 12 3, .int .i64 (6)] <| .br 13 (.dt 11 (.subs 1) [h 8 11, .int .i64 (0), h 12 3] <| .dt 11 (.snoc 1) [h 14 11, .int .i64 (-1)] <| .lt 3 (.bin .sub) [h 4 3, .int .i64 (1)] <| .dt 11 (.subs 1) [h 0 11, .int .i64 (0), h 16 3] <| .dt 11 (.snoc 1) [h 17 11, h 15 11] <| .ret [h 18 11, .int .i64 (0)]) (.lt 8 (.bin .eql) [h 1 4, .int .u8 (59)] <| .br 14 (.dt 11 (.nilw 1) [] <| .ret [h 15 11, .int .i64 (3)]) (.lt 8 (.bin .eql) [h 1 4, .int .u8 (58)] <| .br 15 (.dt 11 (.nilw 1) [] <| .ret [h 16 11, .int .i64 (3)]) (.lt 8 (.bin .geq) [h 1 4, .int .u8 (48)] <| .br 16 (.lt 8 (.bin .leq) [h 1 4, .int .u8 (57)] <| .br 17 (.lt 3 (.bin .sub) [h 12 3, .int .i64 (1)] <| .lt 8 (.inbs 1) [h 18 3, h 8 11] <| .br 19 (.lt 3 (.get 1 0) [h 8 11, h 18 3] <| .lt 3 (.max) [.int .i64 (0), h 20 3] <| .lt 3 (.bin .mul) [h 21 3, .int .i64 (10)] <| .lt 4 (.bin .sub) [h 1 4, .int .u8 (48)] <| .lt 3 (.conv .i64) [h 23 4] <| .lt 3 (.bin .add) [h 22 3, h 24 3] <| .lt 3 (.min) [h 25 3, .int .i64 (9999)] <| .lt 3 (.bin .sub) [h 12 3, .int .i64 (1)] <| .dt 11 (.subs 1) [h 8 11, .int .i64 (0), h 27 3] <| .dt 11 (.snoc 1) [h 28 11, h 26 3] <| .lt 3 (.bin .sub) [h 4 3, .int .i64 (1)] <| .dt 11 (.subs 1) [h 0 11, .int .i64 (0), h 30 3] <| .dt 11 (.snoc 1) [h 31 11, h 29 11] <| .ret [h 32 11, .int .i64 (0)]) (.no)) (.dt 11 (.nilw 1) [] <| .ret [h 18 11, .int .i64 (6)])) (.dt 11 (.nilw 1) [] <| .ret [h 17 11, .int .i64 (6)]))))) (.lt 8 (.bin .eql) [h 1 4, .int .u8 (59)] <| .br 12 (.dt 11 (.nilw 1) [] <| .ret [h 13 11, .int .i64 (3)]) (.lt 8 (.bin .eql) [h 1 4, .int .u8 (58)] <| .br 13 (.dt 11 (.nilw 1) [] <| .ret [h 14 11, .int .i64 (3)]) (.lt 8 (.bin .geq) [h 1 4, .int .u8 (48)] <| .br 14 (.lt 8 (.bin .leq) [h 1 4, .int .u8 (57)] <| .br 15 (.lt 3 (.len) [h 8 11] <| .lt 3 (.bin .sub) [h 16 3, .int .i64 (1)] <| .lt 8 (.inbs 1) [h 17 3, h 8 11] <| .br 18 (.lt 3 (.get 1 0) [h 8 11, h 17 3] <| .lt 3 (.max) [.int .i64 (0), h 19 3] <| .lt 3 (.bin .mul) [h 20 3, .int .i64 (10)] <| .lt 4 (.bin .sub) [h 1 4, .int .u8 (48)] <| .lt 3 (.conv .i64) [h 22 4] <| .lt 3 (.bin .add) [h 21 3, h 23 3] <| .lt 3 (.min) [h 24 3, .int .i64 (9999)] <| .lt 3 (.bin .sub) [h 16 3, .int .i64 (1)] <| .dt 11 (.subs 1) [h 8 11, .int .i64 (0), h 26 3] <| .dt 11 (.snoc 1) [h 27 11, h 25 3] <| .lt 3 (.bin .sub) [h 4 3, .int .i64 (1)] <| .dt 11 (.subs 1) [h 0 11, .int .i64 (0), h 29 3] <| .dt 11 (.snoc 1) [h 30 11, h 28 11] <| .ret [h 31 11, .int .i64 (0)]) (.no)) (.dt 11 (.nilw 1) [] <| .ret [h 16 11, .int .i64 (6)])) (.dt 11 (.nilw 1) [] <| .ret [h 15 11, .int .i64 (6)])))))) (.lt 8 (.bin .eql) [h 1 4, .int .u8 (58)] <| .br 10 (.lt 3 (.len) [h 8 11] <| .lt 8 (.bin .lss) [h 11 3, .int .i64 (6)] <| .br 12 (.dt 11 (.subs 1) [h 8 11, .int .i64 (0), h 11 3] <| .dt 11 (.snoc 1) [h 13 11, .int .i64 (-1)] <| .lt 3 (.bin .sub) [h 4 3, .int .i64 (1)] <| .dt 11 (.subs 1) [h 0 11, .int .i64 (0), h 15 3] <| .dt 11 (.snoc 1) [h 16 11, h 14 11] <| .ret [h 17 11, .int .i64 (0)]) (.lt 8 (.bin .eql) [h 1 4, .int .u8 (59)] <| .br 13 (.dt 11 (.nilw 1) [] <| .ret [h 14 11, .int .i64 (3)]) (.lt 8 (.bin .eql) [h 1 4, .int .u8 (58)] <| .br 14 (.dt 11 (.nilw 1) [] <| .ret [h 15 11, .int .i64 (3)]) (.lt 8 (.bin .geq) [h 1 4, .int .u8 (48)] <| .br 15 (.lt 8 (.bin .leq) [h 1 4, .int .u8 (57)] <| .br 16 (.lt 3 (.bin .sub) [h 11 3, .int .i64 (1)] <| .lt 8 (.inbs 1) [h 17 3, h 8 11] <| .br 18 (.lt 3 (.get 1 0) [h 8 11, h 17 3] <| .lt 3 (.max) [.int .i64 (0), h 19 3] <| .lt 3 (.bin .mul) [h 20 3, .int .i64 (10)] <| .lt 4 (.bin .sub) [h 1 4, .int .u8 (48)] <| .lt 3 (.conv .i64) [h 22 4] <| .lt 3 (.bin .add) [h 21 3, h 23 3] <| .lt 3 (.min) [h 24 3, .int .i64 (9999)] <| .lt 3 (.bin .sub) [h 11 3, .int .i64 (1)] <| .dt 11 (.subs 1) [h 8 11, .int .i64 (0), h 26 3] <| .dt 11 (.snoc 1) [h 27 11, h 25 3] <| .lt 3 (.bin .sub) [h 4 3, .int .i64 (1)] <| .dt 11 (.subs 1) [h 0 11, .int .i64 (0), h 29 3] <| .dt 11 (.snoc 1) [h 30 11, h 28 11] <| .ret [h 31 11, .int .i64 (0)]) (.no)) (.dt 11 (.nilw 1) [] <| .ret [h 17 11, .int .i64 (6)])) (.dt 11 (.nilw 1) [] <| .ret [h 16 11, .int .i64 (6)]))))) (.lt 8 (.bin .eql) [h 1 4, .int .u8 (59)] <| .br 11 (.dt 11 (.nilw 1) [] <| .ret [h 12 11, .int .i64 (3)]) (.lt 8 (.bin .eql) [h 1 4, .int .u8 (58)] <| .br 12 (.dt 11 (.nilw 1) [] <| .ret [h 13 11, .int .i64 (3)]) (.lt 8 (.bin .geq) [h 1 4, .int .u8 (48)] <| .br 13 (.lt 8 (.bin .leq) [h 1 4, .int .u8 (57)] <| .br 14 (.lt 3 (.len) [h 8 11] <| .lt 3 (.bin .sub) [h 15 3, .int .i64 (1)] <| .lt 8 (.inbs 1) [h 16 3, h 8 11] <| .br 17 (.lt 3 (.get 1 0) [h 8 11, h 16 3] <| .lt 3 (.max) [.int .i64 (0), h 18 3] <| .lt 3 (.bin .mul) [h 19 3, .int .i64 (10)] <| .lt 4 (.bin .sub) [h 1 4, .int .u8 (48)] <| .lt 3 (.conv .i64) [h 21 4] <| .lt 3 (.bin .add) [h 20 3, h 22 3] <| .lt 3 (.min) [h 23 3, .int .i64 (9999)] <| .lt 3 (.bin .sub) [h 15 3, .int .i64 (1)] <| .dt 11 (.subs 1) [h 8 11, .int .i64 (0), h 25 3] <| .dt 11 (.snoc 1) [h 26 11, h 24 3] <| .lt 3 (.bin .sub) [h 4 3, .int .i64 (1)] <| .dt 11 (.subs 1) [h 0 11, .int .i64 (0), h 28 3] <| .dt 11 (.snoc 1) [h 29 11, h 27 11] <| .ret [h 30 11, .int .i64 (0)]) (.no)) (.dt 11 (.nilw 1) [] <| .ret [h 15 11, .int .i64 (6)])) (.dt 11 (.nilw 1) [] <| .ret [h 14 11, .int .i64 (6)])))))) (.no)))
theorem stpo_c {G : Nat → Option Obj} (hst : StartOk Tryd.prog G gl H0 n0) : OwnOk Tryd.prog G 12 [.s 11, .s 4] stpo_s 11 47 [.s 3] := by
  refine own_of_tree (C := cx U_stpo P_rwl) (d := 60) stpo_t (cxg (U_stpo_ok hst) (P_rwl_ok hst)) hst ⟨Tryd.f12, _, Tryd.func12, rfl⟩ (by kernel_rfl) (by kernel_rfl) ?_
  intro us outs hs
  unfold stpo_s at hs
  split at hs
  · skip
    rename_i u_l c
    have hq_l := Option.bind_eq_some_iff.1 hs
    clear hs
    obtain ⟨l, hd_l, hs⟩ := hq_l
    replace hd_l := decS_eq hd_l
    subst hd_l
    split at hs
    · rename_i hc
      cases hs
      have hb := check_lp l hc.2
      unfold lastP lastN at hb
      unfold stpo_t
      refine s0 (.cons 1 _ (.cons 0 _ (.nil))) rfl (by simp [Ev.ok, Ev.len]) ?_
      refine s31 (chk_s_e _ (by omega)) rfl ?_
      refine s1 (ev_neq _ _ _) rfl rfl rfl ?_
      first | refine s4 rfl (fun g0 => ?_) (fun g0 => ?_) | refine s4B rfl (fun g0 => ?_) (fun g0 => ?_)
      · refine s2 (r := rP) (ev_nilwS rfl) rfl rfl ?_
        refine s7 [encS rP _, .int .i64 _] rfl ?_
        first | (rw [step_0 l c (by omega)]; done) | (rw [step_1 l c (by omega) (by omega) (by omega)]; done) | (rw [step_2 l c (by omega) (by omega) (by omega)]; done) | (rw [step_3 l c (by omega) (by omega) (by omega)]; rfl) | (rw [step_4 l c (by omega) (by omega)]; done) | (rw [step_5 l c (by omega) (by omega) (by omega) (by omega)]; rfl) | (rw [step_6 l c (by omega) (by omega) (by omega) (by omega)]; rfl) | (rw [step_7 l c (by omega) (by omega) (by omega)]; done) | (rw [step_8 l c (by omega) (by omega) (by omega)]; rfl)
      refine s1 (ev_lenS _ _) rfl rfl rfl ?_
      refine s1 (ev_eql _ _ _) rfl rfl rfl ?_
      first | refine s4 rfl (fun g1 => ?_) (fun g1 => ?_) | refine s4B rfl (fun g1 => ?_) (fun g1 => ?_)
      · refine s1 (ev_eql _ _ _) rfl rfl rfl ?_
        first | refine s4 rfl (fun g2 => ?_) (fun g2 => ?_) | refine s4B rfl (fun g2 => ?_) (fun g2 => ?_)
        · refine s2 (r := rI) (ev_mkS [_] rfl (by decide) rfl) rfl rfl ?_
          refine s2 (r := rI) (ev_mkS [_] rfl (by decide) rfl) rfl rfl ?_
          refine s2 (r := rP) (ev_mkS [_, _] rfl (by decide) rfl) rfl rfl ?_
          refine s7 [encS rP _, .int .i64 _] rfl ?_
          first | (rw [step_0 l c (by omega)]; done) | (rw [step_1 l c (by omega) (by omega) (by omega)]; done) | (rw [step_2 l c (by omega) (by omega) (by omega)]; done) | (rw [step_3 l c (by omega) (by omega) (by omega)]; rfl) | (rw [step_4 l c (by omega) (by omega)]; done) | (rw [step_5 l c (by omega) (by omega) (by omega) (by omega)]; rfl) | (rw [step_6 l c (by omega) (by omega) (by omega) (by omega)]; rfl) | (rw [step_7 l c (by omega) (by omega) (by omega)]; done) | (rw [step_8 l c (by omega) (by omega) (by omega)]; rfl)
        refine s1 (ev_eql _ _ _) rfl rfl rfl ?_
        first | refine s4 rfl (fun g3 => ?_) (fun g3 => ?_) | refine s4B rfl (fun g3 => ?_) (fun g3 => ?_)
        · refine s2 (r := rI) (ev_mkS [_, _] rfl (by decide) rfl) rfl rfl ?_
          refine s2 (r := rP) (ev_mkS [_] rfl (by decide) rfl) rfl rfl ?_
          refine s7 [encS rP _, .int .i64 _] rfl ?_
          first | (rw [step_0 l c (by omega)]; done) | (rw [step_1 l c (by omega) (by omega) (by omega)]; done) | (rw [step_2 l c (by omega) (by omega) (by omega)]; done) | (rw [step_3 l c (by omega) (by omega) (by omega)]; rfl) | (rw [step_4 l c (by omega) (by omega)]; done) | (rw [step_5 l c (by omega) (by omega) (by omega) (by omega)]; rfl) | (rw [step_6 l c (by omega) (by omega) (by omega) (by omega)]; rfl) | (rw [step_7 l c (by omega) (by omega) (by omega)]; done) | (rw [step_8 l c (by omega) (by omega) (by omega)]; rfl)
        refine s1 (ev_eql _ _ _) rfl rfl rfl ?_
        first | refine s4 rfl (fun g4 => ?_) (fun g4 => ?_) | refine s4B rfl (fun g4 => ?_) (fun g4 => ?_)
        · refine s2 (r := rP) (ev_nilwS rfl) rfl rfl ?_
          refine s7 [encS rP _, .int .i64 _] rfl ?_
          first | (rw [step_0 l c (by omega)]; done) | (rw [step_1 l c (by omega) (by omega) (by omega)]; done) | (rw [step_2 l c (by omega) (by omega) (by omega)]; done) | (rw [step_3 l c (by omega) (by omega) (by omega)]; rfl) | (rw [step_4 l c (by omega) (by omega)]; done) | (rw [step_5 l c (by omega) (by omega) (by omega) (by omega)]; rfl) | (rw [step_6 l c (by omega) (by omega) (by omega) (by omega)]; rfl) | (rw [step_7 l c (by omega) (by omega) (by omega)]; done) | (rw [step_8 l c (by omega) (by omega) (by omega)]; rfl)
        refine s1 (ev_eql _ _ _) rfl rfl rfl ?_
        first | refine s4 rfl (fun g5 => ?_) (fun g5 => ?_) | refine s4B rfl (fun g5 => ?_) (fun g5 => ?_)
        · refine s2 (r := rP) (ev_nilwS rfl) rfl rfl ?_
          refine s7 [encS rP _, .int .i64 _] rfl ?_
          first | (rw [step_0 l c (by omega)]; done) | (rw [step_1 l c (by omega) (by omega) (by omega)]; done) | (rw [step_2 l c (by omega) (by omega) (by omega)]; done) | (rw [step_3 l c (by omega) (by omega) (by omega)]; rfl) | (rw [step_4 l c (by omega) (by omega)]; done) | (rw [step_5 l c (by omega) (by omega) (by omega) (by omega)]; rfl) | (rw [step_6 l c (by omega) (by omega) (by omega) (by omega)]; rfl) | (rw [step_7 l c (by omega) (by omega) (by omega)]; done) | (rw [step_8 l c (by omega) (by omega) (by omega)]; rfl)
        refine s1 (ev_geq _ _ _) rfl rfl rfl ?_
        first | refine s4 rfl (fun g6 => ?_) (fun g6 => ?_) | refine s4B rfl (fun g6 => ?_) (fun g6 => ?_)
        · refine s1 (ev_leq _ _ _) rfl rfl rfl ?_
          first | refine s4 rfl (fun g7 => ?_) (fun g7 => ?_) | refine s4B rfl (fun g7 => ?_) (fun g7 => ?_)
          · first | refine s1 (ev_subW (wrap8 (by omega) (by omega))) rfl rfl rfl ?_ | refine s1 (ev_sub _ _ _) rfl rfl rfl ?_
            first | refine s1 (ev_convW (wrap64 (by omega) (by omega))) rfl rfl rfl ?_ | refine s1 (ev_conv _ _ _) rfl rfl rfl ?_
            first | refine s1 (ev_addW (wrap64 (by omega) (by omega))) rfl rfl rfl ?_ | refine s1 (ev_add _ _ _) rfl rfl rfl ?_
            refine s1 (ev_min _ _ _ _) rfl rfl rfl ?_
            refine s2 (r := rI) (ev_mkS [_] rfl (by decide) rfl) rfl rfl ?_
            refine s2 (r := rP) (ev_mkS [_] rfl (by decide) rfl) rfl rfl ?_
            refine s7 [encS rP _, .int .i64 _] rfl ?_
            first | (rw [step_0 l c (by omega)]; done) | (rw [step_1 l c (by omega) (by omega) (by omega)]; done) | (rw [step_2 l c (by omega) (by omega) (by omega)]; done) | (rw [step_3 l c (by omega) (by omega) (by omega)]; rfl) | (rw [step_4 l c (by omega) (by omega)]; done) | (rw [step_5 l c (by omega) (by omega) (by omega) (by omega)]; rfl) | (rw [step_6 l c (by omega) (by omega) (by omega) (by omega)]; rfl) | (rw [step_7 l c (by omega) (by omega) (by omega)]; done) | (rw [step_8 l c (by omega) (by omega) (by omega)]; rfl)
          refine s2 (r := rP) (ev_nilwS rfl) rfl rfl ?_
          refine s7 [encS rP _, .int .i64 _] rfl ?_
          first | (rw [step_0 l c (by omega)]; done) | (rw [step_1 l c (by omega) (by omega) (by omega)]; done) | (rw [step_2 l c (by omega) (by omega) (by omega)]; done) | (rw [step_3 l c (by omega) (by omega) (by omega)]; rfl) | (rw [step_4 l c (by omega) (by omega)]; done) | (rw [step_5 l c (by omega) (by omega) (by omega) (by omega)]; rfl) | (rw [step_6 l c (by omega) (by omega) (by omega) (by omega)]; rfl) | (rw [step_7 l c (by omega) (by omega) (by omega)]; done) | (rw [step_8 l c (by omega) (by omega) (by omega)]; rfl)
        refine s2 (r := rP) (ev_nilwS rfl) rfl rfl ?_
        refine s7 [encS rP _, .int .i64 _] rfl ?_
        first | (rw [step_0 l c (by omega)]; done) | (rw [step_1 l c (by omega) (by omega) (by omega)]; done) | (rw [step_2 l c (by omega) (by omega) (by omega)]; done) | (rw [step_3 l c (by omega) (by omega) (by omega)]; rfl) | (rw [step_4 l c (by omega) (by omega)]; done) | (rw [step_5 l c (by omega) (by omega) (by omega) (by omega)]; rfl) | (rw [step_6 l c (by omega) (by omega) (by omega) (by omega)]; rfl) | (rw [step_7 l c (by omega) (by omega) (by omega)]; done) | (rw [step_8 l c (by omega) (by omega) (by omega)]; rfl)
      first | refine s1 (ev_subW (wrap64 (by omega) (by omega))) rfl rfl rfl ?_ | refine s1 (ev_sub _ _ _) rfl rfl rfl ?_
      refine s1 (ev_inbsS rfl) rfl rfl rfl ?_
      first | refine s5 rfl (fun g2 => ?_) (fun g2 => ?_) | refine s5B rfl (fun g2 => ?_) (fun g2 => ?_)
      · refine s8 ?_
        first | omega | (simp_all; done) | (simp_all; omega)
      refine s2 (r := rI) (ev_getS rfl (by omega) (by omega) rfl) rfl rfl ?_
      refine s1 (ev_eql _ _ _) rfl rfl rfl ?_
      first | refine s4 rfl (fun g3 => ?_) (fun g3 => ?_) | refine s4B rfl (fun g3 => ?_) (fun g3 => ?_)
      · refine s1 (ev_lss _ _ _) rfl rfl rfl ?_
        first | refine s4 rfl (fun g4 => ?_) (fun g4 => ?_) | refine s4B rfl (fun g4 => ?_) (fun g4 => ?_)
        · refine s2 (r := rP) (ev_subsS rfl (by omega) (by omega) (by omega)) rfl rfl ?_
          refine s2 (r := rI) (ev_mkS [_] rfl (by decide) rfl) rfl rfl ?_
          refine s2 (r := rP) (ev_snocR rfl rfl (by decide) (by first | omega | exact Nat.lt_of_le_of_lt (sub_len _ _ _) (by omega) | exact Nat.le_trans (Nat.succ_le_succ (sub_len _ _ _)) (by omega))) rfl rfl ?_
          refine s7 [encS rP _, .int .i64 _] rfl ?_
          first | (rw [step_0 l c (by omega)]; done) | (rw [step_1 l c (by omega) (by omega) (by omega)]; done) | (rw [step_2 l c (by omega) (by omega) (by omega)]; done) | (rw [step_3 l c (by omega) (by omega) (by omega)]; rfl) | (rw [step_4 l c (by omega) (by omega)]; done) | (rw [step_5 l c (by omega) (by omega) (by omega) (by omega)]; rfl) | (rw [step_6 l c (by omega) (by omega) (by omega) (by omega)]; rfl) | (rw [step_7 l c (by omega) (by omega) (by omega)]; done) | (rw [step_8 l c (by omega) (by omega) (by omega)]; rfl)
        refine s1 (ev_eql _ _ _) rfl rfl rfl ?_
        first | refine s4 rfl (fun g5 => ?_) (fun g5 => ?_) | refine s4B rfl (fun g5 => ?_) (fun g5 => ?_)
        · refine s1 (ev_lenS _ _) rfl rfl rfl ?_
          refine s1 (ev_lss _ _ _) rfl rfl rfl ?_
          first | refine s4 rfl (fun g6 => ?_) (fun g6 => ?_) | refine s4B rfl (fun g6 => ?_) (fun g6 => ?_)
          · refine s2 (r := rI) (ev_subsS rfl (by omega) (by omega) (by omega)) rfl rfl ?_
            refine s2 (r := rI) (ev_snocR rfl rfl (by decide) (by first | omega | exact Nat.lt_of_le_of_lt (sub_len _ _ _) (by omega) | exact Nat.le_trans (Nat.succ_le_succ (sub_len _ _ _)) (by omega))) rfl rfl ?_
            first | refine s1 (ev_subW (wrap64 (by omega) (by omega))) rfl rfl rfl ?_ | refine s1 (ev_sub _ _ _) rfl rfl rfl ?_
            refine s2 (r := rP) (ev_subsS rfl (by omega) (by omega) (by omega)) rfl rfl ?_
            refine s2 (r := rP) (ev_snocR rfl rfl (by decide) (by first | omega | exact Nat.lt_of_le_of_lt (sub_len _ _ _) (by omega) | exact Nat.le_trans (Nat.succ_le_succ (sub_len _ _ _)) (by omega))) rfl rfl ?_
            refine s7 [encS rP _, .int .i64 _] rfl ?_
            first | (rw [step_0 l c (by omega)]; done) | (rw [step_1 l c (by omega) (by omega) (by omega)]; done) | (rw [step_2 l c (by omega) (by omega) (by omega)]; done) | (rw [step_3 l c (by omega) (by omega) (by omega)]; rfl) | (rw [step_4 l c (by omega) (by omega)]; done) | (rw [step_5 l c (by omega) (by omega) (by omega) (by omega)]; rfl) | (rw [step_6 l c (by omega) (by omega) (by omega) (by omega)]; rfl) | (rw [step_7 l c (by omega) (by omega) (by omega)]; done) | (rw [step_8 l c (by omega) (by omega) (by omega)]; rfl)
          refine s1 (ev_eql _ _ _) rfl rfl rfl ?_
          first | refine s4 rfl (fun g7 => ?_) (fun g7 => ?_) | refine s4B rfl (fun g7 => ?_) (fun g7 => ?_)
          · refine s2 (r := rP) (ev_nilwS rfl) rfl rfl ?_
            refine s7 [encS rP _, .int .i64 _] rfl ?_
            first | (rw [step_0 l c (by omega)]; done) | (rw [step_1 l c (by omega) (by omega) (by omega)]; done) | (rw [step_2 l c (by omega) (by omega) (by omega)]; done) | (rw [step_3 l c (by omega) (by omega) (by omega)]; rfl) | (rw [step_4 l c (by omega) (by omega)]; done) | (rw [step_5 l c (by omega) (by omega) (by omega) (by omega)]; rfl) | (rw [step_6 l c (by omega) (by omega) (by omega) (by omega)]; rfl) | (rw [step_7 l c (by omega) (by omega) (by omega)]; done) | (rw [step_8 l c (by omega) (by omega) (by omega)]; rfl)
          refine s1 (ev_eql _ _ _) rfl rfl rfl ?_
          first | refine s4 rfl (fun g8 => ?_) (fun g8 => ?_) | refine s4B rfl (fun g8 => ?_) (fun g8 => ?_)
          · refine s2 (r := rP) (ev_nilwS rfl) rfl rfl ?_
            refine s7 [encS rP _, .int .i64 _] rfl ?_
            first | (rw [step_0 l c (by omega)]; done) | (rw [step_1 l c (by omega) (by omega) (by omega)]; done) | (rw [step_2 l c (by omega) (by omega) (by omega)]; done) | (rw [step_3 l c (by omega) (by omega) (by omega)]; rfl) | (rw [step_4 l c (by omega) (by omega)]; done) | (rw [step_5 l c (by omega) (by omega) (by omega) (by omega)]; rfl) | (rw [step_6 l c (by omega) (by omega) (by omega) (by omega)]; rfl) | (rw [step_7 l c (by omega) (by omega) (by omega)]; done) | (rw [step_8 l c (by omega) (by omega) (by omega)]; rfl)
          refine s1 (ev_geq _ _ _) rfl rfl rfl ?_
          first | refine s4 rfl (fun g9 => ?_) (fun g9 => ?_) | refine s4B rfl (fun g9 => ?_) (fun g9 => ?_)
          · refine s1 (ev_leq _ _ _) rfl rfl rfl ?_
            first | refine s4 rfl (fun g10 => ?_) (fun g10 => ?_) | refine s4B rfl (fun g10 => ?_) (fun g10 => ?_)
            · first | refine s1 (ev_subW (wrap64 (by omega) (by omega))) rfl rfl rfl ?_ | refine s1 (ev_sub _ _ _) rfl rfl rfl ?_
              refine s1 (ev_inbsS rfl) rfl rfl rfl ?_
              first | refine s5 rfl (fun g11 => ?_) (fun g11 => ?_) | refine s5B rfl (fun g11 => ?_) (fun g11 => ?_)
              · refine s8 ?_
                first | omega | (simp_all; done) | (simp_all; omega)
              refine s1 (u := .int .i64 _) (ev_getS rfl (by omega) (by omega) rfl) rfl rfl rfl ?_
              refine s1 (ev_max _ _ _ _) rfl rfl rfl ?_
              first | refine s1 (ev_mulW (wrap64 (by omega) (by omega))) rfl rfl rfl ?_ | refine s1 (ev_mul _ _ _) rfl rfl rfl ?_
              first | refine s1 (ev_subW (wrap8 (by omega) (by omega))) rfl rfl rfl ?_ | refine s1 (ev_sub _ _ _) rfl rfl rfl ?_
              first | refine s1 (ev_convW (wrap64 (by omega) (by omega))) rfl rfl rfl ?_ | refine s1 (ev_conv _ _ _) rfl rfl rfl ?_
              first | refine s1 (ev_addW (wrap64 (by omega) (by omega))) rfl rfl rfl ?_ | refine s1 (ev_add _ _ _) rfl rfl rfl ?_
              refine s1 (ev_min _ _ _ _) rfl rfl rfl ?_
              first | refine s1 (ev_subW (wrap64 (by omega) (by omega))) rfl rfl rfl ?_ | refine s1 (ev_sub _ _ _) rfl rfl rfl ?_
              refine s2 (r := rI) (ev_subsS rfl (by omega) (by omega) (by omega)) rfl rfl ?_
              refine s2 (r := rI) (ev_snocR rfl rfl (by decide) (by first | omega | exact Nat.lt_of_le_of_lt (sub_len _ _ _) (by omega) | exact Nat.le_trans (Nat.succ_le_succ (sub_len _ _ _)) (by omega))) rfl rfl ?_
              first | refine s1 (ev_subW (wrap64 (by omega) (by omega))) rfl rfl rfl ?_ | refine s1 (ev_sub _ _ _) rfl rfl rfl ?_
              refine s2 (r := rP) (ev_subsS rfl (by omega) (by omega) (by omega)) rfl rfl ?_
              refine s2 (r := rP) (ev_snocR rfl rfl (by decide) (by first | omega | exact Nat.lt_of_le_of_lt (sub_len _ _ _) (by omega) | exact Nat.le_trans (Nat.succ_le_succ (sub_len _ _ _)) (by omega))) rfl rfl ?_
              refine s7 [encS rP _, .int .i64 _] rfl ?_
              first | (rw [step_0 l c (by omega)]; done) | (rw [step_1 l c (by omega) (by omega) (by omega)]; done) | (rw [step_2 l c (by omega) (by omega) (by omega)]; done) | (rw [step_3 l c (by omega) (by omega) (by omega)]; rfl) | (rw [step_4 l c (by omega) (by omega)]; done) | (rw [step_5 l c (by omega) (by omega) (by omega) (by omega)]; rfl) | (rw [step_6 l c (by omega) (by omega) (by omega) (by omega)]; rfl) | (rw [step_7 l c (by omega) (by omega) (by omega)]; done) | (rw [step_8 l c (by omega) (by omega) (by omega)]; rfl)
            refine s2 (r := rP) (ev_nilwS rfl) rfl rfl ?_
            refine s7 [encS rP _, .int .i64 _] rfl ?_
            first | (rw [step_0 l c (by omega)]; done) | (rw [step_1 l c (by omega) (by omega) (by omega)]; done) | (rw [step_2 l c (by omega) (by omega) (by omega)]; done) | (rw [step_3 l c (by omega) (by omega) (by omega)]; rfl) | (rw [step_4 l c (by omega) (by omega)]; done) | (rw [step_5 l c (by omega) (by omega) (by omega) (by omega)]; rfl) | (rw [step_6 l c (by omega) (by omega) (by omega) (by omega)]; rfl) | (rw [step_7 l c (by omega) (by omega) (by omega)]; done) | (rw [step_8 l c (by omega) (by omega) (by omega)]; rfl)
          refine s2 (r := rP) (ev_nilwS rfl) rfl rfl ?_
          refine s7 [encS rP _, .int .i64 _] rfl ?_
          first | (rw [step_0 l c (by omega)]; done) | (rw [step_1 l c (by omega) (by omega) (by omega)]; done) | (rw [step_2 l c (by omega) (by omega) (by omega)]; done) | (rw [step_3 l c (by omega) (by omega) (by omega)]; rfl) | (rw [step_4 l c (by omega) (by omega)]; done) | (rw [step_5 l c (by omega) (by omega) (by omega) (by omega)]; rfl) | (rw [step_6 l c (by omega) (by omega) (by omega) (by omega)]; rfl) | (rw [step_7 l c (by omega) (by omega) (by omega)]; done) | (rw [step_8 l c (by omega) (by omega) (by omega)]; rfl)
        refine s1 (ev_eql _ _ _) rfl rfl rfl ?_
        first | refine s4 rfl (fun g6 => ?_) (fun g6 => ?_) | refine s4B rfl (fun g6 => ?_) (fun g6 => ?_)
        · refine s2 (r := rP) (ev_nilwS rfl) rfl rfl ?_
          refine s7 [encS rP _, .int .i64 _] rfl ?_
          first | (rw [step_0 l c (by omega)]; done) | (rw [step_1 l c (by omega) (by omega) (by omega)]; done) | (rw [step_2 l c (by omega) (by omega) (by omega)]; done) | (rw [step_3 l c (by omega) (by omega) (by omega)]; rfl) | (rw [step_4 l c (by omega) (by omega)]; done) | (rw [step_5 l c (by omega) (by omega) (by omega) (by omega)]; rfl) | (rw [step_6 l c (by omega) (by omega) (by omega) (by omega)]; rfl) | (rw [step_7 l c (by omega) (by omega) (by omega)]; done) | (rw [step_8 l c (by omega) (by omega) (by omega)]; rfl)
        refine s1 (ev_eql _ _ _) rfl rfl rfl ?_
        first | refine s4 rfl (fun g7 => ?_) (fun g7 => ?_) | refine s4B rfl (fun g7 => ?_) (fun g7 => ?_)
        · refine s2 (r := rP) (ev_nilwS rfl) rfl rfl ?_
          refine s7 [encS rP _, .int .i64 _] rfl ?_
          first | (rw [step_0 l c (by omega)]; done) | (rw [step_1 l c (by omega) (by omega) (by omega)]; done) | (rw [step_2 l c (by omega) (by omega) (by omega)]; done) | (rw [step_3 l c (by omega) (by omega) (by omega)]; rfl) | (rw [step_4 l c (by omega) (by omega)]; done) | (rw [step_5 l c (by omega) (by omega) (by omega) (by omega)]; rfl) | (rw [step_6 l c (by omega) (by omega) (by omega) (by omega)]; rfl) | (rw [step_7 l c (by omega) (by omega) (by omega)]; done) | (rw [step_8 l c (by omega) (by omega) (by omega)]; rfl)
        refine s1 (ev_geq _ _ _) rfl rfl rfl ?_
        first | refine s4 rfl (fun g8 => ?_) (fun g8 => ?_) | refine s4B rfl (fun g8 => ?_) (fun g8 => ?_)
        · refine s1 (ev_leq _ _ _) rfl rfl rfl ?_
          first | refine s4 rfl (fun g9 => ?_) (fun g9 => ?_) | refine s4B rfl (fun g9 => ?_) (fun g9 => ?_)
          · refine s1 (ev_lenS _ _) rfl rfl rfl ?_
            first | refine s1 (ev_subW (wrap64 (by omega) (by omega))) rfl rfl rfl ?_ | refine s1 (ev_sub _ _ _) rfl rfl rfl ?_
            refine s1 (ev_inbsS rfl) rfl rfl rfl ?_
            first | refine s5 rfl (fun g10 => ?_) (fun g10 => ?_) | refine s5B rfl (fun g10 => ?_) (fun g10 => ?_)
            · refine s8 ?_
              first | omega | (simp_all; done) | (simp_all; omega)
            refine s1 (u := .int .i64 _) (ev_getS rfl (by omega) (by omega) rfl) rfl rfl rfl ?_
            refine s1 (ev_max _ _ _ _) rfl rfl rfl ?_
            first | refine s1 (ev_mulW (wrap64 (by omega) (by omega))) rfl rfl rfl ?_ | refine s1 (ev_mul _ _ _) rfl rfl rfl ?_
            first | refine s1 (ev_subW (wrap8 (by omega) (by omega))) rfl rfl rfl ?_ | refine s1 (ev_sub _ _ _) rfl rfl rfl ?_
            first | refine s1 (ev_convW (wrap64 (by omega) (by omega))) rfl rfl rfl ?_ | refine s1 (ev_conv _ _ _) rfl rfl rfl ?_
            first | refine s1 (ev_addW (wrap64 (by omega) (by omega))) rfl rfl rfl ?_ | refine s1 (ev_add _ _ _) rfl rfl rfl ?_
            refine s1 (ev_min _ _ _ _) rfl rfl rfl ?_
            first | refine s1 (ev_subW (wrap64 (by omega) (by omega))) rfl rfl rfl ?_ | refine s1 (ev_sub _ _ _) rfl rfl rfl ?_
            refine s2 (r := rI) (ev_subsS rfl (by omega) (by omega) (by omega)) rfl rfl ?_
            refine s2 (r := rI) (ev_snocR rfl rfl (by decide) (by first | omega | exact Nat.lt_of_le_of_lt (sub_len _ _ _) (by omega) | exact Nat.le_trans (Nat.succ_le_succ (sub_len _ _ _)) (by omega))) rfl rfl ?_
            first | refine s1 (ev_subW (wrap64 (by omega) (by omega))) rfl rfl rfl ?_ | refine s1 (ev_sub _ _ _) rfl rfl rfl ?_
            refine s2 (r := rP) (ev_subsS rfl (by omega) (by omega) (by omega)) rfl rfl ?_
            refine s2 (r := rP) (ev_snocR rfl rfl (by decide) (by first | omega | exact Nat.lt_of_le_of_lt (sub_len _ _ _) (by omega) | exact Nat.le_trans (Nat.succ_le_succ (sub_len _ _ _)) (by omega))) rfl rfl ?_
            refine s7 [encS rP _, .int .i64 _] rfl ?_
            first | (rw [step_0 l c (by omega)]; done) | (rw [step_1 l c (by omega) (by omega) (by omega)]; done) | (rw [step_2 l c (by omega) (by omega) (by omega)]; done) | (rw [step_3 l c (by omega) (by omega) (by omega)]; rfl) | (rw [step_4 l c (by omega) (by omega)]; done) | (rw [step_5 l c (by omega) (by omega) (by omega) (by omega)]; rfl) | (rw [step_6 l c (by omega) (by omega) (by omega) (by omega)]; rfl) | (rw [step_7 l c (by omega) (by omega) (by omega)]; done) | (rw [step_8 l c (by omega) (by omega) (by omega)]; rfl)
          refine s2 (r := rP) (ev_nilwS rfl) rfl rfl ?_
          refine s7 [encS rP _, .int .i64 _] rfl ?_
          first | (rw [step_0 l c (by omega)]; done) | (rw [step_1 l c (by omega) (by omega) (by omega)]; done) | (rw [step_2 l c (by omega) (by omega) (by omega)]; done) | (rw [step_3 l c (by omega) (by omega) (by omega)]; rfl) | (rw [step_4 l c (by omega) (by omega)]; done) | (rw [step_5 l c (by omega) (by omega) (by omega) (by omega)]; rfl) | (rw [step_6 l c (by omega) (by omega) (by omega) (by omega)]; rfl) | (rw [step_7 l c (by omega) (by omega) (by omega)]; done) | (rw [step_8 l c (by omega) (by omega) (by omega)]; rfl)
        refine s2 (r := rP) (ev_nilwS rfl) rfl rfl ?_
        refine s7 [encS rP _, .int .i64 _] rfl ?_
        first | (rw [step_0 l c (by omega)]; done) | (rw [step_1 l c (by omega) (by omega) (by omega)]; done) | (rw [step_2 l c (by omega) (by omega) (by omega)]; done) | (rw [step_3 l c (by omega) (by omega) (by omega)]; rfl) | (rw [step_4 l c (by omega) (by omega)]; done) | (rw [step_5 l c (by omega) (by omega) (by omega) (by omega)]; rfl) | (rw [step_6 l c (by omega) (by omega) (by omega) (by omega)]; rfl) | (rw [step_7 l c (by omega) (by omega) (by omega)]; done) | (rw [step_8 l c (by omega) (by omega) (by omega)]; rfl)
      refine s1 (ev_eql _ _ _) rfl rfl rfl ?_
      first | refine s4 rfl (fun g4 => ?_) (fun g4 => ?_) | refine s4B rfl (fun g4 => ?_) (fun g4 => ?_)
      · refine s1 (ev_lenS _ _) rfl rfl rfl ?_
        refine s1 (ev_lss _ _ _) rfl rfl rfl ?_
        first | refine s4 rfl (fun g5 => ?_) (fun g5 => ?_) | refine s4B rfl (fun g5 => ?_) (fun g5 => ?_)
        · refine s2 (r := rI) (ev_subsS rfl (by omega) (by omega) (by omega)) rfl rfl ?_
          refine s2 (r := rI) (ev_snocR rfl rfl (by decide) (by first | omega | exact Nat.lt_of_le_of_lt (sub_len _ _ _) (by omega) | exact Nat.le_trans (Nat.succ_le_succ (sub_len _ _ _)) (by omega))) rfl rfl ?_
          first | refine s1 (ev_subW (wrap64 (by omega) (by omega))) rfl rfl rfl ?_ | refine s1 (ev_sub _ _ _) rfl rfl rfl ?_
          refine s2 (r := rP) (ev_subsS rfl (by omega) (by omega) (by omega)) rfl rfl ?_
          refine s2 (r := rP) (ev_snocR rfl rfl (by decide) (by first | omega | exact Nat.lt_of_le_of_lt (sub_len _ _ _) (by omega) | exact Nat.le_trans (Nat.succ_le_succ (sub_len _ _ _)) (by omega))) rfl rfl ?_
          refine s7 [encS rP _, .int .i64 _] rfl ?_
          first | (rw [step_0 l c (by omega)]; done) | (rw [step_1 l c (by omega) (by omega) (by omega)]; done) | (rw [step_2 l c (by omega) (by omega) (by omega)]; done) | (rw [step_3 l c (by omega) (by omega) (by omega)]; rfl) | (rw [step_4 l c (by omega) (by omega)]; done) | (rw [step_5 l c (by omega) (by omega) (by omega) (by omega)]; rfl) | (rw [step_6 l c (by omega) (by omega) (by omega) (by omega)]; rfl) | (rw [step_7 l c (by omega) (by omega) (by omega)]; done) | (rw [step_8 l c (by omega) (by omega) (by omega)]; rfl)
        refine s1 (ev_eql _ _ _) rfl rfl rfl ?_
        first | refine s4 rfl (fun g6 => ?_) (fun g6 => ?_) | refine s4B rfl (fun g6 => ?_) (fun g6 => ?_)
        · refine s2 (r := rP) (ev_nilwS rfl) rfl rfl ?_
          refine s7 [encS rP _, .int .i64 _] rfl ?_
          first | (rw [step_0 l c (by omega)]; done) | (rw [step_1 l c (by omega) (by omega) (by omega)]; done) | (rw [step_2 l c (by omega) (by omega) (by omega)]; done) | (rw [step_3 l c (by omega) (by omega) (by omega)]; rfl) | (rw [step_4 l c (by omega) (by omega)]; done) | (rw [step_5 l c (by omega) (by omega) (by omega) (by omega)]; rfl) | (rw [step_6 l c (by omega) (by omega) (by omega) (by omega)]; rfl) | (rw [step_7 l c (by omega) (by omega) (by omega)]; done) | (rw [step_8 l c (by omega) (by omega) (by omega)]; rfl)
        refine s1 (ev_eql _ _ _) rfl rfl rfl ?_
        first | refine s4 rfl (fun g7 => ?_) (fun g7 => ?_) | refine s4B rfl (fun g7 => ?_) (fun g7 => ?_)
        · refine s2 (r := rP) (ev_nilwS rfl) rfl rfl ?_
          refine s7 [encS rP _, .int .i64 _] rfl ?_
          first | (rw [step_0 l c (by omega)]; done) | (rw [step_1 l c (by omega) (by omega) (by omega)]; done) | (rw [step_2 l c (by omega) (by omega) (by omega)]; done) | (rw [step_3 l c (by omega) (by omega) (by omega)]; rfl) | (rw [step_4 l c (by omega) (by omega)]; done) | (rw [step_5 l c (by omega) (by omega) (by omega) (by omega)]; rfl) | (rw [step_6 l c (by omega) (by omega) (by omega) (by omega)]; rfl) | (rw [step_7 l c (by omega) (by omega) (by omega)]; done) | (rw [step_8 l c (by omega) (by omega) (by omega)]; rfl)
        refine s1 (ev_geq _ _ _) rfl rfl rfl ?_
        first | refine s4 rfl (fun g8 => ?_) (fun g8 => ?_) | refine s4B rfl (fun g8 => ?_) (fun g8 => ?_)
        · refine s1 (ev_leq _ _ _) rfl rfl rfl ?_
          first | refine s4 rfl (fun g9 => ?_) (fun g9 => ?_) | refine s4B rfl (fun g9 => ?_) (fun g9 => ?_)
          · first | refine s1 (ev_subW (wrap64 (by omega) (by omega))) rfl rfl rfl ?_ | refine s1 (ev_sub _ _ _) rfl rfl rfl ?_
            refine s1 (ev_inbsS rfl) rfl rfl rfl ?_
            first | refine s5 rfl (fun g10 => ?_) (fun g10 => ?_) | refine s5B rfl (fun g10 => ?_) (fun g10 => ?_)
            · refine s8 ?_
              first | omega | (simp_all; done) | (simp_all; omega)
            refine s1 (u := .int .i64 _) (ev_getS rfl (by omega) (by omega) rfl) rfl rfl rfl ?_
            refine s1 (ev_max _ _ _ _) rfl rfl rfl ?_
            first | refine s1 (ev_mulW (wrap64 (by omega) (by omega))) rfl rfl rfl ?_ | refine s1 (ev_mul _ _ _) rfl rfl rfl ?_
            first | refine s1 (ev_subW (wrap8 (by omega) (by omega))) rfl rfl rfl ?_ | refine s1 (ev_sub _ _ _) rfl rfl rfl ?_
            first | refine s1 (ev_convW (wrap64 (by omega) (by omega))) rfl rfl rfl ?_ | refine s1 (ev_conv _ _ _) rfl rfl rfl ?_
            first | refine s1 (ev_addW (wrap64 (by omega) (by omega))) rfl rfl rfl ?_ | refine s1 (ev_add _ _ _) rfl rfl rfl ?_
            refine s1 (ev_min _ _ _ _) rfl rfl rfl ?_
            first | refine s1 (ev_subW (wrap64 (by omega) (by omega))) rfl rfl rfl ?_ | refine s1 (ev_sub _ _ _) rfl rfl rfl ?_
            refine s2 (r := rI) (ev_subsS rfl (by omega) (by omega) (by omega)) rfl rfl ?_
            refine s2 (r := rI) (ev_snocR rfl rfl (by decide) (by first | omega | exact Nat.lt_of_le_of_lt (sub_len _ _ _) (by omega) | exact Nat.le_trans (Nat.succ_le_succ (sub_len _ _ _)) (by omega))) rfl rfl ?_
            first | refine s1 (ev_subW (wrap64 (by omega) (by omega))) rfl rfl rfl ?_ | refine s1 (ev_sub _ _ _) rfl rfl rfl ?_
            refine s2 (r := rP) (ev_subsS rfl (by omega) (by omega) (by omega)) rfl rfl ?_
            refine s2 (r := rP) (ev_snocR rfl rfl (by decide) (by first | omega | exact Nat.lt_of_le_of_lt (sub_len _ _ _) (by omega) | exact Nat.le_trans (Nat.succ_le_succ (sub_len _ _ _)) (by omega))) rfl rfl ?_
            refine s7 [encS rP _, .int .i64 _] rfl ?_
            first | (rw [step_0 l c (by omega)]; done) | (rw [step_1 l c (by omega) (by omega) (by omega)]; done) | (rw [step_2 l c (by omega) (by omega) (by omega)]; done) | (rw [step_3 l c (by omega) (by omega) (by omega)]; rfl) | (rw [step_4 l c (by omega) (by omega)]; done) | (rw [step_5 l c (by omega) (by omega) (by omega) (by omega)]; rfl) | (rw [step_6 l c (by omega) (by omega) (by omega) (by omega)]; rfl) | (rw [step_7 l c (by omega) (by omega) (by omega)]; done) | (rw [step_8 l c (by omega) (by omega) (by omega)]; rfl)
          refine s2 (r := rP) (ev_nilwS rfl) rfl rfl ?_
          refine s7 [encS rP _, .int .i64 _] rfl ?_
          first | (rw [step_0 l c (by omega)]; done) | (rw [step_1 l c (by omega) (by omega) (by omega)]; done) | (rw [step_2 l c (by omega) (by omega) (by omega)]; done) | (rw [step_3 l c (by omega) (by omega) (by omega)]; rfl) | (rw [step_4 l c (by omega) (by omega)]; done) | (rw [step_5 l c (by omega) (by omega) (by omega) (by omega)]; rfl) | (rw [step_6 l c (by omega) (by omega) (by omega) (by omega)]; rfl) | (rw [step_7 l c (by omega) (by omega) (by omega)]; done) | (rw [step_8 l c (by omega) (by omega) (by omega)]; rfl)
        refine s2 (r := rP) (ev_nilwS rfl) rfl rfl ?_
        refine s7 [encS rP _, .int .i64 _] rfl ?_
        first | (rw [step_0 l c (by omega)]; done) | (rw [step_1 l c (by omega) (by omega) (by omega)]; done) | (rw [step_2 l c (by omega) (by omega) (by omega)]; done) | (rw [step_3 l c (by omega) (by omega) (by omega)]; rfl) | (rw [step_4 l c (by omega) (by omega)]; done) | (rw [step_5 l c (by omega) (by omega) (by omega) (by omega)]; rfl) | (rw [step_6 l c (by omega) (by omega) (by omega) (by omega)]; rfl) | (rw [step_7 l c (by omega) (by omega) (by omega)]; done) | (rw [step_8 l c (by omega) (by omega) (by omega)]; rfl)
      refine s1 (ev_eql _ _ _) rfl rfl rfl ?_
      first | refine s4 rfl (fun g5 => ?_) (fun g5 => ?_) | refine s4B rfl (fun g5 => ?_) (fun g5 => ?_)
      · refine s2 (r := rP) (ev_nilwS rfl) rfl rfl ?_
        refine s7 [encS rP _, .int .i64 _] rfl ?_
        first | (rw [step_0 l c (by omega)]; done) | (rw [step_1 l c (by omega) (by omega) (by omega)]; done) | (rw [step_2 l c (by omega) (by omega) (by omega)]; done) | (rw [step_3 l c (by omega) (by omega) (by omega)]; rfl) | (rw [step_4 l c (by omega) (by omega)]; done) | (rw [step_5 l c (by omega) (by omega) (by omega) (by omega)]; rfl) | (rw [step_6 l c (by omega) (by omega) (by omega) (by omega)]; rfl) | (rw [step_7 l c (by omega) (by omega) (by omega)]; done) | (rw [step_8 l c (by omega) (by omega) (by omega)]; rfl)
      refine s1 (ev_eql _ _ _) rfl rfl rfl ?_
      first | refine s4 rfl (fun g6 => ?_) (fun g6 => ?_) | refine s4B rfl (fun g6 => ?_) (fun g6 => ?_)
      · refine s2 (r := rP) (ev_nilwS rfl) rfl rfl ?_
        refine s7 [encS rP _, .int .i64 _] rfl ?_
        first | (rw [step_0 l c (by omega)]; done) | (rw [step_1 l c (by omega) (by omega) (by omega)]; done) | (rw [step_2 l c (by omega) (by omega) (by omega)]; done) | (rw [step_3 l c (by omega) (by omega) (by omega)]; rfl) | (rw [step_4 l c (by omega) (by omega)]; done) | (rw [step_5 l c (by omega) (by omega) (by omega) (by omega)]; rfl) | (rw [step_6 l c (by omega) (by omega) (by omega) (by omega)]; rfl) | (rw [step_7 l c (by omega) (by omega) (by omega)]; done) | (rw [step_8 l c (by omega) (by omega) (by omega)]; rfl)
      refine s1 (ev_geq _ _ _) rfl rfl rfl ?_
      first | refine s4 rfl (fun g7 => ?_) (fun g7 => ?_) | refine s4B rfl (fun g7 => ?_) (fun g7 => ?_)
      · refine s1 (ev_leq _ _ _) rfl rfl rfl ?_
        first | refine s4 rfl (fun g8 => ?_) (fun g8 => ?_) | refine s4B rfl (fun g8 => ?_) (fun g8 => ?_)
        · refine s1 (ev_lenS _ _) rfl rfl rfl ?_
          first | refine s1 (ev_subW (wrap64 (by omega) (by omega))) rfl rfl rfl ?_ | refine s1 (ev_sub _ _ _) rfl rfl rfl ?_
          refine s1 (ev_inbsS rfl) rfl rfl rfl ?_
          first | refine s5 rfl (fun g9 => ?_) (fun g9 => ?_) | refine s5B rfl (fun g9 => ?_) (fun g9 => ?_)
          · refine s8 ?_
            first | omega | (simp_all; done) | (simp_all; omega)
          refine s1 (u := .int .i64 _) (ev_getS rfl (by omega) (by omega) rfl) rfl rfl rfl ?_
          refine s1 (ev_max _ _ _ _) rfl rfl rfl ?_
          first | refine s1 (ev_mulW (wrap64 (by omega) (by omega))) rfl rfl rfl ?_ | refine s1 (ev_mul _ _ _) rfl rfl rfl ?_
          first | refine s1 (ev_subW (wrap8 (by omega) (by omega))) rfl rfl rfl ?_ | refine s1 (ev_sub _ _ _) rfl rfl rfl ?_
          first | refine s1 (ev_convW (wrap64 (by omega) (by omega))) rfl rfl rfl ?_ | refine s1 (ev_conv _ _ _) rfl rfl rfl ?_
          first | refine s1 (ev_addW (wrap64 (by omega) (by omega))) rfl rfl rfl ?_ | refine s1 (ev_add _ _ _) rfl rfl rfl ?_
          refine s1 (ev_min _ _ _ _) rfl rfl rfl ?_
          first | refine s1 (ev_subW (wrap64 (by omega) (by omega))) rfl rfl rfl ?_ | refine s1 (ev_sub _ _ _) rfl rfl rfl ?_
          refine s2 (r := rI) (ev_subsS rfl (by omega) (by omega) (by omega)) rfl rfl ?_
          refine s2 (r := rI) (ev_snocR rfl rfl (by decide) (by first | omega | exact Nat.lt_of_le_of_lt (sub_len _ _ _) (by omega) | exact Nat.le_trans (Nat.succ_le_succ (sub_len _ _ _)) (by omega))) rfl rfl ?_
          first | refine s1 (ev_subW (wrap64 (by omega) (by omega))) rfl rfl rfl ?_ | refine s1 (ev_sub _ _ _) rfl rfl rfl ?_
          refine s2 (r := rP) (ev_subsS rfl (by omega) (by omega) (by omega)) rfl rfl ?_
          refine s2 (r := rP) (ev_snocR rfl rfl (by decide) (by first | omega | exact Nat.lt_of_le_of_lt (sub_len _ _ _) (by omega) | exact Nat.le_trans (Nat.succ_le_succ (sub_len _ _ _)) (by omega))) rfl rfl ?_
          refine s7 [encS rP _, .int .i64 _] rfl ?_
          first | (rw [step_0 l c (by omega)]; done) | (rw [step_1 l c (by omega) (by omega) (by omega)]; done) | (rw [step_2 l c (by omega) (by omega) (by omega)]; done) | (rw [step_3 l c (by omega) (by omega) (by omega)]; rfl) | (rw [step_4 l c (by omega) (by omega)]; done) | (rw [step_5 l c (by omega) (by omega) (by omega) (by omega)]; rfl) | (rw [step_6 l c (by omega) (by omega) (by omega) (by omega)]; rfl) | (rw [step_7 l c (by omega) (by omega) (by omega)]; done) | (rw [step_8 l c (by omega) (by omega) (by omega)]; rfl)
        refine s2 (r := rP) (ev_nilwS rfl) rfl rfl ?_
        refine s7 [encS rP _, .int .i64 _] rfl ?_
        first | (rw [step_0 l c (by omega)]; done) | (rw [step_1 l c (by omega) (by omega) (by omega)]; done) | (rw [step_2 l c (by omega) (by omega) (by omega)]; done) | (rw [step_3 l c (by omega) (by omega) (by omega)]; rfl) | (rw [step_4 l c (by omega) (by omega)]; done) | (rw [step_5 l c (by omega) (by omega) (by omega) (by omega)]; rfl) | (rw [step_6 l c (by omega) (by omega) (by omega) (by omega)]; rfl) | (rw [step_7 l c (by omega) (by omega) (by omega)]; done) | (rw [step_8 l c (by omega) (by omega) (by omega)]; rfl)
      refine s2 (r := rP) (ev_nilwS rfl) rfl rfl ?_
      refine s7 [encS rP _, .int .i64 _] rfl ?_
      first | (rw [step_0 l c (by omega)]; done) | (rw [step_1 l c (by omega) (by omega) (by omega)]; done) | (rw [step_2 l c (by omega) (by omega) (by omega)]; done) | (rw [step_3 l c (by omega) (by omega) (by omega)]; rfl) | (rw [step_4 l c (by omega) (by omega)]; done) | (rw [step_5 l c (by omega) (by omega) (by omega) (by omega)]; rfl) | (rw [step_6 l c (by omega) (by omega) (by omega) (by omega)]; rfl) | (rw [step_7 l c (by omega) (by omega) (by omega)]; done) | (rw [step_8 l c (by omega) (by omega) (by omega)]; rfl)
    · cases hs
  · cases hs
noncomputable def L_stpo : List (FuncId × FnC) := (12, ownF Tryd.prog [.s 11, .s 4] stpo_s 11 47 [.s 3]) :: L_wks
theorem L_stpo_ok {G : Nat → Option Obj} (hst : StartOk Tryd.prog G gl H0 n0) : ConsOk Tryd.prog G gl L_stpo := .consO (stpo_c hst) (L_wks_ok hst)
noncomputable def U_pslo : List (FuncId × FnC) := (12, ownF Tryd.prog [.s 11, .s 4] stpo_s 11 47 [.s 3]) :: L0
theorem U_pslo_ok {G : Nat → Option Obj} (hst : StartOk Tryd.prog G gl H0 n0) : ConsOk Tryd.prog G gl U_pslo := (.consO (stpo_c hst) .nil)
def pslo_l : List U → Option (Nat × List U)
  | [.str s, u_l, .int .i64 n, .int .i64 i] => (decS rP u_l).bind fun l => if n = (s.length : Int) ∧ 0 ≤ i ∧ i ≤ n ∧ n ≤ 1000000000 ∧ Vl l then way01 (parE l (s.drop i.toNat)) [encS rP (parL l (s.drop i.toNat))] (fun e => [.int .i64 e]) else none
  | _ => none
theorem pslo_l_e (s : (List UInt8)) (l : (Option (List (Option (List Int))))) (n : Int) (i : Int) (hc : n = (s.length : Int) ∧ 0 ≤ i ∧ i ≤ n ∧ n ≤ 1000000000 ∧ Vl l) : pslo_l [.str s, encS rP l, .int .i64 n, .int .i64 i] = way01 (parE l (s.drop i.toNat)) [encS rP (parL l (s.drop i.toNat))] (fun e => [.int .i64 e]) := by
  simp only [pslo_l, decS_enc, Option.bind_some]
  exact if_pos hc
def pslo_D : LoopD := ⟨[(0, h 0 9), (2, own 4 1 11), (9, h 2 3), (10, h 3 3)], [(4, .sq 1 11 47 5), (5, .frz)], 4, [⟨.exit 0, [(2, own 6 0 11)], [(6, .sq 0 11 47 7), (7, .frz)], 1⟩, ⟨.ret, [(2, .slice none 0 0), (3, h 0 3)], [], 1⟩]⟩
noncomputable def pslo_B : Code := (Tryd.f17.body).getD .skip
noncomputable def pslo_x : Code := match codeAt [true, true, false, true, false] pslo_B with | some (.loop x) => x | _ => .skip
theorem pslo_b : Tryd.f17.body = some pslo_B := rfl
theorem pslo_p : codeAt [true, true, false, true, false] pslo_B = some (.loop pslo_x) := by kernel_rfl
def pslo_t : Tr := .lt 8 (.bin .lss) [h 3 3, h 2 3] <| .br 4 (.lt 4 (.idx) [h 0 9, h 3 3] <| .fn stpo_s [h 1 11, h 5 4] 2 <| .lt 8 (.bin .neq) [h 7 3, .int .i64 (0)] <| .br 8 (.ret [.int .i64 (1), h 7 3]) (.lt 3 (.bin .add) [h 3 3, .int .i64 (1)] <| .ret [.int .i64 (-1), h 0 9, h 6 11, h 2 3, h 9 3])) (.ret [.int .i64 (0), h 1 11])
def pslo_m : List U → Nat
  | [.str s, u_l, .int .i64 n, .int .i64 i] => (match decS rP u_l with | some l => (n - i).toNat | none => 0)
  | _ => 0
theorem pslo_me (s : (List UInt8)) (l : (Option (List (Option (List Int))))) (n : Int) (i : Int) : pslo_m [.str s, encS rP l, .int .i64 n, .int .i64 i] = (n - i).toNat := by
  simp only [pslo_m, decS_enc]
theorem pslo_c {G : Nat → Option Obj} (hst : StartOk Tryd.prog G gl H0 n0) : ∀ (E : Nat → U) (base : Nat), @CodeOk ⟨E, G⟩ Tryd.prog base gl Tryd.f17.ntmps pslo_x (loopF Tryd.prog gl n0 8 pslo_D pslo_l) := by
  refine loop_ok (C := cx U_pslo P_rwl) (dep := 60) (f := 17) (n0 := n0) (nB := 8) (H0 := H0) pslo_m pslo_t (cxg (U_pslo_ok hst) (P_rwl_ok hst)) hst Tryd.func17 pslo_b pslo_p (by kernel_rfl) (by kernel_rfl) (by kernel_rfl) ?_
  intro us d outs hs
  have hs0 := hs
  unfold pslo_l at hs
  split at hs
  · skip
    rename_i s u_l n i
    have hq_l := Option.bind_eq_some_iff.1 hs
    clear hs
    obtain ⟨l, hd_l, hs⟩ := hq_l
    replace hd_l := decS_eq hd_l
    subst hd_l
    split at hs
    · rename_i hc
      clear hs hs0
      refine ⟨rfl, ?_⟩
      unfold pslo_t
      refine s0 (.cons 3 _ (.cons 2 _ (.cons 1 _ (.cons 0 _ (.nil))))) rfl (by simp [Ev.ok, Ev.len]) ?_
      refine s1 (ev_lss _ _ _) rfl rfl rfl ?_
      first | refine s5 rfl (fun g0 => ?_) (fun g0 => ?_) | refine s5B rfl (fun g0 => ?_) (fun g0 => ?_)
      · refine s7 [.int .i64 _, encS rP _] rfl ?_
        refine leaf_exit (d := 0) ?_
        rw [pslo_l_e s l n i hc, drop_z s (by omega)]; rfl
      refine s1 (ev_idx _ _ _ (by omega) (by omega)) rfl rfl rfl ?_
      refine s32 (stpo_s_e _ _ (vl_c hc.2.2.2.2)) rfl rfl ?_
      refine s1 (ev_neq _ _ _) rfl rfl rfl ?_
      first | refine s4 rfl (fun g1 => ?_) (fun g1 => ?_) | refine s4B rfl (fun g1 => ?_) (fun g1 => ?_)
      · refine s7 [.int .i64 _, .int .i64 _] rfl ?_
        refine leaf_exit (d := 1) ?_
        rw [pslo_l_e s l n i hc, drop_sb s hc.2.1 (by omega), parE_so (by first | exact g1 | simpa using g1)]; rfl
      first | refine s1 (ev_addW (wrap64 (by omega) (by omega))) rfl rfl rfl ?_ | refine s1 (ev_add _ _ _) rfl rfl rfl ?_
      refine s7 [.int .i64 _, .str _, encS rP _, .int .i64 _, .int .i64 _] rfl ?_
      refine leaf_back ?_ ?_
      · rw [pslo_l_e s _ n (i + 1) ⟨hc.1, by omega, by omega, hc.2.2.2.1, vl_step _ _⟩, pslo_l_e s l n i hc, drop_sb s hc.2.1 (by omega), parE_no (by first | exact g1 | simpa using g1), parL_c]
      · rw [pslo_me, pslo_me]; omega
    · cases hs
  · cases hs
noncomputable def P_pslo : List LpE := (17, ([true, true, false, true, false], loopF Tryd.prog gl n0 8 pslo_D pslo_l)) :: P_rwl
theorem P_pslo_ok {G : Nat → Option Obj} (hst : StartOk Tryd.prog G gl H0 n0) : LpsOk Tryd.prog G gl P_pslo := .cons Tryd.func17 pslo_b pslo_p (pslo_c hst) (P_rwl_ok hst)
def prso_s : List U → Option (Nat × List U)
  | [.str s] => some (0, [encS rP ((parseS s).1), .int .i64 ((parseS s).2)])
  | _ => none
theorem prso_s_e (s : (List UInt8)) : prso_s [.str s] = some (0, [encS rP ((parseS s).1), .int .i64 ((parseS s).2)]) := rfl
def prso_t : Tr := .lt 3 (.len) [h 0 9] <| .lt 8 (.bin .gtr) [h 1 3, .int .i64 (4096)] <| .br 2 (.dt 11 (.nilw 1) [] <| .ret [h 3 11, .int .i64 (3)]) (.lt 3 (.len) [h 0 9] <| .dt 11 (.nilw 1) [] <| .lp pslo_l [h 0 9, h 4 11, h 3 3, .int .i64 (0)] 0 1 (.ret [h 5 11, .int .i64 (0)]) (.lp pslo_l [h 0 9, h 4 11, h 3 3, .int .i64 (0)] 1 1 (.dt 11 (.nilw 1) [] <| .ret [h 6 11, h 5 3]) (.no)))
theorem prso_c {G : Nat → Option Obj} (hst : StartOk Tryd.prog G gl H0 n0) : OwnOk Tryd.prog G 17 [.s 9] prso_s 11 47 [.s 3] := by
  refine own_of_tree (C := cx L_stpo P_pslo) (d := 60) prso_t (cxg (L_stpo_ok hst) (P_pslo_ok hst)) hst ⟨Tryd.f17, _, Tryd.func17, rfl⟩ (by kernel_rfl) (by kernel_rfl) ?_
  intro us outs hs
  unfold prso_s at hs
  split at hs
  · skip
    rename_i s
    cases hs
    unfold prso_t
    refine s0 (.cons 0 _ (.nil)) rfl (by simp [Ev.ok, Ev.len]) ?_
    refine s1 (ev_len _) rfl rfl rfl ?_
    refine s1 (ev_gtr _ _ _) rfl rfl rfl ?_
    first | refine s4 rfl (fun g0 => ?_) (fun g0 => ?_) | refine s4B rfl (fun g0 => ?_) (fun g0 => ?_)
    · refine s2 (r := rP) (ev_nilwS rfl) rfl rfl ?_
      refine s7 [encS rP _, .int .i64 _] rfl ?_
      first | (rw [parse_a s (by omega)]; done) | (rw [parse_b s (by omega) (by assumption)]; done) | (rw [parse_c s (by omega) (by assumption)]; done)
    refine s1 (ev_len _) rfl rfl rfl ?_
    refine s2 (r := rP) (ev_nilwS rfl) rfl rfl ?_
    refine s6 (pslo_l_e _ none _ _ ⟨rfl, by omega, by omega, by omega, vl_none⟩) rfl (fun _ => rfl) (fun g1 => ?_) (fun v1 g1 => ?_)
    · show Tr.sav _ _ (.cons 5 _ _)
      refine s7 [encS rP _, .int .i64 _] rfl ?_
      first | (rw [parse_a s (by omega)]; done) | (rw [parse_b s (by omega) (by assumption)]; done) | (rw [parse_c s (by omega) (by assumption)]; done)
    show Tr.sav _ _ (.cons 5 _ _)
    refine s2 (r := rP) (ev_nilwS rfl) rfl rfl ?_
    refine s7 [encS rP _, .int .i64 _] rfl ?_
    first | (rw [parse_a s (by omega)]; done) | (rw [parse_b s (by omega) (by assumption)]; done) | (rw [parse_c s (by omega) (by assumption)]; done)
  · cases hs
noncomputable def L_prso : List (FuncId × FnC) := (17, ownF Tryd.prog [.s 9] prso_s 11 47 [.s 3]) :: L_stpo
theorem L_prso_ok {G : Nat → Option Obj} (hst : StartOk Tryd.prog G gl H0 n0) : ConsOk Tryd.prog G gl L_prso := .consO (prso_c hst) (L_stpo_ok hst)
end Go.Proofs.YtadmkfclgpbebaaDoor
