/- The law ParamPrints: for every input the call returns true, and the arguments read behind it as they read before. No condition. -/
import Derived.Test.YtadmkfclgpbebaaDoorX11
import Derived.Test.YtadmkfclgpbebaaDoorCards
import Derived.Test.YtadmkfclgpbebaaDoorTie
import Derived.WalkKit
import Derived.ProofKit
import Derived.OpenShut
import Derived.Below
import Derived.Carry
import Derived.Lib.SmallJoins
import Derived.Deep.DeepHandedRow
import Derived.Lib.LaidTab
import Derived.MakeChecks
namespace Go.Proofs.YtadmkfclgpbebaaDoor
set_option linter.all false
open Go Go.Sx
set_option maxRecDepth 100000
set_option linter.unusedVariables false
set_option linter.unusedSimpArgs false
theorem rpi_pre {p : Option (List Int)} {k : Int} (hk : 0 ≤ k) (h : ∀ n ∈ el p, -1 ≤ n ∧ n ≤ 9999) : ¬k < ((el p).length : Int) ∨ -1 ≤ (el p).getD k.toNat default ∧ (el p).getD k.toNat default ≤ 9999 ∧
    rowS 0 k ((el p).drop k.toNat) = aheadS 0 k ++ partS ((el p).getD k.toNat default) ++ rowS 0 (k + 1) ((el p).drop (k + 1).toNat) := by
  by_cases hkm : k < ((el p).length : Int)
  · obtain ⟨a, b⟩ := all_get h hk hkm
    exact .inr ⟨a, b, by rw [drop_step (el p) hk hkm, row_cons]⟩
  · exact .inl hkm
theorem part_dig {n : Int} (h : 0 ≤ n) : partS n = Lib.decDigits n.toNat := by
  unfold partS
  rw [if_neg (by omega), show n = (n.toNat : Int) by omega, Lib.itoa_nonneg, Int.toNat_natCast]
theorem part_none {n : Int} (h : -1 ≤ n) (h1 : ¬0 ≤ n) : partS n = [] := if_pos (by omega)
theorem ahead_k {k : Int} (h : 0 < k) : aheadS 0 k = [58] := if_neg (by omega)
theorem ahead_0 {k : Int} (h0 : 0 ≤ k) (h : ¬0 < k) : aheadS 0 k = [] := by
  unfold aheadS
  rw [if_pos (by omega), if_pos rfl]
def rpi_s : List U → Option (Nat × List U)
  | [u_l, .str s, .int .i64 i, .int .i64 k] => (decS rP u_l).bind fun l => if 0 ≤ i ∧ i < ((el l).length : Int) ∧ 0 ≤ k ∧ k ≤ ((el ((el l).getD i.toNat default)).length : Int) ∧ (el ((el l).getD i.toNat default)).length ≤ 1000000 ∧ s.length + (rowS 0 k ((el ((el l).getD i.toNat default)).drop k.toNat)).length ≤ 100000000 ∧ ∀ n ∈ (el ((el l).getD i.toNat default)), -1 ≤ n ∧ n ≤ 9999 then some (0, [encS rP l, .str (s ++ rowS 0 k ((el ((el l).getD i.toNat default)).drop k.toNat)), .int .i64 i]) else none
  | _ => none
theorem rpi_s_e (l : (Option (List (Option (List Int))))) (s : (List UInt8)) (i : Int) (k : Int) (hc : 0 ≤ i ∧ i < ((el l).length : Int) ∧ 0 ≤ k ∧ k ≤ ((el ((el l).getD i.toNat default)).length : Int) ∧ (el ((el l).getD i.toNat default)).length ≤ 1000000 ∧ s.length + (rowS 0 k ((el ((el l).getD i.toNat default)).drop k.toNat)).length ≤ 100000000 ∧ ∀ n ∈ (el ((el l).getD i.toNat default)), -1 ≤ n ∧ n ≤ 9999) : rpi_s [encS rP l, .str s, .int .i64 i, .int .i64 k] = some (0, [encS rP l, .str (s ++ rowS 0 k ((el ((el l).getD i.toNat default)).drop k.toNat)), .int .i64 i]) := by
  simp only [rpi_s, decS_enc, Option.bind_some]
  exact if_pos hc
def rpi_D : LoopD := ⟨[(0, dat 5 0 11), (4, h 1 9), (5, h 2 3), (6, h 3 3)], [(5, .frz)], 4, [⟨.exit 2, [(0, dat 6 0 11), (4, h 1 9), (5, h 2 3)], [(6, .frz)], 3⟩]⟩
noncomputable def rpi_B : Code := (Tryd.f16.body).getD .skip
noncomputable def rpi_x : Code := match codeAt [true, true, true, false, true, false, false, true, false, false, true, true, false] rpi_B with | some (.loop x) => x | _ => .skip
theorem rpi_b : Tryd.f16.body = some rpi_B := rfl
theorem rpi_p : codeAt [true, true, true, false, true, false, false, true, false, false, true, true, false] rpi_B = some (.loop rpi_x) := by kernel_rfl
def rpi_t : Tr := .lt 8 (.inbs 1) [h 2 3, h 0 11] <| .br 4 (.dt 11 (.get 1 0) [h 0 11, h 2 3] <| .lt 3 (.len) [h 5 11] <| .lt 8 (.bin .lss) [h 3 3, h 6 3] <| .br 7 (.lt 8 (.bin .gtr) [h 3 3, .int .i64 (0)] <| .br 8 (.lt 9 (.bin .add) [h 1 9, .string ⟨⟨[58]⟩⟩] <| .lt 8 (.inbs 1) [h 2 3, h 0 11] <| .br 10 (.dt 11 (.get 1 0) [h 0 11, h 2 3] <| .lt 8 (.inbs 1) [h 3 3, h 11 11] <| .br 12 (.lt 3 (.get 1 0) [h 11 11, h 3 3] <| .lt 8 (.bin .geq) [h 13 3, .int .i64 (0)] <| .br 14 (.lt 8 (.inbs 1) [h 2 3, h 0 11] <| .br 15 (.dt 11 (.get 1 0) [h 0 11, h 2 3] <| .lt 8 (.inbs 1) [h 3 3, h 16 11] <| .br 17 (.lt 3 (.get 1 0) [h 16 11, h 3 3] <| .fn dg9_s [h 18 3] 1 <| .lt 9 (.bin .add) [h 9 9, h 19 9] <| .lt 3 (.bin .add) [h 3 3, .int .i64 (1)] <| .ret [.int .i64 (-1), h 0 11, h 20 9, h 2 3, h 21 3]) (.no)) (.no)) (.lt 3 (.bin .add) [h 3 3, .int .i64 (1)] <| .ret [.int .i64 (-1), h 0 11, h 9 9, h 2 3, h 15 3])) (.no)) (.no)) (.lt 8 (.inbs 1) [h 2 3, h 0 11] <| .br 9 (.dt 11 (.get 1 0) [h 0 11, h 2 3] <| .lt 8 (.inbs 1) [h 3 3, h 10 11] <| .br 11 (.lt 3 (.get 1 0) [h 10 11, h 3 3] <| .lt 8 (.bin .geq) [h 12 3, .int .i64 (0)] <| .br 13 (.lt 8 (.inbs 1) [h 2 3, h 0 11] <| .br 14 (.dt 11 (.get 1 0) [h 0 11, h 2 3] <| .lt 8 (.inbs 1) [h 3 3, h 15 11] <| .br 16 (.lt 3 (.get 1 0) [h 15 11, h 3 3] <| .fn dg9_s [h 17 3] 1 <| .lt 9 (.bin .add) [h 1 9, h 18 9] <| .lt 3 (.bin .add) [h 3 3, .int .i64 (1)] <| .ret [.int .i64 (-1), h 0 11, h 19 9, h 2 3, h 20 3]) (.no)) (.no)) (.lt 3 (.bin .add) [h 3 3, .int .i64 (1)] <| .ret [.int .i64 (-1), h 0 11, h 1 9, h 2 3, h 14 3])) (.no)) (.no))) (.ret [.int .i64 (0), h 0 11, h 1 9, h 2 3])) (.no)
def rpi_m : List U → Nat
  | [u_l, .str s, .int .i64 i, .int .i64 k] => (match decS rP u_l with | some l => ((el ((el l).getD i.toNat default)).length - k).toNat | none => 0)
  | _ => 0
theorem rpi_me (l : (Option (List (Option (List Int))))) (s : (List UInt8)) (i : Int) (k : Int) : rpi_m [encS rP l, .str s, .int .i64 i, .int .i64 k] = ((el ((el l).getD i.toNat default)).length - k).toNat := by
  simp only [rpi_m, decS_enc]
theorem rpi_c {G : Nat → Option Obj} (hst : StartOk Tryd.prog G gl H0 n0) : ∀ (E : Nat → U) (base : Nat), @CodeOk ⟨E, G⟩ Tryd.prog base gl Tryd.f16.ntmps rpi_x (loopF Tryd.prog gl n0 7 rpi_D rpi_s) := by
  refine loop_ok (C := cx L_dg9 P_rwl) (dep := 60) (f := 16) (n0 := n0) (nB := 7) (H0 := H0) rpi_m rpi_t (cxg (L_dg9_ok hst) (P_rwl_ok hst)) hst Tryd.func16 rpi_b rpi_p (by kernel_rfl) (by kernel_rfl) (by kernel_rfl) ?_
  intro us d outs hs
  have hs0 := hs
  unfold rpi_s at hs
  split at hs
  · skip
    rename_i u_l s i k
    have hq_l := Option.bind_eq_some_iff.1 hs
    clear hs
    obtain ⟨l, hd_l, hs⟩ := hq_l
    replace hd_l := decS_eq hd_l
    subst hd_l
    split at hs
    · rename_i hc
      clear hs hs0
      have hr := rpi_pre (k := k) hc.2.2.1 hc.2.2.2.2.2.2
      have hl := fun h => congrArg List.length (hr.resolve_left (fun q => q h)).2.2
      simp only [List.length_append] at hl
      refine ⟨rfl, ?_⟩
      unfold rpi_t
      refine s0 (.cons 3 _ (.cons 2 _ (.cons 1 _ (.cons 0 _ (.nil))))) rfl (by simp [Ev.ok, Ev.len]) ?_
      refine s1 (ev_inbsS rfl) rfl rfl rfl ?_
      first | refine s5 rfl (fun g0 => ?_) (fun g0 => ?_) | refine s5B rfl (fun g0 => ?_) (fun g0 => ?_)
      · refine s8 ?_
        first | omega | (simp_all; done) | (simp_all; omega)
      refine s2 (r := rI) (ev_getS rfl (by omega) (by omega) rfl) rfl rfl ?_
      refine s1 (ev_lenS _ _) rfl rfl rfl ?_
      refine s1 (ev_lss _ _ _) rfl rfl rfl ?_
      first | refine s5 rfl (fun g1 => ?_) (fun g1 => ?_) | refine s5B rfl (fun g1 => ?_) (fun g1 => ?_)
      · refine s7 [.int .i64 _, encS rP _, .str _, .int .i64 _] rfl ?_
        refine leaf_exit (d := 0) ?_
        rw [rpi_s_e l s i k hc, drop_end (i := k) (el ((el l).getD i.toNat default)) (by omega)]; simp [rowS]
      refine s1 (ev_gtr _ _ _) rfl rfl rfl ?_
      first | refine s4 rfl (fun g2 => ?_) (fun g2 => ?_) | refine s4B rfl (fun g2 => ?_) (fun g2 => ?_)
      · refine s1 (ev_cat _ _ (by first | (show s.length + 1 ≤ 1000000000; omega) | (have hl2 := hl (by omega); rw [part_dig (by omega)] at hl2; first | omega | (simp only [List.length_append, List.length_cons, List.length_nil]; omega) | (simp only [List.length_append, List.length_cons, List.length_nil]; omega)))) rfl rfl rfl ?_
        refine s1 (ev_inbsS rfl) rfl rfl rfl ?_
        first | refine s5 rfl (fun g3 => ?_) (fun g3 => ?_) | refine s5B rfl (fun g3 => ?_) (fun g3 => ?_)
        · refine s8 ?_
          first | omega | (simp_all; done) | (simp_all; omega)
        refine s2 (r := rI) (ev_getS rfl (by omega) (by omega) rfl) rfl rfl ?_
        refine s1 (ev_inbsS rfl) rfl rfl rfl ?_
        first | refine s5 rfl (fun g4 => ?_) (fun g4 => ?_) | refine s5B rfl (fun g4 => ?_) (fun g4 => ?_)
        · refine s8 ?_
          first | omega | (simp_all; done) | (simp_all; omega)
        refine s1 (u := .int .i64 _) (ev_getS rfl (by omega) (by omega) rfl) rfl rfl rfl ?_
        refine s1 (ev_geq _ _ _) rfl rfl rfl ?_
        first | refine s4 rfl (fun g5 => ?_) (fun g5 => ?_) | refine s4B rfl (fun g5 => ?_) (fun g5 => ?_)
        · refine s1 (ev_inbsS rfl) rfl rfl rfl ?_
          first | refine s5 rfl (fun g6 => ?_) (fun g6 => ?_) | refine s5B rfl (fun g6 => ?_) (fun g6 => ?_)
          · refine s8 ?_
            first | omega | (simp_all; done) | (simp_all; omega)
          refine s2 (r := rI) (ev_getS rfl (by omega) (by omega) rfl) rfl rfl ?_
          refine s1 (ev_inbsS rfl) rfl rfl rfl ?_
          first | refine s5 rfl (fun g7 => ?_) (fun g7 => ?_) | refine s5B rfl (fun g7 => ?_) (fun g7 => ?_)
          · refine s8 ?_
            first | omega | (simp_all; done) | (simp_all; omega)
          refine s1 (u := .int .i64 _) (ev_getS rfl (by omega) (by omega) rfl) rfl rfl rfl ?_
          refine s31 (dg9_s_e _ (by omega)) rfl ?_
          refine s1 (ev_cat _ _ (by first | (show s.length + 1 ≤ 1000000000; omega) | (have hl2 := hl (by omega); rw [part_dig (by omega)] at hl2; first | omega | (simp only [List.length_append, List.length_cons, List.length_nil]; omega) | (simp only [List.length_append, List.length_cons, List.length_nil]; omega)))) rfl rfl rfl ?_
          first | refine s1 (ev_addW (wrap64 (by omega) (by omega))) rfl rfl rfl ?_ | refine s1 (ev_add _ _ _) rfl rfl rfl ?_
          refine s7 [.int .i64 _, encS rP _, .str _, .int .i64 _, .int .i64 _] rfl ?_
          refine leaf_back ?_ ?_
          · have hr2 := (hr.resolve_left (fun q => q (by omega))).2.2
            have hl2 := hl (by omega)
            rw [rpi_s_e l s i k hc, hr2]
            have hb : -1 ≤ ((el ((el l).getD i.toNat default))).getD k.toNat default := by omega
            first
              | (rw [part_dig (by omega), ahead_k (by omega)] at hl2 ⊢
                 rw [rpi_s_e _ _ _ _ ⟨hc.1, hc.2.1, by omega, by omega, hc.2.2.2.2.1, by simp only [List.length_append, List.length_cons, List.length_nil] at hl2 ⊢; omega, hc.2.2.2.2.2.2⟩]
                 simp only [List.append_assoc]; done)
              | (rw [part_dig (by omega), ahead_0 hc.2.2.1 (by omega)] at hl2 ⊢
                 rw [rpi_s_e _ _ _ _ ⟨hc.1, hc.2.1, by omega, by omega, hc.2.2.2.2.1, by simp only [List.length_append, List.length_cons, List.length_nil] at hl2 ⊢; omega, hc.2.2.2.2.2.2⟩]
                 simp only [List.append_assoc, List.nil_append]; done)
              | (rw [part_none hb (by omega), ahead_k (by omega)] at hl2 ⊢
                 rw [rpi_s_e _ _ _ _ ⟨hc.1, hc.2.1, by omega, by omega, hc.2.2.2.2.1, by simp only [List.length_append, List.length_cons, List.length_nil] at hl2 ⊢; omega, hc.2.2.2.2.2.2⟩]
                 simp only [List.append_assoc, List.nil_append]; done)
              | (rw [part_none hb (by omega), ahead_0 hc.2.2.1 (by omega)] at hl2 ⊢
                 rw [rpi_s_e _ _ _ _ ⟨hc.1, hc.2.1, by omega, by omega, hc.2.2.2.2.1, by simp only [List.length_append, List.length_cons, List.length_nil] at hl2 ⊢; omega, hc.2.2.2.2.2.2⟩]
                 simp only [List.append_assoc, List.nil_append]; done)
          · rw [rpi_me, rpi_me]; omega
        first | refine s1 (ev_addW (wrap64 (by omega) (by omega))) rfl rfl rfl ?_ | refine s1 (ev_add _ _ _) rfl rfl rfl ?_
        refine s7 [.int .i64 _, encS rP _, .str _, .int .i64 _, .int .i64 _] rfl ?_
        refine leaf_back ?_ ?_
        · have hr2 := (hr.resolve_left (fun q => q (by omega))).2.2
          have hl2 := hl (by omega)
          rw [rpi_s_e l s i k hc, hr2]
          have hb : -1 ≤ ((el ((el l).getD i.toNat default))).getD k.toNat default := by omega
          first
            | (rw [part_dig (by omega), ahead_k (by omega)] at hl2 ⊢
               rw [rpi_s_e _ _ _ _ ⟨hc.1, hc.2.1, by omega, by omega, hc.2.2.2.2.1, by simp only [List.length_append, List.length_cons, List.length_nil] at hl2 ⊢; omega, hc.2.2.2.2.2.2⟩]
               simp only [List.append_assoc]; done)
            | (rw [part_dig (by omega), ahead_0 hc.2.2.1 (by omega)] at hl2 ⊢
               rw [rpi_s_e _ _ _ _ ⟨hc.1, hc.2.1, by omega, by omega, hc.2.2.2.2.1, by simp only [List.length_append, List.length_cons, List.length_nil] at hl2 ⊢; omega, hc.2.2.2.2.2.2⟩]
               simp only [List.append_assoc, List.nil_append]; done)
            | (rw [part_none hb (by omega), ahead_k (by omega)] at hl2 ⊢
               rw [rpi_s_e _ _ _ _ ⟨hc.1, hc.2.1, by omega, by omega, hc.2.2.2.2.1, by simp only [List.length_append, List.length_cons, List.length_nil] at hl2 ⊢; omega, hc.2.2.2.2.2.2⟩]
               simp only [List.append_assoc, List.nil_append]; done)
            | (rw [part_none hb (by omega), ahead_0 hc.2.2.1 (by omega)] at hl2 ⊢
               rw [rpi_s_e _ _ _ _ ⟨hc.1, hc.2.1, by omega, by omega, hc.2.2.2.2.1, by simp only [List.length_append, List.length_cons, List.length_nil] at hl2 ⊢; omega, hc.2.2.2.2.2.2⟩]
               simp only [List.append_assoc, List.nil_append]; done)
        · rw [rpi_me, rpi_me]; omega
      refine s1 (ev_inbsS rfl) rfl rfl rfl ?_
      first | refine s5 rfl (fun g3 => ?_) (fun g3 => ?_) | refine s5B rfl (fun g3 => ?_) (fun g3 => ?_)
      · refine s8 ?_
        first | omega | (simp_all; done) | (simp_all; omega)
      refine s2 (r := rI) (ev_getS rfl (by omega) (by omega) rfl) rfl rfl ?_
      refine s1 (ev_inbsS rfl) rfl rfl rfl ?_
      first | refine s5 rfl (fun g4 => ?_) (fun g4 => ?_) | refine s5B rfl (fun g4 => ?_) (fun g4 => ?_)
      · refine s8 ?_
        first | omega | (simp_all; done) | (simp_all; omega)
      refine s1 (u := .int .i64 _) (ev_getS rfl (by omega) (by omega) rfl) rfl rfl rfl ?_
      refine s1 (ev_geq _ _ _) rfl rfl rfl ?_
      first | refine s4 rfl (fun g5 => ?_) (fun g5 => ?_) | refine s4B rfl (fun g5 => ?_) (fun g5 => ?_)
      · refine s1 (ev_inbsS rfl) rfl rfl rfl ?_
        first | refine s5 rfl (fun g6 => ?_) (fun g6 => ?_) | refine s5B rfl (fun g6 => ?_) (fun g6 => ?_)
        · refine s8 ?_
          first | omega | (simp_all; done) | (simp_all; omega)
        refine s2 (r := rI) (ev_getS rfl (by omega) (by omega) rfl) rfl rfl ?_
        refine s1 (ev_inbsS rfl) rfl rfl rfl ?_
        first | refine s5 rfl (fun g7 => ?_) (fun g7 => ?_) | refine s5B rfl (fun g7 => ?_) (fun g7 => ?_)
        · refine s8 ?_
          first | omega | (simp_all; done) | (simp_all; omega)
        refine s1 (u := .int .i64 _) (ev_getS rfl (by omega) (by omega) rfl) rfl rfl rfl ?_
        refine s31 (dg9_s_e _ (by omega)) rfl ?_
        refine s1 (ev_cat _ _ (by first | (show s.length + 1 ≤ 1000000000; omega) | (have hl2 := hl (by omega); rw [part_dig (by omega)] at hl2; first | omega | (simp only [List.length_append, List.length_cons, List.length_nil]; omega) | (simp only [List.length_append, List.length_cons, List.length_nil]; omega)))) rfl rfl rfl ?_
        first | refine s1 (ev_addW (wrap64 (by omega) (by omega))) rfl rfl rfl ?_ | refine s1 (ev_add _ _ _) rfl rfl rfl ?_
        refine s7 [.int .i64 _, encS rP _, .str _, .int .i64 _, .int .i64 _] rfl ?_
        refine leaf_back ?_ ?_
        · have hr2 := (hr.resolve_left (fun q => q (by omega))).2.2
          have hl2 := hl (by omega)
          rw [rpi_s_e l s i k hc, hr2]
          have hb : -1 ≤ ((el ((el l).getD i.toNat default))).getD k.toNat default := by omega
          first
            | (rw [part_dig (by omega), ahead_k (by omega)] at hl2 ⊢
               rw [rpi_s_e _ _ _ _ ⟨hc.1, hc.2.1, by omega, by omega, hc.2.2.2.2.1, by simp only [List.length_append, List.length_cons, List.length_nil] at hl2 ⊢; omega, hc.2.2.2.2.2.2⟩]
               simp only [List.append_assoc]; done)
            | (rw [part_dig (by omega), ahead_0 hc.2.2.1 (by omega)] at hl2 ⊢
               rw [rpi_s_e _ _ _ _ ⟨hc.1, hc.2.1, by omega, by omega, hc.2.2.2.2.1, by simp only [List.length_append, List.length_cons, List.length_nil] at hl2 ⊢; omega, hc.2.2.2.2.2.2⟩]
               simp only [List.append_assoc, List.nil_append]; done)
            | (rw [part_none hb (by omega), ahead_k (by omega)] at hl2 ⊢
               rw [rpi_s_e _ _ _ _ ⟨hc.1, hc.2.1, by omega, by omega, hc.2.2.2.2.1, by simp only [List.length_append, List.length_cons, List.length_nil] at hl2 ⊢; omega, hc.2.2.2.2.2.2⟩]
               simp only [List.append_assoc, List.nil_append]; done)
            | (rw [part_none hb (by omega), ahead_0 hc.2.2.1 (by omega)] at hl2 ⊢
               rw [rpi_s_e _ _ _ _ ⟨hc.1, hc.2.1, by omega, by omega, hc.2.2.2.2.1, by simp only [List.length_append, List.length_cons, List.length_nil] at hl2 ⊢; omega, hc.2.2.2.2.2.2⟩]
               simp only [List.append_assoc, List.nil_append]; done)
        · rw [rpi_me, rpi_me]; omega
      first | refine s1 (ev_addW (wrap64 (by omega) (by omega))) rfl rfl rfl ?_ | refine s1 (ev_add _ _ _) rfl rfl rfl ?_
      refine s7 [.int .i64 _, encS rP _, .str _, .int .i64 _, .int .i64 _] rfl ?_
      refine leaf_back ?_ ?_
      · have hr2 := (hr.resolve_left (fun q => q (by omega))).2.2
        have hl2 := hl (by omega)
        rw [rpi_s_e l s i k hc, hr2]
        have hb : -1 ≤ ((el ((el l).getD i.toNat default))).getD k.toNat default := by omega
        first
          | (rw [part_dig (by omega), ahead_k (by omega)] at hl2 ⊢
             rw [rpi_s_e _ _ _ _ ⟨hc.1, hc.2.1, by omega, by omega, hc.2.2.2.2.1, by simp only [List.length_append, List.length_cons, List.length_nil] at hl2 ⊢; omega, hc.2.2.2.2.2.2⟩]
             simp only [List.append_assoc]; done)
          | (rw [part_dig (by omega), ahead_0 hc.2.2.1 (by omega)] at hl2 ⊢
             rw [rpi_s_e _ _ _ _ ⟨hc.1, hc.2.1, by omega, by omega, hc.2.2.2.2.1, by simp only [List.length_append, List.length_cons, List.length_nil] at hl2 ⊢; omega, hc.2.2.2.2.2.2⟩]
             simp only [List.append_assoc, List.nil_append]; done)
          | (rw [part_none hb (by omega), ahead_k (by omega)] at hl2 ⊢
             rw [rpi_s_e _ _ _ _ ⟨hc.1, hc.2.1, by omega, by omega, hc.2.2.2.2.1, by simp only [List.length_append, List.length_cons, List.length_nil] at hl2 ⊢; omega, hc.2.2.2.2.2.2⟩]
             simp only [List.append_assoc, List.nil_append]; done)
          | (rw [part_none hb (by omega), ahead_0 hc.2.2.1 (by omega)] at hl2 ⊢
             rw [rpi_s_e _ _ _ _ ⟨hc.1, hc.2.1, by omega, by omega, hc.2.2.2.2.1, by simp only [List.length_append, List.length_cons, List.length_nil] at hl2 ⊢; omega, hc.2.2.2.2.2.2⟩]
             simp only [List.append_assoc, List.nil_append]; done)
      · rw [rpi_me, rpi_me]; omega
    · cases hs
  · cases hs
noncomputable def P_rpi : List LpE := (16, ([true, true, true, false, true, false, false, true, false, false, true, true, false], loopF Tryd.prog gl n0 7 rpi_D rpi_s)) :: P_rwl
theorem P_rpi_ok {G : Nat → Option Obj} (hst : StartOk Tryd.prog G gl H0 n0) : LpsOk Tryd.prog G gl P_rpi := .cons Tryd.func16 rpi_b rpi_p (rpi_c hst) (P_rwl_ok hst)
end Go.Proofs.YtadmkfclgpbebaaDoor

namespace Go.Proofs.YtadmkfclgpbebaaDoor
set_option linter.all false
open Go Go.Sx
set_option maxRecDepth 100000
set_option linter.unusedVariables false
set_option linter.unusedSimpArgs false
theorem rowS_i {i : Int} : ∀ {r : List Int} {k : Int}, 0 < k → rowS i k r = rowS 0 k r
  | [], _, _ => rfl
  | n :: r, k, hk => by
    rw [row_cons, row_cons, rowS_i (r := r) (k := k + 1) (by omega)]
    unfold aheadS
    rw [if_neg (by omega), if_neg (by omega)]
theorem rowS_0 {i : Int} (hi : 0 < i) {r : List Int} (hr : 1 ≤ r.length) : rowS i 0 r = [59] ++ rowS 0 0 r := by
  match r, hr with
  | n :: r, _ =>
    rw [row_cons, row_cons, rowS_i (r := r) (k := 0 + 1) (by omega)]
    have h1 : aheadS i 0 = [59] := by
      unfold aheadS
      rw [if_pos rfl, if_neg (by omega)]
    have h2 : aheadS 0 0 = [] := rfl
    rw [h1, h2]; simp
theorem rpo_pre {l : Option (List (Option (List Int)))} {i : Int} (hi : 0 ≤ i) (h : ∀ p ∈ el l, 1 ≤ (el p).length ∧ (el p).length ≤ 6 ∧ ∀ n ∈ el p, -1 ≤ n ∧ n ≤ 9999) : ¬i < ((el l).length : Int) ∨ 1 ≤ (el ((el l).getD i.toNat default)).length ∧ (el ((el l).getD i.toNat default)).length ≤ 6 ∧
    ((0 < i ∧ rowsS i ((el l).drop i.toNat) = [59] ++ (rowS 0 0 (el ((el l).getD i.toNat default)) ++ rowsS (i + 1) ((el l).drop (i + 1).toNat)) ∧ (rowsS i ((el l).drop i.toNat)).length = 1 + (rowS 0 0 (el ((el l).getD i.toNat default))).length + (rowsS (i + 1) ((el l).drop (i + 1).toNat)).length) ∨
     (i = 0 ∧ rowsS i ((el l).drop i.toNat) = rowS 0 0 (el ((el l).getD i.toNat default)) ++ rowsS (i + 1) ((el l).drop (i + 1).toNat) ∧ (rowsS i ((el l).drop i.toNat)).length = (rowS 0 0 (el ((el l).getD i.toNat default))).length + (rowsS (i + 1) ((el l).drop (i + 1).toNat)).length)) := by
  by_cases hkm : i < ((el l).length : Int)
  · obtain ⟨a, b, _⟩ := all_get h hi hkm
    have e : rowsS i ((el l).drop i.toNat) = rowS i 0 (el ((el l).getD i.toNat default)) ++ rowsS (i + 1) ((el l).drop (i + 1).toNat) := by rw [drop_step (el l) hi hkm]; rfl
    refine .inr ⟨a, b, ?_⟩
    by_cases h0 : 0 < i
    · rw [rowS_0 h0 a, List.append_assoc] at e
      exact .inl ⟨h0, e, by rw [e]; simp only [List.length_append, List.length_singleton]; omega⟩
    · have h1 : i = 0 := by omega
      refine .inr ⟨h1, ?_⟩
      have e2 : rowS i 0 (el ((el l).getD i.toNat default)) = rowS 0 0 (el ((el l).getD i.toNat default)) := by rw [h1]
      rw [e2] at e
      exact ⟨e, by rw [e, List.length_append]⟩
  · exact .inl hkm
theorem drop_00 {α : Type} (l : List α) : l.drop (0 : Int).toNat = l := rfl
def rpo_s : List U → Option (Nat × List U)
  | [u_l, .str s, .int .i64 i] => (decS rP u_l).bind fun l => if 0 ≤ i ∧ i ≤ ((el l).length : Int) ∧ (el l).length ≤ 1000000 ∧ s.length + (rowsS i ((el l).drop i.toNat)).length ≤ 100000000 ∧ ∀ p ∈ el l, 1 ≤ (el p).length ∧ (el p).length ≤ 6 ∧ ∀ n ∈ el p, -1 ≤ n ∧ n ≤ 9999 then some (0, [.str (s ++ rowsS i ((el l).drop i.toNat))]) else none
  | _ => none
theorem rpo_s_e (l : (Option (List (Option (List Int))))) (s : (List UInt8)) (i : Int) (hc : 0 ≤ i ∧ i ≤ ((el l).length : Int) ∧ (el l).length ≤ 1000000 ∧ s.length + (rowsS i ((el l).drop i.toNat)).length ≤ 100000000 ∧ ∀ p ∈ el l, 1 ≤ (el p).length ∧ (el p).length ≤ 6 ∧ ∀ n ∈ el p, -1 ≤ n ∧ n ≤ 9999) : rpo_s [encS rP l, .str s, .int .i64 i] = some (0, [.str (s ++ rowsS i ((el l).drop i.toNat))]) := by
  simp only [rpo_s, decS_enc, Option.bind_some]
  exact if_pos hc
def rpo_D : LoopD := ⟨[(0, dat 5 0 11), (4, h 1 9), (5, h 2 3)], [(5, .frz)], 3, [⟨.exit 0, [(4, h 0 9)], [], 1⟩]⟩
noncomputable def rpo_B : Code := (Tryd.f16.body).getD .skip
noncomputable def rpo_x : Code := match codeAt [true, true, true, false, true, false] rpo_B with | some (.loop x) => x | _ => .skip
theorem rpo_b : Tryd.f16.body = some rpo_B := rfl
theorem rpo_p : codeAt [true, true, true, false, true, false] rpo_B = some (.loop rpo_x) := by kernel_rfl
def rpo_t : Tr := .lt 3 (.len) [h 0 11] <| .lt 8 (.bin .lss) [h 2 3, h 3 3] <| .br 4 (.lt 8 (.bin .gtr) [h 2 3, .int .i64 (0)] <| .br 5 (.lt 9 (.bin .add) [h 1 9, .string ⟨⟨[59]⟩⟩] <| .fn rpi_s [h 0 11, h 6 9, h 2 3, .int .i64 (0)] 3 <| .lt 3 (.bin .add) [h 9 3, .int .i64 (1)] <| .ret [.int .i64 (-1), h 7 11, h 8 9, h 10 3]) (.fn rpi_s [h 0 11, h 1 9, h 2 3, .int .i64 (0)] 3 <| .lt 3 (.bin .add) [h 8 3, .int .i64 (1)] <| .ret [.int .i64 (-1), h 6 11, h 7 9, h 9 3])) (.ret [.int .i64 (0), h 1 9])
def rpo_m : List U → Nat
  | [u_l, .str s, .int .i64 i] => (match decS rP u_l with | some l => ((el l).length - i).toNat | none => 0)
  | _ => 0
theorem rpo_me (l : (Option (List (Option (List Int))))) (s : (List UInt8)) (i : Int) : rpo_m [encS rP l, .str s, .int .i64 i] = ((el l).length - i).toNat := by
  simp only [rpo_m, decS_enc]
theorem rpo_c {G : Nat → Option Obj} (hst : StartOk Tryd.prog G gl H0 n0) : ∀ (E : Nat → U) (base : Nat), @CodeOk ⟨E, G⟩ Tryd.prog base gl Tryd.f16.ntmps rpo_x (loopF Tryd.prog gl n0 6 rpo_D rpo_s) := by
  refine loop_ok (C := cx L_dg9 P_rpi) (dep := 60) (f := 16) (n0 := n0) (nB := 6) (H0 := H0) rpo_m rpo_t (cxg (L_dg9_ok hst) (P_rpi_ok hst)) hst Tryd.func16 rpo_b rpo_p (by kernel_rfl) (by kernel_rfl) (by kernel_rfl) ?_
  intro us d outs hs
  have hs0 := hs
  unfold rpo_s at hs
  split at hs
  · skip
    rename_i u_l s i
    have hq_l := Option.bind_eq_some_iff.1 hs
    clear hs
    obtain ⟨l, hd_l, hs⟩ := hq_l
    replace hd_l := decS_eq hd_l
    subst hd_l
    split at hs
    · rename_i hc
      clear hs hs0
      have hr := rpo_pre (i := i) hc.1 hc.2.2.2.2
      refine ⟨rfl, ?_⟩
      unfold rpo_t
      refine s0 (.cons 2 _ (.cons 1 _ (.cons 0 _ (.nil)))) rfl (by simp [Ev.ok, Ev.len]) ?_
      refine s1 (ev_lenS _ _) rfl rfl rfl ?_
      refine s1 (ev_lss _ _ _) rfl rfl rfl ?_
      first | refine s5 rfl (fun g0 => ?_) (fun g0 => ?_) | refine s5B rfl (fun g0 => ?_) (fun g0 => ?_)
      · refine s7 [.int .i64 _, .str _] rfl ?_
        refine leaf_exit (d := 0) ?_
        rw [rpo_s_e l s i hc, drop_end (i := i) (el l) (by omega)]; simp [rowsS]
      refine s1 (ev_gtr _ _ _) rfl rfl rfl ?_
      first | refine s4 rfl (fun g1 => ?_) (fun g1 => ?_) | refine s4B rfl (fun g1 => ?_) (fun g1 => ?_)
      · refine s1 (ev_cat _ _ (by show s.length + 1 ≤ 1000000000; omega)) rfl rfl rfl ?_
        refine s3 (rpi_s_e _ _ _ _ ⟨hc.1, by omega, by omega, by omega, by omega, by first | (rw [drop_00]; omega) | (rw [drop_00, List.length_append]; show s.length + 1 + (rowS 0 0 (el ((el l).getD i.toNat default))).length ≤ 100000000; omega), (all_get hc.2.2.2.2 hc.1 (by omega)).2.2⟩) rfl ?_
        show Tr.sav _ _ (.cons 9 _ (.cons 8 _ (.cons 7 _ _)))
        first | refine s1 (ev_addW (wrap64 (by omega) (by omega))) rfl rfl rfl ?_ | refine s1 (ev_add _ _ _) rfl rfl rfl ?_
        refine s7 [.int .i64 _, encS rP _, .str _, .int .i64 _] rfl ?_
        refine leaf_back ?_ ?_
        · obtain ⟨_, _, ⟨h0, e1, e2⟩ | ⟨h0, e1, e2⟩⟩ := hr.resolve_left (fun q => q (by omega))
          · first
              | (exfalso; omega)
              | (rw [rpo_s_e l s i hc, e1]
                 refine (rpo_s_e _ _ _ ⟨by omega, by omega, hc.2.2.1, by rw [drop_00, List.length_append, List.length_append]; show s.length + 1 + (rowS 0 0 (el ((el l).getD i.toNat default))).length + _ ≤ 100000000; omega, hc.2.2.2.2⟩).trans ?_
                 rw [drop_00, List.append_assoc, List.append_assoc])
          · first
              | (exfalso; omega)
              | (rw [rpo_s_e l s i hc, e1]
                 refine (rpo_s_e _ _ _ ⟨by omega, by omega, hc.2.2.1, by rw [drop_00, List.length_append]; omega, hc.2.2.2.2⟩).trans ?_
                 rw [drop_00, List.append_assoc])
        · rw [rpo_me, rpo_me]; omega
      refine s3 (rpi_s_e _ _ _ _ ⟨hc.1, by omega, by omega, by omega, by omega, by first | (rw [drop_00]; omega) | (rw [drop_00, List.length_append]; show s.length + 1 + (rowS 0 0 (el ((el l).getD i.toNat default))).length ≤ 100000000; omega), (all_get hc.2.2.2.2 hc.1 (by omega)).2.2⟩) rfl ?_
      show Tr.sav _ _ (.cons 8 _ (.cons 7 _ (.cons 6 _ _)))
      first | refine s1 (ev_addW (wrap64 (by omega) (by omega))) rfl rfl rfl ?_ | refine s1 (ev_add _ _ _) rfl rfl rfl ?_
      refine s7 [.int .i64 _, encS rP _, .str _, .int .i64 _] rfl ?_
      refine leaf_back ?_ ?_
      · obtain ⟨_, _, ⟨h0, e1, e2⟩ | ⟨h0, e1, e2⟩⟩ := hr.resolve_left (fun q => q (by omega))
        · first
            | (exfalso; omega)
            | (rw [rpo_s_e l s i hc, e1]
               refine (rpo_s_e _ _ _ ⟨by omega, by omega, hc.2.2.1, by rw [drop_00, List.length_append, List.length_append]; show s.length + 1 + (rowS 0 0 (el ((el l).getD i.toNat default))).length + _ ≤ 100000000; omega, hc.2.2.2.2⟩).trans ?_
               rw [drop_00, List.append_assoc, List.append_assoc])
        · first
            | (exfalso; omega)
            | (rw [rpo_s_e l s i hc, e1]
               refine (rpo_s_e _ _ _ ⟨by omega, by omega, hc.2.2.1, by rw [drop_00, List.length_append]; omega, hc.2.2.2.2⟩).trans ?_
               rw [drop_00, List.append_assoc])
      · rw [rpo_me, rpo_me]; omega
    · cases hs
  · cases hs
noncomputable def P_rpo : List LpE := (16, ([true, true, true, false, true, false], loopF Tryd.prog gl n0 6 rpo_D rpo_s)) :: P_rpi
theorem P_rpo_ok {G : Nat → Option Obj} (hst : StartOk Tryd.prog G gl H0 n0) : LpsOk Tryd.prog G gl P_rpo := .cons Tryd.func16 rpo_b rpo_p (rpo_c hst) (P_rpi_ok hst)
end Go.Proofs.YtadmkfclgpbebaaDoor

namespace Go.Proofs.YtadmkfclgpbebaaDoor
set_option linter.all false
open Go Go.Sx
set_option maxRecDepth 100000
set_option linter.unusedVariables false
set_option linter.unusedSimpArgs false
def rprt_s : List U → Option (Nat × List U)
  | [u_l] => (decS rP u_l).bind fun l => if (el l).length ≤ 1000000000 ∧ ∀ p ∈ el l, (el p).length ≤ 1000000000 then some (0, [.str ((printS l).1), .int .i64 ((printS l).2)]) else none
  | _ => none
theorem rprt_s_e (l : (Option (List (Option (List Int))))) (hc : (el l).length ≤ 1000000000 ∧ ∀ p ∈ el l, (el p).length ≤ 1000000000) : rprt_s [encS rP l] = some (0, [.str ((printS l).1), .int .i64 ((printS l).2)]) := by
  simp only [rprt_s, decS_enc, Option.bind_some]
  exact if_pos hc
def rprt_t : Tr := .fn rchk_s [h 0 11] 1 <| .lt 8 (.bin .neq) [h 1 3, .int .i64 (0)] <| .br 2 (.ret [.string ⟨⟨[]⟩⟩, .int .i64 (150)]) (.fn rpo_s [h 0 11, .string ⟨⟨[]⟩⟩, .int .i64 (0)] 1 <| .ret [h 3 9, .int .i64 (0)])
theorem rprt_c {G : Nat → Option Obj} (hst : StartOk Tryd.prog G gl H0 n0) : ConOk Tryd.prog G 16 [.s 11] rprt_s [.s 9, .s 3] := by
  refine con_of_tree (C := cx L_dg9 P_rpo) (d := 60) rprt_t (cxg (L_dg9_ok hst) (P_rpo_ok hst)) hst ⟨Tryd.f16, _, Tryd.func16, rfl⟩ (by kernel_rfl) (by kernel_rfl) ?_
  intro us outs hs
  unfold rprt_s at hs
  split at hs
  · skip
    rename_i u_l
    have hq_l := Option.bind_eq_some_iff.1 hs
    clear hs
    obtain ⟨l, hd_l, hs⟩ := hq_l
    replace hd_l := decS_eq hd_l
    subst hd_l
    split at hs
    · rename_i hc
      cases hs
      have hb := check_bd l
      unfold rprt_t
      refine s0 (.cons 0 _ (.nil)) rfl (by simp [Ev.ok, Ev.len]) ?_
      refine s31 (rchk_s_e _ (by omega)) rfl ?_
      refine s1 (ev_neq _ _ _) rfl rfl rfl ?_
      first | refine s4 rfl (fun g0 => ?_) (fun g0 => ?_) | refine s4B rfl (fun g0 => ?_) (fun g0 => ?_)
      · refine s7 [.str _, .int .i64 _] rfl ?_
        first | (rw [print_0 l (by omega), show checkS l = 150 by omega]; done) | (rw [print_1 l (by omega)]; rfl) | (rw [print_1 l (by omega), show el l = [] from List.length_eq_zero_iff.1 (by omega)]; rfl)
      refine s31 (rpo_s_e _ _ _ (by rcases hb with h1 | ⟨h1, h2, h3⟩ <;> first | (exfalso; omega) | exact ⟨by omega, by omega, by omega, by have := rows_len (j := 0) (fun p hp => (h3 p hp).2); rw [drop_00]; show 0 + _ ≤ _; omega, h3⟩)) rfl ?_
      refine s7 [.str _, .int .i64 _] rfl ?_
      first | (rw [print_0 l (by omega), show checkS l = 150 by omega]; done) | (rw [print_1 l (by omega)]; rfl) | (rw [print_1 l (by omega), show el l = [] from List.length_eq_zero_iff.1 (by omega)]; rfl)
    · cases hs
  · cases hs
noncomputable def L_rprt : List (FuncId × FnC) := (16, conF Tryd.prog [.s 11] rprt_s [.s 9, .s 3]) :: L_dg9
theorem L_rprt_ok {G : Nat → Option Obj} (hst : StartOk Tryd.prog G gl H0 n0) : ConsOk Tryd.prog G gl L_rprt := .cons (rprt_c hst) (L_dg9_ok hst)
end Go.Proofs.YtadmkfclgpbebaaDoor

namespace Go.Proofs.YtadmkfclgpbebaaDoor
set_option linter.all false
open Go Go.Sx
set_option maxRecDepth 100000
set_option linter.unusedVariables false
set_option linter.unusedSimpArgs false
def shO_s : List U → Option (Nat × List U)
  | [u_l] => (decS rP u_l).bind fun l => some (0, [encS rP (shortF l)])
  | _ => none
theorem shO_s_e (l : (Option (List (Option (List Int))))) : shO_s [encS rP l] = some (0, [encS rP (shortF l)]) := by
  simp only [shO_s, decS_enc, Option.bind_some]
def shO_t : Tr := .dt 11 (.nilw 1) [] <| .fn sho_s [h 0 11, h 1 11, .int .i64 (0)] 1 <| .ret [h 2 11]
theorem shO_c {G : Nat → Option Obj} (hst : StartOk Tryd.prog G gl H0 n0) : OwnOk Tryd.prog G 10 [.s 11] shO_s 11 47 [] := by
  refine own_of_tree (C := cx L_rprt P_rpo) (d := 60) shO_t (cxg (L_rprt_ok hst) (P_rpo_ok hst)) hst ⟨Tryd.f10, _, Tryd.func10, rfl⟩ (by kernel_rfl) (by kernel_rfl) ?_
  intro us outs hs
  unfold shO_s at hs
  split at hs
  · skip
    rename_i u_l
    have hq_l := Option.bind_eq_some_iff.1 hs
    clear hs
    obtain ⟨l, hd_l, hs⟩ := hq_l
    replace hd_l := decS_eq hd_l
    subst hd_l
    cases hs
    unfold shO_t
    refine s0 (.cons 0 _ (.nil)) rfl (by simp [Ev.ok, Ev.len]) ?_
    refine s2 (r := rP) (ev_nilwS rfl) rfl rfl ?_
    refine s31 (sho_s_e _ none 0 ⟨by decide, by decide, rfl⟩) rfl ?_
    refine s7 [encS rP _] rfl ?_
    rfl
  · cases hs
noncomputable def L_shO : List (FuncId × FnC) := (10, ownF Tryd.prog [.s 11] shO_s 11 47 []) :: L_rprt
theorem L_shO_ok {G : Nat → Option Obj} (hst : StartOk Tryd.prog G gl H0 n0) : ConsOk Tryd.prog G gl L_shO := .consO (shO_c hst) (L_rprt_ok hst)
set_option maxHeartbeats 10000000
theorem lens_of {l : Rws} (h : checkS l = 0) : (el l).length ≤ 1000000000 ∧ ∀ p ∈ el l, (el p).length ≤ 1000000000 := by
  rcases check_bd l with h1 | ⟨_, h2, h3⟩
  · omega
  · exact ⟨by omega, fun p hp => by have := (h3 p hp).2.1; omega⟩
theorem short_len (l : Rws) : (el (shortF l)).length ≤ 20 ∧ ∀ p ∈ el (shortF l), (el p).length ≤ 10 := by
  unfold shortF
  rw [el_catS]
  refine ⟨by show ([] ++ _).length ≤ 20; rw [List.nil_append, el_some, List.length_map, List.length_take]; omega, fun p hp => ?_⟩
  have hp : p ∈ ((el l).take 20).map cutP := by simpa [el] using hp
  obtain ⟨q, _, rfl⟩ := List.mem_map.1 hp
  unfold cutP
  rw [el_subS, List.length_take]
  omega
theorem short_one {l : Rws} (h : ∀ p ∈ el l, 1 ≤ (el p).length) : ∀ p ∈ el (shortF l), 1 ≤ (el p).length := fun p hp => by
  unfold shortF at hp
  rw [el_catS] at hp
  have hp : p ∈ ((el l).take 20).map cutP := by simpa [el] using hp
  obtain ⟨q, hq, rfl⟩ := List.mem_map.1 hp
  have := h q (List.mem_of_mem_take hq)
  unfold cutP
  rw [el_subS, List.length_take, show (0 : Int).toNat = 0 from rfl, List.drop_zero]
  omega
theorem set_lens {x : Rws} {i : Nat} {a : Option (List Int)} (h : (el x).length ≤ 1000000000 ∧ ∀ p ∈ el x, (el p).length ≤ 1000000000) (ha : (el a).length ≤ 1000000000) : (el (setR x i a)).length ≤ 1000000000 ∧ ∀ p ∈ el (setR x i a), (el p).length ≤ 1000000000 := by
  rw [el_setR]
  refine ⟨by rw [List.length_set]; exact h.1, fun p hp => ?_⟩
  rcases List.mem_or_eq_of_mem_set hp with hp | rfl
  · exact h.2 p hp
  · exact ha
theorem sub_len2 {α : Type} (x : Option (List α)) (i j : Nat) : (el (subS x i j)).length ≤ (el x).length := by rw [el_subS, List.length_take, List.length_drop]; omega
def pps_s : List U → Option (Nat × List U)
  | [u_l, u_pa, u_ma, .int .u8 a, .int .i64 n, .int .i64 d] => (decS rP u_l).bind fun l => (decS rU u_pa).bind fun pa => (decS rB u_ma).bind fun ma => if (el l).length ≤ 140737488351232 ∧ ((el ma).length ≤ 140737488351232 ∧ (el pa).length ≤ 140737488351232 ∧ (∀ m ∈ el ma, 0 ≤ m ∧ m ≤ 255) ∧ (∀ q ∈ el pa, 0 ≤ q ∧ q ≤ 65535)) ∧ 0 ≤ a ∧ a ≤ 255 ∧ -9223372036854775808 ≤ n ∧ n ≤ 9223372036854775807 then some (0, [.bool (true)]) else none
  | _ => none
theorem pps_s_e (l : (Option (List (Option (List Int))))) (pa : (Option (List Int))) (ma : (Option (List Int))) (a : Int) (n : Int) (d : Int) (hc : (el l).length ≤ 140737488351232 ∧ ((el ma).length ≤ 140737488351232 ∧ (el pa).length ≤ 140737488351232 ∧ (∀ m ∈ el ma, 0 ≤ m ∧ m ≤ 255) ∧ (∀ q ∈ el pa, 0 ≤ q ∧ q ≤ 65535)) ∧ 0 ≤ a ∧ a ≤ 255 ∧ -9223372036854775808 ≤ n ∧ n ≤ 9223372036854775807) : pps_s [encS rP l, encS rU pa, encS rB ma, .int .u8 a, .int .i64 n, .int .i64 d] = some (0, [.bool (true)]) := by
  simp only [pps_s, decS_enc, Option.bind_some]
  exact if_pos hc
def pps_t : Tr := .fn shO_s [h 0 11] 1 <| .fn row_s [h 1 11, h 2 11] 1 <| .fn row_s [h 1 11, h 2 11] 1 <| .fn shO_s [h 8 11] 1 <| .lt 3 (.len) [h 9 11] <| .lt 8 (.bin .gtr) [h 10 3, .int .i64 (0)] <| .br 11 (.lt 3 (.conv .i64) [h 3 4] <| .lt 3 (.bin .rem) [h 12 3, h 10 3] <| .lt 8 (.inbs 1) [h 13 3, h 9 11] <| .br 14 (.dt 11 (.get 1 0) [h 9 11, h 13 3] <| .lt 3 (.len) [h 15 11] <| .dt 11 (.subs 1) [h 15 11, .int .i64 (1), h 16 3] <| .dt 11 (.mk 1) [] <| .dt 11 (.cat 1) [h 18 11, h 17 11] <| .dt 11 (.snoc 1) [h 19 11, h 4 3] <| .lt 8 (.inbs 1) [h 13 3, h 9 11] <| .br 21 (.dt 11 (.set 1 0) [h 9 11, h 13 3, h 20 11] <| .fn prt_s [h 6 11] 2 <| .fn rprt_s [h 6 11] 2 <| .lt 8 (.bin .neq) [h 23 9, h 25 9] <| .br 27 (.ret [.bool false]) (.lt 8 (.bin .neq) [h 24 3, h 26 3] <| .br 28 (.ret [.bool false]) (.fn chk_s [h 6 11] 1 <| .fn rchk_s [h 6 11] 1 <| .lt 8 (.bin .neq) [h 29 3, h 30 3] <| .br 31 (.ret [.bool false]) (.fn same_s [h 6 11, h 7 11] 1 <| .fn rsame_s [h 6 11, h 7 11] 1 <| .lt 8 (.bin .neq) [h 32 8, h 33 8] <| .br 34 (.ret [.bool false]) (.fn same_s [h 6 11, h 6 11] 1 <| .lt 8 (.un .not) [h 35 8] <| .br 36 (.ret [.bool false]) (.lt 3 (.conv .i64) [h 3 4] <| .lt 3 (.bin .rem) [h 37 3, .int .i64 (20)] <| .fn val_s [h 6 11, h 4 3, h 5 3] 1 <| .fn rval_s [h 6 11, h 4 3, h 5 3] 1 <| .lt 8 (.bin .neq) [h 39 3, h 40 3] <| .br 41 (.ret [.bool false]) (.fn val_s [h 6 11, h 38 3, h 5 3] 1 <| .fn rval_s [h 6 11, h 38 3, h 5 3] 1 <| .lt 8 (.bin .neq) [h 42 3, h 43 3] <| .br 44 (.ret [.bool false]) (.fn val_s [h 6 11, .int .i64 (0), h 5 3] 1 <| .fn rval_s [h 6 11, .int .i64 (0), h 5 3] 1 <| .lt 8 (.bin .neq) [h 45 3, h 46 3] <| .br 47 (.ret [.bool false]) (.fn prt_s [h 7 11] 2 <| .fn rprt_s [h 7 11] 2 <| .lt 8 (.bin .neq) [h 48 9, h 50 9] <| .br 52 (.ret [.bool false]) (.lt 8 (.bin .neq) [h 49 3, h 51 3] <| .br 53 (.ret [.bool false]) (.fn chk_s [h 7 11] 1 <| .fn rchk_s [h 7 11] 1 <| .lt 8 (.bin .neq) [h 54 3, h 55 3] <| .br 56 (.ret [.bool false]) (.fn same_s [h 7 11, h 7 11] 1 <| .fn rsame_s [h 7 11, h 7 11] 1 <| .lt 8 (.bin .neq) [h 57 8, h 58 8] <| .br 59 (.ret [.bool false]) (.fn same_s [h 7 11, h 7 11] 1 <| .lt 8 (.un .not) [h 60 8] <| .br 61 (.ret [.bool false]) (.lt 3 (.conv .i64) [h 3 4] <| .lt 3 (.bin .rem) [h 62 3, .int .i64 (20)] <| .fn val_s [h 7 11, h 4 3, h 5 3] 1 <| .fn rval_s [h 7 11, h 4 3, h 5 3] 1 <| .lt 8 (.bin .neq) [h 64 3, h 65 3] <| .br 66 (.ret [.bool false]) (.fn val_s [h 7 11, h 63 3, h 5 3] 1 <| .fn rval_s [h 7 11, h 63 3, h 5 3] 1 <| .lt 8 (.bin .neq) [h 67 3, h 68 3] <| .br 69 (.ret [.bool false]) (.fn val_s [h 7 11, .int .i64 (0), h 5 3] 1 <| .fn rval_s [h 7 11, .int .i64 (0), h 5 3] 1 <| .lt 8 (.bin .neq) [h 70 3, h 71 3] <| .br 72 (.ret [.bool false]) (.fn prt_s [h 22 11] 2 <| .fn rprt_s [h 22 11] 2 <| .lt 8 (.bin .neq) [h 73 9, h 75 9] <| .br 77 (.ret [.bool false]) (.lt 8 (.bin .neq) [h 74 3, h 76 3] <| .br 78 (.ret [.bool false]) (.fn chk_s [h 22 11] 1 <| .fn rchk_s [h 22 11] 1 <| .lt 8 (.bin .neq) [h 79 3, h 80 3] <| .br 81 (.ret [.bool false]) (.fn same_s [h 22 11, h 7 11] 1 <| .fn rsame_s [h 22 11, h 7 11] 1 <| .lt 8 (.bin .neq) [h 82 8, h 83 8] <| .br 84 (.ret [.bool false]) (.fn same_s [h 22 11, h 22 11] 1 <| .lt 8 (.un .not) [h 85 8] <| .br 86 (.ret [.bool false]) (.lt 3 (.conv .i64) [h 3 4] <| .lt 3 (.bin .rem) [h 87 3, .int .i64 (20)] <| .fn val_s [h 22 11, h 4 3, h 5 3] 1 <| .fn rval_s [h 22 11, h 4 3, h 5 3] 1 <| .lt 8 (.bin .neq) [h 89 3, h 90 3] <| .br 91 (.ret [.bool false]) (.fn val_s [h 22 11, h 88 3, h 5 3] 1 <| .fn rval_s [h 22 11, h 88 3, h 5 3] 1 <| .lt 8 (.bin .neq) [h 92 3, h 93 3] <| .br 94 (.ret [.bool false]) (.fn val_s [h 22 11, .int .i64 (0), h 5 3] 1 <| .fn rval_s [h 22 11, .int .i64 (0), h 5 3] 1 <| .lt 8 (.bin .neq) [h 95 3, h 96 3] <| .br 97 (.ret [.bool false]) (.fn wks_s [] 1 <| .ret [h 98 8]))))))))))))))))))))))))) (.no)) (.no)) (.fn prt_s [h 6 11] 2 <| .fn rprt_s [h 6 11] 2 <| .lt 8 (.bin .neq) [h 12 9, h 14 9] <| .br 16 (.ret [.bool false]) (.lt 8 (.bin .neq) [h 13 3, h 15 3] <| .br 17 (.ret [.bool false]) (.fn chk_s [h 6 11] 1 <| .fn rchk_s [h 6 11] 1 <| .lt 8 (.bin .neq) [h 18 3, h 19 3] <| .br 20 (.ret [.bool false]) (.fn same_s [h 6 11, h 7 11] 1 <| .fn rsame_s [h 6 11, h 7 11] 1 <| .lt 8 (.bin .neq) [h 21 8, h 22 8] <| .br 23 (.ret [.bool false]) (.fn same_s [h 6 11, h 6 11] 1 <| .lt 8 (.un .not) [h 24 8] <| .br 25 (.ret [.bool false]) (.lt 3 (.conv .i64) [h 3 4] <| .lt 3 (.bin .rem) [h 26 3, .int .i64 (20)] <| .fn val_s [h 6 11, h 4 3, h 5 3] 1 <| .fn rval_s [h 6 11, h 4 3, h 5 3] 1 <| .lt 8 (.bin .neq) [h 28 3, h 29 3] <| .br 30 (.ret [.bool false]) (.fn val_s [h 6 11, h 27 3, h 5 3] 1 <| .fn rval_s [h 6 11, h 27 3, h 5 3] 1 <| .lt 8 (.bin .neq) [h 31 3, h 32 3] <| .br 33 (.ret [.bool false]) (.fn val_s [h 6 11, .int .i64 (0), h 5 3] 1 <| .fn rval_s [h 6 11, .int .i64 (0), h 5 3] 1 <| .lt 8 (.bin .neq) [h 34 3, h 35 3] <| .br 36 (.ret [.bool false]) (.fn prt_s [h 7 11] 2 <| .fn rprt_s [h 7 11] 2 <| .lt 8 (.bin .neq) [h 37 9, h 39 9] <| .br 41 (.ret [.bool false]) (.lt 8 (.bin .neq) [h 38 3, h 40 3] <| .br 42 (.ret [.bool false]) (.fn chk_s [h 7 11] 1 <| .fn rchk_s [h 7 11] 1 <| .lt 8 (.bin .neq) [h 43 3, h 44 3] <| .br 45 (.ret [.bool false]) (.fn same_s [h 7 11, h 7 11] 1 <| .fn rsame_s [h 7 11, h 7 11] 1 <| .lt 8 (.bin .neq) [h 46 8, h 47 8] <| .br 48 (.ret [.bool false]) (.fn same_s [h 7 11, h 7 11] 1 <| .lt 8 (.un .not) [h 49 8] <| .br 50 (.ret [.bool false]) (.lt 3 (.conv .i64) [h 3 4] <| .lt 3 (.bin .rem) [h 51 3, .int .i64 (20)] <| .fn val_s [h 7 11, h 4 3, h 5 3] 1 <| .fn rval_s [h 7 11, h 4 3, h 5 3] 1 <| .lt 8 (.bin .neq) [h 53 3, h 54 3] <| .br 55 (.ret [.bool false]) (.fn val_s [h 7 11, h 52 3, h 5 3] 1 <| .fn rval_s [h 7 11, h 52 3, h 5 3] 1 <| .lt 8 (.bin .neq) [h 56 3, h 57 3] <| .br 58 (.ret [.bool false]) (.fn val_s [h 7 11, .int .i64 (0), h 5 3] 1 <| .fn rval_s [h 7 11, .int .i64 (0), h 5 3] 1 <| .lt 8 (.bin .neq) [h 59 3, h 60 3] <| .br 61 (.ret [.bool false]) (.fn prt_s [h 9 11] 2 <| .fn rprt_s [h 9 11] 2 <| .lt 8 (.bin .neq) [h 62 9, h 64 9] <| .br 66 (.ret [.bool false]) (.lt 8 (.bin .neq) [h 63 3, h 65 3] <| .br 67 (.ret [.bool false]) (.fn chk_s [h 9 11] 1 <| .fn rchk_s [h 9 11] 1 <| .lt 8 (.bin .neq) [h 68 3, h 69 3] <| .br 70 (.ret [.bool false]) (.fn same_s [h 9 11, h 7 11] 1 <| .fn rsame_s [h 9 11, h 7 11] 1 <| .lt 8 (.bin .neq) [h 71 8, h 72 8] <| .br 73 (.ret [.bool false]) (.fn same_s [h 9 11, h 9 11] 1 <| .lt 8 (.un .not) [h 74 8] <| .br 75 (.ret [.bool false]) (.lt 3 (.conv .i64) [h 3 4] <| .lt 3 (.bin .rem) [h 76 3, .int .i64 (20)] <| .fn val_s [h 9 11, h 4 3, h 5 3] 1 <| .fn rval_s [h 9 11, h 4 3, h 5 3] 1 <| .lt 8 (.bin .neq) [h 78 3, h 79 3] <| .br 80 (.ret [.bool false]) (.fn val_s [h 9 11, h 77 3, h 5 3] 1 <| .fn rval_s [h 9 11, h 77 3, h 5 3] 1 <| .lt 8 (.bin .neq) [h 81 3, h 82 3] <| .br 83 (.ret [.bool false]) (.fn val_s [h 9 11, .int .i64 (0), h 5 3] 1 <| .fn rval_s [h 9 11, .int .i64 (0), h 5 3] 1 <| .lt 8 (.bin .neq) [h 84 3, h 85 3] <| .br 86 (.ret [.bool false]) (.fn wks_s [] 1 <| .ret [h 87 8])))))))))))))))))))))))))
theorem pps_c {G : Nat → Option Obj} (hst : StartOk Tryd.prog G gl H0 n0) : ConOk Tryd.prog G 7 [.s 11, .a [11, 11], .s 4, .s 3, .s 3] pps_s [.s 8] := by
  refine con_of_tree (C := cx L_shO P_rpo) (d := 60) pps_t (cxg (L_shO_ok hst) (P_rpo_ok hst)) hst ⟨Tryd.f7, _, Tryd.func7, rfl⟩ (by kernel_rfl) (by kernel_rfl) ?_
  intro us outs hs
  unfold pps_s at hs
  split at hs
  · skip
    rename_i u_l u_pa u_ma a n d
    have hq_l := Option.bind_eq_some_iff.1 hs
    clear hs
    obtain ⟨l, hd_l, hs⟩ := hq_l
    replace hd_l := decS_eq hd_l
    subst hd_l
    have hq_pa := Option.bind_eq_some_iff.1 hs
    clear hs
    obtain ⟨pa, hd_pa, hs⟩ := hq_pa
    replace hd_pa := decS_eq hd_pa
    subst hd_pa
    have hq_ma := Option.bind_eq_some_iff.1 hs
    clear hs
    obtain ⟨ma, hd_ma, hs⟩ := hq_ma
    replace hd_ma := decS_eq hd_ma
    subst hd_ma
    split at hs
    · rename_i hc
      cases hs
      have qa : checkS (rowF pa ma) = 0 := row_ok hc.2.1.2.2.1 hc.2.1.2.2.2
      have lo := lens_of qa
      have la : (el (shortF l)).length ≤ 1000000000 ∧ ∀ p ∈ el (shortF l), (el p).length ≤ 1000000000 := ⟨by have := (short_len l).1; omega, fun p hp => by have := (short_len l).2 p hp; omega⟩
      have sb := short_len (rowF pa ma)
      have lb : (el (shortF (rowF pa ma))).length ≤ 1000000000 ∧ ∀ p ∈ el (shortF (rowF pa ma)), (el p).length ≤ 1000000000 := ⟨by have := sb.1; omega, fun p hp => by have := sb.2 p hp; omega⟩
      have s1b : ∀ p ∈ el (shortF (rowF pa ma)), 1 ≤ (el p).length := short_one (fun p hp => by rcases check_bd (rowF pa ma) with h | ⟨_, _, h⟩ <;> first | (exfalso; omega) | exact (h p hp).1)
      have hm : ((el (shortF (rowF pa ma))).length : Int) = 0 ∨ (0 ≤ a % ((el (shortF (rowF pa ma))).length : Int) ∧ a % ((el (shortF (rowF pa ma))).length : Int) < ((el (shortF (rowF pa ma))).length : Int)) := by
        by_cases h : ((el (shortF (rowF pa ma))).length : Int) = 0
        · exact .inl h
        · exact .inr ⟨Int.emod_nonneg _ h, Int.emod_lt_of_pos _ (by omega)⟩
      have hk : ((el (shortF (rowF pa ma))).length : Int) = 0 ∨ (1 ≤ (el ((el (shortF (rowF pa ma))).getD (a % ((el (shortF (rowF pa ma))).length : Int)).toNat default)).length ∧ (el ((el (shortF (rowF pa ma))).getD (a % ((el (shortF (rowF pa ma))).length : Int)).toNat default)).length ≤ 10) := by
        rcases hm with h | h
        · exact .inl h
        · exact .inr ⟨all_get s1b h.1 h.2, all_get sb.2 h.1 h.2⟩
      have e0 : (el (some ([] : List Int))).length = 0 := rfl
      have q := sub_len2 ((el (shortF (rowF pa ma))).getD (a % ((el (shortF (rowF pa ma))).length : Int)).toNat default) (Int.toNat 1) (((el ((el (shortF (rowF pa ma))).getD (a % ((el (shortF (rowF pa ma))).length : Int)).toNat default)).length : Int)).toNat
      have lw : ((el (shortF (rowF pa ma))).length : Int) = 0 ∨ (el (some (el (catS (some []) (subS ((el (shortF (rowF pa ma))).getD (a % ((el (shortF (rowF pa ma))).length : Int)).toNat default) (Int.toNat 1) (((el ((el (shortF (rowF pa ma))).getD (a % ((el (shortF (rowF pa ma))).length : Int)).toNat default)).length : Int)).toNat)) ++ [n]))).length ≤ 1000000000 := by
        rcases hk with h | h
        · exact .inl h
        · refine .inr ?_
          rw [el_some, List.length_append, el_catS, List.length_append, List.length_singleton]
          omega
      clear qa
      unfold pps_t
      refine s0 (.cons 5 _ (.cons 4 _ (.cons 3 _ (.cons 2 _ (.cons 1 _ (.cons 0 _ (.nil))))))) rfl (by simp [Ev.ok, Ev.len]) ?_
      refine s31 (shO_s_e _) rfl ?_
      refine s31 (row_s_e _ _ hc.2.1) rfl ?_
      refine s31 (row_s_e _ _ hc.2.1) rfl ?_
      refine s31 (shO_s_e _) rfl ?_
      refine s1 (ev_lenS _ _) rfl rfl rfl ?_
      refine s1 (ev_gtr _ _ _) rfl rfl rfl ?_
      first | refine s4 rfl (fun g0 => ?_) (fun g0 => ?_) | refine s4B rfl (fun g0 => ?_) (fun g0 => ?_)
      · first | refine s1 (ev_convW (wrap64 (by omega) (by omega))) rfl rfl rfl ?_ | refine s1 (ev_conv _ _ _) rfl rfl rfl ?_
        first | refine s1 (ev_remW (by omega) (by omega)) rfl rfl rfl ?_ | refine s1 (ev_rem _ _ _ (by omega)) rfl rfl rfl ?_
        refine s1 (ev_inbsS rfl) rfl rfl rfl ?_
        first | refine s5 rfl (fun g1 => ?_) (fun g1 => ?_) | refine s5B rfl (fun g1 => ?_) (fun g1 => ?_)
        · refine s8 ?_
          (exfalso; omega)
        refine s2 (r := rI) (ev_getS rfl (by omega) (by omega) rfl) rfl rfl ?_
        refine s1 (ev_lenS _ _) rfl rfl rfl ?_
        refine s2 (r := rI) (ev_subsS rfl (by omega) (by omega) (by omega)) rfl rfl ?_
        refine s2 (r := rI) (ev_mkS [] rfl (by decide) rfl) rfl rfl ?_
        refine s2 (r := rI) (ev_catS rfl (by first | omega | (rw [el_catS, List.length_append]; omega) | (simp only [el_catS, List.length_append, List.length_singleton]; omega))) rfl rfl ?_
        refine s2 (r := rI) (ev_snocR rfl rfl (by decide) (by first | omega | (rw [el_catS, List.length_append]; omega) | (simp only [el_catS, List.length_append, List.length_singleton]; omega))) rfl rfl ?_
        refine s1 (ev_inbsS rfl) rfl rfl rfl ?_
        first | refine s5 rfl (fun g2 => ?_) (fun g2 => ?_) | refine s5B rfl (fun g2 => ?_) (fun g2 => ?_)
        · refine s8 ?_
          (exfalso; omega)
        refine s2 (r := rP) (ev_setS _ rfl (Nat.le_of_ble_eq_true rfl) (by omega) (by omega) rfl) rfl rfl ?_
        refine s32 (prt_s_e _ (by first | exact la | exact lo | exact lb | exact set_lens lb (by omega))) rfl rfl ?_
        refine s32 (rprt_s_e _ (by first | exact la | exact lo | exact lb | exact set_lens lb (by omega))) rfl rfl ?_
        refine s1 (ev_sne _ _) rfl rfl rfl ?_
        first | refine s4 rfl (fun g3 => ?_) (fun g3 => ?_) | refine s4B rfl (fun g3 => ?_) (fun g3 => ?_)
        · refine s7 [.bool _] rfl ?_
          first | rfl | (exfalso; exact absurd rfl (by assumption))
        refine s1 (ev_neq _ _ _) rfl rfl rfl ?_
        first | refine s4 rfl (fun g4 => ?_) (fun g4 => ?_) | refine s4B rfl (fun g4 => ?_) (fun g4 => ?_)
        · refine s7 [.bool _] rfl ?_
          first | rfl | (exfalso; exact absurd rfl (by assumption))
        refine s31 (chk_s_e _ (by first | exact la | exact lo | exact lb | exact set_lens lb (by omega))) rfl ?_
        refine s31 (rchk_s_e _ (by first | exact la | exact lo | exact lb | exact set_lens lb (by omega))) rfl ?_
        refine s1 (ev_neq _ _ _) rfl rfl rfl ?_
        first | refine s4 rfl (fun g5 => ?_) (fun g5 => ?_) | refine s4B rfl (fun g5 => ?_) (fun g5 => ?_)
        · refine s7 [.bool _] rfl ?_
          first | rfl | (exfalso; exact absurd rfl (by assumption))
        refine s31 (same_s_e _ _ (by first | exact ⟨la.1, lo.1, la.2, lo.2⟩ | exact ⟨la.1, la.1, la.2, la.2⟩ | exact ⟨lo.1, lo.1, lo.2, lo.2⟩ | exact ⟨lb.1, lo.1, lb.2, lo.2⟩ | exact ⟨lb.1, lb.1, lb.2, lb.2⟩ | exact ⟨(set_lens lb (by omega)).1, lo.1, (set_lens lb (by omega)).2, lo.2⟩ | exact ⟨(set_lens lb (by omega)).1, (set_lens lb (by omega)).1, (set_lens lb (by omega)).2, (set_lens lb (by omega)).2⟩)) rfl ?_
        refine s31 (rsame_s_e _ _ (by first | exact ⟨la.1, lo.1, la.2, lo.2⟩ | exact ⟨lo.1, lo.1, lo.2, lo.2⟩ | exact ⟨lb.1, lo.1, lb.2, lo.2⟩ | exact ⟨(set_lens lb (by omega)).1, lo.1, (set_lens lb (by omega)).2, lo.2⟩)) rfl ?_
        refine s1 (ev_bne _ _) rfl rfl rfl ?_
        first | refine s4 rfl (fun g6 => ?_) (fun g6 => ?_) | refine s4B rfl (fun g6 => ?_) (fun g6 => ?_)
        · refine s7 [.bool _] rfl ?_
          first | rfl | (exfalso; exact absurd rfl (by assumption))
        refine s31 (same_s_e _ _ (by first | exact ⟨la.1, lo.1, la.2, lo.2⟩ | exact ⟨la.1, la.1, la.2, la.2⟩ | exact ⟨lo.1, lo.1, lo.2, lo.2⟩ | exact ⟨lb.1, lo.1, lb.2, lo.2⟩ | exact ⟨lb.1, lb.1, lb.2, lb.2⟩ | exact ⟨(set_lens lb (by omega)).1, lo.1, (set_lens lb (by omega)).2, lo.2⟩ | exact ⟨(set_lens lb (by omega)).1, (set_lens lb (by omega)).1, (set_lens lb (by omega)).2, (set_lens lb (by omega)).2⟩)) rfl ?_
        first | refine s1 (ev_notD _) rfl rfl rfl ?_ | refine s1 (ev_not _) rfl rfl rfl ?_
        first | refine s4 rfl (fun g7 => ?_) (fun g7 => ?_) | refine s4B rfl (fun g7 => ?_) (fun g7 => ?_)
        · refine s7 [.bool _] rfl ?_
          first | rfl | (exfalso; exact absurd rfl (by assumption))
        first | refine s1 (ev_convW (wrap64 (by omega) (by omega))) rfl rfl rfl ?_ | refine s1 (ev_conv _ _ _) rfl rfl rfl ?_
        first | refine s1 (ev_remW (by omega) (by omega)) rfl rfl rfl ?_ | refine s1 (ev_rem _ _ _ (by omega)) rfl rfl rfl ?_
        refine s31 (val_s_e _ _ _ (by omega)) rfl ?_
        refine s31 (rval_s_e _ _ _) rfl ?_
        refine s1 (ev_neq _ _ _) rfl rfl rfl ?_
        first | refine s4 rfl (fun g8 => ?_) (fun g8 => ?_) | refine s4B rfl (fun g8 => ?_) (fun g8 => ?_)
        · refine s7 [.bool _] rfl ?_
          first | rfl | (exfalso; exact absurd rfl (by assumption))
        refine s31 (val_s_e _ _ _ (by omega)) rfl ?_
        refine s31 (rval_s_e _ _ _) rfl ?_
        refine s1 (ev_neq _ _ _) rfl rfl rfl ?_
        first | refine s4 rfl (fun g9 => ?_) (fun g9 => ?_) | refine s4B rfl (fun g9 => ?_) (fun g9 => ?_)
        · refine s7 [.bool _] rfl ?_
          first | rfl | (exfalso; exact absurd rfl (by assumption))
        refine s31 (val_s_e _ _ _ (by omega)) rfl ?_
        refine s31 (rval_s_e _ _ _) rfl ?_
        refine s1 (ev_neq _ _ _) rfl rfl rfl ?_
        first | refine s4 rfl (fun g10 => ?_) (fun g10 => ?_) | refine s4B rfl (fun g10 => ?_) (fun g10 => ?_)
        · refine s7 [.bool _] rfl ?_
          first | rfl | (exfalso; exact absurd rfl (by assumption))
        refine s32 (prt_s_e _ (by first | exact la | exact lo | exact lb | exact set_lens lb (by omega))) rfl rfl ?_
        refine s32 (rprt_s_e _ (by first | exact la | exact lo | exact lb | exact set_lens lb (by omega))) rfl rfl ?_
        refine s1 (ev_sne _ _) rfl rfl rfl ?_
        first | refine s4 rfl (fun g11 => ?_) (fun g11 => ?_) | refine s4B rfl (fun g11 => ?_) (fun g11 => ?_)
        · refine s7 [.bool _] rfl ?_
          first | rfl | (exfalso; exact absurd rfl (by assumption))
        refine s1 (ev_neq _ _ _) rfl rfl rfl ?_
        first | refine s4 rfl (fun g12 => ?_) (fun g12 => ?_) | refine s4B rfl (fun g12 => ?_) (fun g12 => ?_)
        · refine s7 [.bool _] rfl ?_
          first | rfl | (exfalso; exact absurd rfl (by assumption))
        refine s31 (chk_s_e _ (by first | exact la | exact lo | exact lb | exact set_lens lb (by omega))) rfl ?_
        refine s31 (rchk_s_e _ (by first | exact la | exact lo | exact lb | exact set_lens lb (by omega))) rfl ?_
        refine s1 (ev_neq _ _ _) rfl rfl rfl ?_
        first | refine s4 rfl (fun g13 => ?_) (fun g13 => ?_) | refine s4B rfl (fun g13 => ?_) (fun g13 => ?_)
        · refine s7 [.bool _] rfl ?_
          first | rfl | (exfalso; exact absurd rfl (by assumption))
        refine s31 (same_s_e _ _ (by first | exact ⟨la.1, lo.1, la.2, lo.2⟩ | exact ⟨la.1, la.1, la.2, la.2⟩ | exact ⟨lo.1, lo.1, lo.2, lo.2⟩ | exact ⟨lb.1, lo.1, lb.2, lo.2⟩ | exact ⟨lb.1, lb.1, lb.2, lb.2⟩ | exact ⟨(set_lens lb (by omega)).1, lo.1, (set_lens lb (by omega)).2, lo.2⟩ | exact ⟨(set_lens lb (by omega)).1, (set_lens lb (by omega)).1, (set_lens lb (by omega)).2, (set_lens lb (by omega)).2⟩)) rfl ?_
        refine s31 (rsame_s_e _ _ (by first | exact ⟨la.1, lo.1, la.2, lo.2⟩ | exact ⟨lo.1, lo.1, lo.2, lo.2⟩ | exact ⟨lb.1, lo.1, lb.2, lo.2⟩ | exact ⟨(set_lens lb (by omega)).1, lo.1, (set_lens lb (by omega)).2, lo.2⟩)) rfl ?_
        refine s1 (ev_bne _ _) rfl rfl rfl ?_
        first | refine s4 rfl (fun g14 => ?_) (fun g14 => ?_) | refine s4B rfl (fun g14 => ?_) (fun g14 => ?_)
        · refine s7 [.bool _] rfl ?_
          first | rfl | (exfalso; exact absurd rfl (by assumption))
        refine s31 (same_s_e _ _ (by first | exact ⟨la.1, lo.1, la.2, lo.2⟩ | exact ⟨la.1, la.1, la.2, la.2⟩ | exact ⟨lo.1, lo.1, lo.2, lo.2⟩ | exact ⟨lb.1, lo.1, lb.2, lo.2⟩ | exact ⟨lb.1, lb.1, lb.2, lb.2⟩ | exact ⟨(set_lens lb (by omega)).1, lo.1, (set_lens lb (by omega)).2, lo.2⟩ | exact ⟨(set_lens lb (by omega)).1, (set_lens lb (by omega)).1, (set_lens lb (by omega)).2, (set_lens lb (by omega)).2⟩)) rfl ?_
        first | refine s1 (ev_notD _) rfl rfl rfl ?_ | refine s1 (ev_not _) rfl rfl rfl ?_
        first | refine s4 rfl (fun g15 => ?_) (fun g15 => ?_) | refine s4B rfl (fun g15 => ?_) (fun g15 => ?_)
        · refine s7 [.bool _] rfl ?_
          first | rfl | (exfalso; exact absurd rfl (by assumption))
        first | refine s1 (ev_convW (wrap64 (by omega) (by omega))) rfl rfl rfl ?_ | refine s1 (ev_conv _ _ _) rfl rfl rfl ?_
        first | refine s1 (ev_remW (by omega) (by omega)) rfl rfl rfl ?_ | refine s1 (ev_rem _ _ _ (by omega)) rfl rfl rfl ?_
        refine s31 (val_s_e _ _ _ (by omega)) rfl ?_
        refine s31 (rval_s_e _ _ _) rfl ?_
        refine s1 (ev_neq _ _ _) rfl rfl rfl ?_
        first | refine s4 rfl (fun g16 => ?_) (fun g16 => ?_) | refine s4B rfl (fun g16 => ?_) (fun g16 => ?_)
        · refine s7 [.bool _] rfl ?_
          first | rfl | (exfalso; exact absurd rfl (by assumption))
        refine s31 (val_s_e _ _ _ (by omega)) rfl ?_
        refine s31 (rval_s_e _ _ _) rfl ?_
        refine s1 (ev_neq _ _ _) rfl rfl rfl ?_
        first | refine s4 rfl (fun g17 => ?_) (fun g17 => ?_) | refine s4B rfl (fun g17 => ?_) (fun g17 => ?_)
        · refine s7 [.bool _] rfl ?_
          first | rfl | (exfalso; exact absurd rfl (by assumption))
        refine s31 (val_s_e _ _ _ (by omega)) rfl ?_
        refine s31 (rval_s_e _ _ _) rfl ?_
        refine s1 (ev_neq _ _ _) rfl rfl rfl ?_
        first | refine s4 rfl (fun g18 => ?_) (fun g18 => ?_) | refine s4B rfl (fun g18 => ?_) (fun g18 => ?_)
        · refine s7 [.bool _] rfl ?_
          first | rfl | (exfalso; exact absurd rfl (by assumption))
        refine s32 (prt_s_e _ (by first | exact la | exact lo | exact lb | exact set_lens lb (by omega))) rfl rfl ?_
        refine s32 (rprt_s_e _ (by first | exact la | exact lo | exact lb | exact set_lens lb (by omega))) rfl rfl ?_
        refine s1 (ev_sne _ _) rfl rfl rfl ?_
        first | refine s4 rfl (fun g19 => ?_) (fun g19 => ?_) | refine s4B rfl (fun g19 => ?_) (fun g19 => ?_)
        · refine s7 [.bool _] rfl ?_
          first | rfl | (exfalso; exact absurd rfl (by assumption))
        refine s1 (ev_neq _ _ _) rfl rfl rfl ?_
        first | refine s4 rfl (fun g20 => ?_) (fun g20 => ?_) | refine s4B rfl (fun g20 => ?_) (fun g20 => ?_)
        · refine s7 [.bool _] rfl ?_
          first | rfl | (exfalso; exact absurd rfl (by assumption))
        refine s31 (chk_s_e _ (by first | exact la | exact lo | exact lb | exact set_lens lb (by omega))) rfl ?_
        refine s31 (rchk_s_e _ (by first | exact la | exact lo | exact lb | exact set_lens lb (by omega))) rfl ?_
        refine s1 (ev_neq _ _ _) rfl rfl rfl ?_
        first | refine s4 rfl (fun g21 => ?_) (fun g21 => ?_) | refine s4B rfl (fun g21 => ?_) (fun g21 => ?_)
        · refine s7 [.bool _] rfl ?_
          first | rfl | (exfalso; exact absurd rfl (by assumption))
        refine s31 (same_s_e _ _ (by first | exact ⟨la.1, lo.1, la.2, lo.2⟩ | exact ⟨la.1, la.1, la.2, la.2⟩ | exact ⟨lo.1, lo.1, lo.2, lo.2⟩ | exact ⟨lb.1, lo.1, lb.2, lo.2⟩ | exact ⟨lb.1, lb.1, lb.2, lb.2⟩ | exact ⟨(set_lens lb (by omega)).1, lo.1, (set_lens lb (by omega)).2, lo.2⟩ | exact ⟨(set_lens lb (by omega)).1, (set_lens lb (by omega)).1, (set_lens lb (by omega)).2, (set_lens lb (by omega)).2⟩)) rfl ?_
        refine s31 (rsame_s_e _ _ (by first | exact ⟨la.1, lo.1, la.2, lo.2⟩ | exact ⟨lo.1, lo.1, lo.2, lo.2⟩ | exact ⟨lb.1, lo.1, lb.2, lo.2⟩ | exact ⟨(set_lens lb (by omega)).1, lo.1, (set_lens lb (by omega)).2, lo.2⟩)) rfl ?_
        refine s1 (ev_bne _ _) rfl rfl rfl ?_
        first | refine s4 rfl (fun g22 => ?_) (fun g22 => ?_) | refine s4B rfl (fun g22 => ?_) (fun g22 => ?_)
        · refine s7 [.bool _] rfl ?_
          first | rfl | (exfalso; exact absurd rfl (by assumption))
        refine s31 (same_s_e _ _ (by first | exact ⟨la.1, lo.1, la.2, lo.2⟩ | exact ⟨la.1, la.1, la.2, la.2⟩ | exact ⟨lo.1, lo.1, lo.2, lo.2⟩ | exact ⟨lb.1, lo.1, lb.2, lo.2⟩ | exact ⟨lb.1, lb.1, lb.2, lb.2⟩ | exact ⟨(set_lens lb (by omega)).1, lo.1, (set_lens lb (by omega)).2, lo.2⟩ | exact ⟨(set_lens lb (by omega)).1, (set_lens lb (by omega)).1, (set_lens lb (by omega)).2, (set_lens lb (by omega)).2⟩)) rfl ?_
        first | refine s1 (ev_notD _) rfl rfl rfl ?_ | refine s1 (ev_not _) rfl rfl rfl ?_
        first | refine s4 rfl (fun g23 => ?_) (fun g23 => ?_) | refine s4B rfl (fun g23 => ?_) (fun g23 => ?_)
        · refine s7 [.bool _] rfl ?_
          first | rfl | (exfalso; exact absurd rfl (by assumption))
        first | refine s1 (ev_convW (wrap64 (by omega) (by omega))) rfl rfl rfl ?_ | refine s1 (ev_conv _ _ _) rfl rfl rfl ?_
        first | refine s1 (ev_remW (by omega) (by omega)) rfl rfl rfl ?_ | refine s1 (ev_rem _ _ _ (by omega)) rfl rfl rfl ?_
        refine s31 (val_s_e _ _ _ (by omega)) rfl ?_
        refine s31 (rval_s_e _ _ _) rfl ?_
        refine s1 (ev_neq _ _ _) rfl rfl rfl ?_
        first | refine s4 rfl (fun g24 => ?_) (fun g24 => ?_) | refine s4B rfl (fun g24 => ?_) (fun g24 => ?_)
        · refine s7 [.bool _] rfl ?_
          first | rfl | (exfalso; exact absurd rfl (by assumption))
        refine s31 (val_s_e _ _ _ (by omega)) rfl ?_
        refine s31 (rval_s_e _ _ _) rfl ?_
        refine s1 (ev_neq _ _ _) rfl rfl rfl ?_
        first | refine s4 rfl (fun g25 => ?_) (fun g25 => ?_) | refine s4B rfl (fun g25 => ?_) (fun g25 => ?_)
        · refine s7 [.bool _] rfl ?_
          first | rfl | (exfalso; exact absurd rfl (by assumption))
        refine s31 (val_s_e _ _ _ (by omega)) rfl ?_
        refine s31 (rval_s_e _ _ _) rfl ?_
        refine s1 (ev_neq _ _ _) rfl rfl rfl ?_
        first | refine s4 rfl (fun g26 => ?_) (fun g26 => ?_) | refine s4B rfl (fun g26 => ?_) (fun g26 => ?_)
        · refine s7 [.bool _] rfl ?_
          first | rfl | (exfalso; exact absurd rfl (by assumption))
        refine s31 rfl rfl ?_
        refine s7 [.bool _] rfl ?_
        first | rfl | (exfalso; exact absurd rfl (by assumption))
      refine s32 (prt_s_e _ (by first | exact la | exact lo | exact lb | exact set_lens lb (by omega))) rfl rfl ?_
      refine s32 (rprt_s_e _ (by first | exact la | exact lo | exact lb | exact set_lens lb (by omega))) rfl rfl ?_
      refine s1 (ev_sne _ _) rfl rfl rfl ?_
      first | refine s4 rfl (fun g1 => ?_) (fun g1 => ?_) | refine s4B rfl (fun g1 => ?_) (fun g1 => ?_)
      · refine s7 [.bool _] rfl ?_
        first | rfl | (exfalso; exact absurd rfl (by assumption))
      refine s1 (ev_neq _ _ _) rfl rfl rfl ?_
      first | refine s4 rfl (fun g2 => ?_) (fun g2 => ?_) | refine s4B rfl (fun g2 => ?_) (fun g2 => ?_)
      · refine s7 [.bool _] rfl ?_
        first | rfl | (exfalso; exact absurd rfl (by assumption))
      refine s31 (chk_s_e _ (by first | exact la | exact lo | exact lb | exact set_lens lb (by omega))) rfl ?_
      refine s31 (rchk_s_e _ (by first | exact la | exact lo | exact lb | exact set_lens lb (by omega))) rfl ?_
      refine s1 (ev_neq _ _ _) rfl rfl rfl ?_
      first | refine s4 rfl (fun g3 => ?_) (fun g3 => ?_) | refine s4B rfl (fun g3 => ?_) (fun g3 => ?_)
      · refine s7 [.bool _] rfl ?_
        first | rfl | (exfalso; exact absurd rfl (by assumption))
      refine s31 (same_s_e _ _ (by first | exact ⟨la.1, lo.1, la.2, lo.2⟩ | exact ⟨la.1, la.1, la.2, la.2⟩ | exact ⟨lo.1, lo.1, lo.2, lo.2⟩ | exact ⟨lb.1, lo.1, lb.2, lo.2⟩ | exact ⟨lb.1, lb.1, lb.2, lb.2⟩ | exact ⟨(set_lens lb (by omega)).1, lo.1, (set_lens lb (by omega)).2, lo.2⟩ | exact ⟨(set_lens lb (by omega)).1, (set_lens lb (by omega)).1, (set_lens lb (by omega)).2, (set_lens lb (by omega)).2⟩)) rfl ?_
      refine s31 (rsame_s_e _ _ (by first | exact ⟨la.1, lo.1, la.2, lo.2⟩ | exact ⟨lo.1, lo.1, lo.2, lo.2⟩ | exact ⟨lb.1, lo.1, lb.2, lo.2⟩ | exact ⟨(set_lens lb (by omega)).1, lo.1, (set_lens lb (by omega)).2, lo.2⟩)) rfl ?_
      refine s1 (ev_bne _ _) rfl rfl rfl ?_
      first | refine s4 rfl (fun g4 => ?_) (fun g4 => ?_) | refine s4B rfl (fun g4 => ?_) (fun g4 => ?_)
      · refine s7 [.bool _] rfl ?_
        first | rfl | (exfalso; exact absurd rfl (by assumption))
      refine s31 (same_s_e _ _ (by first | exact ⟨la.1, lo.1, la.2, lo.2⟩ | exact ⟨la.1, la.1, la.2, la.2⟩ | exact ⟨lo.1, lo.1, lo.2, lo.2⟩ | exact ⟨lb.1, lo.1, lb.2, lo.2⟩ | exact ⟨lb.1, lb.1, lb.2, lb.2⟩ | exact ⟨(set_lens lb (by omega)).1, lo.1, (set_lens lb (by omega)).2, lo.2⟩ | exact ⟨(set_lens lb (by omega)).1, (set_lens lb (by omega)).1, (set_lens lb (by omega)).2, (set_lens lb (by omega)).2⟩)) rfl ?_
      first | refine s1 (ev_notD _) rfl rfl rfl ?_ | refine s1 (ev_not _) rfl rfl rfl ?_
      first | refine s4 rfl (fun g5 => ?_) (fun g5 => ?_) | refine s4B rfl (fun g5 => ?_) (fun g5 => ?_)
      · refine s7 [.bool _] rfl ?_
        first | rfl | (exfalso; exact absurd rfl (by assumption))
      first | refine s1 (ev_convW (wrap64 (by omega) (by omega))) rfl rfl rfl ?_ | refine s1 (ev_conv _ _ _) rfl rfl rfl ?_
      first | refine s1 (ev_remW (by omega) (by omega)) rfl rfl rfl ?_ | refine s1 (ev_rem _ _ _ (by omega)) rfl rfl rfl ?_
      refine s31 (val_s_e _ _ _ (by omega)) rfl ?_
      refine s31 (rval_s_e _ _ _) rfl ?_
      refine s1 (ev_neq _ _ _) rfl rfl rfl ?_
      first | refine s4 rfl (fun g6 => ?_) (fun g6 => ?_) | refine s4B rfl (fun g6 => ?_) (fun g6 => ?_)
      · refine s7 [.bool _] rfl ?_
        first | rfl | (exfalso; exact absurd rfl (by assumption))
      refine s31 (val_s_e _ _ _ (by omega)) rfl ?_
      refine s31 (rval_s_e _ _ _) rfl ?_
      refine s1 (ev_neq _ _ _) rfl rfl rfl ?_
      first | refine s4 rfl (fun g7 => ?_) (fun g7 => ?_) | refine s4B rfl (fun g7 => ?_) (fun g7 => ?_)
      · refine s7 [.bool _] rfl ?_
        first | rfl | (exfalso; exact absurd rfl (by assumption))
      refine s31 (val_s_e _ _ _ (by omega)) rfl ?_
      refine s31 (rval_s_e _ _ _) rfl ?_
      refine s1 (ev_neq _ _ _) rfl rfl rfl ?_
      first | refine s4 rfl (fun g8 => ?_) (fun g8 => ?_) | refine s4B rfl (fun g8 => ?_) (fun g8 => ?_)
      · refine s7 [.bool _] rfl ?_
        first | rfl | (exfalso; exact absurd rfl (by assumption))
      refine s32 (prt_s_e _ (by first | exact la | exact lo | exact lb | exact set_lens lb (by omega))) rfl rfl ?_
      refine s32 (rprt_s_e _ (by first | exact la | exact lo | exact lb | exact set_lens lb (by omega))) rfl rfl ?_
      refine s1 (ev_sne _ _) rfl rfl rfl ?_
      first | refine s4 rfl (fun g9 => ?_) (fun g9 => ?_) | refine s4B rfl (fun g9 => ?_) (fun g9 => ?_)
      · refine s7 [.bool _] rfl ?_
        first | rfl | (exfalso; exact absurd rfl (by assumption))
      refine s1 (ev_neq _ _ _) rfl rfl rfl ?_
      first | refine s4 rfl (fun g10 => ?_) (fun g10 => ?_) | refine s4B rfl (fun g10 => ?_) (fun g10 => ?_)
      · refine s7 [.bool _] rfl ?_
        first | rfl | (exfalso; exact absurd rfl (by assumption))
      refine s31 (chk_s_e _ (by first | exact la | exact lo | exact lb | exact set_lens lb (by omega))) rfl ?_
      refine s31 (rchk_s_e _ (by first | exact la | exact lo | exact lb | exact set_lens lb (by omega))) rfl ?_
      refine s1 (ev_neq _ _ _) rfl rfl rfl ?_
      first | refine s4 rfl (fun g11 => ?_) (fun g11 => ?_) | refine s4B rfl (fun g11 => ?_) (fun g11 => ?_)
      · refine s7 [.bool _] rfl ?_
        first | rfl | (exfalso; exact absurd rfl (by assumption))
      refine s31 (same_s_e _ _ (by first | exact ⟨la.1, lo.1, la.2, lo.2⟩ | exact ⟨la.1, la.1, la.2, la.2⟩ | exact ⟨lo.1, lo.1, lo.2, lo.2⟩ | exact ⟨lb.1, lo.1, lb.2, lo.2⟩ | exact ⟨lb.1, lb.1, lb.2, lb.2⟩ | exact ⟨(set_lens lb (by omega)).1, lo.1, (set_lens lb (by omega)).2, lo.2⟩ | exact ⟨(set_lens lb (by omega)).1, (set_lens lb (by omega)).1, (set_lens lb (by omega)).2, (set_lens lb (by omega)).2⟩)) rfl ?_
      refine s31 (rsame_s_e _ _ (by first | exact ⟨la.1, lo.1, la.2, lo.2⟩ | exact ⟨lo.1, lo.1, lo.2, lo.2⟩ | exact ⟨lb.1, lo.1, lb.2, lo.2⟩ | exact ⟨(set_lens lb (by omega)).1, lo.1, (set_lens lb (by omega)).2, lo.2⟩)) rfl ?_
      refine s1 (ev_bne _ _) rfl rfl rfl ?_
      first | refine s4 rfl (fun g12 => ?_) (fun g12 => ?_) | refine s4B rfl (fun g12 => ?_) (fun g12 => ?_)
      · refine s7 [.bool _] rfl ?_
        first | rfl | (exfalso; exact absurd rfl (by assumption))
      refine s31 (same_s_e _ _ (by first | exact ⟨la.1, lo.1, la.2, lo.2⟩ | exact ⟨la.1, la.1, la.2, la.2⟩ | exact ⟨lo.1, lo.1, lo.2, lo.2⟩ | exact ⟨lb.1, lo.1, lb.2, lo.2⟩ | exact ⟨lb.1, lb.1, lb.2, lb.2⟩ | exact ⟨(set_lens lb (by omega)).1, lo.1, (set_lens lb (by omega)).2, lo.2⟩ | exact ⟨(set_lens lb (by omega)).1, (set_lens lb (by omega)).1, (set_lens lb (by omega)).2, (set_lens lb (by omega)).2⟩)) rfl ?_
      first | refine s1 (ev_notD _) rfl rfl rfl ?_ | refine s1 (ev_not _) rfl rfl rfl ?_
      first | refine s4 rfl (fun g13 => ?_) (fun g13 => ?_) | refine s4B rfl (fun g13 => ?_) (fun g13 => ?_)
      · refine s7 [.bool _] rfl ?_
        first | rfl | (exfalso; exact absurd rfl (by assumption))
      first | refine s1 (ev_convW (wrap64 (by omega) (by omega))) rfl rfl rfl ?_ | refine s1 (ev_conv _ _ _) rfl rfl rfl ?_
      first | refine s1 (ev_remW (by omega) (by omega)) rfl rfl rfl ?_ | refine s1 (ev_rem _ _ _ (by omega)) rfl rfl rfl ?_
      refine s31 (val_s_e _ _ _ (by omega)) rfl ?_
      refine s31 (rval_s_e _ _ _) rfl ?_
      refine s1 (ev_neq _ _ _) rfl rfl rfl ?_
      first | refine s4 rfl (fun g14 => ?_) (fun g14 => ?_) | refine s4B rfl (fun g14 => ?_) (fun g14 => ?_)
      · refine s7 [.bool _] rfl ?_
        first | rfl | (exfalso; exact absurd rfl (by assumption))
      refine s31 (val_s_e _ _ _ (by omega)) rfl ?_
      refine s31 (rval_s_e _ _ _) rfl ?_
      refine s1 (ev_neq _ _ _) rfl rfl rfl ?_
      first | refine s4 rfl (fun g15 => ?_) (fun g15 => ?_) | refine s4B rfl (fun g15 => ?_) (fun g15 => ?_)
      · refine s7 [.bool _] rfl ?_
        first | rfl | (exfalso; exact absurd rfl (by assumption))
      refine s31 (val_s_e _ _ _ (by omega)) rfl ?_
      refine s31 (rval_s_e _ _ _) rfl ?_
      refine s1 (ev_neq _ _ _) rfl rfl rfl ?_
      first | refine s4 rfl (fun g16 => ?_) (fun g16 => ?_) | refine s4B rfl (fun g16 => ?_) (fun g16 => ?_)
      · refine s7 [.bool _] rfl ?_
        first | rfl | (exfalso; exact absurd rfl (by assumption))
      refine s32 (prt_s_e _ (by first | exact la | exact lo | exact lb | exact set_lens lb (by omega))) rfl rfl ?_
      refine s32 (rprt_s_e _ (by first | exact la | exact lo | exact lb | exact set_lens lb (by omega))) rfl rfl ?_
      refine s1 (ev_sne _ _) rfl rfl rfl ?_
      first | refine s4 rfl (fun g17 => ?_) (fun g17 => ?_) | refine s4B rfl (fun g17 => ?_) (fun g17 => ?_)
      · refine s7 [.bool _] rfl ?_
        first | rfl | (exfalso; exact absurd rfl (by assumption))
      refine s1 (ev_neq _ _ _) rfl rfl rfl ?_
      first | refine s4 rfl (fun g18 => ?_) (fun g18 => ?_) | refine s4B rfl (fun g18 => ?_) (fun g18 => ?_)
      · refine s7 [.bool _] rfl ?_
        first | rfl | (exfalso; exact absurd rfl (by assumption))
      refine s31 (chk_s_e _ (by first | exact la | exact lo | exact lb | exact set_lens lb (by omega))) rfl ?_
      refine s31 (rchk_s_e _ (by first | exact la | exact lo | exact lb | exact set_lens lb (by omega))) rfl ?_
      refine s1 (ev_neq _ _ _) rfl rfl rfl ?_
      first | refine s4 rfl (fun g19 => ?_) (fun g19 => ?_) | refine s4B rfl (fun g19 => ?_) (fun g19 => ?_)
      · refine s7 [.bool _] rfl ?_
        first | rfl | (exfalso; exact absurd rfl (by assumption))
      refine s31 (same_s_e _ _ (by first | exact ⟨la.1, lo.1, la.2, lo.2⟩ | exact ⟨la.1, la.1, la.2, la.2⟩ | exact ⟨lo.1, lo.1, lo.2, lo.2⟩ | exact ⟨lb.1, lo.1, lb.2, lo.2⟩ | exact ⟨lb.1, lb.1, lb.2, lb.2⟩ | exact ⟨(set_lens lb (by omega)).1, lo.1, (set_lens lb (by omega)).2, lo.2⟩ | exact ⟨(set_lens lb (by omega)).1, (set_lens lb (by omega)).1, (set_lens lb (by omega)).2, (set_lens lb (by omega)).2⟩)) rfl ?_
      refine s31 (rsame_s_e _ _ (by first | exact ⟨la.1, lo.1, la.2, lo.2⟩ | exact ⟨lo.1, lo.1, lo.2, lo.2⟩ | exact ⟨lb.1, lo.1, lb.2, lo.2⟩ | exact ⟨(set_lens lb (by omega)).1, lo.1, (set_lens lb (by omega)).2, lo.2⟩)) rfl ?_
      refine s1 (ev_bne _ _) rfl rfl rfl ?_
      first | refine s4 rfl (fun g20 => ?_) (fun g20 => ?_) | refine s4B rfl (fun g20 => ?_) (fun g20 => ?_)
      · refine s7 [.bool _] rfl ?_
        first | rfl | (exfalso; exact absurd rfl (by assumption))
      refine s31 (same_s_e _ _ (by first | exact ⟨la.1, lo.1, la.2, lo.2⟩ | exact ⟨la.1, la.1, la.2, la.2⟩ | exact ⟨lo.1, lo.1, lo.2, lo.2⟩ | exact ⟨lb.1, lo.1, lb.2, lo.2⟩ | exact ⟨lb.1, lb.1, lb.2, lb.2⟩ | exact ⟨(set_lens lb (by omega)).1, lo.1, (set_lens lb (by omega)).2, lo.2⟩ | exact ⟨(set_lens lb (by omega)).1, (set_lens lb (by omega)).1, (set_lens lb (by omega)).2, (set_lens lb (by omega)).2⟩)) rfl ?_
      first | refine s1 (ev_notD _) rfl rfl rfl ?_ | refine s1 (ev_not _) rfl rfl rfl ?_
      first | refine s4 rfl (fun g21 => ?_) (fun g21 => ?_) | refine s4B rfl (fun g21 => ?_) (fun g21 => ?_)
      · refine s7 [.bool _] rfl ?_
        first | rfl | (exfalso; exact absurd rfl (by assumption))
      first | refine s1 (ev_convW (wrap64 (by omega) (by omega))) rfl rfl rfl ?_ | refine s1 (ev_conv _ _ _) rfl rfl rfl ?_
      first | refine s1 (ev_remW (by omega) (by omega)) rfl rfl rfl ?_ | refine s1 (ev_rem _ _ _ (by omega)) rfl rfl rfl ?_
      refine s31 (val_s_e _ _ _ (by omega)) rfl ?_
      refine s31 (rval_s_e _ _ _) rfl ?_
      refine s1 (ev_neq _ _ _) rfl rfl rfl ?_
      first | refine s4 rfl (fun g22 => ?_) (fun g22 => ?_) | refine s4B rfl (fun g22 => ?_) (fun g22 => ?_)
      · refine s7 [.bool _] rfl ?_
        first | rfl | (exfalso; exact absurd rfl (by assumption))
      refine s31 (val_s_e _ _ _ (by omega)) rfl ?_
      refine s31 (rval_s_e _ _ _) rfl ?_
      refine s1 (ev_neq _ _ _) rfl rfl rfl ?_
      first | refine s4 rfl (fun g23 => ?_) (fun g23 => ?_) | refine s4B rfl (fun g23 => ?_) (fun g23 => ?_)
      · refine s7 [.bool _] rfl ?_
        first | rfl | (exfalso; exact absurd rfl (by assumption))
      refine s31 (val_s_e _ _ _ (by omega)) rfl ?_
      refine s31 (rval_s_e _ _ _) rfl ?_
      refine s1 (ev_neq _ _ _) rfl rfl rfl ?_
      first | refine s4 rfl (fun g24 => ?_) (fun g24 => ?_) | refine s4B rfl (fun g24 => ?_) (fun g24 => ?_)
      · refine s7 [.bool _] rfl ?_
        first | rfl | (exfalso; exact absurd rfl (by assumption))
      refine s31 rfl rfl ?_
      refine s7 [.bool _] rfl ?_
      first | rfl | (exfalso; exact absurd rfl (by assumption))
    · cases hs
  · cases hs
end Go.Proofs.YtadmkfclgpbebaaDoor

namespace Go.Proofs.YtadmkfclgpbebaaDoor.paramPrintsDone
set_option linter.all false
open Go Go.Sx Go.ChangeShapes Go.WideShapes Go.ChangeAt Go.RowKit
set_option linter.unusedVariables false
set_option maxRecDepth 100000
theorem start {W : World} (h : laidMetH Tryd.prog Rows.paramPrintsRow.laid W) : StartOk Tryd.prog (fun k => W.heap[k]?) gl H0 n0 := by
  rw [MakeChecks.laidMetH_plain _ _ _ (by kernel_rfl)] at h
  have r2 : RowAt W 2 [.int .u8 (0), .int .u8 (1), .int .u8 (28), .int .u8 (2), .int .u8 (29), .int .u8 (14), .int .u8 (24), .int .u8 (3), .int .u8 (30), .int .u8 (22), .int .u8 (20), .int .u8 (15), .int .u8 (25), .int .u8 (17), .int .u8 (4), .int .u8 (8), .int .u8 (31), .int .u8 (27), .int .u8 (13), .int .u8 (23), .int .u8 (21), .int .u8 (19), .int .u8 (16), .int .u8 (7), .int .u8 (26), .int .u8 (12), .int .u8 (18), .int .u8 (6), .int .u8 (11), .int .u8 (5), .int .u8 (10), .int .u8 (9)] := rowAt_data (by kernel_rfl) (laid_row (n := "math/bits.deBruijn32tab") (d := Rows.laid_math_bits_deBruijn32tab) (g := 2) (k := 6) (t := 117) h (List.mem_of_getElem? (i := 0) rfl) (by kernel_rfl) (by kernel_rfl) (by kernel_rfl))
  have r3 : RowAt W 3 [.int .u8 (0), .int .u8 (1), .int .u8 (56), .int .u8 (2), .int .u8 (57), .int .u8 (49), .int .u8 (28), .int .u8 (3), .int .u8 (61), .int .u8 (58), .int .u8 (42), .int .u8 (50), .int .u8 (38), .int .u8 (29), .int .u8 (17), .int .u8 (4), .int .u8 (62), .int .u8 (47), .int .u8 (59), .int .u8 (36), .int .u8 (45), .int .u8 (43), .int .u8 (51), .int .u8 (22), .int .u8 (53), .int .u8 (39), .int .u8 (33), .int .u8 (30), .int .u8 (24), .int .u8 (18), .int .u8 (12), .int .u8 (5), .int .u8 (63), .int .u8 (55), .int .u8 (48), .int .u8 (27), .int .u8 (60), .int .u8 (41), .int .u8 (37), .int .u8 (16), .int .u8 (46), .int .u8 (35), .int .u8 (44), .int .u8 (21), .int .u8 (52), .int .u8 (32), .int .u8 (23), .int .u8 (11), .int .u8 (54), .int .u8 (26), .int .u8 (40), .int .u8 (15), .int .u8 (34), .int .u8 (20), .int .u8 (31), .int .u8 (10), .int .u8 (25), .int .u8 (14), .int .u8 (19), .int .u8 (9), .int .u8 (13), .int .u8 (8), .int .u8 (7), .int .u8 (6)] := rowAt_data (by kernel_rfl) (laid_row (n := "math/bits.deBruijn64tab") (d := Rows.laid_math_bits_deBruijn64tab) (g := 3) (k := 6) (t := 118) h (List.mem_of_getElem? (i := 1) rfl) (by kernel_rfl) (by kernel_rfl) (by kernel_rfl))
  have r1 : RowAt W 1 [.int .u64 (1), .int .u64 (10), .int .u64 (100), .int .u64 (1000), .int .u64 (10000), .int .u64 (100000), .int .u64 (1000000), .int .u64 (10000000), .int .u64 (100000000), .int .u64 (1000000000), .int .u64 (10000000000), .int .u64 (100000000000), .int .u64 (1000000000000), .int .u64 (10000000000000), .int .u64 (100000000000000), .int .u64 (1000000000000000), .int .u64 (10000000000000000), .int .u64 (100000000000000000), .int .u64 (1000000000000000000), .int .u64 (10000000000000000000)] := rowAt_data (by kernel_rfl) (laid_row (n := "internal/strconv.uint64pow10") (d := Rows.laid_internal_strconv_uint64pow10) (g := 1) (k := 6) (t := 113) h (List.mem_of_getElem? (i := 2) rfl) (by kernel_rfl) (by kernel_rfl) (by kernel_rfl))
  have hs : gl ≤ W.heap.size := by
    obtain ⟨C, T, fz, e, _⟩ := r3
    have := (Array.getElem?_eq_some_iff.1 e).1
    show 4 ≤ _
    omega
  refine start_of hs (by decide) ?_ ?_
  · have e : (rows0.all fun r => Nat.blt r.1 gl) = true := by kernel_rfl
    exact fun r hr => Nat.le_of_ble_eq_true (List.all_eq_true.1 e r hr)
  · intro r hr
    unfold rows0 at hr
    rcases List.mem_cons.1 hr with rfl | hr
    · exact r2
    rcases List.mem_cons.1 hr with rfl | hr
    · exact r3
    rcases List.mem_cons.1 hr with rfl | hr
    · exact r1
    cases hr
theorem own : ownKnob Tryd.prog.godebug = none := by kernel_rfl
theorem laidOut : laidOutB Tryd.prog = true := by kernel_rfl
noncomputable def low : Nat := (World.holding Tryd.prog default ⟨#[], #[.slice none 0 0, .agg #[.slice none 0 0, .slice none 0 0], .int .u8 0, .int .i64 0, .int .i64 0], []⟩).heap.size
noncomputable def put (g : Nat) (cs : Array Value) (h : Array Obj) : Array Obj := h.modify g fun
  | .cells _ t frozen => .cells cs t frozen
  | o => o
noncomputable def laidWorld (os : Os) : World :=
  let w0 := World.holding Tryd.prog os ⟨#[], #[.slice none 0 0, .agg #[.slice none 0 0, .slice none 0 0], .int .u8 0, .int .i64 0, .int .i64 0], []⟩
  { w0 with heap := (put 1 (rows0.getD 2 (0, [])).2.toArray (put 3 (rows0.getD 1 (0, [])).2.toArray (put 2 (rows0.getD 0 (0, [])).2.toArray w0.heap))) }
theorem laid_met (os : Os) : laidMet Tryd.prog Rows.paramPrintsRow.laid ((laidWorld os).forCall (fun _ _ => 0) ⟨#[], #[.slice none 0 0, .agg #[.slice none 0 0, .slice none 0 0], .int .u8 0, .int .i64 0, .int .i64 0], []⟩).memory :=
  laidMet_of_run' 8 (by kernel_rfl) (by kernel_rfl)
theorem reads (os : Os) {H : Type} (enc : TypeId × Value → H) : ∃ places, DataW.whole enc Tryd.prog ((laidWorld os).forCall (fun _ _ => 0) ⟨#[], #[.slice none 0 0, .agg #[.slice none 0 0, .slice none 0 0], .int .u8 0, .int .i64 0, .int .i64 0], []⟩).memory Tryd.f7.params.toList Rows.paramPrintsSpec.vars false [.slice none 0 0, .agg #[.slice none 0 0, .slice none 0 0], .int .u8 0, .int .i64 0, .int .i64 0] 8 = some ([.nil, .agg [.nil, .nil], .lit (.int .u8 0), .lit (.int .i64 0), .lit (.int .i64 0)], [], places) :=
  ⟨[], by kernel_rfl⟩
theorem contract (H : Type) (enc : TypeId × Value → H) (W : World) (base : Nat) (args : Array Value) (ds gs : List (DataW H)) (before : List MemPlace)
    (hval : ∀ (j : Nat) t v, Tryd.f7.params[j]? = some t → args[j]? = some v → Value.okWide Tryd.prog W .any base t v)
    (hW : DataW.Whole enc Tryd.prog Tryd.f7.params.toList Rows.paramPrintsSpec.vars false W args.toList ds gs before) (hL : laidMetH Tryd.prog Rows.paramPrintsRow.laid W)
    (hwt : (DataW.weightsEach Tryd.prog (Tryd.f7.params.toList ++ (OpenSpec.ofChange Rows.paramPrintsSpec).bare.plain.varTypes Tryd.prog) (ds ++ gs)).all (· ≤ reachBytes) = true) :
    Calls Tryd.prog 7 args W fun e W' => ∃ v, e = .returned v ∧ Rows.paramPrintsSpec.post enc Tryd.prog Tryd.f7 false true false false W args v W' := by
  have hW' := hW
  obtain ⟨p, q, hA0, hV, rfl, hfz, hnd⟩ := hW
  have hA : DataW.TrodAll enc Tryd.prog W 0 (fun _ => true) true Tryd.f7.params.toList args.toList ds p := hA0
  rw [Tryd.params7] at hA hval hwt
  obtain ⟨v0, vs0, d0, ds0, p0, q0, hargs, rfl, rfl, h0, tl0⟩ := trodAll_cons hA
  obtain ⟨v1, vs1, d1, ds1, p1, q1, rfl, rfl, rfl, h1, tl1⟩ := trodAll_cons tl0
  obtain ⟨v2, vs2, d2, ds2, p2, q2, rfl, rfl, rfl, h2, tl2⟩ := trodAll_cons tl1
  obtain ⟨v3, vs3, d3, ds3, p3, q3, rfl, rfl, rfl, h3, tl3⟩ := trodAll_cons tl2
  obtain ⟨v4, vs4, d4, ds4, p4, q4, rfl, rfl, rfl, h4, tl4⟩ := trodAll_cons tl3
  obtain ⟨rfl, rfl, rfl⟩ := trodAll_nil tl4
  obtain rfl : args = #[v0, v1, v2, v3, v4] := by cases args; simp_all
  obtain ⟨rfl, rfl⟩ := trodVars_none hV
  have lt0 : ∀ x ∈ p0, x.block < W.heap.size := by obtain ⟨m, hm⟩ := h0; exact DataW.trod_lt m _ _ _ hm
  have wl0 : Light Tryd.prog 22 d0 := weightsEach_get (i := 0) hwt rfl rfl
  obtain ⟨a0, s0, q0⟩ := arg_s (c := (cSl rP)) (RdC.slice' (r := rP) (e := 47) 24 (by kernel_rfl) (by kernel_rfl) (by decide) (by kernel_rfl) (by decide) (RdR.of (k := 12) (ts := [45]) (by kernel_rfl) (RdL.nil1 (RdC.slice' (r := rI) (e := 3) 8 (by kernel_rfl) (by kernel_rfl) (by decide) (by kernel_rfl) (by decide) (RdR.of (k := 12) (ts := [3]) (by kernel_rfl) (RdL.nil1 (RdC.i64 (by kernel_rfl)))))))) (by kernel_rfl) (hval 0 22 v0 rfl rfl) h0 wl0
  try simp only at q0
  have lt1 : ∀ x ∈ p1, x.block < W.heap.size := by obtain ⟨m, hm⟩ := h1; exact DataW.trod_lt m _ _ _ hm
  have wl1 : Light Tryd.prog 26 d1 := weightsEach_get (i := 1) hwt rfl rfl
  obtain ⟨⟨a1_0, a1_1⟩, s1, q1⟩ := arg_a (r := (rC (cSl rU) (r1 (cSl rB)))) (tg := [11, 11]) (RdR.of (k := 12) (ts := [23, 24]) (by kernel_rfl) (RdL.cons (RdC.slice' (r := rU) (e := 60) 2 (by kernel_rfl) (by kernel_rfl) (by decide) (by kernel_rfl) (by decide) (RdR.of (k := 12) (ts := [60]) (by kernel_rfl) (RdL.nil1 (RdC.u16 (by kernel_rfl))))) (RdL.nil1 (RdC.slice' (r := rB) (e := 5) 1 (by kernel_rfl) (by kernel_rfl) (by decide) (by kernel_rfl) (by decide) (RdR.of (k := 12) (ts := [5]) (by kernel_rfl) (RdL.nil1 (RdC.u8 (by kernel_rfl)))))))) (fun _ => by simp only [rC, r1, List.map_cons, List.map_nil, cSl, cInt, cBool, cStr, tagS]; rfl) (okWide_agg (by kernel_rfl) (hval 1 26 v1 rfl rfl)) h1 wl1
  try simp only at q1
  have lt2 : ∀ x ∈ p2, x.block < W.heap.size := by obtain ⟨m, hm⟩ := h2; exact DataW.trod_lt m _ _ _ hm
  have wl2 : Light Tryd.prog 5 d2 := weightsEach_get (i := 2) hwt rfl rfl
  obtain ⟨a2, s2, q2⟩ := arg_s (c := (cInt .u8)) (RdC.u8 (by kernel_rfl)) (by kernel_rfl) (hval 2 5 v2 rfl rfl) h2 wl2
  try simp only at q2
  have lt3 : ∀ x ∈ p3, x.block < W.heap.size := by obtain ⟨m, hm⟩ := h3; exact DataW.trod_lt m _ _ _ hm
  have wl3 : Light Tryd.prog 3 d3 := weightsEach_get (i := 3) hwt rfl rfl
  obtain ⟨a3, s3, q3⟩ := arg_s (c := (cInt .i64)) (RdC.i64 (by kernel_rfl)) (by kernel_rfl) (hval 3 3 v3 rfl rfl) h3 wl3
  try simp only at q3
  have lt4 : ∀ x ∈ p4, x.block < W.heap.size := by obtain ⟨m, hm⟩ := h4; exact DataW.trod_lt m _ _ _ hm
  have wl4 : Light Tryd.prog 3 d4 := weightsEach_get (i := 4) hwt rfl rfl
  obtain ⟨a4, s4, q4⟩ := arg_s (c := (cInt .i64)) (RdC.i64 (by kernel_rfl)) (by kernel_rfl) (hval 4 3 v4 rfl rfl) h4 wl4
  try simp only at q4
  clear hA0
  simp only [List.append_nil] at hW'
  have hsh : ShL (hpOf W) [.s 11, .a [11, 11], .s 4, .s 3, .s 3] [encS rP a0, encS rU a1_0, encS rB a1_1, .int .u8 a2, .int .i64 a3, .int .i64 a4] [v0, v1, v2, v3, v4] := (.cons s0 (.cons s1 (.cons s2 (.cons s3 (.cons s4 .nil)))))
  obtain ⟨_, hc⟩ := pps_c (start hL) [encS rP a0, encS rU a1_0, encS rB a1_1, .int .u8 a2, .int .i64 a3, .int .i64 a4] [.bool true] W _ (hpOf W) hsh (pps_s_e _ _ _ _ _ _ ⟨q0.1, ⟨q1.2.1, q1.1.1, q1.2.2, q1.1.2⟩, q2.1, q2.2, q3.1, q3.2⟩) (fun k o h => h) (fun k o h => h)
  refine hc.mono fun e W' ⟨r, R', hr, he, hg, _⟩ => ?_
  have hrv := val_of_shL (vs2 := [.bool true]) hr rfl
  subst hrv
  subst he
  have bel : Below W.heap.size W W' := ⟨hg.os.1, hg.os.2.1, hg.os.2.2, hg.size, hg.keep⟩
  exact ⟨_, rfl, _, _, _, [], _, [], hW', trodAll_mk1 (shut_bool Tryd.underlying4 _), (trodAll_cons_mk (Below.trod laidOut (by kernel_rfl) (of_decide_eq_true (by kernel_rfl)) h0 bel lt0) (trodAll_cons_mk (Below.trod laidOut (by kernel_rfl) (of_decide_eq_true (by kernel_rfl)) h1 bel lt1) (trodAll_cons_mk (Below.trod laidOut (by kernel_rfl) (of_decide_eq_true (by kernel_rfl)) h2 bel lt2) (trodAll_cons_mk (Below.trod laidOut (by kernel_rfl) (of_decide_eq_true (by kernel_rfl)) h3 bel lt3) (trodAll_cons_mk (Below.trod laidOut (by kernel_rfl) (of_decide_eq_true (by kernel_rfl)) h4 bel lt4) trodAll_mk0))))), rfl, hg.kept _, fun h => by cases h⟩
theorem lifted (os : Os) (started : os.Started) (H : Type) (enc : TypeId × Value → H) (F : Stop.Interp) :
    ReturnsInHanded {} Tryd.checked os 7 .any ((OpenSpec.ofChange Rows.paramPrintsSpec).preRow enc Tryd.prog Tryd.f7 Rows.paramPrintsRow.domain false Rows.paramPrintsRow.laid) (((OpenSpec.ofChange Rows.paramPrintsSpec).at F).post enc Tryd.prog Tryd.f7 false true false false) := by
  obtain ⟨places, hx⟩ := reads os enc
  refine returnsInHanded_of_row (C := Tryd.checked) (s := OpenSpec.ofChange Rows.paramPrintsSpec) own started (by kernel_rfl) Tryd.func7
    (witness_row_at (enc := enc) (C := Tryd.checked) false (laidWorld os) #[.slice none 0 0, .agg #[.slice none 0 0, .slice none 0 0], .int .u8 0, .int .i64 0, .int .i64 0] rfl (by kernel_rfl) (by kernel_rfl) (by kernel_rfl)
      (OpenSpec.preRow_of_cond 8 hx (by kernel_rfl) (fun k hk => by cases hk) (by kernel_rfl) (laid_met os))) ?_
  intro W base args ds gs before hval hW _ _ hwt hL _ _
  exact contract H enc W base args ds gs before hval hW hL hwt
theorem said : Rows.ParamPrintsSaid :=
  OpenClaim.holds_of_cond 7 Tryd.f7 rfl rfl rfl rfl rfl rfl rfl ⟨rfl, rfl, rfl, rfl, rfl⟩ rfl rfl rfl rfl rfl (by kernel_rfl) Tryd.func7 (by kernel_rfl)
    (of_decide_eq_true (by kernel_rfl)) (by unfold Func.isWrapper; first | (rw [if_pos (by decide +kernel)]; kernel_rfl) | (rw [if_neg (by decide +kernel)]; exact ⟨rfl, rfl⟩))
    (fun os started H enc _ F => by rw [OpenClaim.pre_eq_preRow]; exact lifted os started H enc F)
theorem plain (f : FuncId) (fn : Func) (hf : Tryd.pinned.checked.prog.funcNamed "fenestra/fenestralaw05.ParamPrints" = some f) (hfn : Tryd.pinned.checked.prog.funcs[f]? = some fn) :
    false = Tryd.pinned.checked.prog.looks [] ∧ ∀ (j : Nat) t, fn.params[j]? = some t → Tryd.pinned.checked.prog.wantsStandIn t = false := by
  obtain rfl : f = 7 := Option.some.inj ((show Tryd.prog.funcNamed "fenestra/fenestralaw05.ParamPrints" = some 7 by kernel_rfl).symm.trans hf) |>.symm
  obtain rfl : fn = Tryd.f7 := (Option.some.inj (Tryd.func7.symm.trans hfn)).symm
  refine ⟨by kernel_rfl, fun j t ht => ?_⟩
  have hall : (Tryd.f7.params.toList.all fun t => !Tryd.prog.wantsStandIn t) = true := by kernel_rfl
  have := List.all_eq_true.1 hall t (Array.mem_def.1 (Array.mem_of_getElem? ht))
  have h2 : Tryd.prog.wantsStandIn t = false := by simpa using this
  exact h2
theorem proved : Rows.ParamPrintsCardSaid :=
  Claim7.holds_tied_plain_at .later [] _ _ _ _ said (fun _ h => by cases h) (by kernel_rfl) (fun _ h => by cases h) paramPrints_row_tie rfl ⟨rfl, rfl⟩ (by kernel_rfl) rfl plain (by kernel_rfl)
#print axioms proved
end Go.Proofs.YtadmkfclgpbebaaDoor.paramPrintsDone
