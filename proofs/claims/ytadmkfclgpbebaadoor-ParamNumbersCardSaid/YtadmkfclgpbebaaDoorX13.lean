/- The law ParamNumbers: for every input the call returns true, and the arguments read behind it as they read before. No condition. -/
import Derived.Test.YtadmkfclgpbebaaDoorX12
import Derived.Test.YtadmkfclgpbebaaDoorCards
import Derived.Test.YtadmkfclgpbebaaDoorTie
import Derived.WalkKit
import Derived.ProofKit
import Derived.OpenShut
import Derived.Below
import Derived.Carry
import Derived.Lib.SmallJoins
import Derived.Deep.DeepHandedRow
import Derived.Lib.LaidTab
import Derived.MakeChecks
namespace Go.Proofs.YtadmkfclgpbebaaDoor
set_option linter.all false
open Go Go.Sx
set_option maxRecDepth 100000
set_option linter.unusedVariables false
set_option linter.unusedSimpArgs false
theorem rep_get {k i : Int} {w : Int} (h0 : 0 ≤ i) (h1 : i < k) : (List.replicate k.toNat (-1 : Int) ++ [w]).getD i.toNat default = -1 := by
  rw [List.getD_eq_getElem?_getD, List.getElem?_append_left (by rw [List.length_replicate]; omega), List.getElem?_replicate, if_pos (by omega)]; rfl
theorem two_0 {l : Rws} {a b : Option (List Int)} (h : el l = [a, b]) : (el l).getD (Int.toNat 0) default = a ∧ (el l).getD (Int.toNat 1) default = b ∧ ((el l).length : Int) = 2 := by rw [h]; exact ⟨rfl, rfl, rfl⟩
theorem rep_len (k : Int) (w : Int) (h : 0 ≤ k) : ((List.replicate k.toNat (-1 : Int) ++ [w]).length : Int) = k + 1 := by simp; omega
def nml_s : List U → Option (Nat × List U)
  | [.int .i64 d, .int .i64 k, u_l, .int .i64 w, .int .i64 i] => (decS rP u_l).bind fun l => if 0 ≤ i ∧ i ≤ k ∧ k ≤ 5 ∧ el l = [some (List.replicate k.toNat (-1) ++ [w]), some (List.replicate k.toNat (-1) ++ [w])] then some (0, [.int .i64 d, .int .i64 k, encS rP l, .int .i64 w]) else none
  | _ => none
theorem nml_s_e (d : Int) (k : Int) (l : (Option (List (Option (List Int))))) (w : Int) (i : Int) (hc : 0 ≤ i ∧ i ≤ k ∧ k ≤ 5 ∧ el l = [some (List.replicate k.toNat (-1) ++ [w]), some (List.replicate k.toNat (-1) ++ [w])]) : nml_s [.int .i64 d, .int .i64 k, encS rP l, .int .i64 w, .int .i64 i] = some (0, [.int .i64 d, .int .i64 k, encS rP l, .int .i64 w]) := by
  simp only [nml_s, decS_enc, Option.bind_some]
  exact if_pos hc
def nml_D : LoopD := ⟨[(3, h 0 3), (9, h 1 3), (11, dat 5 2 11), (13, h 3 3), (14, h 4 3)], [(5, .frz)], 5, [⟨.exit 0, [(3, h 0 3), (9, h 1 3), (11, dat 6 2 11), (13, h 3 3)], [(6, .frz)], 4⟩]⟩
noncomputable def nml_B : Code := (Tryd.f5.body).getD .skip
noncomputable def nml_x : Code := match codeAt [true, true, true, true, true, true, true, false, true, false] nml_B with | some (.loop x) => x | _ => .skip
theorem nml_b : Tryd.f5.body = some nml_B := rfl
theorem nml_p : codeAt [true, true, true, true, true, true, true, false, true, false] nml_B = some (.loop nml_x) := by kernel_rfl
def nml_t : Tr := .lt 8 (.bin .lss) [h 4 3, h 1 3] <| .br 5 (.lt 8 (.inbs 1) [.int .i64 (0), h 2 11] <| .br 6 (.dt 11 (.get 1 0) [h 2 11, .int .i64 (0)] <| .lt 8 (.inbs 1) [h 4 3, h 7 11] <| .br 8 (.lt 3 (.get 1 0) [h 7 11, h 4 3] <| .lt 8 (.bin .neq) [h 9 3, .int .i64 (-1)] <| .br 10 (.no) (.lt 8 (.inbs 1) [.int .i64 (1), h 2 11] <| .br 11 (.dt 11 (.get 1 0) [h 2 11, .int .i64 (1)] <| .lt 8 (.inbs 1) [h 4 3, h 12 11] <| .br 13 (.lt 3 (.get 1 0) [h 12 11, h 4 3] <| .lt 8 (.bin .neq) [h 14 3, .int .i64 (-1)] <| .br 15 (.no) (.lt 3 (.bin .add) [h 4 3, .int .i64 (1)] <| .ret [.int .i64 (-1), h 0 3, h 1 3, h 2 11, h 3 3, h 16 3])) (.no)) (.no))) (.no)) (.no)) (.ret [.int .i64 (0), h 0 3, h 1 3, h 2 11, h 3 3])
def nml_m : List U → Nat
  | [.int .i64 d, .int .i64 k, u_l, .int .i64 w, .int .i64 i] => (match decS rP u_l with | some l => (k - i).toNat | none => 0)
  | _ => 0
theorem nml_me (d : Int) (k : Int) (l : (Option (List (Option (List Int))))) (w : Int) (i : Int) : nml_m [.int .i64 d, .int .i64 k, encS rP l, .int .i64 w, .int .i64 i] = (k - i).toNat := by
  simp only [nml_m, decS_enc]
theorem nml_c {G : Nat → Option Obj} (hst : StartOk Tryd.prog G gl H0 n0) : ∀ (E : Nat → U) (base : Nat), @CodeOk ⟨E, G⟩ Tryd.prog base gl Tryd.f5.ntmps nml_x (loopF Tryd.prog gl n0 7 nml_D nml_s) := by
  refine loop_ok (C := cx L_dg9 P_rwl) (dep := 60) (f := 5) (n0 := n0) (nB := 7) (H0 := H0) nml_m nml_t (cxg (L_dg9_ok hst) (P_rwl_ok hst)) hst Tryd.func5 nml_b nml_p (by kernel_rfl) (by kernel_rfl) (by kernel_rfl) ?_
  intro us d outs hs
  have hs0 := hs
  unfold nml_s at hs
  split at hs
  · skip
    rename_i d k u_l w i
    have hq_l := Option.bind_eq_some_iff.1 hs
    clear hs
    obtain ⟨l, hd_l, hs⟩ := hq_l
    replace hd_l := decS_eq hd_l
    subst hd_l
    split at hs
    · rename_i hc
      clear hs hs0
      obtain ⟨e0, e1, e2⟩ := two_0 hc.2.2.2
      have f0 : el ((el l).getD (Int.toNat 0) default) = List.replicate k.toNat (-1) ++ [w] := by rw [e0]; rfl
      have f1 : el ((el l).getD (Int.toNat 1) default) = List.replicate k.toNat (-1) ++ [w] := by rw [e1]; rfl
      have l0 : ((el ((el l).getD (Int.toNat 0) default)).length : Int) = k + 1 := by rw [f0]; exact rep_len k w (by omega)
      have l1 : ((el ((el l).getD (Int.toNat 1) default)).length : Int) = k + 1 := by rw [f1]; exact rep_len k w (by omega)
      have v0 : i < k → (el ((el l).getD (Int.toNat 0) default)).getD i.toNat default = -1 := fun h => by rw [f0]; exact rep_get hc.1 h
      have v1 : i < k → (el ((el l).getD (Int.toNat 1) default)).getD i.toNat default = -1 := fun h => by rw [f1]; exact rep_get hc.1 h
      refine ⟨rfl, ?_⟩
      unfold nml_t
      refine sat_lt [_, _, _, _, _, _] (ev_lss _ _ _) ⟨by decide, rfl⟩ rfl ?_
      first | refine sat_br rfl (fun g0 => ?_) (fun g0 => ?_) | refine sat_brB rfl (fun g0 => ?_) (fun g0 => ?_)
      · skip
        refine sat_lt [_, _, _, _, _, _, _] (ev_inbsS rfl) ⟨by decide, rfl⟩ rfl ?_
        first | refine sat_br rfl (fun g1 => ?_) (fun g1 => ?_) | refine sat_brB rfl (fun g1 => ?_) (fun g1 => ?_)
        · skip
          refine sat_dt (r := rI) [_, _, _, _, _, _, _, _] (ev_getS rfl (by omega) (by omega) rfl) rfl rfl ?_
          refine sat_lt [_, _, _, _, _, _, _, _, _] (ev_inbsS rfl) ⟨by decide, rfl⟩ rfl ?_
          first | refine sat_br rfl (fun g2 => ?_) (fun g2 => ?_) | refine sat_brB rfl (fun g2 => ?_) (fun g2 => ?_)
          · skip
            refine sat_lt (u := .int .i64 _) [_, _, _, _, _, _, _, _, _, _] (ev_getS rfl (by omega) (by omega) rfl) ⟨by decide, rfl⟩ rfl ?_
            refine sat_lt [_, _, _, _, _, _, _, _, _, _, _] (ev_neq _ _ _) ⟨by decide, rfl⟩ rfl ?_
            first | refine sat_br rfl (fun g3 => ?_) (fun g3 => ?_) | refine sat_brB rfl (fun g3 => ?_) (fun g3 => ?_)
            · skip
              (exfalso; omega)
            · skip
              refine sat_lt [_, _, _, _, _, _, _, _, _, _, _, _] (ev_inbsS rfl) ⟨by decide, rfl⟩ rfl ?_
              first | refine sat_br rfl (fun g4 => ?_) (fun g4 => ?_) | refine sat_brB rfl (fun g4 => ?_) (fun g4 => ?_)
              · skip
                refine sat_dt (r := rI) [_, _, _, _, _, _, _, _, _, _, _, _, _] (ev_getS rfl (by omega) (by omega) rfl) rfl rfl ?_
                refine sat_lt [_, _, _, _, _, _, _, _, _, _, _, _, _, _] (ev_inbsS rfl) ⟨by decide, rfl⟩ rfl ?_
                first | refine sat_br rfl (fun g5 => ?_) (fun g5 => ?_) | refine sat_brB rfl (fun g5 => ?_) (fun g5 => ?_)
                · skip
                  refine sat_lt (u := .int .i64 _) [_, _, _, _, _, _, _, _, _, _, _, _, _, _, _] (ev_getS rfl (by omega) (by omega) rfl) ⟨by decide, rfl⟩ rfl ?_
                  refine sat_lt [_, _, _, _, _, _, _, _, _, _, _, _, _, _, _, _] (ev_neq _ _ _) ⟨by decide, rfl⟩ rfl ?_
                  first | refine sat_br rfl (fun g6 => ?_) (fun g6 => ?_) | refine sat_brB rfl (fun g6 => ?_) (fun g6 => ?_)
                  · skip
                    (exfalso; omega)
                  · skip
                    first | refine sat_lt [_, _, _, _, _, _, _, _, _, _, _, _, _, _, _, _, _] (ev_addW (wrap64 (by omega) (by omega))) ⟨by decide, rfl⟩ rfl ?_ | refine sat_lt [_, _, _, _, _, _, _, _, _, _, _, _, _, _, _, _, _] (ev_add _ _ _) ⟨by decide, rfl⟩ rfl ?_
                    refine sat_ret [.int .i64 _, .int .i64 _, .int .i64 _, encS rP _, .int .i64 _, .int .i64 _] rfl ?_
                    refine leaf_back ?_ ?_
                    · rw [nml_s_e d k l w i hc]
                      first | exact nml_s_e _ _ _ _ _ ⟨by omega, by omega, by omega, hc.2.2.2⟩ | skip
                    · rw [nml_me, nml_me]; omega
                · skip
                  (exfalso; omega)
              · skip
                (exfalso; omega)
          · skip
            (exfalso; omega)
        · skip
          (exfalso; omega)
      · skip
        refine sat_ret [.int .i64 _, .int .i64 _, .int .i64 _, encS rP _, .int .i64 _] rfl ?_
        refine leaf_exit (d := 0) ?_
        rw [nml_s_e d k l w i hc]
    · cases hs
  · cases hs
noncomputable def P_nml : List LpE := (5, ([true, true, true, true, true, true, true, false, true, false], loopF Tryd.prog gl n0 7 nml_D nml_s)) :: P_rwl
theorem P_nml_ok {G : Nat → Option Obj} (hst : StartOk Tryd.prog G gl H0 n0) : LpsOk Tryd.prog G gl P_nml := .cons Tryd.func5 nml_b nml_p (nml_c hst) (P_rwl_ok hst)
theorem rep_getk {k : Int} {w : Int} (h0 : 0 ≤ k) : (List.replicate k.toNat (-1 : Int) ++ [w]).getD k.toNat default = w := by
  rw [List.getD_eq_getElem?_getD, List.getElem?_append_right (by rw [List.length_replicate]; omega), List.length_replicate]; simp
theorem rep_at0 {k : Int} {w : Int} (h0 : 0 ≤ k) : at0 (List.replicate k.toNat (-1 : Int) ++ [w]) = if k = 0 then w else -1 := by
  split
  · rename_i h; subst h; rfl
  · exact rep_get (by omega) (by omega)
def nms_s : List U → Option (Nat × List U)
  | [.int .u32 n, .int .u8 z, .int .u8 p, .int .i64 d] => if 0 ≤ n ∧ n ≤ 4294967295 ∧ 0 ≤ z ∧ z ≤ 255 ∧ 0 ≤ p ∧ p ≤ 255 ∧ -9223372036854775808 ≤ d ∧ d ≤ 9223372036854775807 then some (0, [.bool (true)]) else none
  | _ => none
theorem nms_s_e (n : Int) (z : Int) (p : Int) (d : Int) (hc : 0 ≤ n ∧ n ≤ 4294967295 ∧ 0 ≤ z ∧ z ≤ 255 ∧ 0 ≤ p ∧ p ≤ 255 ∧ -9223372036854775808 ≤ d ∧ d ≤ 9223372036854775807) : nms_s [.int .u32 n, .int .u8 z, .int .u8 p, .int .i64 d] = some (0, [.bool (true)]) := if_pos hc
def nms_t : Tr := .fn wks_s [] 1 <| .lt 8 (.un .not) [h 4 8] <| .br 5 (.ret [.bool false]) (.lt 4 (.bin .rem) [h 2 4, .int .u8 (6)] <| .lt 3 (.conv .i64) [h 6 4] <| .fn rep_s [.string ⟨⟨[58]⟩⟩, h 7 3] 1 <| .lt 4 (.bin .rem) [h 1 4, .int .u8 (20)] <| .lt 3 (.conv .i64) [h 9 4] <| .fn rep_s [.string ⟨⟨[48]⟩⟩, h 10 3] 1 <| .lt 9 (.bin .add) [h 8 9, h 11 9] <| .lt 3 (.conv .i64) [h 0 6] <| .fn dg9_s [h 13 3] 1 <| .lt 9 (.bin .add) [h 12 9, h 14 9] <| .lt 9 (.bin .add) [h 15 9, .string ⟨⟨[59]⟩⟩] <| .lt 9 (.bin .add) [h 16 9, h 15 9] <| .fn prs_s [h 17 9] 2 <| .lt 8 (.bin .neq) [h 19 3, .int .i64 (0)] <| .br 20 (.ret [.bool false]) (.lt 3 (.len) [h 18 11] <| .lt 8 (.bin .neq) [h 21 3, .int .i64 (2)] <| .br 22 (.ret [.bool false]) (.lt 8 (.inbs 1) [.int .i64 (0), h 18 11] <| .br 23 (.dt 11 (.get 1 0) [h 18 11, .int .i64 (0)] <| .lt 3 (.len) [h 24 11] <| .lt 3 (.bin .add) [h 7 3, .int .i64 (1)] <| .lt 8 (.bin .neq) [h 25 3, h 26 3] <| .br 27 (.ret [.bool false]) (.lt 8 (.inbs 1) [.int .i64 (1), h 18 11] <| .br 28 (.dt 11 (.get 1 0) [h 18 11, .int .i64 (1)] <| .lt 3 (.len) [h 29 11] <| .lt 3 (.bin .add) [h 7 3, .int .i64 (1)] <| .lt 8 (.bin .neq) [h 30 3, h 31 3] <| .br 32 (.ret [.bool false]) (.lt 6 (.min) [h 0 6, .int .u32 (9999)] <| .lt 3 (.conv .i64) [h 33 6] <| .fn nml_s [h 3 3, h 7 3, h 18 11, h 34 3, .int .i64 (0)] 4 <| .lt 8 (.bin .eql) [h 36 3, .int .i64 (0)] <| .br 39 (.lt 8 (.inbs 1) [.int .i64 (0), h 37 11] <| .br 40 (.dt 11 (.get 1 0) [h 37 11, .int .i64 (0)] <| .lt 8 (.inbs 1) [h 36 3, h 41 11] <| .br 42 (.lt 3 (.get 1 0) [h 41 11, h 36 3] <| .lt 8 (.bin .eql) [h 43 3, h 38 3] <| .br 44 (.lt 8 (.inbs 1) [.int .i64 (1), h 37 11] <| .br 45 (.dt 11 (.get 1 0) [h 37 11, .int .i64 (1)] <| .lt 8 (.inbs 1) [h 36 3, h 46 11] <| .br 47 (.lt 3 (.get 1 0) [h 46 11, h 36 3] <| .lt 8 (.bin .eql) [h 48 3, h 38 3] <| .br 49 (.fn val_s [h 37 11, .int .i64 (1), h 35 3] 1 <| .lt 8 (.bin .eql) [h 50 3, h 38 3] <| .br 51 (.fn val_s [h 37 11, .int .i64 (2), h 35 3] 1 <| .lt 8 (.bin .eql) [h 52 3, h 35 3] <| .ret [h 53 8]) (.ret [.bool false])) (.ret [.bool false])) (.no)) (.no)) (.ret [.bool false])) (.no)) (.no)) (.lt 8 (.inbs 1) [.int .i64 (0), h 37 11] <| .br 40 (.dt 11 (.get 1 0) [h 37 11, .int .i64 (0)] <| .lt 8 (.inbs 1) [h 36 3, h 41 11] <| .br 42 (.lt 3 (.get 1 0) [h 41 11, h 36 3] <| .lt 8 (.bin .eql) [h 43 3, h 38 3] <| .br 44 (.lt 8 (.inbs 1) [.int .i64 (1), h 37 11] <| .br 45 (.dt 11 (.get 1 0) [h 37 11, .int .i64 (1)] <| .lt 8 (.inbs 1) [h 36 3, h 46 11] <| .br 47 (.lt 3 (.get 1 0) [h 46 11, h 36 3] <| .lt 8 (.bin .eql) [h 48 3, h 38 3] <| .br 49 (.fn val_s [h 37 11, .int .i64 (1), h 35 3] 1 <| .lt 8 (.bin .eql) [h 50 3, h 35 3] <| .br 51 (.fn val_s [h 37 11, .int .i64 (2), h 35 3] 1 <| .lt 8 (.bin .eql) [h 52 3, h 35 3] <| .ret [h 53 8]) (.ret [.bool false])) (.ret [.bool false])) (.no)) (.no)) (.ret [.bool false])) (.no)) (.no)))) (.no))) (.no))))
theorem nms_c {G : Nat → Option Obj} (hst : StartOk Tryd.prog G gl H0 n0) : ConOk Tryd.prog G 5 [.s 6, .s 4, .s 4, .s 3] nms_s [.s 8] := by
  refine con_of_tree (C := cx L_dg9 P_nml) (d := 60) nms_t (cxg (L_dg9_ok hst) (P_nml_ok hst)) hst ⟨Tryd.f5, _, Tryd.func5, rfl⟩ (by kernel_rfl) (by kernel_rfl) ?_
  intro us outs hs
  unfold nms_s at hs
  split at hs
  · skip
    rename_i n z p d
    split at hs
    · rename_i hc
      cases hs
      obtain ⟨L, hL⟩ : ∃ L : Rws, L = some [some (List.replicate (p % 6).toNat (-1) ++ [min n 9999]), some (List.replicate (p % 6).toNat (-1) ++ [min n 9999])] := ⟨_, rfl⟩
      have hz := numT_len (k := (p % 6).toNat) (z := (z % 20).toNat) (n := n) (by omega) (by omega) (by omega) (by omega)
      have hr := read_both (k := (p % 6).toNat) (z := (z % 20).toNat) (n := n) (by omega) (by omega) (by simp only [List.length_append, List.length_singleton]; omega)
      have hp : prs_s [.str (numT (p % 6).toNat (z % 20).toNat n ++ [59] ++ numT (p % 6).toNat (z % 20).toNat n)] = some (0, [encS rP L, .int .i64 0]) := by rw [prs_s_e, hr, hL]; rfl
      have hE : el L = [some (List.replicate (p % 6).toNat (-1) ++ [min n 9999]), some (List.replicate (p % 6).toNat (-1) ++ [min n 9999])] := by rw [hL]; rfl
      obtain ⟨e0, e1, e2⟩ := two_0 hE
      have f0 : el ((el L).getD (Int.toNat 0) default) = List.replicate (p % 6).toNat (-1) ++ [min n 9999] := by rw [e0]; rfl
      have f1 : el ((el L).getD (Int.toNat 1) default) = List.replicate (p % 6).toNat (-1) ++ [min n 9999] := by rw [e1]; rfl
      have l0 : ((el ((el L).getD (Int.toNat 0) default)).length : Int) = p % 6 + 1 := by rw [f0]; exact rep_len _ _ (by omega)
      have l1 : ((el ((el L).getD (Int.toNat 1) default)).length : Int) = p % 6 + 1 := by rw [f1]; exact rep_len _ _ (by omega)
      have v0 : (el ((el L).getD (Int.toNat 0) default)).getD (p % 6).toNat default = min n 9999 := by rw [f0]; exact rep_getk (by omega)
      have v1 : (el ((el L).getD (Int.toNat 1) default)).getD (p % 6).toNat default = min n 9999 := by rw [f1]; exact rep_getk (by omega)
      have w1 : valueS L 1 d = if p % 6 = 0 then min n 9999 else d := by
        have ha : at0 (el ((el L).getD (Int.toNat 1) default)) = if p % 6 = 0 then min n 9999 else -1 := by rw [f1]; exact rep_at0 (by omega)
        by_cases h : p % 6 = 0
        · rw [if_pos h] at ha ⊢
          unfold valueS; rw [if_neg (by omega)]; exact ha
        · rw [if_neg h] at ha ⊢
          unfold valueS; rw [if_pos (by omega)]
      have w2 : valueS L 2 d = d := if_pos (by omega)
      have h58 : (Lib.repeatL [58] (p % 6).toNat).length ≤ 5 := by rw [rep_one, List.length_replicate]; omega
      have h48 : (Lib.repeatL [48] (z % 20).toNat).length ≤ 19 := by rw [rep_one, List.length_replicate]; omega
      have hd := dig_len (n := n) (by omega) (by omega)
      clear hL hr hz
      unfold nms_t
      refine sat_fn [_, _, _, _, _] rfl rfl rfl ?_
      first | refine sat_lt [_, _, _, _, _, _] (ev_notD _) ⟨by decide, rfl⟩ rfl ?_ | refine sat_lt [_, _, _, _, _, _] (ev_not _) ⟨by decide, rfl⟩ rfl ?_
      first | refine sat_br rfl (fun g0 => ?_) (fun g0 => ?_) | refine sat_brB rfl (fun g0 => ?_) (fun g0 => ?_)
      · skip
        refine sat_ret [.bool _] rfl ?_
        first | (cases g0; done) | (exfalso; omega) | exact congrArg (fun b => [U.bool b]) (decide_eq_true (by omega))
      · skip
        first | refine sat_lt [_, _, _, _, _, _, _] (ev_remW (by omega) (by omega)) ⟨by decide, rfl⟩ rfl ?_ | refine sat_lt [_, _, _, _, _, _, _] (ev_rem _ _ _ (by omega)) ⟨by decide, rfl⟩ rfl ?_
        first | refine sat_lt [_, _, _, _, _, _, _, _] (ev_convW (wrap64 (by omega) (by omega))) ⟨by decide, rfl⟩ rfl ?_ | refine sat_lt [_, _, _, _, _, _, _, _] (ev_conv _ _ _) ⟨by decide, rfl⟩ rfl ?_
        refine sat_fn [_, _, _, _, _, _, _, _, _] (rep_s_e _ _ ⟨by omega, by omega, by show 1 * _ ≤ _; omega⟩) rfl rfl ?_
        first | refine sat_lt [_, _, _, _, _, _, _, _, _, _] (ev_remW (by omega) (by omega)) ⟨by decide, rfl⟩ rfl ?_ | refine sat_lt [_, _, _, _, _, _, _, _, _, _] (ev_rem _ _ _ (by omega)) ⟨by decide, rfl⟩ rfl ?_
        first | refine sat_lt [_, _, _, _, _, _, _, _, _, _, _] (ev_convW (wrap64 (by omega) (by omega))) ⟨by decide, rfl⟩ rfl ?_ | refine sat_lt [_, _, _, _, _, _, _, _, _, _, _] (ev_conv _ _ _) ⟨by decide, rfl⟩ rfl ?_
        refine sat_fn [_, _, _, _, _, _, _, _, _, _, _, _] (rep_s_e _ _ ⟨by omega, by omega, by show 1 * _ ≤ _; omega⟩) rfl rfl ?_
        refine sat_lt [_, _, _, _, _, _, _, _, _, _, _, _, _] (ev_cat _ _ (by simp only [List.length_append, List.length_cons, List.length_nil]; omega)) ⟨by decide, rfl⟩ rfl ?_
        first | refine sat_lt [_, _, _, _, _, _, _, _, _, _, _, _, _, _] (ev_convW (wrap64 (by omega) (by omega))) ⟨by decide, rfl⟩ rfl ?_ | refine sat_lt [_, _, _, _, _, _, _, _, _, _, _, _, _, _] (ev_conv _ _ _) ⟨by decide, rfl⟩ rfl ?_
        refine sat_fn [_, _, _, _, _, _, _, _, _, _, _, _, _, _, _] (dg9_s_e _ (by omega)) rfl rfl ?_
        refine sat_lt [_, _, _, _, _, _, _, _, _, _, _, _, _, _, _, _] (ev_cat _ _ (by simp only [List.length_append, List.length_cons, List.length_nil]; omega)) ⟨by decide, rfl⟩ rfl ?_
        refine sat_lt [_, _, _, _, _, _, _, _, _, _, _, _, _, _, _, _, _] (ev_cat _ _ (by simp only [List.length_append, List.length_cons, List.length_nil]; omega)) ⟨by decide, rfl⟩ rfl ?_
        refine sat_lt [_, _, _, _, _, _, _, _, _, _, _, _, _, _, _, _, _, _] (ev_cat _ _ (by simp only [List.length_append, List.length_cons, List.length_nil]; omega)) ⟨by decide, rfl⟩ rfl ?_
        refine sat_fn [_, _, _, _, _, _, _, _, _, _, _, _, _, _, _, _, _, _, _, _] hp rfl rfl ?_
        refine sat_lt [_, _, _, _, _, _, _, _, _, _, _, _, _, _, _, _, _, _, _, _, _] (ev_neq _ _ _) ⟨by decide, rfl⟩ rfl ?_
        first | refine sat_br rfl (fun g1 => ?_) (fun g1 => ?_) | refine sat_brB rfl (fun g1 => ?_) (fun g1 => ?_)
        · skip
          refine sat_ret [.bool _] rfl ?_
          first | (cases g0; done) | (exfalso; omega) | exact congrArg (fun b => [U.bool b]) (decide_eq_true (by omega))
        · skip
          refine sat_lt [_, _, _, _, _, _, _, _, _, _, _, _, _, _, _, _, _, _, _, _, _, _] (ev_lenS _ _) ⟨by decide, rfl⟩ rfl ?_
          refine sat_lt [_, _, _, _, _, _, _, _, _, _, _, _, _, _, _, _, _, _, _, _, _, _, _] (ev_neq _ _ _) ⟨by decide, rfl⟩ rfl ?_
          first | refine sat_br rfl (fun g2 => ?_) (fun g2 => ?_) | refine sat_brB rfl (fun g2 => ?_) (fun g2 => ?_)
          · skip
            refine sat_ret [.bool _] rfl ?_
            first | (cases g0; done) | (exfalso; omega) | exact congrArg (fun b => [U.bool b]) (decide_eq_true (by omega))
          · skip
            refine sat_lt [_, _, _, _, _, _, _, _, _, _, _, _, _, _, _, _, _, _, _, _, _, _, _, _] (ev_inbsS rfl) ⟨by decide, rfl⟩ rfl ?_
            first | refine sat_br rfl (fun g3 => ?_) (fun g3 => ?_) | refine sat_brB rfl (fun g3 => ?_) (fun g3 => ?_)
            · skip
              refine sat_dt (r := rI) [_, _, _, _, _, _, _, _, _, _, _, _, _, _, _, _, _, _, _, _, _, _, _, _, _] (ev_getS rfl (by omega) (by omega) rfl) rfl rfl ?_
              refine sat_lt [_, _, _, _, _, _, _, _, _, _, _, _, _, _, _, _, _, _, _, _, _, _, _, _, _, _] (ev_lenS _ _) ⟨by decide, rfl⟩ rfl ?_
              first | refine sat_lt [_, _, _, _, _, _, _, _, _, _, _, _, _, _, _, _, _, _, _, _, _, _, _, _, _, _, _] (ev_addW (wrap64 (by omega) (by omega))) ⟨by decide, rfl⟩ rfl ?_ | refine sat_lt [_, _, _, _, _, _, _, _, _, _, _, _, _, _, _, _, _, _, _, _, _, _, _, _, _, _, _] (ev_add _ _ _) ⟨by decide, rfl⟩ rfl ?_
              refine sat_lt [_, _, _, _, _, _, _, _, _, _, _, _, _, _, _, _, _, _, _, _, _, _, _, _, _, _, _, _] (ev_neq _ _ _) ⟨by decide, rfl⟩ rfl ?_
              first | refine sat_br rfl (fun g4 => ?_) (fun g4 => ?_) | refine sat_brB rfl (fun g4 => ?_) (fun g4 => ?_)
              · skip
                refine sat_ret [.bool _] rfl ?_
                first | (cases g0; done) | (exfalso; omega) | exact congrArg (fun b => [U.bool b]) (decide_eq_true (by omega))
              · skip
                refine sat_lt [_, _, _, _, _, _, _, _, _, _, _, _, _, _, _, _, _, _, _, _, _, _, _, _, _, _, _, _, _] (ev_inbsS rfl) ⟨by decide, rfl⟩ rfl ?_
                first | refine sat_br rfl (fun g5 => ?_) (fun g5 => ?_) | refine sat_brB rfl (fun g5 => ?_) (fun g5 => ?_)
                · skip
                  refine sat_dt (r := rI) [_, _, _, _, _, _, _, _, _, _, _, _, _, _, _, _, _, _, _, _, _, _, _, _, _, _, _, _, _, _] (ev_getS rfl (by omega) (by omega) rfl) rfl rfl ?_
                  refine sat_lt [_, _, _, _, _, _, _, _, _, _, _, _, _, _, _, _, _, _, _, _, _, _, _, _, _, _, _, _, _, _, _] (ev_lenS _ _) ⟨by decide, rfl⟩ rfl ?_
                  first | refine sat_lt [_, _, _, _, _, _, _, _, _, _, _, _, _, _, _, _, _, _, _, _, _, _, _, _, _, _, _, _, _, _, _, _] (ev_addW (wrap64 (by omega) (by omega))) ⟨by decide, rfl⟩ rfl ?_ | refine sat_lt [_, _, _, _, _, _, _, _, _, _, _, _, _, _, _, _, _, _, _, _, _, _, _, _, _, _, _, _, _, _, _, _] (ev_add _ _ _) ⟨by decide, rfl⟩ rfl ?_
                  refine sat_lt [_, _, _, _, _, _, _, _, _, _, _, _, _, _, _, _, _, _, _, _, _, _, _, _, _, _, _, _, _, _, _, _, _] (ev_neq _ _ _) ⟨by decide, rfl⟩ rfl ?_
                  first | refine sat_br rfl (fun g6 => ?_) (fun g6 => ?_) | refine sat_brB rfl (fun g6 => ?_) (fun g6 => ?_)
                  · skip
                    refine sat_ret [.bool _] rfl ?_
                    first | (cases g0; done) | (exfalso; omega) | exact congrArg (fun b => [U.bool b]) (decide_eq_true (by omega))
                  · skip
                    refine sat_lt [_, _, _, _, _, _, _, _, _, _, _, _, _, _, _, _, _, _, _, _, _, _, _, _, _, _, _, _, _, _, _, _, _, _] (ev_min _ _ _ _) ⟨by decide, rfl⟩ rfl ?_
                    first | refine sat_lt [_, _, _, _, _, _, _, _, _, _, _, _, _, _, _, _, _, _, _, _, _, _, _, _, _, _, _, _, _, _, _, _, _, _, _] (ev_convW (wrap64 (by omega) (by omega))) ⟨by decide, rfl⟩ rfl ?_ | refine sat_lt [_, _, _, _, _, _, _, _, _, _, _, _, _, _, _, _, _, _, _, _, _, _, _, _, _, _, _, _, _, _, _, _, _, _, _] (ev_conv _ _ _) ⟨by decide, rfl⟩ rfl ?_
                    refine sat_fn [_, _, _, _, _, _, _, _, _, _, _, _, _, _, _, _, _, _, _, _, _, _, _, _, _, _, _, _, _, _, _, _, _, _, _, _, _, _, _] (nml_s_e _ _ _ _ _ ⟨by omega, by omega, by omega, hE⟩) rfl rfl ?_
                    refine sat_lt [_, _, _, _, _, _, _, _, _, _, _, _, _, _, _, _, _, _, _, _, _, _, _, _, _, _, _, _, _, _, _, _, _, _, _, _, _, _, _, _] (ev_eql _ _ _) ⟨by decide, rfl⟩ rfl ?_
                    first | refine sat_br rfl (fun g7 => ?_) (fun g7 => ?_) | refine sat_brB rfl (fun g7 => ?_) (fun g7 => ?_)
                    · skip
                      refine sat_lt [_, _, _, _, _, _, _, _, _, _, _, _, _, _, _, _, _, _, _, _, _, _, _, _, _, _, _, _, _, _, _, _, _, _, _, _, _, _, _, _, _] (ev_inbsS rfl) ⟨by decide, rfl⟩ rfl ?_
                      first | refine sat_br rfl (fun g8 => ?_) (fun g8 => ?_) | refine sat_brB rfl (fun g8 => ?_) (fun g8 => ?_)
                      · skip
                        refine sat_dt (r := rI) [_, _, _, _, _, _, _, _, _, _, _, _, _, _, _, _, _, _, _, _, _, _, _, _, _, _, _, _, _, _, _, _, _, _, _, _, _, _, _, _, _, _] (ev_getS rfl (by omega) (by omega) rfl) rfl rfl ?_
                        refine sat_lt [_, _, _, _, _, _, _, _, _, _, _, _, _, _, _, _, _, _, _, _, _, _, _, _, _, _, _, _, _, _, _, _, _, _, _, _, _, _, _, _, _, _, _] (ev_inbsS rfl) ⟨by decide, rfl⟩ rfl ?_
                        first | refine sat_br rfl (fun g9 => ?_) (fun g9 => ?_) | refine sat_brB rfl (fun g9 => ?_) (fun g9 => ?_)
                        · skip
                          refine sat_lt (u := .int .i64 _) [_, _, _, _, _, _, _, _, _, _, _, _, _, _, _, _, _, _, _, _, _, _, _, _, _, _, _, _, _, _, _, _, _, _, _, _, _, _, _, _, _, _, _, _] (ev_getS rfl (by omega) (by omega) rfl) ⟨by decide, rfl⟩ rfl ?_
                          refine sat_lt [_, _, _, _, _, _, _, _, _, _, _, _, _, _, _, _, _, _, _, _, _, _, _, _, _, _, _, _, _, _, _, _, _, _, _, _, _, _, _, _, _, _, _, _, _] (ev_eql _ _ _) ⟨by decide, rfl⟩ rfl ?_
                          first | refine sat_br rfl (fun g10 => ?_) (fun g10 => ?_) | refine sat_brB rfl (fun g10 => ?_) (fun g10 => ?_)
                          · skip
                            refine sat_lt [_, _, _, _, _, _, _, _, _, _, _, _, _, _, _, _, _, _, _, _, _, _, _, _, _, _, _, _, _, _, _, _, _, _, _, _, _, _, _, _, _, _, _, _, _, _] (ev_inbsS rfl) ⟨by decide, rfl⟩ rfl ?_
                            first | refine sat_br rfl (fun g11 => ?_) (fun g11 => ?_) | refine sat_brB rfl (fun g11 => ?_) (fun g11 => ?_)
                            · skip
                              refine sat_dt (r := rI) [_, _, _, _, _, _, _, _, _, _, _, _, _, _, _, _, _, _, _, _, _, _, _, _, _, _, _, _, _, _, _, _, _, _, _, _, _, _, _, _, _, _, _, _, _, _, _] (ev_getS rfl (by omega) (by omega) rfl) rfl rfl ?_
                              refine sat_lt [_, _, _, _, _, _, _, _, _, _, _, _, _, _, _, _, _, _, _, _, _, _, _, _, _, _, _, _, _, _, _, _, _, _, _, _, _, _, _, _, _, _, _, _, _, _, _, _] (ev_inbsS rfl) ⟨by decide, rfl⟩ rfl ?_
                              first | refine sat_br rfl (fun g12 => ?_) (fun g12 => ?_) | refine sat_brB rfl (fun g12 => ?_) (fun g12 => ?_)
                              · skip
                                refine sat_lt (u := .int .i64 _) [_, _, _, _, _, _, _, _, _, _, _, _, _, _, _, _, _, _, _, _, _, _, _, _, _, _, _, _, _, _, _, _, _, _, _, _, _, _, _, _, _, _, _, _, _, _, _, _, _] (ev_getS rfl (by omega) (by omega) rfl) ⟨by decide, rfl⟩ rfl ?_
                                refine sat_lt [_, _, _, _, _, _, _, _, _, _, _, _, _, _, _, _, _, _, _, _, _, _, _, _, _, _, _, _, _, _, _, _, _, _, _, _, _, _, _, _, _, _, _, _, _, _, _, _, _, _] (ev_eql _ _ _) ⟨by decide, rfl⟩ rfl ?_
                                first | refine sat_br rfl (fun g13 => ?_) (fun g13 => ?_) | refine sat_brB rfl (fun g13 => ?_) (fun g13 => ?_)
                                · skip
                                  refine sat_fn [_, _, _, _, _, _, _, _, _, _, _, _, _, _, _, _, _, _, _, _, _, _, _, _, _, _, _, _, _, _, _, _, _, _, _, _, _, _, _, _, _, _, _, _, _, _, _, _, _, _, _] (val_s_e _ _ _ (by decide)) rfl rfl ?_
                                  refine sat_lt [_, _, _, _, _, _, _, _, _, _, _, _, _, _, _, _, _, _, _, _, _, _, _, _, _, _, _, _, _, _, _, _, _, _, _, _, _, _, _, _, _, _, _, _, _, _, _, _, _, _, _, _] (ev_eql _ _ _) ⟨by decide, rfl⟩ rfl ?_
                                  first | refine sat_br rfl (fun g14 => ?_) (fun g14 => ?_) | refine sat_brB rfl (fun g14 => ?_) (fun g14 => ?_)
                                  · skip
                                    refine sat_fn [_, _, _, _, _, _, _, _, _, _, _, _, _, _, _, _, _, _, _, _, _, _, _, _, _, _, _, _, _, _, _, _, _, _, _, _, _, _, _, _, _, _, _, _, _, _, _, _, _, _, _, _, _] (val_s_e _ _ _ (by decide)) rfl rfl ?_
                                    refine sat_lt [_, _, _, _, _, _, _, _, _, _, _, _, _, _, _, _, _, _, _, _, _, _, _, _, _, _, _, _, _, _, _, _, _, _, _, _, _, _, _, _, _, _, _, _, _, _, _, _, _, _, _, _, _, _] (ev_eql _ _ _) ⟨by decide, rfl⟩ rfl ?_
                                    refine sat_ret [.bool _] rfl ?_
                                    first | (cases g0; done) | (exfalso; omega) | exact congrArg (fun b => [U.bool b]) (decide_eq_true (by omega))
                                  · skip
                                    refine sat_ret [.bool _] rfl ?_
                                    first | (cases g0; done) | (exfalso; omega) | exact congrArg (fun b => [U.bool b]) (decide_eq_true (by omega))
                                · skip
                                  refine sat_ret [.bool _] rfl ?_
                                  first | (cases g0; done) | (exfalso; omega) | exact congrArg (fun b => [U.bool b]) (decide_eq_true (by omega))
                              · skip
                                first | (cases g0; done) | (exfalso; omega)
                            · skip
                              first | (cases g0; done) | (exfalso; omega)
                          · skip
                            refine sat_ret [.bool _] rfl ?_
                            first | (cases g0; done) | (exfalso; omega) | exact congrArg (fun b => [U.bool b]) (decide_eq_true (by omega))
                        · skip
                          first | (cases g0; done) | (exfalso; omega)
                      · skip
                        first | (cases g0; done) | (exfalso; omega)
                    · skip
                      refine sat_lt [_, _, _, _, _, _, _, _, _, _, _, _, _, _, _, _, _, _, _, _, _, _, _, _, _, _, _, _, _, _, _, _, _, _, _, _, _, _, _, _, _] (ev_inbsS rfl) ⟨by decide, rfl⟩ rfl ?_
                      first | refine sat_br rfl (fun g8 => ?_) (fun g8 => ?_) | refine sat_brB rfl (fun g8 => ?_) (fun g8 => ?_)
                      · skip
                        refine sat_dt (r := rI) [_, _, _, _, _, _, _, _, _, _, _, _, _, _, _, _, _, _, _, _, _, _, _, _, _, _, _, _, _, _, _, _, _, _, _, _, _, _, _, _, _, _] (ev_getS rfl (by omega) (by omega) rfl) rfl rfl ?_
                        refine sat_lt [_, _, _, _, _, _, _, _, _, _, _, _, _, _, _, _, _, _, _, _, _, _, _, _, _, _, _, _, _, _, _, _, _, _, _, _, _, _, _, _, _, _, _] (ev_inbsS rfl) ⟨by decide, rfl⟩ rfl ?_
                        first | refine sat_br rfl (fun g9 => ?_) (fun g9 => ?_) | refine sat_brB rfl (fun g9 => ?_) (fun g9 => ?_)
                        · skip
                          refine sat_lt (u := .int .i64 _) [_, _, _, _, _, _, _, _, _, _, _, _, _, _, _, _, _, _, _, _, _, _, _, _, _, _, _, _, _, _, _, _, _, _, _, _, _, _, _, _, _, _, _, _] (ev_getS rfl (by omega) (by omega) rfl) ⟨by decide, rfl⟩ rfl ?_
                          refine sat_lt [_, _, _, _, _, _, _, _, _, _, _, _, _, _, _, _, _, _, _, _, _, _, _, _, _, _, _, _, _, _, _, _, _, _, _, _, _, _, _, _, _, _, _, _, _] (ev_eql _ _ _) ⟨by decide, rfl⟩ rfl ?_
                          first | refine sat_br rfl (fun g10 => ?_) (fun g10 => ?_) | refine sat_brB rfl (fun g10 => ?_) (fun g10 => ?_)
                          · skip
                            refine sat_lt [_, _, _, _, _, _, _, _, _, _, _, _, _, _, _, _, _, _, _, _, _, _, _, _, _, _, _, _, _, _, _, _, _, _, _, _, _, _, _, _, _, _, _, _, _, _] (ev_inbsS rfl) ⟨by decide, rfl⟩ rfl ?_
                            first | refine sat_br rfl (fun g11 => ?_) (fun g11 => ?_) | refine sat_brB rfl (fun g11 => ?_) (fun g11 => ?_)
                            · skip
                              refine sat_dt (r := rI) [_, _, _, _, _, _, _, _, _, _, _, _, _, _, _, _, _, _, _, _, _, _, _, _, _, _, _, _, _, _, _, _, _, _, _, _, _, _, _, _, _, _, _, _, _, _, _] (ev_getS rfl (by omega) (by omega) rfl) rfl rfl ?_
                              refine sat_lt [_, _, _, _, _, _, _, _, _, _, _, _, _, _, _, _, _, _, _, _, _, _, _, _, _, _, _, _, _, _, _, _, _, _, _, _, _, _, _, _, _, _, _, _, _, _, _, _] (ev_inbsS rfl) ⟨by decide, rfl⟩ rfl ?_
                              first | refine sat_br rfl (fun g12 => ?_) (fun g12 => ?_) | refine sat_brB rfl (fun g12 => ?_) (fun g12 => ?_)
                              · skip
                                refine sat_lt (u := .int .i64 _) [_, _, _, _, _, _, _, _, _, _, _, _, _, _, _, _, _, _, _, _, _, _, _, _, _, _, _, _, _, _, _, _, _, _, _, _, _, _, _, _, _, _, _, _, _, _, _, _, _] (ev_getS rfl (by omega) (by omega) rfl) ⟨by decide, rfl⟩ rfl ?_
                                refine sat_lt [_, _, _, _, _, _, _, _, _, _, _, _, _, _, _, _, _, _, _, _, _, _, _, _, _, _, _, _, _, _, _, _, _, _, _, _, _, _, _, _, _, _, _, _, _, _, _, _, _, _] (ev_eql _ _ _) ⟨by decide, rfl⟩ rfl ?_
                                first | refine sat_br rfl (fun g13 => ?_) (fun g13 => ?_) | refine sat_brB rfl (fun g13 => ?_) (fun g13 => ?_)
                                · skip
                                  refine sat_fn [_, _, _, _, _, _, _, _, _, _, _, _, _, _, _, _, _, _, _, _, _, _, _, _, _, _, _, _, _, _, _, _, _, _, _, _, _, _, _, _, _, _, _, _, _, _, _, _, _, _, _] (val_s_e _ _ _ (by decide)) rfl rfl ?_
                                  refine sat_lt [_, _, _, _, _, _, _, _, _, _, _, _, _, _, _, _, _, _, _, _, _, _, _, _, _, _, _, _, _, _, _, _, _, _, _, _, _, _, _, _, _, _, _, _, _, _, _, _, _, _, _, _] (ev_eql _ _ _) ⟨by decide, rfl⟩ rfl ?_
                                  first | refine sat_br rfl (fun g14 => ?_) (fun g14 => ?_) | refine sat_brB rfl (fun g14 => ?_) (fun g14 => ?_)
                                  · skip
                                    refine sat_fn [_, _, _, _, _, _, _, _, _, _, _, _, _, _, _, _, _, _, _, _, _, _, _, _, _, _, _, _, _, _, _, _, _, _, _, _, _, _, _, _, _, _, _, _, _, _, _, _, _, _, _, _, _] (val_s_e _ _ _ (by decide)) rfl rfl ?_
                                    refine sat_lt [_, _, _, _, _, _, _, _, _, _, _, _, _, _, _, _, _, _, _, _, _, _, _, _, _, _, _, _, _, _, _, _, _, _, _, _, _, _, _, _, _, _, _, _, _, _, _, _, _, _, _, _, _, _] (ev_eql _ _ _) ⟨by decide, rfl⟩ rfl ?_
                                    refine sat_ret [.bool _] rfl ?_
                                    first | (cases g0; done) | (exfalso; omega) | exact congrArg (fun b => [U.bool b]) (decide_eq_true (by omega))
                                  · skip
                                    refine sat_ret [.bool _] rfl ?_
                                    first | (cases g0; done) | (exfalso; omega) | exact congrArg (fun b => [U.bool b]) (decide_eq_true (by omega))
                                · skip
                                  refine sat_ret [.bool _] rfl ?_
                                  first | (cases g0; done) | (exfalso; omega) | exact congrArg (fun b => [U.bool b]) (decide_eq_true (by omega))
                              · skip
                                first | (cases g0; done) | (exfalso; omega)
                            · skip
                              first | (cases g0; done) | (exfalso; omega)
                          · skip
                            refine sat_ret [.bool _] rfl ?_
                            first | (cases g0; done) | (exfalso; omega) | exact congrArg (fun b => [U.bool b]) (decide_eq_true (by omega))
                        · skip
                          first | (cases g0; done) | (exfalso; omega)
                      · skip
                        first | (cases g0; done) | (exfalso; omega)
                · skip
                  first | (cases g0; done) | (exfalso; omega)
            · skip
              first | (cases g0; done) | (exfalso; omega)
    · cases hs
  · cases hs
end Go.Proofs.YtadmkfclgpbebaaDoor

namespace Go.Proofs.YtadmkfclgpbebaaDoor.paramNumbersDone
set_option linter.all false
open Go Go.Sx Go.ChangeShapes Go.WideShapes Go.ChangeAt Go.RowKit
set_option linter.unusedVariables false
set_option maxRecDepth 100000
theorem start {W : World} (h : laidMetH Tryd.prog Rows.paramNumbersRow.laid W) : StartOk Tryd.prog (fun k => W.heap[k]?) gl H0 n0 := by
  rw [MakeChecks.laidMetH_plain _ _ _ (by kernel_rfl)] at h
  have r2 : RowAt W 2 [.int .u8 (0), .int .u8 (1), .int .u8 (28), .int .u8 (2), .int .u8 (29), .int .u8 (14), .int .u8 (24), .int .u8 (3), .int .u8 (30), .int .u8 (22), .int .u8 (20), .int .u8 (15), .int .u8 (25), .int .u8 (17), .int .u8 (4), .int .u8 (8), .int .u8 (31), .int .u8 (27), .int .u8 (13), .int .u8 (23), .int .u8 (21), .int .u8 (19), .int .u8 (16), .int .u8 (7), .int .u8 (26), .int .u8 (12), .int .u8 (18), .int .u8 (6), .int .u8 (11), .int .u8 (5), .int .u8 (10), .int .u8 (9)] := rowAt_data (by kernel_rfl) (laid_row (n := "math/bits.deBruijn32tab") (d := Rows.laid_math_bits_deBruijn32tab) (g := 2) (k := 6) (t := 117) h (List.mem_of_getElem? (i := 0) rfl) (by kernel_rfl) (by kernel_rfl) (by kernel_rfl))
  have r3 : RowAt W 3 [.int .u8 (0), .int .u8 (1), .int .u8 (56), .int .u8 (2), .int .u8 (57), .int .u8 (49), .int .u8 (28), .int .u8 (3), .int .u8 (61), .int .u8 (58), .int .u8 (42), .int .u8 (50), .int .u8 (38), .int .u8 (29), .int .u8 (17), .int .u8 (4), .int .u8 (62), .int .u8 (47), .int .u8 (59), .int .u8 (36), .int .u8 (45), .int .u8 (43), .int .u8 (51), .int .u8 (22), .int .u8 (53), .int .u8 (39), .int .u8 (33), .int .u8 (30), .int .u8 (24), .int .u8 (18), .int .u8 (12), .int .u8 (5), .int .u8 (63), .int .u8 (55), .int .u8 (48), .int .u8 (27), .int .u8 (60), .int .u8 (41), .int .u8 (37), .int .u8 (16), .int .u8 (46), .int .u8 (35), .int .u8 (44), .int .u8 (21), .int .u8 (52), .int .u8 (32), .int .u8 (23), .int .u8 (11), .int .u8 (54), .int .u8 (26), .int .u8 (40), .int .u8 (15), .int .u8 (34), .int .u8 (20), .int .u8 (31), .int .u8 (10), .int .u8 (25), .int .u8 (14), .int .u8 (19), .int .u8 (9), .int .u8 (13), .int .u8 (8), .int .u8 (7), .int .u8 (6)] := rowAt_data (by kernel_rfl) (laid_row (n := "math/bits.deBruijn64tab") (d := Rows.laid_math_bits_deBruijn64tab) (g := 3) (k := 6) (t := 118) h (List.mem_of_getElem? (i := 1) rfl) (by kernel_rfl) (by kernel_rfl) (by kernel_rfl))
  have r1 : RowAt W 1 [.int .u64 (1), .int .u64 (10), .int .u64 (100), .int .u64 (1000), .int .u64 (10000), .int .u64 (100000), .int .u64 (1000000), .int .u64 (10000000), .int .u64 (100000000), .int .u64 (1000000000), .int .u64 (10000000000), .int .u64 (100000000000), .int .u64 (1000000000000), .int .u64 (10000000000000), .int .u64 (100000000000000), .int .u64 (1000000000000000), .int .u64 (10000000000000000), .int .u64 (100000000000000000), .int .u64 (1000000000000000000), .int .u64 (10000000000000000000)] := rowAt_data (by kernel_rfl) (laid_row (n := "internal/strconv.uint64pow10") (d := Rows.laid_internal_strconv_uint64pow10) (g := 1) (k := 6) (t := 113) h (List.mem_of_getElem? (i := 2) rfl) (by kernel_rfl) (by kernel_rfl) (by kernel_rfl))
  have hs : gl ≤ W.heap.size := by
    obtain ⟨C, T, fz, e, _⟩ := r3
    have := (Array.getElem?_eq_some_iff.1 e).1
    show 4 ≤ _
    omega
  refine start_of hs (by decide) ?_ ?_
  · have e : (rows0.all fun r => Nat.blt r.1 gl) = true := by kernel_rfl
    exact fun r hr => Nat.le_of_ble_eq_true (List.all_eq_true.1 e r hr)
  · intro r hr
    unfold rows0 at hr
    rcases List.mem_cons.1 hr with rfl | hr
    · exact r2
    rcases List.mem_cons.1 hr with rfl | hr
    · exact r3
    rcases List.mem_cons.1 hr with rfl | hr
    · exact r1
    cases hr
theorem own : ownKnob Tryd.prog.godebug = none := by kernel_rfl
theorem laidOut : laidOutB Tryd.prog = true := by kernel_rfl
noncomputable def low : Nat := (World.holding Tryd.prog default ⟨#[], #[.int .u32 0, .int .u8 0, .int .u8 0, .int .i64 0], []⟩).heap.size
noncomputable def put (g : Nat) (cs : Array Value) (h : Array Obj) : Array Obj := h.modify g fun
  | .cells _ t frozen => .cells cs t frozen
  | o => o
noncomputable def laidWorld (os : Os) : World :=
  let w0 := World.holding Tryd.prog os ⟨#[], #[.int .u32 0, .int .u8 0, .int .u8 0, .int .i64 0], []⟩
  { w0 with heap := (put 1 (rows0.getD 2 (0, [])).2.toArray (put 3 (rows0.getD 1 (0, [])).2.toArray (put 2 (rows0.getD 0 (0, [])).2.toArray w0.heap))) }
theorem laid_met (os : Os) : laidMet Tryd.prog Rows.paramNumbersRow.laid ((laidWorld os).forCall (fun _ _ => 0) ⟨#[], #[.int .u32 0, .int .u8 0, .int .u8 0, .int .i64 0], []⟩).memory :=
  laidMet_of_run' 8 (by kernel_rfl) (by kernel_rfl)
theorem reads (os : Os) {H : Type} (enc : TypeId × Value → H) : ∃ places, DataW.whole enc Tryd.prog ((laidWorld os).forCall (fun _ _ => 0) ⟨#[], #[.int .u32 0, .int .u8 0, .int .u8 0, .int .i64 0], []⟩).memory Tryd.f5.params.toList Rows.paramNumbersSpec.vars false [.int .u32 0, .int .u8 0, .int .u8 0, .int .i64 0] 8 = some ([.lit (.int .u32 0), .lit (.int .u8 0), .lit (.int .u8 0), .lit (.int .i64 0)], [], places) :=
  ⟨[], by kernel_rfl⟩
theorem contract (H : Type) (enc : TypeId × Value → H) (W : World) (base : Nat) (args : Array Value) (ds gs : List (DataW H)) (before : List MemPlace)
    (hval : ∀ (j : Nat) t v, Tryd.f5.params[j]? = some t → args[j]? = some v → Value.okWide Tryd.prog W .any base t v)
    (hW : DataW.Whole enc Tryd.prog Tryd.f5.params.toList Rows.paramNumbersSpec.vars false W args.toList ds gs before) (hL : laidMetH Tryd.prog Rows.paramNumbersRow.laid W)
    (hwt : (DataW.weightsEach Tryd.prog (Tryd.f5.params.toList ++ (OpenSpec.ofChange Rows.paramNumbersSpec).bare.plain.varTypes Tryd.prog) (ds ++ gs)).all (· ≤ reachBytes) = true) :
    Calls Tryd.prog 5 args W fun e W' => ∃ v, e = .returned v ∧ Rows.paramNumbersSpec.post enc Tryd.prog Tryd.f5 false true false false W args v W' := by
  have hW' := hW
  obtain ⟨p, q, hA0, hV, rfl, hfz, hnd⟩ := hW
  have hA : DataW.TrodAll enc Tryd.prog W 0 (fun _ => true) true Tryd.f5.params.toList args.toList ds p := hA0
  rw [Tryd.params5] at hA hval hwt
  obtain ⟨v0, vs0, d0, ds0, p0, q0, hargs, rfl, rfl, h0, tl0⟩ := trodAll_cons hA
  obtain ⟨v1, vs1, d1, ds1, p1, q1, rfl, rfl, rfl, h1, tl1⟩ := trodAll_cons tl0
  obtain ⟨v2, vs2, d2, ds2, p2, q2, rfl, rfl, rfl, h2, tl2⟩ := trodAll_cons tl1
  obtain ⟨v3, vs3, d3, ds3, p3, q3, rfl, rfl, rfl, h3, tl3⟩ := trodAll_cons tl2
  obtain ⟨rfl, rfl, rfl⟩ := trodAll_nil tl3
  obtain rfl : args = #[v0, v1, v2, v3] := by cases args; simp_all
  obtain ⟨rfl, rfl⟩ := trodVars_none hV
  have lt0 : ∀ x ∈ p0, x.block < W.heap.size := by obtain ⟨m, hm⟩ := h0; exact DataW.trod_lt m _ _ _ hm
  have wl0 : Light Tryd.prog 42 d0 := weightsEach_get (i := 0) hwt rfl rfl
  obtain ⟨a0, s0, q0⟩ := arg_s (c := (cInt .u32)) (RdC.u32 (by kernel_rfl)) (by kernel_rfl) (hval 0 42 v0 rfl rfl) h0 wl0
  skip
  have lt1 : ∀ x ∈ p1, x.block < W.heap.size := by obtain ⟨m, hm⟩ := h1; exact DataW.trod_lt m _ _ _ hm
  have wl1 : Light Tryd.prog 5 d1 := weightsEach_get (i := 1) hwt rfl rfl
  obtain ⟨a1, s1, q1⟩ := arg_s (c := (cInt .u8)) (RdC.u8 (by kernel_rfl)) (by kernel_rfl) (hval 1 5 v1 rfl rfl) h1 wl1
  skip
  have lt2 : ∀ x ∈ p2, x.block < W.heap.size := by obtain ⟨m, hm⟩ := h2; exact DataW.trod_lt m _ _ _ hm
  have wl2 : Light Tryd.prog 5 d2 := weightsEach_get (i := 2) hwt rfl rfl
  obtain ⟨a2, s2, q2⟩ := arg_s (c := (cInt .u8)) (RdC.u8 (by kernel_rfl)) (by kernel_rfl) (hval 2 5 v2 rfl rfl) h2 wl2
  skip
  have lt3 : ∀ x ∈ p3, x.block < W.heap.size := by obtain ⟨m, hm⟩ := h3; exact DataW.trod_lt m _ _ _ hm
  have wl3 : Light Tryd.prog 3 d3 := weightsEach_get (i := 3) hwt rfl rfl
  obtain ⟨a3, s3, q3⟩ := arg_s (c := (cInt .i64)) (RdC.i64 (by kernel_rfl)) (by kernel_rfl) (hval 3 3 v3 rfl rfl) h3 wl3
  skip
  clear hA0
  simp only [List.append_nil] at hW'
  have hsh : ShL (hpOf W) [.s 6, .s 4, .s 4, .s 3] [.int .u32 a0, .int .u8 a1, .int .u8 a2, .int .i64 a3] [v0, v1, v2, v3] := (.cons s0 (.cons s1 (.cons s2 (.cons s3 .nil))))
  obtain ⟨_, hc⟩ := nms_c (start hL) [.int .u32 a0, .int .u8 a1, .int .u8 a2, .int .i64 a3] [.bool true] W _ (hpOf W) hsh (nms_s_e _ _ _ _ ⟨q0.1, q0.2, q1.1, q1.2, q2.1, q2.2, q3.1, q3.2⟩) (fun k o h => h) (fun k o h => h)
  refine hc.mono fun e W' ⟨r, R', hr, he, hg, _⟩ => ?_
  have hrv := val_of_shL (vs2 := [.bool true]) hr rfl
  subst hrv
  subst he
  have bel : Below W.heap.size W W' := ⟨hg.os.1, hg.os.2.1, hg.os.2.2, hg.size, hg.keep⟩
  exact ⟨_, rfl, _, _, _, [], _, [], hW', trodAll_mk1 (shut_bool Tryd.underlying4 _), (trodAll_cons_mk (Below.trod laidOut (by kernel_rfl) (of_decide_eq_true (by kernel_rfl)) h0 bel lt0) (trodAll_cons_mk (Below.trod laidOut (by kernel_rfl) (of_decide_eq_true (by kernel_rfl)) h1 bel lt1) (trodAll_cons_mk (Below.trod laidOut (by kernel_rfl) (of_decide_eq_true (by kernel_rfl)) h2 bel lt2) (trodAll_cons_mk (Below.trod laidOut (by kernel_rfl) (of_decide_eq_true (by kernel_rfl)) h3 bel lt3) trodAll_mk0)))), rfl, hg.kept _, fun h => by cases h⟩
theorem lifted (os : Os) (started : os.Started) (H : Type) (enc : TypeId × Value → H) (F : Stop.Interp) :
    ReturnsInHanded {} Tryd.checked os 5 .any ((OpenSpec.ofChange Rows.paramNumbersSpec).preRow enc Tryd.prog Tryd.f5 Rows.paramNumbersRow.domain false Rows.paramNumbersRow.laid) (((OpenSpec.ofChange Rows.paramNumbersSpec).at F).post enc Tryd.prog Tryd.f5 false true false false) := by
  obtain ⟨places, hx⟩ := reads os enc
  refine returnsInHanded_of_row (C := Tryd.checked) (s := OpenSpec.ofChange Rows.paramNumbersSpec) own started (by kernel_rfl) Tryd.func5
    (witness_row_at (enc := enc) (C := Tryd.checked) false (laidWorld os) #[.int .u32 0, .int .u8 0, .int .u8 0, .int .i64 0] rfl (by kernel_rfl) (by kernel_rfl) (by kernel_rfl)
      (OpenSpec.preRow_of_cond 8 hx (by kernel_rfl) (fun k hk => by cases hk) (by kernel_rfl) (laid_met os))) ?_
  intro W base args ds gs before hval hW _ _ hwt hL _ _
  exact contract H enc W base args ds gs before hval hW hL hwt
theorem said : Rows.ParamNumbersSaid :=
  OpenClaim.holds_of_cond 5 Tryd.f5 rfl rfl rfl rfl rfl rfl rfl ⟨rfl, rfl, rfl, rfl, rfl⟩ rfl rfl rfl rfl rfl (by kernel_rfl) Tryd.func5 (by kernel_rfl)
    (of_decide_eq_true (by kernel_rfl)) (by unfold Func.isWrapper; first | (rw [if_pos (by decide +kernel)]; kernel_rfl) | (rw [if_neg (by decide +kernel)]; exact ⟨rfl, rfl⟩))
    (fun os started H enc _ F => by rw [OpenClaim.pre_eq_preRow]; exact lifted os started H enc F)
theorem plain (f : FuncId) (fn : Func) (hf : Tryd.pinned.checked.prog.funcNamed "fenestra/fenestralaw05.ParamNumbers" = some f) (hfn : Tryd.pinned.checked.prog.funcs[f]? = some fn) :
    false = Tryd.pinned.checked.prog.looks [] ∧ ∀ (j : Nat) t, fn.params[j]? = some t → Tryd.pinned.checked.prog.wantsStandIn t = false := by
  obtain rfl : f = 5 := Option.some.inj ((show Tryd.prog.funcNamed "fenestra/fenestralaw05.ParamNumbers" = some 5 by kernel_rfl).symm.trans hf) |>.symm
  obtain rfl : fn = Tryd.f5 := (Option.some.inj (Tryd.func5.symm.trans hfn)).symm
  refine ⟨by kernel_rfl, fun j t ht => ?_⟩
  have hall : (Tryd.f5.params.toList.all fun t => !Tryd.prog.wantsStandIn t) = true := by kernel_rfl
  have := List.all_eq_true.1 hall t (Array.mem_def.1 (Array.mem_of_getElem? ht))
  have h2 : Tryd.prog.wantsStandIn t = false := by simpa using this
  exact h2
theorem proved : Rows.ParamNumbersCardSaid :=
  Claim7.holds_tied_plain_at .later [] _ _ _ _ said (fun _ h => by cases h) (by kernel_rfl) (fun _ h => by cases h) paramNumbers_row_tie rfl ⟨rfl, rfl⟩ (by kernel_rfl) rfl plain (by kernel_rfl)
#print axioms proved
end Go.Proofs.YtadmkfclgpbebaaDoor.paramNumbersDone
