/- The law ParamCanon: for every input the call returns true, and the arguments read behind it as they read before. No condition. -/
import Derived.Test.YtadmkfclgpbebaaDoorX10
namespace Go.Proofs.YtadmkfclgpbebaaDoor
set_option linter.all false
open Go Go.Sx
set_option maxRecDepth 100000
set_option linter.unusedVariables false
set_option linter.unusedSimpArgs false
def aheadS (i k : Int) : List UInt8 := if k = 0 then (if i = 0 then [] else [59]) else [58]
def partS (n : Int) : List UInt8 := if n = -1 then [] else Lib.itoa n
def rowS (i k : Int) : List Int → List UInt8
  | [] => []
  | n :: r => aheadS i k ++ partS n ++ rowS i (k + 1) r
theorem ahead_len (i k : Int) : (aheadS i k).length ≤ 1 := by
  unfold aheadS
  split
  · split <;> decide
  · decide
theorem catS_catS {α : Type} (x : Option (List α)) (u v : List α) : catS (catS x (some u)) (some v) = catS x (some (u ++ v)) := by
  cases u with
  | nil => rfl
  | cons a u => cases v with
    | nil => simp [catS, el]
    | cons c v => simp [catS, el]
theorem row_cons (i k n : Int) (r : List Int) : rowS i k (n :: r) = aheadS i k ++ partS n ++ rowS i (k + 1) r := rfl
theorem row_pre {i k m : Int} {p : Option (List Int)} (hm : m = ((el p).length : Int)) (hk : 0 ≤ k) (h : ∀ n ∈ el p, -1 ≤ n ∧ n ≤ 1000000000) : ¬k < m ∨ -1 ≤ (el p).getD k.toNat default ∧ (el p).getD k.toNat default ≤ 1000000000 ∧
    (rowS i k ((el p).drop k.toNat)).length = (aheadS i k).length + (partS ((el p).getD k.toNat default)).length + (rowS i (k + 1) ((el p).drop (k + 1).toNat)).length ∧ ((el p).getD k.toNat default = -1 ∨ (partS ((el p).getD k.toNat default)).length = (Lib.itoa ((el p).getD k.toNat default)).length) := by
  by_cases hkm : k < m
  · obtain ⟨a, b⟩ := all_get h hk (by omega)
    refine .inr ⟨a, b, ?_, ?_⟩
    · rw [drop_step (el p) hk (by omega), row_cons]; simp only [List.length_append]
    · by_cases e : (el p).getD k.toNat default = -1
      · exact .inl e
      · exact .inr (by unfold partS; rw [if_neg e])
  · exact .inl hkm
def pin_s : List U → Option (Nat × List U)
  | [.int .i64 i, u_l, .int .i64 n, .int .i64 j, u_p, .int .i64 m, .int .i64 k, u_b] => (decS rP u_l).bind fun l => (decS rI u_p).bind fun p => (decS rB u_b).bind fun b => if m = ((el p).length : Int) ∧ 0 ≤ k ∧ k ≤ m ∧ m ≤ 1000000 ∧ 0 ≤ i ∧ i ≤ 1000000 ∧ (el b).length + (rowS i k ((el p).drop k.toNat)).length ≤ 100000000 ∧ ∀ n ∈ el p, -1 ≤ n ∧ n ≤ 1000000000 then some (0, [encS rP l, .int .i64 n, .int .i64 j, encS rB (catS b (some (bI (rowS i k ((el p).drop k.toNat)))))]) else none
  | _ => none
theorem pin_s_e (i : Int) (l : (Option (List (Option (List Int))))) (n : Int) (j : Int) (p : (Option (List Int))) (m : Int) (k : Int) (b : (Option (List Int))) (hc : m = ((el p).length : Int) ∧ 0 ≤ k ∧ k ≤ m ∧ m ≤ 1000000 ∧ 0 ≤ i ∧ i ≤ 1000000 ∧ (el b).length + (rowS i k ((el p).drop k.toNat)).length ≤ 100000000 ∧ ∀ n ∈ el p, -1 ≤ n ∧ n ≤ 1000000000) : pin_s [.int .i64 i, encS rP l, .int .i64 n, .int .i64 j, encS rI p, .int .i64 m, .int .i64 k, encS rB b] = some (0, [encS rP l, .int .i64 n, .int .i64 j, encS rB (catS b (some (bI (rowS i k ((el p).drop k.toNat)))))]) := by
  simp only [pin_s, decS_enc, Option.bind_some]
  exact if_pos hc
def pin_D : LoopD := ⟨[(0, yv 8), (3, h 0 3), (9, dat 10 1 11), (10, h 2 3), (11, h 3 3), (17, dat 11 4 11), (18, h 5 3), (19, h 6 3)], [(8, .lp 25 [true, true, true, false, true, false] [junk, junk, junk, junk, junk, .pointer (some ⟨5, 0, none⟩), junk, junk, junk, junk, junk, junk, junk, junk, junk, junk, junk, junk, junk, junk, junk, junk] 0), (5, .cells 71 [.pointer (some ⟨5, 0, none⟩), own 12 7 11]), (12, .sq 7 11 5 13), (10, .frz), (11, .frz), (13, .frz)], 8, [⟨.exit 2, [(0, yv 8), (9, dat 14 0 11), (10, h 1 3), (11, h 2 3)], [(8, .lp 25 [true, true, true, false, true, false] [junk, junk, junk, junk, junk, .pointer (some ⟨5, 0, none⟩), junk, junk, junk, junk, junk, junk, junk, junk, junk, junk, junk, junk, junk, junk, junk, junk] 0), (5, .cells 71 [.pointer (some ⟨5, 0, none⟩), own 15 3 11]), (15, .sq 3 11 5 16), (14, .frz), (16, .frz)], 4⟩]⟩
noncomputable def pin_B : Code := (Tryd.f60.body).getD .skip
noncomputable def pin_x : Code := match codeAt [true, false, false, true, true, false, false, true, true, false] pin_B with | some (.loop x) => x | _ => .skip
theorem pin_b : Tryd.f60.body = some pin_B := rfl
theorem pin_p : codeAt [true, false, false, true, true, false, false, true, true, false] pin_B = some (.loop pin_x) := by kernel_rfl
def pin_t : Tr := .lt 8 (.bin .lss) [h 6 3, h 5 3] <| .br 8 (.lt 8 (.inbs 1) [h 6 3, h 4 11] <| .br 9 (.lt 3 (.get 1 0) [h 4 11, h 6 3] <| .lt 8 (.bin .eql) [h 6 3, .int .i64 (0)] <| .br 11 (.lt 8 (.bin .eql) [h 0 3, .int .i64 (0)] <| .br 12 (.lt 8 (.bin .neq) [h 10 3, .int .i64 (-1)] <| .br 13 (.fn ito_s [h 10 3] 1 <| .lt 9 (.bin .add) [.string ⟨⟨[]⟩⟩, h 14 9] <| .dt 11 (.cats) [h 7 11, h 15 9] <| .lt 3 (.len) [h 15 9] <| .lt 3 (.bin .add) [h 6 3, .int .i64 (1)] <| .ret [.int .i64 (-1), h 0 3, h 1 11, h 2 3, h 3 3, h 4 11, h 5 3, h 18 3, h 16 11]) (.dt 11 (.cats) [h 7 11, .string ⟨⟨[]⟩⟩] <| .lt 3 (.bin .add) [h 6 3, .int .i64 (1)] <| .ret [.int .i64 (-1), h 0 3, h 1 11, h 2 3, h 3 3, h 4 11, h 5 3, h 15 3, h 14 11])) (.lt 8 (.bin .eql) [h 6 3, .int .i64 (0)] <| .br 13 (.lt 8 (.bin .neq) [h 10 3, .int .i64 (-1)] <| .br 14 (.fn ito_s [h 10 3] 1 <| .lt 9 (.bin .add) [.string ⟨⟨[59]⟩⟩, h 15 9] <| .dt 11 (.cats) [h 7 11, h 16 9] <| .lt 3 (.len) [h 16 9] <| .lt 3 (.bin .add) [h 6 3, .int .i64 (1)] <| .ret [.int .i64 (-1), h 0 3, h 1 11, h 2 3, h 3 3, h 4 11, h 5 3, h 19 3, h 17 11]) (.dt 11 (.cats) [h 7 11, .string ⟨⟨[59]⟩⟩] <| .lt 3 (.bin .add) [h 6 3, .int .i64 (1)] <| .ret [.int .i64 (-1), h 0 3, h 1 11, h 2 3, h 3 3, h 4 11, h 5 3, h 16 3, h 15 11])) (.lt 8 (.bin .neq) [h 10 3, .int .i64 (-1)] <| .br 14 (.fn ito_s [h 10 3] 1 <| .lt 9 (.bin .add) [.string ⟨⟨[58]⟩⟩, h 15 9] <| .dt 11 (.cats) [h 7 11, h 16 9] <| .lt 3 (.len) [h 16 9] <| .lt 3 (.bin .add) [h 6 3, .int .i64 (1)] <| .ret [.int .i64 (-1), h 0 3, h 1 11, h 2 3, h 3 3, h 4 11, h 5 3, h 19 3, h 17 11]) (.dt 11 (.cats) [h 7 11, .string ⟨⟨[58]⟩⟩] <| .lt 3 (.bin .add) [h 6 3, .int .i64 (1)] <| .ret [.int .i64 (-1), h 0 3, h 1 11, h 2 3, h 3 3, h 4 11, h 5 3, h 16 3, h 15 11])))) (.lt 8 (.bin .eql) [h 6 3, .int .i64 (0)] <| .br 12 (.lt 8 (.bin .neq) [h 10 3, .int .i64 (-1)] <| .br 13 (.fn ito_s [h 10 3] 1 <| .lt 9 (.bin .add) [.string ⟨⟨[59]⟩⟩, h 14 9] <| .dt 11 (.cats) [h 7 11, h 15 9] <| .lt 3 (.len) [h 15 9] <| .lt 3 (.bin .add) [h 6 3, .int .i64 (1)] <| .ret [.int .i64 (-1), h 0 3, h 1 11, h 2 3, h 3 3, h 4 11, h 5 3, h 18 3, h 16 11]) (.dt 11 (.cats) [h 7 11, .string ⟨⟨[59]⟩⟩] <| .lt 3 (.bin .add) [h 6 3, .int .i64 (1)] <| .ret [.int .i64 (-1), h 0 3, h 1 11, h 2 3, h 3 3, h 4 11, h 5 3, h 15 3, h 14 11])) (.lt 8 (.bin .neq) [h 10 3, .int .i64 (-1)] <| .br 13 (.fn ito_s [h 10 3] 1 <| .lt 9 (.bin .add) [.string ⟨⟨[58]⟩⟩, h 14 9] <| .dt 11 (.cats) [h 7 11, h 15 9] <| .lt 3 (.len) [h 15 9] <| .lt 3 (.bin .add) [h 6 3, .int .i64 (1)] <| .ret [.int .i64 (-1), h 0 3, h 1 11, h 2 3, h 3 3, h 4 11, h 5 3, h 18 3, h 16 11]) (.dt 11 (.cats) [h 7 11, .string ⟨⟨[58]⟩⟩] <| .lt 3 (.bin .add) [h 6 3, .int .i64 (1)] <| .ret [.int .i64 (-1), h 0 3, h 1 11, h 2 3, h 3 3, h 4 11, h 5 3, h 15 3, h 14 11])))) (.no)) (.ret [.int .i64 (0), h 1 11, h 2 3, h 3 3, h 7 11])
def pin_m : List U → Nat
  | [.int .i64 i, u_l, .int .i64 n, .int .i64 j, u_p, .int .i64 m, .int .i64 k, u_b] => (match decS rP u_l with | some l => (match decS rI u_p with | some p => (match decS rB u_b with | some b => (m - k).toNat | none => 0) | none => 0) | none => 0)
  | _ => 0
theorem pin_me (i : Int) (l : (Option (List (Option (List Int))))) (n : Int) (j : Int) (p : (Option (List Int))) (m : Int) (k : Int) (b : (Option (List Int))) : pin_m [.int .i64 i, encS rP l, .int .i64 n, .int .i64 j, encS rI p, .int .i64 m, .int .i64 k, encS rB b] = (m - k).toNat := by
  simp only [pin_m, decS_enc]
theorem pin_c {G : Nat → Option Obj} (hst : StartOk Tryd.prog G gl H0 n0) : ∀ (E : Nat → U) (base : Nat), @CodeOk ⟨E, G⟩ Tryd.prog base gl Tryd.f60.ntmps pin_x (loopF Tryd.prog gl n0 17 pin_D pin_s) := by
  refine loop_ok (C := cx L_ito P_psl) (dep := 60) (f := 60) (n0 := n0) (nB := 17) (H0 := H0) pin_m pin_t (cxg (L_ito_ok hst) (P_psl_ok hst)) hst Tryd.func60 pin_b pin_p (by kernel_rfl) (by kernel_rfl) (by kernel_rfl) ?_
  intro us d outs hs
  have hs0 := hs
  unfold pin_s at hs
  split at hs
  · skip
    rename_i i u_l n j u_p m k u_b
    have hq_l := Option.bind_eq_some_iff.1 hs
    clear hs
    obtain ⟨l, hd_l, hs⟩ := hq_l
    replace hd_l := decS_eq hd_l
    subst hd_l
    have hq_p := Option.bind_eq_some_iff.1 hs
    clear hs
    obtain ⟨p, hd_p, hs⟩ := hq_p
    replace hd_p := decS_eq hd_p
    subst hd_p
    have hq_b := Option.bind_eq_some_iff.1 hs
    clear hs
    obtain ⟨b, hd_b, hs⟩ := hq_b
    replace hd_b := decS_eq hd_b
    subst hd_b
    split at hs
    · rename_i hc
      clear hs hs0
      have hr := row_pre (i := i) hc.1 hc.2.1 hc.2.2.2.2.2.2.2
      have ha := ahead_len i k
      refine ⟨rfl, ?_⟩
      unfold pin_t
      refine sat_lt [_, _, _, _, _, _, _, _, _] (ev_lss _ _ _) ⟨by decide, rfl⟩ rfl ?_
      first | refine sat_br rfl (fun g0 => ?_) (fun g0 => ?_) | refine sat_brB rfl (fun g0 => ?_) (fun g0 => ?_)
      · skip
        refine sat_lt [_, _, _, _, _, _, _, _, _, _] (ev_inbsS rfl) ⟨by decide, rfl⟩ rfl ?_
        first | refine sat_br rfl (fun g1 => ?_) (fun g1 => ?_) | refine sat_brB rfl (fun g1 => ?_) (fun g1 => ?_)
        · skip
          refine sat_lt (u := .int .i64 _) [_, _, _, _, _, _, _, _, _, _, _] (ev_getS rfl (by omega) (by omega) rfl) ⟨by decide, rfl⟩ rfl ?_
          refine sat_lt [_, _, _, _, _, _, _, _, _, _, _, _] (ev_eql _ _ _) ⟨by decide, rfl⟩ rfl ?_
          first | refine sat_br rfl (fun g2 => ?_) (fun g2 => ?_) | refine sat_brB rfl (fun g2 => ?_) (fun g2 => ?_)
          · skip
            refine sat_lt [_, _, _, _, _, _, _, _, _, _, _, _, _] (ev_eql _ _ _) ⟨by decide, rfl⟩ rfl ?_
            first | refine sat_br rfl (fun g3 => ?_) (fun g3 => ?_) | refine sat_brB rfl (fun g3 => ?_) (fun g3 => ?_)
            · skip
              refine sat_lt [_, _, _, _, _, _, _, _, _, _, _, _, _, _] (ev_neq _ _ _) ⟨by decide, rfl⟩ rfl ?_
              first | refine sat_br rfl (fun g4 => ?_) (fun g4 => ?_) | refine sat_brB rfl (fun g4 => ?_) (fun g4 => ?_)
              · skip
                refine sat_fn [_, _, _, _, _, _, _, _, _, _, _, _, _, _, _] (ito_s_e _ (by omega)) rfl rfl ?_
                refine sat_lt [_, _, _, _, _, _, _, _, _, _, _, _, _, _, _, _] (ev_cat _ _ (by first | omega | (simp only [List.length_append, List.length_cons, List.length_nil]; omega) | (show 0 + _ ≤ _; omega) | (show 1 + _ ≤ _; omega) | (show _ + (0 + _) ≤ _; omega) | (show _ + (1 + _) ≤ _; omega))) ⟨by decide, rfl⟩ rfl ?_
                refine sat_dt (r := rB) [_, _, _, _, _, _, _, _, _, _, _, _, _, _, _, _, _] (ev_catsS rfl (by first | omega | (simp only [List.length_append, List.length_cons, List.length_nil]; omega) | (show 0 + _ ≤ _; omega) | (show 1 + _ ≤ _; omega) | (show _ + (0 + _) ≤ _; omega) | (show _ + (1 + _) ≤ _; omega))) rfl rfl ?_
                refine sat_lt [_, _, _, _, _, _, _, _, _, _, _, _, _, _, _, _, _, _] (ev_len _) ⟨by decide, rfl⟩ rfl ?_
                first | refine sat_lt [_, _, _, _, _, _, _, _, _, _, _, _, _, _, _, _, _, _, _] (ev_addW (wrap64 (by omega) (by omega))) ⟨by decide, rfl⟩ rfl ?_ | refine sat_lt [_, _, _, _, _, _, _, _, _, _, _, _, _, _, _, _, _, _, _] (ev_add _ _ _) ⟨by decide, rfl⟩ rfl ?_
                refine sat_ret [.int .i64 _, .int .i64 _, encS rP _, .int .i64 _, .int .i64 _, encS rI _, .int .i64 _, .int .i64 _, encS rB _] rfl ?_
                refine leaf_back ?_ ?_
                have ht : ∀ t : List UInt8, t = aheadS i k ++ partS ((el p).getD k.toNat default) → pin_s [.int .i64 i, encS rP l, .int .i64 n, .int .i64 j, encS rI p, .int .i64 m, .int .i64 (k + 1), encS rB (catS b (some (bI t)))] = pin_s [.int .i64 i, encS rP l, .int .i64 n, .int .i64 j, encS rI p, .int .i64 m, .int .i64 k, encS rB b] := fun t ht => by
                  have hl : t.length = (aheadS i k).length + (partS ((el p).getD k.toNat default)).length := by rw [ht, List.length_append]
                  rw [pin_s_e i l n j p m (k + 1) _ ⟨hc.1, by omega, by omega, hc.2.2.2.1, hc.2.2.2.2.1, hc.2.2.2.2.2.1, by rw [el_catS, el_some, List.length_append, bI_len]; omega, hc.2.2.2.2.2.2.2⟩, pin_s_e i l n j p m k b hc, catS_catS, ← bI_app, ht, drop_step (el p) hc.2.1 (by omega), row_cons]
                · first | (exfalso; omega) | exact ht _ (by clear ht hr ha hc; generalize (el p).getD k.toNat default = g at *; simp [aheadS, partS, *])
                · rw [pin_me, pin_me]; omega
              · skip
                refine sat_dt (r := rB) [_, _, _, _, _, _, _, _, _, _, _, _, _, _, _] (ev_catsS rfl (by first | omega | (simp only [List.length_append, List.length_cons, List.length_nil]; omega) | (show 0 + _ ≤ _; omega) | (show 1 + _ ≤ _; omega) | (show _ + (0 + _) ≤ _; omega) | (show _ + (1 + _) ≤ _; omega))) rfl rfl ?_
                first | refine sat_lt [_, _, _, _, _, _, _, _, _, _, _, _, _, _, _, _] (ev_addW (wrap64 (by omega) (by omega))) ⟨by decide, rfl⟩ rfl ?_ | refine sat_lt [_, _, _, _, _, _, _, _, _, _, _, _, _, _, _, _] (ev_add _ _ _) ⟨by decide, rfl⟩ rfl ?_
                refine sat_ret [.int .i64 _, .int .i64 _, encS rP _, .int .i64 _, .int .i64 _, encS rI _, .int .i64 _, .int .i64 _, encS rB _] rfl ?_
                refine leaf_back ?_ ?_
                have ht : ∀ t : List UInt8, t = aheadS i k ++ partS ((el p).getD k.toNat default) → pin_s [.int .i64 i, encS rP l, .int .i64 n, .int .i64 j, encS rI p, .int .i64 m, .int .i64 (k + 1), encS rB (catS b (some (bI t)))] = pin_s [.int .i64 i, encS rP l, .int .i64 n, .int .i64 j, encS rI p, .int .i64 m, .int .i64 k, encS rB b] := fun t ht => by
                  have hl : t.length = (aheadS i k).length + (partS ((el p).getD k.toNat default)).length := by rw [ht, List.length_append]
                  rw [pin_s_e i l n j p m (k + 1) _ ⟨hc.1, by omega, by omega, hc.2.2.2.1, hc.2.2.2.2.1, hc.2.2.2.2.2.1, by rw [el_catS, el_some, List.length_append, bI_len]; omega, hc.2.2.2.2.2.2.2⟩, pin_s_e i l n j p m k b hc, catS_catS, ← bI_app, ht, drop_step (el p) hc.2.1 (by omega), row_cons]
                · first | (exfalso; omega) | exact ht _ (by clear ht hr ha hc; generalize (el p).getD k.toNat default = g at *; simp [aheadS, partS, *])
                · rw [pin_me, pin_me]; omega
            · skip
              refine sat_lt [_, _, _, _, _, _, _, _, _, _, _, _, _, _] (ev_eql _ _ _) ⟨by decide, rfl⟩ rfl ?_
              first | refine sat_br rfl (fun g4 => ?_) (fun g4 => ?_) | refine sat_brB rfl (fun g4 => ?_) (fun g4 => ?_)
              · skip
                refine sat_lt [_, _, _, _, _, _, _, _, _, _, _, _, _, _, _] (ev_neq _ _ _) ⟨by decide, rfl⟩ rfl ?_
                first | refine sat_br rfl (fun g5 => ?_) (fun g5 => ?_) | refine sat_brB rfl (fun g5 => ?_) (fun g5 => ?_)
                · skip
                  refine sat_fn [_, _, _, _, _, _, _, _, _, _, _, _, _, _, _, _] (ito_s_e _ (by omega)) rfl rfl ?_
                  refine sat_lt [_, _, _, _, _, _, _, _, _, _, _, _, _, _, _, _, _] (ev_cat _ _ (by first | omega | (simp only [List.length_append, List.length_cons, List.length_nil]; omega) | (show 0 + _ ≤ _; omega) | (show 1 + _ ≤ _; omega) | (show _ + (0 + _) ≤ _; omega) | (show _ + (1 + _) ≤ _; omega))) ⟨by decide, rfl⟩ rfl ?_
                  refine sat_dt (r := rB) [_, _, _, _, _, _, _, _, _, _, _, _, _, _, _, _, _, _] (ev_catsS rfl (by first | omega | (simp only [List.length_append, List.length_cons, List.length_nil]; omega) | (show 0 + _ ≤ _; omega) | (show 1 + _ ≤ _; omega) | (show _ + (0 + _) ≤ _; omega) | (show _ + (1 + _) ≤ _; omega))) rfl rfl ?_
                  refine sat_lt [_, _, _, _, _, _, _, _, _, _, _, _, _, _, _, _, _, _, _] (ev_len _) ⟨by decide, rfl⟩ rfl ?_
                  first | refine sat_lt [_, _, _, _, _, _, _, _, _, _, _, _, _, _, _, _, _, _, _, _] (ev_addW (wrap64 (by omega) (by omega))) ⟨by decide, rfl⟩ rfl ?_ | refine sat_lt [_, _, _, _, _, _, _, _, _, _, _, _, _, _, _, _, _, _, _, _] (ev_add _ _ _) ⟨by decide, rfl⟩ rfl ?_
                  refine sat_ret [.int .i64 _, .int .i64 _, encS rP _, .int .i64 _, .int .i64 _, encS rI _, .int .i64 _, .int .i64 _, encS rB _] rfl ?_
                  refine leaf_back ?_ ?_
                  have ht : ∀ t : List UInt8, t = aheadS i k ++ partS ((el p).getD k.toNat default) → pin_s [.int .i64 i, encS rP l, .int .i64 n, .int .i64 j, encS rI p, .int .i64 m, .int .i64 (k + 1), encS rB (catS b (some (bI t)))] = pin_s [.int .i64 i, encS rP l, .int .i64 n, .int .i64 j, encS rI p, .int .i64 m, .int .i64 k, encS rB b] := fun t ht => by
                    have hl : t.length = (aheadS i k).length + (partS ((el p).getD k.toNat default)).length := by rw [ht, List.length_append]
                    rw [pin_s_e i l n j p m (k + 1) _ ⟨hc.1, by omega, by omega, hc.2.2.2.1, hc.2.2.2.2.1, hc.2.2.2.2.2.1, by rw [el_catS, el_some, List.length_append, bI_len]; omega, hc.2.2.2.2.2.2.2⟩, pin_s_e i l n j p m k b hc, catS_catS, ← bI_app, ht, drop_step (el p) hc.2.1 (by omega), row_cons]
                  · first | (exfalso; omega) | exact ht _ (by clear ht hr ha hc; generalize (el p).getD k.toNat default = g at *; simp [aheadS, partS, *])
                  · rw [pin_me, pin_me]; omega
                · skip
                  refine sat_dt (r := rB) [_, _, _, _, _, _, _, _, _, _, _, _, _, _, _, _] (ev_catsS rfl (by first | omega | (simp only [List.length_append, List.length_cons, List.length_nil]; omega) | (show 0 + _ ≤ _; omega) | (show 1 + _ ≤ _; omega) | (show _ + (0 + _) ≤ _; omega) | (show _ + (1 + _) ≤ _; omega))) rfl rfl ?_
                  first | refine sat_lt [_, _, _, _, _, _, _, _, _, _, _, _, _, _, _, _, _] (ev_addW (wrap64 (by omega) (by omega))) ⟨by decide, rfl⟩ rfl ?_ | refine sat_lt [_, _, _, _, _, _, _, _, _, _, _, _, _, _, _, _, _] (ev_add _ _ _) ⟨by decide, rfl⟩ rfl ?_
                  refine sat_ret [.int .i64 _, .int .i64 _, encS rP _, .int .i64 _, .int .i64 _, encS rI _, .int .i64 _, .int .i64 _, encS rB _] rfl ?_
                  refine leaf_back ?_ ?_
                  have ht : ∀ t : List UInt8, t = aheadS i k ++ partS ((el p).getD k.toNat default) → pin_s [.int .i64 i, encS rP l, .int .i64 n, .int .i64 j, encS rI p, .int .i64 m, .int .i64 (k + 1), encS rB (catS b (some (bI t)))] = pin_s [.int .i64 i, encS rP l, .int .i64 n, .int .i64 j, encS rI p, .int .i64 m, .int .i64 k, encS rB b] := fun t ht => by
                    have hl : t.length = (aheadS i k).length + (partS ((el p).getD k.toNat default)).length := by rw [ht, List.length_append]
                    rw [pin_s_e i l n j p m (k + 1) _ ⟨hc.1, by omega, by omega, hc.2.2.2.1, hc.2.2.2.2.1, hc.2.2.2.2.2.1, by rw [el_catS, el_some, List.length_append, bI_len]; omega, hc.2.2.2.2.2.2.2⟩, pin_s_e i l n j p m k b hc, catS_catS, ← bI_app, ht, drop_step (el p) hc.2.1 (by omega), row_cons]
                  · first | (exfalso; omega) | exact ht _ (by clear ht hr ha hc; generalize (el p).getD k.toNat default = g at *; simp [aheadS, partS, *])
                  · rw [pin_me, pin_me]; omega
              · skip
                refine sat_lt [_, _, _, _, _, _, _, _, _, _, _, _, _, _, _] (ev_neq _ _ _) ⟨by decide, rfl⟩ rfl ?_
                first | refine sat_br rfl (fun g5 => ?_) (fun g5 => ?_) | refine sat_brB rfl (fun g5 => ?_) (fun g5 => ?_)
                · skip
                  refine sat_fn [_, _, _, _, _, _, _, _, _, _, _, _, _, _, _, _] (ito_s_e _ (by omega)) rfl rfl ?_
                  refine sat_lt [_, _, _, _, _, _, _, _, _, _, _, _, _, _, _, _, _] (ev_cat _ _ (by first | omega | (simp only [List.length_append, List.length_cons, List.length_nil]; omega) | (show 0 + _ ≤ _; omega) | (show 1 + _ ≤ _; omega) | (show _ + (0 + _) ≤ _; omega) | (show _ + (1 + _) ≤ _; omega))) ⟨by decide, rfl⟩ rfl ?_
                  refine sat_dt (r := rB) [_, _, _, _, _, _, _, _, _, _, _, _, _, _, _, _, _, _] (ev_catsS rfl (by first | omega | (simp only [List.length_append, List.length_cons, List.length_nil]; omega) | (show 0 + _ ≤ _; omega) | (show 1 + _ ≤ _; omega) | (show _ + (0 + _) ≤ _; omega) | (show _ + (1 + _) ≤ _; omega))) rfl rfl ?_
                  refine sat_lt [_, _, _, _, _, _, _, _, _, _, _, _, _, _, _, _, _, _, _] (ev_len _) ⟨by decide, rfl⟩ rfl ?_
                  first | refine sat_lt [_, _, _, _, _, _, _, _, _, _, _, _, _, _, _, _, _, _, _, _] (ev_addW (wrap64 (by omega) (by omega))) ⟨by decide, rfl⟩ rfl ?_ | refine sat_lt [_, _, _, _, _, _, _, _, _, _, _, _, _, _, _, _, _, _, _, _] (ev_add _ _ _) ⟨by decide, rfl⟩ rfl ?_
                  refine sat_ret [.int .i64 _, .int .i64 _, encS rP _, .int .i64 _, .int .i64 _, encS rI _, .int .i64 _, .int .i64 _, encS rB _] rfl ?_
                  refine leaf_back ?_ ?_
                  have ht : ∀ t : List UInt8, t = aheadS i k ++ partS ((el p).getD k.toNat default) → pin_s [.int .i64 i, encS rP l, .int .i64 n, .int .i64 j, encS rI p, .int .i64 m, .int .i64 (k + 1), encS rB (catS b (some (bI t)))] = pin_s [.int .i64 i, encS rP l, .int .i64 n, .int .i64 j, encS rI p, .int .i64 m, .int .i64 k, encS rB b] := fun t ht => by
                    have hl : t.length = (aheadS i k).length + (partS ((el p).getD k.toNat default)).length := by rw [ht, List.length_append]
                    rw [pin_s_e i l n j p m (k + 1) _ ⟨hc.1, by omega, by omega, hc.2.2.2.1, hc.2.2.2.2.1, hc.2.2.2.2.2.1, by rw [el_catS, el_some, List.length_append, bI_len]; omega, hc.2.2.2.2.2.2.2⟩, pin_s_e i l n j p m k b hc, catS_catS, ← bI_app, ht, drop_step (el p) hc.2.1 (by omega), row_cons]
                  · first | (exfalso; omega) | exact ht _ (by clear ht hr ha hc; generalize (el p).getD k.toNat default = g at *; simp [aheadS, partS, *])
                  · rw [pin_me, pin_me]; omega
                · skip
                  refine sat_dt (r := rB) [_, _, _, _, _, _, _, _, _, _, _, _, _, _, _, _] (ev_catsS rfl (by first | omega | (simp only [List.length_append, List.length_cons, List.length_nil]; omega) | (show 0 + _ ≤ _; omega) | (show 1 + _ ≤ _; omega) | (show _ + (0 + _) ≤ _; omega) | (show _ + (1 + _) ≤ _; omega))) rfl rfl ?_
                  first | refine sat_lt [_, _, _, _, _, _, _, _, _, _, _, _, _, _, _, _, _] (ev_addW (wrap64 (by omega) (by omega))) ⟨by decide, rfl⟩ rfl ?_ | refine sat_lt [_, _, _, _, _, _, _, _, _, _, _, _, _, _, _, _, _] (ev_add _ _ _) ⟨by decide, rfl⟩ rfl ?_
                  refine sat_ret [.int .i64 _, .int .i64 _, encS rP _, .int .i64 _, .int .i64 _, encS rI _, .int .i64 _, .int .i64 _, encS rB _] rfl ?_
                  refine leaf_back ?_ ?_
                  have ht : ∀ t : List UInt8, t = aheadS i k ++ partS ((el p).getD k.toNat default) → pin_s [.int .i64 i, encS rP l, .int .i64 n, .int .i64 j, encS rI p, .int .i64 m, .int .i64 (k + 1), encS rB (catS b (some (bI t)))] = pin_s [.int .i64 i, encS rP l, .int .i64 n, .int .i64 j, encS rI p, .int .i64 m, .int .i64 k, encS rB b] := fun t ht => by
                    have hl : t.length = (aheadS i k).length + (partS ((el p).getD k.toNat default)).length := by rw [ht, List.length_append]
                    rw [pin_s_e i l n j p m (k + 1) _ ⟨hc.1, by omega, by omega, hc.2.2.2.1, hc.2.2.2.2.1, hc.2.2.2.2.2.1, by rw [el_catS, el_some, List.length_append, bI_len]; omega, hc.2.2.2.2.2.2.2⟩, pin_s_e i l n j p m k b hc, catS_catS, ← bI_app, ht, drop_step (el p) hc.2.1 (by omega), row_cons]
                  · first | (exfalso; omega) | exact ht _ (by clear ht hr ha hc; generalize (el p).getD k.toNat default = g at *; simp [aheadS, partS, *])
                  · rw [pin_me, pin_me]; omega
          · skip
            refine sat_lt [_, _, _, _, _, _, _, _, _, _, _, _, _] (ev_eql _ _ _) ⟨by decide, rfl⟩ rfl ?_
            first | refine sat_br rfl (fun g3 => ?_) (fun g3 => ?_) | refine sat_brB rfl (fun g3 => ?_) (fun g3 => ?_)
            · skip
              refine sat_lt [_, _, _, _, _, _, _, _, _, _, _, _, _, _] (ev_neq _ _ _) ⟨by decide, rfl⟩ rfl ?_
              first | refine sat_br rfl (fun g4 => ?_) (fun g4 => ?_) | refine sat_brB rfl (fun g4 => ?_) (fun g4 => ?_)
              · skip
                refine sat_fn [_, _, _, _, _, _, _, _, _, _, _, _, _, _, _] (ito_s_e _ (by omega)) rfl rfl ?_
                refine sat_lt [_, _, _, _, _, _, _, _, _, _, _, _, _, _, _, _] (ev_cat _ _ (by first | omega | (simp only [List.length_append, List.length_cons, List.length_nil]; omega) | (show 0 + _ ≤ _; omega) | (show 1 + _ ≤ _; omega) | (show _ + (0 + _) ≤ _; omega) | (show _ + (1 + _) ≤ _; omega))) ⟨by decide, rfl⟩ rfl ?_
                refine sat_dt (r := rB) [_, _, _, _, _, _, _, _, _, _, _, _, _, _, _, _, _] (ev_catsS rfl (by first | omega | (simp only [List.length_append, List.length_cons, List.length_nil]; omega) | (show 0 + _ ≤ _; omega) | (show 1 + _ ≤ _; omega) | (show _ + (0 + _) ≤ _; omega) | (show _ + (1 + _) ≤ _; omega))) rfl rfl ?_
                refine sat_lt [_, _, _, _, _, _, _, _, _, _, _, _, _, _, _, _, _, _] (ev_len _) ⟨by decide, rfl⟩ rfl ?_
                first | refine sat_lt [_, _, _, _, _, _, _, _, _, _, _, _, _, _, _, _, _, _, _] (ev_addW (wrap64 (by omega) (by omega))) ⟨by decide, rfl⟩ rfl ?_ | refine sat_lt [_, _, _, _, _, _, _, _, _, _, _, _, _, _, _, _, _, _, _] (ev_add _ _ _) ⟨by decide, rfl⟩ rfl ?_
                refine sat_ret [.int .i64 _, .int .i64 _, encS rP _, .int .i64 _, .int .i64 _, encS rI _, .int .i64 _, .int .i64 _, encS rB _] rfl ?_
                refine leaf_back ?_ ?_
                have ht : ∀ t : List UInt8, t = aheadS i k ++ partS ((el p).getD k.toNat default) → pin_s [.int .i64 i, encS rP l, .int .i64 n, .int .i64 j, encS rI p, .int .i64 m, .int .i64 (k + 1), encS rB (catS b (some (bI t)))] = pin_s [.int .i64 i, encS rP l, .int .i64 n, .int .i64 j, encS rI p, .int .i64 m, .int .i64 k, encS rB b] := fun t ht => by
                  have hl : t.length = (aheadS i k).length + (partS ((el p).getD k.toNat default)).length := by rw [ht, List.length_append]
                  rw [pin_s_e i l n j p m (k + 1) _ ⟨hc.1, by omega, by omega, hc.2.2.2.1, hc.2.2.2.2.1, hc.2.2.2.2.2.1, by rw [el_catS, el_some, List.length_append, bI_len]; omega, hc.2.2.2.2.2.2.2⟩, pin_s_e i l n j p m k b hc, catS_catS, ← bI_app, ht, drop_step (el p) hc.2.1 (by omega), row_cons]
                · first | (exfalso; omega) | exact ht _ (by clear ht hr ha hc; generalize (el p).getD k.toNat default = g at *; simp [aheadS, partS, *])
                · rw [pin_me, pin_me]; omega
              · skip
                refine sat_dt (r := rB) [_, _, _, _, _, _, _, _, _, _, _, _, _, _, _] (ev_catsS rfl (by first | omega | (simp only [List.length_append, List.length_cons, List.length_nil]; omega) | (show 0 + _ ≤ _; omega) | (show 1 + _ ≤ _; omega) | (show _ + (0 + _) ≤ _; omega) | (show _ + (1 + _) ≤ _; omega))) rfl rfl ?_
                first | refine sat_lt [_, _, _, _, _, _, _, _, _, _, _, _, _, _, _, _] (ev_addW (wrap64 (by omega) (by omega))) ⟨by decide, rfl⟩ rfl ?_ | refine sat_lt [_, _, _, _, _, _, _, _, _, _, _, _, _, _, _, _] (ev_add _ _ _) ⟨by decide, rfl⟩ rfl ?_
                refine sat_ret [.int .i64 _, .int .i64 _, encS rP _, .int .i64 _, .int .i64 _, encS rI _, .int .i64 _, .int .i64 _, encS rB _] rfl ?_
                refine leaf_back ?_ ?_
                have ht : ∀ t : List UInt8, t = aheadS i k ++ partS ((el p).getD k.toNat default) → pin_s [.int .i64 i, encS rP l, .int .i64 n, .int .i64 j, encS rI p, .int .i64 m, .int .i64 (k + 1), encS rB (catS b (some (bI t)))] = pin_s [.int .i64 i, encS rP l, .int .i64 n, .int .i64 j, encS rI p, .int .i64 m, .int .i64 k, encS rB b] := fun t ht => by
                  have hl : t.length = (aheadS i k).length + (partS ((el p).getD k.toNat default)).length := by rw [ht, List.length_append]
                  rw [pin_s_e i l n j p m (k + 1) _ ⟨hc.1, by omega, by omega, hc.2.2.2.1, hc.2.2.2.2.1, hc.2.2.2.2.2.1, by rw [el_catS, el_some, List.length_append, bI_len]; omega, hc.2.2.2.2.2.2.2⟩, pin_s_e i l n j p m k b hc, catS_catS, ← bI_app, ht, drop_step (el p) hc.2.1 (by omega), row_cons]
                · first | (exfalso; omega) | exact ht _ (by clear ht hr ha hc; generalize (el p).getD k.toNat default = g at *; simp [aheadS, partS, *])
                · rw [pin_me, pin_me]; omega
            · skip
              refine sat_lt [_, _, _, _, _, _, _, _, _, _, _, _, _, _] (ev_neq _ _ _) ⟨by decide, rfl⟩ rfl ?_
              first | refine sat_br rfl (fun g4 => ?_) (fun g4 => ?_) | refine sat_brB rfl (fun g4 => ?_) (fun g4 => ?_)
              · skip
                refine sat_fn [_, _, _, _, _, _, _, _, _, _, _, _, _, _, _] (ito_s_e _ (by omega)) rfl rfl ?_
                refine sat_lt [_, _, _, _, _, _, _, _, _, _, _, _, _, _, _, _] (ev_cat _ _ (by first | omega | (simp only [List.length_append, List.length_cons, List.length_nil]; omega) | (show 0 + _ ≤ _; omega) | (show 1 + _ ≤ _; omega) | (show _ + (0 + _) ≤ _; omega) | (show _ + (1 + _) ≤ _; omega))) ⟨by decide, rfl⟩ rfl ?_
                refine sat_dt (r := rB) [_, _, _, _, _, _, _, _, _, _, _, _, _, _, _, _, _] (ev_catsS rfl (by first | omega | (simp only [List.length_append, List.length_cons, List.length_nil]; omega) | (show 0 + _ ≤ _; omega) | (show 1 + _ ≤ _; omega) | (show _ + (0 + _) ≤ _; omega) | (show _ + (1 + _) ≤ _; omega))) rfl rfl ?_
                refine sat_lt [_, _, _, _, _, _, _, _, _, _, _, _, _, _, _, _, _, _] (ev_len _) ⟨by decide, rfl⟩ rfl ?_
                first | refine sat_lt [_, _, _, _, _, _, _, _, _, _, _, _, _, _, _, _, _, _, _] (ev_addW (wrap64 (by omega) (by omega))) ⟨by decide, rfl⟩ rfl ?_ | refine sat_lt [_, _, _, _, _, _, _, _, _, _, _, _, _, _, _, _, _, _, _] (ev_add _ _ _) ⟨by decide, rfl⟩ rfl ?_
                refine sat_ret [.int .i64 _, .int .i64 _, encS rP _, .int .i64 _, .int .i64 _, encS rI _, .int .i64 _, .int .i64 _, encS rB _] rfl ?_
                refine leaf_back ?_ ?_
                have ht : ∀ t : List UInt8, t = aheadS i k ++ partS ((el p).getD k.toNat default) → pin_s [.int .i64 i, encS rP l, .int .i64 n, .int .i64 j, encS rI p, .int .i64 m, .int .i64 (k + 1), encS rB (catS b (some (bI t)))] = pin_s [.int .i64 i, encS rP l, .int .i64 n, .int .i64 j, encS rI p, .int .i64 m, .int .i64 k, encS rB b] := fun t ht => by
                  have hl : t.length = (aheadS i k).length + (partS ((el p).getD k.toNat default)).length := by rw [ht, List.length_append]
                  rw [pin_s_e i l n j p m (k + 1) _ ⟨hc.1, by omega, by omega, hc.2.2.2.1, hc.2.2.2.2.1, hc.2.2.2.2.2.1, by rw [el_catS, el_some, List.length_append, bI_len]; omega, hc.2.2.2.2.2.2.2⟩, pin_s_e i l n j p m k b hc, catS_catS, ← bI_app, ht, drop_step (el p) hc.2.1 (by omega), row_cons]
                · first | (exfalso; omega) | exact ht _ (by clear ht hr ha hc; generalize (el p).getD k.toNat default = g at *; simp [aheadS, partS, *])
                · rw [pin_me, pin_me]; omega
              · skip
                refine sat_dt (r := rB) [_, _, _, _, _, _, _, _, _, _, _, _, _, _, _] (ev_catsS rfl (by first | omega | (simp only [List.length_append, List.length_cons, List.length_nil]; omega) | (show 0 + _ ≤ _; omega) | (show 1 + _ ≤ _; omega) | (show _ + (0 + _) ≤ _; omega) | (show _ + (1 + _) ≤ _; omega))) rfl rfl ?_
                first | refine sat_lt [_, _, _, _, _, _, _, _, _, _, _, _, _, _, _, _] (ev_addW (wrap64 (by omega) (by omega))) ⟨by decide, rfl⟩ rfl ?_ | refine sat_lt [_, _, _, _, _, _, _, _, _, _, _, _, _, _, _, _] (ev_add _ _ _) ⟨by decide, rfl⟩ rfl ?_
                refine sat_ret [.int .i64 _, .int .i64 _, encS rP _, .int .i64 _, .int .i64 _, encS rI _, .int .i64 _, .int .i64 _, encS rB _] rfl ?_
                refine leaf_back ?_ ?_
                have ht : ∀ t : List UInt8, t = aheadS i k ++ partS ((el p).getD k.toNat default) → pin_s [.int .i64 i, encS rP l, .int .i64 n, .int .i64 j, encS rI p, .int .i64 m, .int .i64 (k + 1), encS rB (catS b (some (bI t)))] = pin_s [.int .i64 i, encS rP l, .int .i64 n, .int .i64 j, encS rI p, .int .i64 m, .int .i64 k, encS rB b] := fun t ht => by
                  have hl : t.length = (aheadS i k).length + (partS ((el p).getD k.toNat default)).length := by rw [ht, List.length_append]
                  rw [pin_s_e i l n j p m (k + 1) _ ⟨hc.1, by omega, by omega, hc.2.2.2.1, hc.2.2.2.2.1, hc.2.2.2.2.2.1, by rw [el_catS, el_some, List.length_append, bI_len]; omega, hc.2.2.2.2.2.2.2⟩, pin_s_e i l n j p m k b hc, catS_catS, ← bI_app, ht, drop_step (el p) hc.2.1 (by omega), row_cons]
                · first | (exfalso; omega) | exact ht _ (by clear ht hr ha hc; generalize (el p).getD k.toNat default = g at *; simp [aheadS, partS, *])
                · rw [pin_me, pin_me]; omega
        · skip
          first | omega | (exfalso; simp_all; done) | (exfalso; simp_all; omega)
      · skip
        refine sat_ret [.int .i64 _, encS rP _, .int .i64 _, .int .i64 _, encS rB _] rfl ?_
        refine leaf_exit (d := 0) ?_
        rw [pin_s_e i l n j p m k b hc, drop_end (i := k) (el p) (by omega)]; rfl
    · cases hs
  · cases hs
noncomputable def P_pin : List LpE := (60, ([true, false, false, true, true, false, false, true, true, false], loopF Tryd.prog gl n0 17 pin_D pin_s)) :: P_psl
theorem P_pin_ok {G : Nat → Option Obj} (hst : StartOk Tryd.prog G gl H0 n0) : LpsOk Tryd.prog G gl P_pin := .cons Tryd.func60 pin_b pin_p (pin_c hst) (P_psl_ok hst)
end Go.Proofs.YtadmkfclgpbebaaDoor

namespace Go.Proofs.YtadmkfclgpbebaaDoor
set_option linter.all false
open Go Go.Sx
set_option maxRecDepth 100000
set_option linter.unusedVariables false
set_option linter.unusedSimpArgs false
def rowsS (j : Int) : List (Option (List Int)) → List UInt8
  | [] => []
  | p :: r => rowS j 0 (el p) ++ rowsS (j + 1) r
theorem rows_pre {j n : Int} {l : Option (List (Option (List Int)))} (hn : n = ((el l).length : Int)) (hj : 0 ≤ j) : ¬j < n ∨ (rowsS j ((el l).drop j.toNat)).length = (rowS j 0 (el ((el l).getD j.toNat default))).length + (rowsS (j + 1) ((el l).drop (j + 1).toNat)).length := by
  by_cases h : j < n
  · refine .inr ?_
    rw [drop_step (el l) hj (by omega)]
    exact List.length_append
  · exact .inl h
def pou_s : List U → Option (Nat × List U)
  | [u_l, .int .i64 n, .int .i64 j, u_b] => (decS rP u_l).bind fun l => (decS rB u_b).bind fun b => if n = ((el l).length : Int) ∧ 0 ≤ j ∧ j ≤ n ∧ n ≤ 1000000 ∧ (el b).length + (rowsS j ((el l).drop j.toNat)).length ≤ 100000000 ∧ ∀ p ∈ el l, (el p).length ≤ 1000000 ∧ ∀ x ∈ el p, -1 ≤ x ∧ x ≤ 1000000000 then some (0, [encS rB (catS b (some (bI (rowsS j ((el l).drop j.toNat)))))]) else none
  | _ => none
theorem pou_s_e (l : (Option (List (Option (List Int))))) (n : Int) (j : Int) (b : (Option (List Int))) (hc : n = ((el l).length : Int) ∧ 0 ≤ j ∧ j ≤ n ∧ n ≤ 1000000 ∧ (el b).length + (rowsS j ((el l).drop j.toNat)).length ≤ 100000000 ∧ ∀ p ∈ el l, (el p).length ≤ 1000000 ∧ ∀ x ∈ el p, -1 ≤ x ∧ x ≤ 1000000000) : pou_s [encS rP l, .int .i64 n, .int .i64 j, encS rB b] = some (0, [encS rB (catS b (some (bI (rowsS j ((el l).drop j.toNat)))))]) := by
  simp only [pou_s, decS_enc, Option.bind_some]
  exact if_pos hc
def pou_D : LoopD := ⟨[(0, yv 8), (9, dat 9 0 11), (10, h 1 3), (11, h 2 3)], [(8, .lp 25 [true, true, true, false, true, false] [junk, junk, junk, junk, junk, .pointer (some ⟨5, 0, none⟩), junk, junk, junk, junk, junk, junk, junk, junk, junk, junk, junk, junk, junk, junk, junk, junk] 0), (5, .cells 71 [.pointer (some ⟨5, 0, none⟩), own 10 3 11]), (10, .sq 3 11 5 11), (9, .frz), (11, .frz)], 4, [⟨.exit 0, [(0, yv 8)], [(8, .lp 25 [true, true, true, false, true, false] [junk, junk, junk, junk, junk, .pointer (some ⟨5, 0, none⟩), junk, junk, junk, junk, junk, junk, junk, junk, junk, junk, junk, junk, junk, junk, junk, junk] 0), (5, .cells 71 [.pointer (some ⟨5, 0, none⟩), own 12 0 11]), (12, .sq 0 11 5 13), (13, .frz)], 1⟩]⟩
noncomputable def pou_B : Code := (Tryd.f60.body).getD .skip
noncomputable def pou_x : Code := match codeAt [true, false] pou_B with | some (.loop x) => x | _ => .skip
theorem pou_b : Tryd.f60.body = some pou_B := rfl
theorem pou_p : codeAt [true, false] pou_B = some (.loop pou_x) := by kernel_rfl
def pou_t : Tr := .lt 8 (.bin .lss) [h 2 3, h 1 3] <| .br 4 (.lt 8 (.inbs 1) [h 2 3, h 0 11] <| .br 5 (.dt 11 (.get 1 0) [h 0 11, h 2 3] <| .lt 3 (.len) [h 6 11] <| .fn pin_s [h 2 3, h 0 11, h 1 3, h 2 3, h 6 11, h 7 3, .int .i64 (0), h 3 11] 4 <| .lt 3 (.bin .add) [h 10 3, .int .i64 (1)] <| .ret [.int .i64 (-1), h 8 11, h 9 3, h 12 3, h 11 11]) (.no)) (.ret [.int .i64 (0), h 3 11])
def pou_m : List U → Nat
  | [u_l, .int .i64 n, .int .i64 j, u_b] => (match decS rP u_l with | some l => (match decS rB u_b with | some b => (n - j).toNat | none => 0) | none => 0)
  | _ => 0
theorem pou_me (l : (Option (List (Option (List Int))))) (n : Int) (j : Int) (b : (Option (List Int))) : pou_m [encS rP l, .int .i64 n, .int .i64 j, encS rB b] = (n - j).toNat := by
  simp only [pou_m, decS_enc]
theorem pou_c {G : Nat → Option Obj} (hst : StartOk Tryd.prog G gl H0 n0) : ∀ (E : Nat → U) (base : Nat), @CodeOk ⟨E, G⟩ Tryd.prog base gl Tryd.f60.ntmps pou_x (loopF Tryd.prog gl n0 14 pou_D pou_s) := by
  refine loop_ok (C := cx L_ito P_pin) (dep := 60) (f := 60) (n0 := n0) (nB := 14) (H0 := H0) pou_m pou_t (cxg (L_ito_ok hst) (P_pin_ok hst)) hst Tryd.func60 pou_b pou_p (by kernel_rfl) (by kernel_rfl) (by kernel_rfl) ?_
  intro us d outs hs
  have hs0 := hs
  unfold pou_s at hs
  split at hs
  · skip
    rename_i u_l n j u_b
    have hq_l := Option.bind_eq_some_iff.1 hs
    clear hs
    obtain ⟨l, hd_l, hs⟩ := hq_l
    replace hd_l := decS_eq hd_l
    subst hd_l
    have hq_b := Option.bind_eq_some_iff.1 hs
    clear hs
    obtain ⟨b, hd_b, hs⟩ := hq_b
    replace hd_b := decS_eq hd_b
    subst hd_b
    split at hs
    · rename_i hc
      clear hs hs0
      have hr := hc.2.2.2.2.1
      have hq := rows_pre hc.1 hc.2.1
      refine ⟨rfl, ?_⟩
      unfold pou_t
      refine sat_lt [_, _, _, _, _] (ev_lss _ _ _) ⟨by decide, rfl⟩ rfl ?_
      first | refine sat_br rfl (fun g0 => ?_) (fun g0 => ?_) | refine sat_brB rfl (fun g0 => ?_) (fun g0 => ?_)
      · skip
        refine sat_lt [_, _, _, _, _, _] (ev_inbsS rfl) ⟨by decide, rfl⟩ rfl ?_
        first | refine sat_br rfl (fun g1 => ?_) (fun g1 => ?_) | refine sat_brB rfl (fun g1 => ?_) (fun g1 => ?_)
        · skip
          refine sat_dt (r := rI) [_, _, _, _, _, _, _] (ev_getS rfl (by omega) (by omega) rfl) rfl rfl ?_
          refine sat_lt [_, _, _, _, _, _, _, _] (ev_lenS _ _) ⟨by decide, rfl⟩ rfl ?_
          refine sat_fn [_, _, _, _, _, _, _, _, _, _, _, _] (pin_s_e _ _ _ _ _ _ _ _ ⟨rfl, by omega, by omega, by have := (all_get hc.2.2.2.2.2 (i := j) (by omega) (by omega)).1; omega, by omega, by omega, by show _ + (rowS j 0 (el ((el l).getD j.toNat default))).length ≤ _; omega, (all_get hc.2.2.2.2.2 (by omega) (by omega)).2⟩) rfl rfl ?_
          first | refine sat_lt [_, _, _, _, _, _, _, _, _, _, _, _, _] (ev_addW (wrap64 (by omega) (by omega))) ⟨by decide, rfl⟩ rfl ?_ | refine sat_lt [_, _, _, _, _, _, _, _, _, _, _, _, _] (ev_add _ _ _) ⟨by decide, rfl⟩ rfl ?_
          refine sat_ret [.int .i64 _, encS rP _, .int .i64 _, .int .i64 _, encS rB _] rfl ?_
          refine leaf_back ?_ ?_
          have hl : (rowsS j ((el l).drop j.toNat)) = rowS j 0 (el ((el l).getD j.toNat default)) ++ rowsS (j + 1) ((el l).drop (j + 1).toNat) := by rw [drop_step (el l) hc.2.1 (by omega)]; rfl
          have hz : ∀ q : Option (List Int), (el q).drop (0 : Int).toNat = el q := fun q => rfl
          · rw [pou_s_e l n (j + 1) _ ⟨hc.1, by omega, by omega, hc.2.2.2.1, by rw [el_catS, el_some, List.length_append, bI_len, hz]; rw [hl, List.length_append] at hr; omega, hc.2.2.2.2.2⟩, pou_s_e l n j b hc, catS_catS, ← bI_app, hz, hl]
          · rw [pou_me, pou_me]; omega
        · skip
          first | omega | (exfalso; simp_all; done) | (exfalso; simp_all; omega)
      · skip
        refine sat_ret [.int .i64 _, encS rB _] rfl ?_
        refine leaf_exit (d := 0) ?_
        rw [pou_s_e l n j b hc, drop_end (i := j) (el l) (by omega)]; rfl
    · cases hs
  · cases hs
noncomputable def P_pou : List LpE := (60, ([true, false], loopF Tryd.prog gl n0 14 pou_D pou_s)) :: P_pin
theorem P_pou_ok {G : Nat → Option Obj} (hst : StartOk Tryd.prog G gl H0 n0) : LpsOk Tryd.prog G gl P_pou := .cons Tryd.func60 pou_b pou_p (pou_c hst) (P_pin_ok hst)
end Go.Proofs.YtadmkfclgpbebaaDoor

namespace Go.Proofs.YtadmkfclgpbebaaDoor
set_option linter.all false
open Go Go.Sx
set_option maxRecDepth 100000
set_option linter.unusedVariables false
set_option linter.unusedSimpArgs false
def printS (l : Rws) : List UInt8 × Int := if checkS l ≠ 0 then ([], checkS l) else (rowsS 0 (el l), 0)
theorem rng_none : ∀ n ∈ el (none : Option (List Int)), 0 ≤ n ∧ n < 256 := fun n h => by cases h
theorem rng_cat {x : Option (List Int)} {s : List UInt8} (h : ∀ n ∈ el x, 0 ≤ n ∧ n < 256) : ∀ n ∈ el (catS x (some (bI s))), 0 ≤ n ∧ n < 256 := fun n hn => by
  rw [el_catS] at hn
  rcases List.mem_append.1 hn with h1 | h1
  · exact h n h1
  · exact bI_rng h1
theorem part_len {n : Int} (h0 : -1 ≤ n) (h1 : n ≤ 9999) : (partS n).length ≤ 21 := by
  unfold partS
  split
  · decide
  · exact Lib.itoa_length_le n (by omega) (by omega)
theorem row_len : ∀ {i k : Int} {r : List Int}, (∀ n ∈ r, -1 ≤ n ∧ n ≤ 9999) → (rowS i k r).length ≤ 22 * r.length
  | i, k, [], _ => Nat.zero_le _
  | i, k, n :: r, h => by
    have h1 := h n List.mem_cons_self
    have h2 := part_len h1.1 h1.2
    have h3 := ahead_len i k
    have ih := row_len (i := i) (k := k + 1) fun m hm => h m (List.mem_cons_of_mem _ hm)
    rw [row_cons]
    simp only [List.length_append, List.length_cons]
    omega
theorem rows_len : ∀ {j : Int} {ps : List (Option (List Int))}, (∀ p ∈ ps, (el p).length ≤ 6 ∧ ∀ n ∈ el p, -1 ≤ n ∧ n ≤ 9999) → (rowsS j ps).length ≤ 132 * ps.length
  | j, [], _ => Nat.zero_le _
  | j, p :: ps, h => by
    have h1 := h p List.mem_cons_self
    have h2 := row_len (i := j) (k := 0) h1.2
    have ih := rows_len (j := j + 1) fun q hq => h q (List.mem_cons_of_mem _ hq)
    have : (rowsS j (p :: ps)).length = (rowS j 0 (el p)).length + (rowsS (j + 1) ps).length := List.length_append
    simp only [List.length_cons]
    omega
theorem prt_all (l : Rws) (h : checkS l = 0) : ∀ p ∈ el l, (el p).length ≤ 1000000 ∧ ∀ x ∈ el p, -1 ≤ x ∧ x ≤ 1000000000 := fun p hp => by
  rcases check_bd l with h1 | ⟨_, _, h3⟩
  · omega
  · obtain ⟨_, b, c⟩ := h3 p hp
    exact ⟨by omega, fun x hx => by have := c x hx; omega⟩
theorem prt_pre (l : Rws) : checkS l = 150 ∨ checkS l = 0 ∧ (el l).length ≤ 16 ∧ (((el l).length : Int) = 0 ∨ 1 ≤ (el ((el l).getD (Int.toNat 0) default)).length ∧ (el ((el l).getD (Int.toNat 0) default)).length ≤ 6 ∧
    -1 ≤ (el ((el l).getD (Int.toNat 0) default)).getD (Int.toNat 0) default ∧ (el ((el l).getD (Int.toNat 0) default)).getD (Int.toNat 0) default ≤ 9999 ∧ (Lib.itoa ((el ((el l).getD (Int.toNat 0) default)).getD (Int.toNat 0) default)).length ≤ 21 ∧
    (rowS 0 1 ((el ((el l).getD (Int.toNat 0) default)).drop (Int.toNat 1))).length ≤ 132 ∧ (rowsS (0 + 1) ((el l).drop (0 + 1 : Int).toNat)).length ≤ 2112) := by
  rcases check_bd l with h1 | ⟨h1, h2, h3⟩
  · exact .inl h1
  · refine .inr ⟨h1, h2, ?_⟩
    by_cases h0 : ((el l).length : Int) = 0
    · exact .inl h0
    · obtain ⟨a, b, c⟩ := all_get (i := 0) h3 (by omega) (by omega)
      have d := all_get (i := 0) c (by omega) (by omega)
      refine .inr ⟨a, b, d.1, d.2, Lib.itoa_length_le _ (by omega) (by omega), ?_, ?_⟩
      · refine Nat.le_trans (row_len fun n hn => c n (List.mem_of_mem_drop hn)) ?_
        rw [List.length_drop]; omega
      · refine Nat.le_trans (rows_len fun p hp => (h3 p (List.mem_of_mem_drop hp)).2) ?_
        rw [List.length_drop]; omega
theorem prt_fin {l : Rws} (h0 : 0 < (el l).length) (h1 : 0 < (el ((el l).getD (Int.toNat 0) default)).length) (A : List UInt8) (hA : A = partS ((el ((el l).getD (Int.toNat 0) default)).getD (Int.toNat 0) default)) :
    iB (el (catS (catS (catS none (some (bI A))) (some (bI (rowS 0 1 ((el ((el l).getD (Int.toNat 0) default)).drop (Int.toNat 1)))))) (some (bI (rowsS (0 + 1) ((el l).drop (0 + 1 : Int).toNat)))))) = rowsS 0 (el l) := by
  have e1 : rowsS 0 (el l) = rowS 0 0 (el ((el l).getD (Int.toNat 0) default)) ++ rowsS (0 + 1) ((el l).drop (0 + 1 : Int).toNat) := by
    have := drop_step (el l) (i := 0) (by omega) (by omega)
    rw [drop_zero'] at this
    conv => lhs; rw [this]
    rfl
  have e2 : rowS 0 0 (el ((el l).getD (Int.toNat 0) default)) = A ++ rowS 0 1 ((el ((el l).getD (Int.toNat 0) default)).drop (Int.toNat 1)) := by
    have := drop_step (el ((el l).getD (Int.toNat 0) default)) (i := 0) (by omega) (by omega)
    rw [drop_zero'] at this
    conv => lhs; rw [this]
    rw [row_cons, hA]
    rfl
  rw [e1, e2, catS_catS, catS_catS, ← bI_app, ← bI_app, el_catS, el_some]
  show iB ([] ++ bI _) = _
  rw [List.nil_append, iB_bI, List.append_assoc]
theorem print_0 (l : Rws) (h : checkS l ≠ 0) : printS l = ([], checkS l) := if_pos h
theorem print_1 (l : Rws) (h : checkS l = 0) : printS l = (rowsS 0 (el l), 0) := if_neg (by omega)
def prt_s : List U → Option (Nat × List U)
  | [u_l] => (decS rP u_l).bind fun l => if (el l).length ≤ 1000000000 ∧ ∀ p ∈ el l, (el p).length ≤ 1000000000 then some (0, [.str ((printS l).1), .int .i64 ((printS l).2)]) else none
  | _ => none
theorem prt_s_e (l : (Option (List (Option (List Int))))) (hc : (el l).length ≤ 1000000000 ∧ ∀ p ∈ el l, (el p).length ≤ 1000000000) : prt_s [encS rP l] = some (0, [.str ((printS l).1), .int .i64 ((printS l).2)]) := by
  simp only [prt_s, decS_enc, Option.bind_some]
  exact if_pos hc
def prt_t : Tr := .fn chk_s [h 0 11] 1 <| .lt 8 (.bin .neq) [h 1 3, .int .i64 (0)] <| .br 2 (.ret [.string ⟨⟨[]⟩⟩, h 1 3]) (.lt 3 (.len) [h 0 11] <| .lt 8 (.bin .lss) [.int .i64 (0), h 3 3] <| .br 4 (.lt 8 (.inbs 1) [.int .i64 (0), h 0 11] <| .br 5 (.dt 11 (.get 1 0) [h 0 11, .int .i64 (0)] <| .lt 3 (.len) [h 6 11] <| .lt 8 (.bin .lss) [.int .i64 (0), h 7 3] <| .br 8 (.lt 8 (.inbs 1) [.int .i64 (0), h 6 11] <| .br 9 (.lt 3 (.get 1 0) [h 6 11, .int .i64 (0)] <| .lt 8 (.bin .neq) [h 10 3, .int .i64 (-1)] <| .br 11 (.fn ito_s [h 10 3] 1 <| .lt 9 (.bin .add) [.string ⟨⟨[]⟩⟩, h 12 9] <| .dt 11 (.nilw 1) [] <| .dt 11 (.cats) [h 14 11, h 13 9] <| .lt 3 (.len) [h 13 9] <| .fn pin_s [.int .i64 (0), h 0 11, h 3 3, .int .i64 (0), h 6 11, h 7 3, .int .i64 (1), h 15 11] 4 <| .lt 3 (.bin .add) [h 19 3, .int .i64 (1)] <| .fn pou_s [h 17 11, h 18 3, h 21 3, h 20 11] 1 <| .lt 3 (.len) [h 22 11] <| .lt 9 (.ustr) [h 22 11, h 23 3] <| .ret [h 24 9, .int .i64 (0)]) (.dt 11 (.nilw 1) [] <| .fn pin_s [.int .i64 (0), h 0 11, h 3 3, .int .i64 (0), h 6 11, h 7 3, .int .i64 (1), h 12 11] 4 <| .lt 3 (.bin .add) [h 15 3, .int .i64 (1)] <| .fn pou_s [h 13 11, h 14 3, h 17 3, h 16 11] 1 <| .lt 3 (.len) [h 18 11] <| .lt 9 (.ustr) [h 18 11, h 19 3] <| .ret [h 20 9, .int .i64 (0)])) (.no)) (.lt 8 (.bin .lss) [.int .i64 (1), h 3 3] <| .br 9 (.lt 8 (.inbs 1) [.int .i64 (1), h 0 11] <| .br 10 (.dt 11 (.get 1 0) [h 0 11, .int .i64 (1)] <| .lt 3 (.len) [h 11 11] <| .lt 8 (.bin .lss) [.int .i64 (0), h 12 3] <| .br 13 (.lt 8 (.inbs 1) [.int .i64 (0), h 11 11] <| .br 14 (.lt 3 (.get 1 0) [h 11 11, .int .i64 (0)] <| .lt 8 (.bin .neq) [h 15 3, .int .i64 (-1)] <| .br 16 (.fn ito_s [h 15 3] 1 <| .lt 9 (.bin .add) [.string ⟨⟨[59]⟩⟩, h 17 9] <| .dt 11 (.nilw 1) [] <| .dt 11 (.cats) [h 19 11, h 18 9] <| .lt 3 (.len) [h 18 9] <| .fn pin_s [.int .i64 (1), h 0 11, h 3 3, .int .i64 (1), h 11 11, h 12 3, .int .i64 (1), h 20 11] 4 <| .lt 3 (.bin .add) [h 24 3, .int .i64 (1)] <| .fn pou_s [h 22 11, h 23 3, h 26 3, h 25 11] 1 <| .lt 3 (.len) [h 27 11] <| .lt 9 (.ustr) [h 27 11, h 28 3] <| .ret [h 29 9, .int .i64 (0)]) (.dt 11 (.mk 1) [.int .u8 (59)] <| .fn pin_s [.int .i64 (1), h 0 11, h 3 3, .int .i64 (1), h 11 11, h 12 3, .int .i64 (1), h 17 11] 4 <| .lt 3 (.bin .add) [h 20 3, .int .i64 (1)] <| .fn pou_s [h 18 11, h 19 3, h 22 3, h 21 11] 1 <| .lt 3 (.len) [h 23 11] <| .lt 9 (.ustr) [h 23 11, h 24 3] <| .ret [h 25 9, .int .i64 (0)])) (.no)) (.lt 8 (.bin .lss) [.int .i64 (2), h 3 3] <| .br 14 (.lt 8 (.inbs 1) [.int .i64 (2), h 0 11] <| .br 15 (.dt 11 (.get 1 0) [h 0 11, .int .i64 (2)] <| .lt 3 (.len) [h 16 11] <| .lt 8 (.bin .lss) [.int .i64 (0), h 17 3] <| .br 18 (.lt 8 (.inbs 1) [.int .i64 (0), h 16 11] <| .br 19 (.lt 3 (.get 1 0) [h 16 11, .int .i64 (0)] <| .lt 8 (.bin .neq) [h 20 3, .int .i64 (-1)] <| .br 21 (.fn ito_s [h 20 3] 1 <| .lt 9 (.bin .add) [.string ⟨⟨[59]⟩⟩, h 22 9] <| .dt 11 (.nilw 1) [] <| .dt 11 (.cats) [h 24 11, h 23 9] <| .lt 3 (.len) [h 23 9] <| .fn pin_s [.int .i64 (2), h 0 11, h 3 3, .int .i64 (2), h 16 11, h 17 3, .int .i64 (1), h 25 11] 4 <| .lt 3 (.bin .add) [h 29 3, .int .i64 (1)] <| .fn pou_s [h 27 11, h 28 3, h 31 3, h 30 11] 1 <| .lt 3 (.len) [h 32 11] <| .lt 9 (.ustr) [h 32 11, h 33 3] <| .ret [h 34 9, .int .i64 (0)]) (.dt 11 (.mk 1) [.int .u8 (59)] <| .fn pin_s [.int .i64 (2), h 0 11, h 3 3, .int .i64 (2), h 16 11, h 17 3, .int .i64 (1), h 22 11] 4 <| .lt 3 (.bin .add) [h 25 3, .int .i64 (1)] <| .fn pou_s [h 23 11, h 24 3, h 27 3, h 26 11] 1 <| .lt 3 (.len) [h 28 11] <| .lt 9 (.ustr) [h 28 11, h 29 3] <| .ret [h 30 9, .int .i64 (0)])) (.no)) (.lt 8 (.bin .lss) [.int .i64 (3), h 3 3] <| .br 19 (.no) (.ret [.string ⟨⟨[]⟩⟩, .int .i64 (0)]))) (.no)) (.ret [.string ⟨⟨[]⟩⟩, .int .i64 (0)]))) (.no)) (.ret [.string ⟨⟨[]⟩⟩, .int .i64 (0)]))) (.no)) (.ret [.string ⟨⟨[]⟩⟩, .int .i64 (0)]))
theorem prt_c {G : Nat → Option Obj} (hst : StartOk Tryd.prog G gl H0 n0) : ConOk Tryd.prog G 25 [.s 11] prt_s [.s 9, .s 3] := by
  refine con_of_tree (C := cx L_ito P_pou) (d := 60) prt_t (cxg (L_ito_ok hst) (P_pou_ok hst)) hst ⟨Tryd.f25, _, Tryd.func25, rfl⟩ (by kernel_rfl) (by kernel_rfl) ?_
  intro us outs hs
  unfold prt_s at hs
  split at hs
  · skip
    rename_i u_l
    have hq_l := Option.bind_eq_some_iff.1 hs
    clear hs
    obtain ⟨l, hd_l, hs⟩ := hq_l
    replace hd_l := decS_eq hd_l
    subst hd_l
    split at hs
    · rename_i hc
      cases hs
      have hb := prt_pre l
      have hn0 : (el (none : Option (List Int))).length = 0 := rfl
      unfold prt_t
      refine sat_fn [_, _] (chk_s_e _ (by omega)) rfl rfl ?_
      refine sat_lt [_, _, _] (ev_neq _ _ _) ⟨by decide, rfl⟩ rfl ?_
      first | refine sat_br rfl (fun g0 => ?_) (fun g0 => ?_) | refine sat_brB rfl (fun g0 => ?_) (fun g0 => ?_)
      · skip
        refine sat_ret [.str _, .int .i64 _] rfl ?_
        first | (exfalso; omega) | (rw [print_0 l (by omega)]; done) | (rw [print_1 l (by omega), show el l = [] from List.length_eq_zero_iff.1 (by omega)]; rfl) | (rw [print_1 l (by omega)]; exact congrArg (fun s => [U.str s, U.int .i64 0]) (prt_fin (by omega) (by omega) _ (by clear hb hc; generalize (el ((el l).getD (Int.toNat 0) default)).getD (Int.toNat 0) default = g at *; simp [partS, *]))) | (rw [print_1 l (by omega)]; exact congrArg (fun s => [U.str s, U.int .i64 0]) (prt_fin (l := l) (by omega) (by omega) [] (by clear hb hc; generalize (el ((el l).getD (Int.toNat 0) default)).getD (Int.toNat 0) default = g at *; simp [partS, *])))
      · skip
        refine sat_lt [_, _, _, _] (ev_lenS _ _) ⟨by decide, rfl⟩ rfl ?_
        refine sat_lt [_, _, _, _, _] (ev_lss _ _ _) ⟨by decide, rfl⟩ rfl ?_
        first | refine sat_br rfl (fun g1 => ?_) (fun g1 => ?_) | refine sat_brB rfl (fun g1 => ?_) (fun g1 => ?_)
        · skip
          refine sat_lt [_, _, _, _, _, _] (ev_inbsS rfl) ⟨by decide, rfl⟩ rfl ?_
          first | refine sat_br rfl (fun g2 => ?_) (fun g2 => ?_) | refine sat_brB rfl (fun g2 => ?_) (fun g2 => ?_)
          · skip
            refine sat_dt (r := rI) [_, _, _, _, _, _, _] (ev_getS rfl (by omega) (by omega) rfl) rfl rfl ?_
            refine sat_lt [_, _, _, _, _, _, _, _] (ev_lenS _ _) ⟨by decide, rfl⟩ rfl ?_
            refine sat_lt [_, _, _, _, _, _, _, _, _] (ev_lss _ _ _) ⟨by decide, rfl⟩ rfl ?_
            first | refine sat_br rfl (fun g3 => ?_) (fun g3 => ?_) | refine sat_brB rfl (fun g3 => ?_) (fun g3 => ?_)
            · skip
              refine sat_lt [_, _, _, _, _, _, _, _, _, _] (ev_inbsS rfl) ⟨by decide, rfl⟩ rfl ?_
              first | refine sat_br rfl (fun g4 => ?_) (fun g4 => ?_) | refine sat_brB rfl (fun g4 => ?_) (fun g4 => ?_)
              · skip
                refine sat_lt (u := .int .i64 _) [_, _, _, _, _, _, _, _, _, _, _] (ev_getS rfl (by omega) (by omega) rfl) ⟨by decide, rfl⟩ rfl ?_
                refine sat_lt [_, _, _, _, _, _, _, _, _, _, _, _] (ev_neq _ _ _) ⟨by decide, rfl⟩ rfl ?_
                first | refine sat_br rfl (fun g5 => ?_) (fun g5 => ?_) | refine sat_brB rfl (fun g5 => ?_) (fun g5 => ?_)
                · skip
                  refine sat_fn [_, _, _, _, _, _, _, _, _, _, _, _, _] (ito_s_e _ (by omega)) rfl rfl ?_
                  refine sat_lt [_, _, _, _, _, _, _, _, _, _, _, _, _, _] (ev_cat _ _ (by first | omega | (simp only [List.length_append, List.length_cons, List.length_nil]; omega) | (simp only [el_catS, el_some, List.length_append, bI_len, List.length_cons, List.length_nil]; omega))) ⟨by decide, rfl⟩ rfl ?_
                  refine sat_dt (r := rB) [_, _, _, _, _, _, _, _, _, _, _, _, _, _, _] (ev_nilwS rfl) rfl rfl ?_
                  refine sat_dt (r := rB) [_, _, _, _, _, _, _, _, _, _, _, _, _, _, _, _] (ev_catsS rfl (by first | omega | (simp only [List.length_append, List.length_cons, List.length_nil]; omega) | (simp only [el_catS, el_some, List.length_append, bI_len, List.length_cons, List.length_nil]; omega))) rfl rfl ?_
                  refine sat_lt [_, _, _, _, _, _, _, _, _, _, _, _, _, _, _, _, _] (ev_len _) ⟨by decide, rfl⟩ rfl ?_
                  refine sat_fn [_, _, _, _, _, _, _, _, _, _, _, _, _, _, _, _, _, _, _, _, _] (pin_s_e _ _ _ _ _ _ _ _ ⟨rfl, by omega, by omega, by omega, by omega, by omega, by first | omega | (simp only [el_catS, el_some, List.length_append, bI_len, List.length_nil, List.length_cons]; omega), by first | exact (all_get (prt_all l (by omega)) (i := 0) (by omega) (by omega)).2 | (exfalso; omega)⟩) rfl rfl ?_
                  first | refine sat_lt [_, _, _, _, _, _, _, _, _, _, _, _, _, _, _, _, _, _, _, _, _, _] (ev_addW (wrap64 (by omega) (by omega))) ⟨by decide, rfl⟩ rfl ?_ | refine sat_lt [_, _, _, _, _, _, _, _, _, _, _, _, _, _, _, _, _, _, _, _, _, _] (ev_add _ _ _) ⟨by decide, rfl⟩ rfl ?_
                  refine sat_fn [_, _, _, _, _, _, _, _, _, _, _, _, _, _, _, _, _, _, _, _, _, _, _] (pou_s_e _ _ _ _ ⟨rfl, by omega, by omega, by omega, by first | omega | (simp only [el_catS, el_some, List.length_append, bI_len, List.length_nil, List.length_cons]; omega), prt_all l (by omega)⟩) rfl rfl ?_
                  refine sat_lt [_, _, _, _, _, _, _, _, _, _, _, _, _, _, _, _, _, _, _, _, _, _, _, _] (ev_lenS _ _) ⟨by decide, rfl⟩ rfl ?_
                  refine sat_lt [_, _, _, _, _, _, _, _, _, _, _, _, _, _, _, _, _, _, _, _, _, _, _, _, _] (ev_ustrS rfl (by omega) (by first | omega | (simp only [List.length_append, List.length_cons, List.length_nil]; omega) | (simp only [el_catS, el_some, List.length_append, bI_len, List.length_cons, List.length_nil]; omega)) (by first | exact rng_none | exact rng_cat rng_none | exact rng_cat (rng_cat rng_none) | exact rng_cat (rng_cat (rng_cat rng_none)) | (exfalso; omega))) ⟨by decide, rfl⟩ rfl ?_
                  refine sat_ret [.str _, .int .i64 _] rfl ?_
                  first | (exfalso; omega) | (rw [print_0 l (by omega)]; done) | (rw [print_1 l (by omega), show el l = [] from List.length_eq_zero_iff.1 (by omega)]; rfl) | (rw [print_1 l (by omega)]; exact congrArg (fun s => [U.str s, U.int .i64 0]) (prt_fin (by omega) (by omega) _ (by clear hb hc; generalize (el ((el l).getD (Int.toNat 0) default)).getD (Int.toNat 0) default = g at *; simp [partS, *]))) | (rw [print_1 l (by omega)]; exact congrArg (fun s => [U.str s, U.int .i64 0]) (prt_fin (l := l) (by omega) (by omega) [] (by clear hb hc; generalize (el ((el l).getD (Int.toNat 0) default)).getD (Int.toNat 0) default = g at *; simp [partS, *])))
                · skip
                  refine sat_dt (r := rB) [_, _, _, _, _, _, _, _, _, _, _, _, _] (ev_nilwS rfl) rfl rfl ?_
                  refine sat_fn [_, _, _, _, _, _, _, _, _, _, _, _, _, _, _, _, _] (pin_s_e _ _ _ _ _ _ _ _ ⟨rfl, by omega, by omega, by omega, by omega, by omega, by first | omega | (simp only [el_catS, el_some, List.length_append, bI_len, List.length_nil, List.length_cons]; omega), by first | exact (all_get (prt_all l (by omega)) (i := 0) (by omega) (by omega)).2 | (exfalso; omega)⟩) rfl rfl ?_
                  first | refine sat_lt [_, _, _, _, _, _, _, _, _, _, _, _, _, _, _, _, _, _] (ev_addW (wrap64 (by omega) (by omega))) ⟨by decide, rfl⟩ rfl ?_ | refine sat_lt [_, _, _, _, _, _, _, _, _, _, _, _, _, _, _, _, _, _] (ev_add _ _ _) ⟨by decide, rfl⟩ rfl ?_
                  refine sat_fn [_, _, _, _, _, _, _, _, _, _, _, _, _, _, _, _, _, _, _] (pou_s_e _ _ _ _ ⟨rfl, by omega, by omega, by omega, by first | omega | (simp only [el_catS, el_some, List.length_append, bI_len, List.length_nil, List.length_cons]; omega), prt_all l (by omega)⟩) rfl rfl ?_
                  refine sat_lt [_, _, _, _, _, _, _, _, _, _, _, _, _, _, _, _, _, _, _, _] (ev_lenS _ _) ⟨by decide, rfl⟩ rfl ?_
                  refine sat_lt [_, _, _, _, _, _, _, _, _, _, _, _, _, _, _, _, _, _, _, _, _] (ev_ustrS rfl (by omega) (by first | omega | (simp only [List.length_append, List.length_cons, List.length_nil]; omega) | (simp only [el_catS, el_some, List.length_append, bI_len, List.length_cons, List.length_nil]; omega)) (by first | exact rng_none | exact rng_cat rng_none | exact rng_cat (rng_cat rng_none) | exact rng_cat (rng_cat (rng_cat rng_none)) | (exfalso; omega))) ⟨by decide, rfl⟩ rfl ?_
                  refine sat_ret [.str _, .int .i64 _] rfl ?_
                  first | (exfalso; omega) | (rw [print_0 l (by omega)]; done) | (rw [print_1 l (by omega), show el l = [] from List.length_eq_zero_iff.1 (by omega)]; rfl) | (rw [print_1 l (by omega)]; exact congrArg (fun s => [U.str s, U.int .i64 0]) (prt_fin (by omega) (by omega) _ (by clear hb hc; generalize (el ((el l).getD (Int.toNat 0) default)).getD (Int.toNat 0) default = g at *; simp [partS, *]))) | (rw [print_1 l (by omega)]; exact congrArg (fun s => [U.str s, U.int .i64 0]) (prt_fin (l := l) (by omega) (by omega) [] (by clear hb hc; generalize (el ((el l).getD (Int.toNat 0) default)).getD (Int.toNat 0) default = g at *; simp [partS, *])))
              · skip
                first | omega | (exfalso; simp_all; done) | (exfalso; simp_all; omega)
            · skip
              refine sat_lt [_, _, _, _, _, _, _, _, _, _] (ev_lss _ _ _) ⟨by decide, rfl⟩ rfl ?_
              first | refine sat_br rfl (fun g4 => ?_) (fun g4 => ?_) | refine sat_brB rfl (fun g4 => ?_) (fun g4 => ?_)
              · skip
                refine sat_lt [_, _, _, _, _, _, _, _, _, _, _] (ev_inbsS rfl) ⟨by decide, rfl⟩ rfl ?_
                first | refine sat_br rfl (fun g5 => ?_) (fun g5 => ?_) | refine sat_brB rfl (fun g5 => ?_) (fun g5 => ?_)
                · skip
                  refine sat_dt (r := rI) [_, _, _, _, _, _, _, _, _, _, _, _] (ev_getS rfl (by omega) (by omega) rfl) rfl rfl ?_
                  refine sat_lt [_, _, _, _, _, _, _, _, _, _, _, _, _] (ev_lenS _ _) ⟨by decide, rfl⟩ rfl ?_
                  refine sat_lt [_, _, _, _, _, _, _, _, _, _, _, _, _, _] (ev_lss _ _ _) ⟨by decide, rfl⟩ rfl ?_
                  first | refine sat_br rfl (fun g6 => ?_) (fun g6 => ?_) | refine sat_brB rfl (fun g6 => ?_) (fun g6 => ?_)
                  · skip
                    refine sat_lt [_, _, _, _, _, _, _, _, _, _, _, _, _, _, _] (ev_inbsS rfl) ⟨by decide, rfl⟩ rfl ?_
                    first | refine sat_br rfl (fun g7 => ?_) (fun g7 => ?_) | refine sat_brB rfl (fun g7 => ?_) (fun g7 => ?_)
                    · skip
                      refine sat_lt (u := .int .i64 _) [_, _, _, _, _, _, _, _, _, _, _, _, _, _, _, _] (ev_getS rfl (by omega) (by omega) rfl) ⟨by decide, rfl⟩ rfl ?_
                      refine sat_lt [_, _, _, _, _, _, _, _, _, _, _, _, _, _, _, _, _] (ev_neq _ _ _) ⟨by decide, rfl⟩ rfl ?_
                      first | refine sat_br rfl (fun g8 => ?_) (fun g8 => ?_) | refine sat_brB rfl (fun g8 => ?_) (fun g8 => ?_)
                      · skip
                        refine sat_fn [_, _, _, _, _, _, _, _, _, _, _, _, _, _, _, _, _, _] (ito_s_e _ (by omega)) rfl rfl ?_
                        refine sat_lt [_, _, _, _, _, _, _, _, _, _, _, _, _, _, _, _, _, _, _] (ev_cat _ _ (by first | omega | (simp only [List.length_append, List.length_cons, List.length_nil]; omega) | (simp only [el_catS, el_some, List.length_append, bI_len, List.length_cons, List.length_nil]; omega))) ⟨by decide, rfl⟩ rfl ?_
                        refine sat_dt (r := rB) [_, _, _, _, _, _, _, _, _, _, _, _, _, _, _, _, _, _, _, _] (ev_nilwS rfl) rfl rfl ?_
                        refine sat_dt (r := rB) [_, _, _, _, _, _, _, _, _, _, _, _, _, _, _, _, _, _, _, _, _] (ev_catsS rfl (by first | omega | (simp only [List.length_append, List.length_cons, List.length_nil]; omega) | (simp only [el_catS, el_some, List.length_append, bI_len, List.length_cons, List.length_nil]; omega))) rfl rfl ?_
                        refine sat_lt [_, _, _, _, _, _, _, _, _, _, _, _, _, _, _, _, _, _, _, _, _, _] (ev_len _) ⟨by decide, rfl⟩ rfl ?_
                        refine sat_fn [_, _, _, _, _, _, _, _, _, _, _, _, _, _, _, _, _, _, _, _, _, _, _, _, _, _] (pin_s_e _ _ _ _ _ _ _ _ ⟨rfl, by omega, by omega, by omega, by omega, by omega, by first | omega | (simp only [el_catS, el_some, List.length_append, bI_len, List.length_nil, List.length_cons]; omega), by first | exact (all_get (prt_all l (by omega)) (i := 0) (by omega) (by omega)).2 | (exfalso; omega)⟩) rfl rfl ?_
                        first | refine sat_lt [_, _, _, _, _, _, _, _, _, _, _, _, _, _, _, _, _, _, _, _, _, _, _, _, _, _, _] (ev_addW (wrap64 (by omega) (by omega))) ⟨by decide, rfl⟩ rfl ?_ | refine sat_lt [_, _, _, _, _, _, _, _, _, _, _, _, _, _, _, _, _, _, _, _, _, _, _, _, _, _, _] (ev_add _ _ _) ⟨by decide, rfl⟩ rfl ?_
                        refine sat_fn [_, _, _, _, _, _, _, _, _, _, _, _, _, _, _, _, _, _, _, _, _, _, _, _, _, _, _, _] (pou_s_e _ _ _ _ ⟨rfl, by omega, by omega, by omega, by first | omega | (simp only [el_catS, el_some, List.length_append, bI_len, List.length_nil, List.length_cons]; omega), prt_all l (by omega)⟩) rfl rfl ?_
                        refine sat_lt [_, _, _, _, _, _, _, _, _, _, _, _, _, _, _, _, _, _, _, _, _, _, _, _, _, _, _, _, _] (ev_lenS _ _) ⟨by decide, rfl⟩ rfl ?_
                        refine sat_lt [_, _, _, _, _, _, _, _, _, _, _, _, _, _, _, _, _, _, _, _, _, _, _, _, _, _, _, _, _, _] (ev_ustrS rfl (by omega) (by first | omega | (simp only [List.length_append, List.length_cons, List.length_nil]; omega) | (simp only [el_catS, el_some, List.length_append, bI_len, List.length_cons, List.length_nil]; omega)) (by first | exact rng_none | exact rng_cat rng_none | exact rng_cat (rng_cat rng_none) | exact rng_cat (rng_cat (rng_cat rng_none)) | (exfalso; omega))) ⟨by decide, rfl⟩ rfl ?_
                        refine sat_ret [.str _, .int .i64 _] rfl ?_
                        first | (exfalso; omega) | (rw [print_0 l (by omega)]; done) | (rw [print_1 l (by omega), show el l = [] from List.length_eq_zero_iff.1 (by omega)]; rfl) | (rw [print_1 l (by omega)]; exact congrArg (fun s => [U.str s, U.int .i64 0]) (prt_fin (by omega) (by omega) _ (by clear hb hc; generalize (el ((el l).getD (Int.toNat 0) default)).getD (Int.toNat 0) default = g at *; simp [partS, *]))) | (rw [print_1 l (by omega)]; exact congrArg (fun s => [U.str s, U.int .i64 0]) (prt_fin (l := l) (by omega) (by omega) [] (by clear hb hc; generalize (el ((el l).getD (Int.toNat 0) default)).getD (Int.toNat 0) default = g at *; simp [partS, *])))
                      · skip
                        refine sat_dt (r := rB) [_, _, _, _, _, _, _, _, _, _, _, _, _, _, _, _, _, _] (ev_mkS [_] rfl (by decide) rfl) rfl rfl ?_
                        refine sat_fn [_, _, _, _, _, _, _, _, _, _, _, _, _, _, _, _, _, _, _, _, _, _] (pin_s_e _ _ _ _ _ _ _ _ ⟨rfl, by omega, by omega, by omega, by omega, by omega, by first | omega | (simp only [el_catS, el_some, List.length_append, bI_len, List.length_nil, List.length_cons]; omega), by first | exact (all_get (prt_all l (by omega)) (i := 0) (by omega) (by omega)).2 | (exfalso; omega)⟩) rfl rfl ?_
                        first | refine sat_lt [_, _, _, _, _, _, _, _, _, _, _, _, _, _, _, _, _, _, _, _, _, _, _] (ev_addW (wrap64 (by omega) (by omega))) ⟨by decide, rfl⟩ rfl ?_ | refine sat_lt [_, _, _, _, _, _, _, _, _, _, _, _, _, _, _, _, _, _, _, _, _, _, _] (ev_add _ _ _) ⟨by decide, rfl⟩ rfl ?_
                        refine sat_fn [_, _, _, _, _, _, _, _, _, _, _, _, _, _, _, _, _, _, _, _, _, _, _, _] (pou_s_e _ _ _ _ ⟨rfl, by omega, by omega, by omega, by first | omega | (simp only [el_catS, el_some, List.length_append, bI_len, List.length_nil, List.length_cons]; omega), prt_all l (by omega)⟩) rfl rfl ?_
                        refine sat_lt [_, _, _, _, _, _, _, _, _, _, _, _, _, _, _, _, _, _, _, _, _, _, _, _, _] (ev_lenS _ _) ⟨by decide, rfl⟩ rfl ?_
                        refine sat_lt [_, _, _, _, _, _, _, _, _, _, _, _, _, _, _, _, _, _, _, _, _, _, _, _, _, _] (ev_ustrS rfl (by omega) (by first | omega | (simp only [List.length_append, List.length_cons, List.length_nil]; omega) | (simp only [el_catS, el_some, List.length_append, bI_len, List.length_cons, List.length_nil]; omega)) (by first | exact rng_none | exact rng_cat rng_none | exact rng_cat (rng_cat rng_none) | exact rng_cat (rng_cat (rng_cat rng_none)) | (exfalso; omega))) ⟨by decide, rfl⟩ rfl ?_
                        refine sat_ret [.str _, .int .i64 _] rfl ?_
                        first | (exfalso; omega) | (rw [print_0 l (by omega)]; done) | (rw [print_1 l (by omega), show el l = [] from List.length_eq_zero_iff.1 (by omega)]; rfl) | (rw [print_1 l (by omega)]; exact congrArg (fun s => [U.str s, U.int .i64 0]) (prt_fin (by omega) (by omega) _ (by clear hb hc; generalize (el ((el l).getD (Int.toNat 0) default)).getD (Int.toNat 0) default = g at *; simp [partS, *]))) | (rw [print_1 l (by omega)]; exact congrArg (fun s => [U.str s, U.int .i64 0]) (prt_fin (l := l) (by omega) (by omega) [] (by clear hb hc; generalize (el ((el l).getD (Int.toNat 0) default)).getD (Int.toNat 0) default = g at *; simp [partS, *])))
                    · skip
                      first | omega | (exfalso; simp_all; done) | (exfalso; simp_all; omega)
                  · skip
                    refine sat_lt [_, _, _, _, _, _, _, _, _, _, _, _, _, _, _] (ev_lss _ _ _) ⟨by decide, rfl⟩ rfl ?_
                    first | refine sat_br rfl (fun g7 => ?_) (fun g7 => ?_) | refine sat_brB rfl (fun g7 => ?_) (fun g7 => ?_)
                    · skip
                      refine sat_lt [_, _, _, _, _, _, _, _, _, _, _, _, _, _, _, _] (ev_inbsS rfl) ⟨by decide, rfl⟩ rfl ?_
                      first | refine sat_br rfl (fun g8 => ?_) (fun g8 => ?_) | refine sat_brB rfl (fun g8 => ?_) (fun g8 => ?_)
                      · skip
                        refine sat_dt (r := rI) [_, _, _, _, _, _, _, _, _, _, _, _, _, _, _, _, _] (ev_getS rfl (by omega) (by omega) rfl) rfl rfl ?_
                        refine sat_lt [_, _, _, _, _, _, _, _, _, _, _, _, _, _, _, _, _, _] (ev_lenS _ _) ⟨by decide, rfl⟩ rfl ?_
                        refine sat_lt [_, _, _, _, _, _, _, _, _, _, _, _, _, _, _, _, _, _, _] (ev_lss _ _ _) ⟨by decide, rfl⟩ rfl ?_
                        first | refine sat_br rfl (fun g9 => ?_) (fun g9 => ?_) | refine sat_brB rfl (fun g9 => ?_) (fun g9 => ?_)
                        · skip
                          refine sat_lt [_, _, _, _, _, _, _, _, _, _, _, _, _, _, _, _, _, _, _, _] (ev_inbsS rfl) ⟨by decide, rfl⟩ rfl ?_
                          first | refine sat_br rfl (fun g10 => ?_) (fun g10 => ?_) | refine sat_brB rfl (fun g10 => ?_) (fun g10 => ?_)
                          · skip
                            refine sat_lt (u := .int .i64 _) [_, _, _, _, _, _, _, _, _, _, _, _, _, _, _, _, _, _, _, _, _] (ev_getS rfl (by omega) (by omega) rfl) ⟨by decide, rfl⟩ rfl ?_
                            refine sat_lt [_, _, _, _, _, _, _, _, _, _, _, _, _, _, _, _, _, _, _, _, _, _] (ev_neq _ _ _) ⟨by decide, rfl⟩ rfl ?_
                            first | refine sat_br rfl (fun g11 => ?_) (fun g11 => ?_) | refine sat_brB rfl (fun g11 => ?_) (fun g11 => ?_)
                            · skip
                              refine sat_fn [_, _, _, _, _, _, _, _, _, _, _, _, _, _, _, _, _, _, _, _, _, _, _] (ito_s_e _ (by omega)) rfl rfl ?_
                              refine sat_lt [_, _, _, _, _, _, _, _, _, _, _, _, _, _, _, _, _, _, _, _, _, _, _, _] (ev_cat _ _ (by first | omega | (simp only [List.length_append, List.length_cons, List.length_nil]; omega) | (simp only [el_catS, el_some, List.length_append, bI_len, List.length_cons, List.length_nil]; omega))) ⟨by decide, rfl⟩ rfl ?_
                              refine sat_dt (r := rB) [_, _, _, _, _, _, _, _, _, _, _, _, _, _, _, _, _, _, _, _, _, _, _, _, _] (ev_nilwS rfl) rfl rfl ?_
                              refine sat_dt (r := rB) [_, _, _, _, _, _, _, _, _, _, _, _, _, _, _, _, _, _, _, _, _, _, _, _, _, _] (ev_catsS rfl (by first | omega | (simp only [List.length_append, List.length_cons, List.length_nil]; omega) | (simp only [el_catS, el_some, List.length_append, bI_len, List.length_cons, List.length_nil]; omega))) rfl rfl ?_
                              refine sat_lt [_, _, _, _, _, _, _, _, _, _, _, _, _, _, _, _, _, _, _, _, _, _, _, _, _, _, _] (ev_len _) ⟨by decide, rfl⟩ rfl ?_
                              refine sat_fn [_, _, _, _, _, _, _, _, _, _, _, _, _, _, _, _, _, _, _, _, _, _, _, _, _, _, _, _, _, _, _] (pin_s_e _ _ _ _ _ _ _ _ ⟨rfl, by omega, by omega, by omega, by omega, by omega, by first | omega | (simp only [el_catS, el_some, List.length_append, bI_len, List.length_nil, List.length_cons]; omega), by first | exact (all_get (prt_all l (by omega)) (i := 0) (by omega) (by omega)).2 | (exfalso; omega)⟩) rfl rfl ?_
                              first | refine sat_lt [_, _, _, _, _, _, _, _, _, _, _, _, _, _, _, _, _, _, _, _, _, _, _, _, _, _, _, _, _, _, _, _] (ev_addW (wrap64 (by omega) (by omega))) ⟨by decide, rfl⟩ rfl ?_ | refine sat_lt [_, _, _, _, _, _, _, _, _, _, _, _, _, _, _, _, _, _, _, _, _, _, _, _, _, _, _, _, _, _, _, _] (ev_add _ _ _) ⟨by decide, rfl⟩ rfl ?_
                              refine sat_fn [_, _, _, _, _, _, _, _, _, _, _, _, _, _, _, _, _, _, _, _, _, _, _, _, _, _, _, _, _, _, _, _, _] (pou_s_e _ _ _ _ ⟨rfl, by omega, by omega, by omega, by first | omega | (simp only [el_catS, el_some, List.length_append, bI_len, List.length_nil, List.length_cons]; omega), prt_all l (by omega)⟩) rfl rfl ?_
                              refine sat_lt [_, _, _, _, _, _, _, _, _, _, _, _, _, _, _, _, _, _, _, _, _, _, _, _, _, _, _, _, _, _, _, _, _, _] (ev_lenS _ _) ⟨by decide, rfl⟩ rfl ?_
                              refine sat_lt [_, _, _, _, _, _, _, _, _, _, _, _, _, _, _, _, _, _, _, _, _, _, _, _, _, _, _, _, _, _, _, _, _, _, _] (ev_ustrS rfl (by omega) (by first | omega | (simp only [List.length_append, List.length_cons, List.length_nil]; omega) | (simp only [el_catS, el_some, List.length_append, bI_len, List.length_cons, List.length_nil]; omega)) (by first | exact rng_none | exact rng_cat rng_none | exact rng_cat (rng_cat rng_none) | exact rng_cat (rng_cat (rng_cat rng_none)) | (exfalso; omega))) ⟨by decide, rfl⟩ rfl ?_
                              refine sat_ret [.str _, .int .i64 _] rfl ?_
                              first | (exfalso; omega) | (rw [print_0 l (by omega)]; done) | (rw [print_1 l (by omega), show el l = [] from List.length_eq_zero_iff.1 (by omega)]; rfl) | (rw [print_1 l (by omega)]; exact congrArg (fun s => [U.str s, U.int .i64 0]) (prt_fin (by omega) (by omega) _ (by clear hb hc; generalize (el ((el l).getD (Int.toNat 0) default)).getD (Int.toNat 0) default = g at *; simp [partS, *]))) | (rw [print_1 l (by omega)]; exact congrArg (fun s => [U.str s, U.int .i64 0]) (prt_fin (l := l) (by omega) (by omega) [] (by clear hb hc; generalize (el ((el l).getD (Int.toNat 0) default)).getD (Int.toNat 0) default = g at *; simp [partS, *])))
                            · skip
                              refine sat_dt (r := rB) [_, _, _, _, _, _, _, _, _, _, _, _, _, _, _, _, _, _, _, _, _, _, _] (ev_mkS [_] rfl (by decide) rfl) rfl rfl ?_
                              refine sat_fn [_, _, _, _, _, _, _, _, _, _, _, _, _, _, _, _, _, _, _, _, _, _, _, _, _, _, _] (pin_s_e _ _ _ _ _ _ _ _ ⟨rfl, by omega, by omega, by omega, by omega, by omega, by first | omega | (simp only [el_catS, el_some, List.length_append, bI_len, List.length_nil, List.length_cons]; omega), by first | exact (all_get (prt_all l (by omega)) (i := 0) (by omega) (by omega)).2 | (exfalso; omega)⟩) rfl rfl ?_
                              first | refine sat_lt [_, _, _, _, _, _, _, _, _, _, _, _, _, _, _, _, _, _, _, _, _, _, _, _, _, _, _, _] (ev_addW (wrap64 (by omega) (by omega))) ⟨by decide, rfl⟩ rfl ?_ | refine sat_lt [_, _, _, _, _, _, _, _, _, _, _, _, _, _, _, _, _, _, _, _, _, _, _, _, _, _, _, _] (ev_add _ _ _) ⟨by decide, rfl⟩ rfl ?_
                              refine sat_fn [_, _, _, _, _, _, _, _, _, _, _, _, _, _, _, _, _, _, _, _, _, _, _, _, _, _, _, _, _] (pou_s_e _ _ _ _ ⟨rfl, by omega, by omega, by omega, by first | omega | (simp only [el_catS, el_some, List.length_append, bI_len, List.length_nil, List.length_cons]; omega), prt_all l (by omega)⟩) rfl rfl ?_
                              refine sat_lt [_, _, _, _, _, _, _, _, _, _, _, _, _, _, _, _, _, _, _, _, _, _, _, _, _, _, _, _, _, _] (ev_lenS _ _) ⟨by decide, rfl⟩ rfl ?_
                              refine sat_lt [_, _, _, _, _, _, _, _, _, _, _, _, _, _, _, _, _, _, _, _, _, _, _, _, _, _, _, _, _, _, _] (ev_ustrS rfl (by omega) (by first | omega | (simp only [List.length_append, List.length_cons, List.length_nil]; omega) | (simp only [el_catS, el_some, List.length_append, bI_len, List.length_cons, List.length_nil]; omega)) (by first | exact rng_none | exact rng_cat rng_none | exact rng_cat (rng_cat rng_none) | exact rng_cat (rng_cat (rng_cat rng_none)) | (exfalso; omega))) ⟨by decide, rfl⟩ rfl ?_
                              refine sat_ret [.str _, .int .i64 _] rfl ?_
                              first | (exfalso; omega) | (rw [print_0 l (by omega)]; done) | (rw [print_1 l (by omega), show el l = [] from List.length_eq_zero_iff.1 (by omega)]; rfl) | (rw [print_1 l (by omega)]; exact congrArg (fun s => [U.str s, U.int .i64 0]) (prt_fin (by omega) (by omega) _ (by clear hb hc; generalize (el ((el l).getD (Int.toNat 0) default)).getD (Int.toNat 0) default = g at *; simp [partS, *]))) | (rw [print_1 l (by omega)]; exact congrArg (fun s => [U.str s, U.int .i64 0]) (prt_fin (l := l) (by omega) (by omega) [] (by clear hb hc; generalize (el ((el l).getD (Int.toNat 0) default)).getD (Int.toNat 0) default = g at *; simp [partS, *])))
                          · skip
                            first | omega | (exfalso; simp_all; done) | (exfalso; simp_all; omega)
                        · skip
                          refine sat_lt [_, _, _, _, _, _, _, _, _, _, _, _, _, _, _, _, _, _, _, _] (ev_lss _ _ _) ⟨by decide, rfl⟩ rfl ?_
                          first | refine sat_br rfl (fun g10 => ?_) (fun g10 => ?_) | refine sat_brB rfl (fun g10 => ?_) (fun g10 => ?_)
                          · skip
                            first | omega | (exfalso; simp_all; done) | (exfalso; simp_all; omega)
                          · skip
                            refine sat_ret [.str _, .int .i64 _] rfl ?_
                            first | (exfalso; omega) | (rw [print_0 l (by omega)]; done) | (rw [print_1 l (by omega), show el l = [] from List.length_eq_zero_iff.1 (by omega)]; rfl) | (rw [print_1 l (by omega)]; exact congrArg (fun s => [U.str s, U.int .i64 0]) (prt_fin (by omega) (by omega) _ (by clear hb hc; generalize (el ((el l).getD (Int.toNat 0) default)).getD (Int.toNat 0) default = g at *; simp [partS, *]))) | (rw [print_1 l (by omega)]; exact congrArg (fun s => [U.str s, U.int .i64 0]) (prt_fin (l := l) (by omega) (by omega) [] (by clear hb hc; generalize (el ((el l).getD (Int.toNat 0) default)).getD (Int.toNat 0) default = g at *; simp [partS, *])))
                      · skip
                        first | omega | (exfalso; simp_all; done) | (exfalso; simp_all; omega)
                    · skip
                      refine sat_ret [.str _, .int .i64 _] rfl ?_
                      first | (exfalso; omega) | (rw [print_0 l (by omega)]; done) | (rw [print_1 l (by omega), show el l = [] from List.length_eq_zero_iff.1 (by omega)]; rfl) | (rw [print_1 l (by omega)]; exact congrArg (fun s => [U.str s, U.int .i64 0]) (prt_fin (by omega) (by omega) _ (by clear hb hc; generalize (el ((el l).getD (Int.toNat 0) default)).getD (Int.toNat 0) default = g at *; simp [partS, *]))) | (rw [print_1 l (by omega)]; exact congrArg (fun s => [U.str s, U.int .i64 0]) (prt_fin (l := l) (by omega) (by omega) [] (by clear hb hc; generalize (el ((el l).getD (Int.toNat 0) default)).getD (Int.toNat 0) default = g at *; simp [partS, *])))
                · skip
                  first | omega | (exfalso; simp_all; done) | (exfalso; simp_all; omega)
              · skip
                refine sat_ret [.str _, .int .i64 _] rfl ?_
                first | (exfalso; omega) | (rw [print_0 l (by omega)]; done) | (rw [print_1 l (by omega), show el l = [] from List.length_eq_zero_iff.1 (by omega)]; rfl) | (rw [print_1 l (by omega)]; exact congrArg (fun s => [U.str s, U.int .i64 0]) (prt_fin (by omega) (by omega) _ (by clear hb hc; generalize (el ((el l).getD (Int.toNat 0) default)).getD (Int.toNat 0) default = g at *; simp [partS, *]))) | (rw [print_1 l (by omega)]; exact congrArg (fun s => [U.str s, U.int .i64 0]) (prt_fin (l := l) (by omega) (by omega) [] (by clear hb hc; generalize (el ((el l).getD (Int.toNat 0) default)).getD (Int.toNat 0) default = g at *; simp [partS, *])))
          · skip
            first | omega | (exfalso; simp_all; done) | (exfalso; simp_all; omega)
        · skip
          refine sat_ret [.str _, .int .i64 _] rfl ?_
          first | (exfalso; omega) | (rw [print_0 l (by omega)]; done) | (rw [print_1 l (by omega), show el l = [] from List.length_eq_zero_iff.1 (by omega)]; rfl) | (rw [print_1 l (by omega)]; exact congrArg (fun s => [U.str s, U.int .i64 0]) (prt_fin (by omega) (by omega) _ (by clear hb hc; generalize (el ((el l).getD (Int.toNat 0) default)).getD (Int.toNat 0) default = g at *; simp [partS, *]))) | (rw [print_1 l (by omega)]; exact congrArg (fun s => [U.str s, U.int .i64 0]) (prt_fin (l := l) (by omega) (by omega) [] (by clear hb hc; generalize (el ((el l).getD (Int.toNat 0) default)).getD (Int.toNat 0) default = g at *; simp [partS, *])))
    · cases hs
  · cases hs
noncomputable def L_prt : List (FuncId × FnC) := (25, conF Tryd.prog [.s 11] prt_s [.s 9, .s 3]) :: L_ito
theorem L_prt_ok {G : Nat → Option Obj} (hst : StartOk Tryd.prog G gl H0 n0) : ConsOk Tryd.prog G gl L_prt := .cons (prt_c hst) (L_ito_ok hst)
end Go.Proofs.YtadmkfclgpbebaaDoor

namespace Go.Proofs.YtadmkfclgpbebaaDoor
set_option linter.all false
open Go Go.Sx
set_option maxRecDepth 100000
set_option linter.unusedVariables false
set_option linter.unusedSimpArgs false
def rwl_s : List U → Option (Nat × List U)
  | [u_l, u_out, .int .i64 i] => (decS rP u_l).bind fun l => (decS rP u_out).bind fun out => if 0 ≤ i ∧ i ≤ ((el l).length : Int) ∧ ((el out).length : Int) = i ∧ (el l).length ≤ 100000000 then some (0, [encS rP (catS out (some ((el l).drop i.toNat)))]) else none
  | _ => none
theorem rwl_s_e (l : (Option (List (Option (List Int))))) (out : (Option (List (Option (List Int))))) (i : Int) (hc : 0 ≤ i ∧ i ≤ ((el l).length : Int) ∧ ((el out).length : Int) = i ∧ (el l).length ≤ 100000000) : rwl_s [encS rP l, encS rP out, .int .i64 i] = some (0, [encS rP (catS out (some ((el l).drop i.toNat)))]) := by
  simp only [rwl_s, decS_enc, Option.bind_some]
  exact if_pos hc
def rwl_D : LoopD := ⟨[(0, dat 5 0 11), (3, own 6 1 11), (4, h 2 3)], [(6, .sq 1 11 47 7), (5, .frz), (7, .frz)], 3, [⟨.exit 0, [(3, own 8 0 11)], [(8, .sq 0 11 47 9), (9, .frz)], 1⟩]⟩
noncomputable def rwl_B : Code := (Tryd.f24.body).getD .skip
noncomputable def rwl_x : Code := match codeAt [true, true, false, true, false] rwl_B with | some (.loop x) => x | _ => .skip
theorem rwl_b : Tryd.f24.body = some rwl_B := rfl
theorem rwl_p : codeAt [true, true, false, true, false] rwl_B = some (.loop rwl_x) := by kernel_rfl
def rwl_t : Tr := .lt 3 (.len) [h 0 11] <| .lt 8 (.bin .lss) [h 2 3, h 3 3] <| .br 4 (.lt 8 (.inbs 1) [h 2 3, h 0 11] <| .br 5 (.dt 11 (.get 1 0) [h 0 11, h 2 3] <| .dt 11 (.snoc 1) [h 1 11, h 6 11] <| .lt 3 (.bin .add) [h 2 3, .int .i64 (1)] <| .ret [.int .i64 (-1), h 0 11, h 7 11, h 8 3]) (.no)) (.ret [.int .i64 (0), h 1 11])
def rwl_m : List U → Nat
  | [u_l, u_out, .int .i64 i] => (match decS rP u_l with | some l => (match decS rP u_out with | some out => ((el l).length - i).toNat | none => 0) | none => 0)
  | _ => 0
theorem rwl_me (l : (Option (List (Option (List Int))))) (out : (Option (List (Option (List Int))))) (i : Int) : rwl_m [encS rP l, encS rP out, .int .i64 i] = ((el l).length - i).toNat := by
  simp only [rwl_m, decS_enc]
theorem rwl_c {G : Nat → Option Obj} (hst : StartOk Tryd.prog G gl H0 n0) : ∀ (E : Nat → U) (base : Nat), @CodeOk ⟨E, G⟩ Tryd.prog base gl Tryd.f24.ntmps rwl_x (loopF Tryd.prog gl n0 10 rwl_D rwl_s) := by
  refine loop_ok (C := cx L_prt P_pou) (dep := 60) (f := 24) (n0 := n0) (nB := 10) (H0 := H0) rwl_m rwl_t (cxg (L_prt_ok hst) (P_pou_ok hst)) hst Tryd.func24 rwl_b rwl_p (by kernel_rfl) (by kernel_rfl) (by kernel_rfl) ?_
  intro us d outs hs
  have hs0 := hs
  unfold rwl_s at hs
  split at hs
  · skip
    rename_i u_l u_out i
    have hq_l := Option.bind_eq_some_iff.1 hs
    clear hs
    obtain ⟨l, hd_l, hs⟩ := hq_l
    replace hd_l := decS_eq hd_l
    subst hd_l
    have hq_out := Option.bind_eq_some_iff.1 hs
    clear hs
    obtain ⟨out, hd_out, hs⟩ := hq_out
    replace hd_out := decS_eq hd_out
    subst hd_out
    split at hs
    · rename_i hc
      clear hs hs0
      refine ⟨rfl, ?_⟩
      unfold rwl_t
      refine sat_lt [_, _, _, _] (ev_lenS _ _) ⟨by decide, rfl⟩ rfl ?_
      refine sat_lt [_, _, _, _, _] (ev_lss _ _ _) ⟨by decide, rfl⟩ rfl ?_
      first | refine sat_br rfl (fun g0 => ?_) (fun g0 => ?_) | refine sat_brB rfl (fun g0 => ?_) (fun g0 => ?_)
      · skip
        refine sat_lt [_, _, _, _, _, _] (ev_inbsS rfl) ⟨by decide, rfl⟩ rfl ?_
        first | refine sat_br rfl (fun g1 => ?_) (fun g1 => ?_) | refine sat_brB rfl (fun g1 => ?_) (fun g1 => ?_)
        · skip
          refine sat_dt (r := rI) [_, _, _, _, _, _, _] (ev_getS rfl (by omega) (by omega) rfl) rfl rfl ?_
          refine sat_dt (r := rP) [_, _, _, _, _, _, _, _] (ev_snocR rfl rfl (by decide) (by omega)) rfl rfl ?_
          first | refine sat_lt [_, _, _, _, _, _, _, _, _] (ev_addW (wrap64 (by omega) (by omega))) ⟨by decide, rfl⟩ rfl ?_ | refine sat_lt [_, _, _, _, _, _, _, _, _] (ev_add _ _ _) ⟨by decide, rfl⟩ rfl ?_
          refine sat_ret [.int .i64 _, encS rP _, encS rP _, .int .i64 _] rfl ?_
          refine leaf_back ?_ ?_
          · rw [rwl_s_e l out i hc, drop_step (el l) (by omega) (by omega), ← catS_cons]
            exact rwl_s_e _ _ _ ⟨by omega, by omega, by simp [el_some]; omega, hc.2.2.2⟩
          · rw [rwl_me, rwl_me]; omega
        · skip
          first | omega | (exfalso; simp_all; done) | (exfalso; simp_all; omega)
      · skip
        refine sat_ret [.int .i64 _, encS rP _] rfl ?_
        refine leaf_exit (d := 0) ?_
        rw [rwl_s_e l out i hc, drop_end (el l) (by omega)]; rfl
    · cases hs
  · cases hs
noncomputable def P_rwl : List LpE := (24, ([true, true, false, true, false], loopF Tryd.prog gl n0 10 rwl_D rwl_s)) :: P_pou
theorem P_rwl_ok {G : Nat → Option Obj} (hst : StartOk Tryd.prog G gl H0 n0) : LpsOk Tryd.prog G gl P_rwl := .cons Tryd.func24 rwl_b rwl_p (rwl_c hst) (P_pou_ok hst)
def rw_s : List U → Option (Nat × List U)
  | [u_l] => (decS rP u_l).bind fun l => if (el l).length ≤ 100000000 then some (0, [encS rP (catS none (some (el l)))]) else none
  | _ => none
theorem rw_s_e (l : (Option (List (Option (List Int))))) (hc : (el l).length ≤ 100000000) : rw_s [encS rP l] = some (0, [encS rP (catS none (some (el l)))]) := by
  simp only [rw_s, decS_enc, Option.bind_some]
  exact if_pos hc
def rw_t : Tr := .dt 11 (.nilw 1) [] <| .fn rwl_s [h 0 11, h 1 11, .int .i64 (0)] 1 <| .ret [h 2 11]
theorem rw_c {G : Nat → Option Obj} (hst : StartOk Tryd.prog G gl H0 n0) : ConOk Tryd.prog G 24 [.s 11] rw_s [.s 11] := by
  refine con_of_tree (C := cx L_prt P_rwl) (d := 60) rw_t (cxg (L_prt_ok hst) (P_rwl_ok hst)) hst ⟨Tryd.f24, _, Tryd.func24, rfl⟩ (by kernel_rfl) (by kernel_rfl) ?_
  intro us outs hs
  unfold rw_s at hs
  split at hs
  · skip
    rename_i u_l
    have hq_l := Option.bind_eq_some_iff.1 hs
    clear hs
    obtain ⟨l, hd_l, hs⟩ := hq_l
    replace hd_l := decS_eq hd_l
    subst hd_l
    split at hs
    · rename_i hc
      cases hs
      unfold rw_t
      refine sat_dt (r := rP) [_, _] (ev_nilwS rfl) rfl rfl ?_
      refine sat_fn [_, _, _] (rwl_s_e l none 0 ⟨by decide, by omega, rfl, hc⟩) rfl rfl ?_
      refine sat_ret [encS rP _] rfl ?_
      rfl
    · cases hs
  · cases hs
noncomputable def L_rw : List (FuncId × FnC) := (24, conF Tryd.prog [.s 11] rw_s [.s 11]) :: L_prt
theorem L_rw_ok {G : Nat → Option Obj} (hst : StartOk Tryd.prog G gl H0 n0) : ConsOk Tryd.prog G gl L_rw := .cons (rw_c hst) (L_prt_ok hst)
end Go.Proofs.YtadmkfclgpbebaaDoor

namespace Go.Proofs.YtadmkfclgpbebaaDoor
set_option linter.all false
open Go Go.Sx
set_option maxRecDepth 100000
set_option linter.unusedVariables false
set_option linter.unusedSimpArgs false
def rep_s : List U → Option (Nat × List U)
  | [.str s, .int .i64 c] => if 0 ≤ c ∧ c ≤ 1000000000 ∧ s.length * c.toNat ≤ 1000000000 then some (0, [.str (Lib.repeatL s c.toNat)]) else none
  | _ => none
theorem rep_s_e (s : (List UInt8)) (c : Int) (hc : 0 ≤ c ∧ c ≤ 1000000000 ∧ s.length * c.toNat ≤ 1000000000) : rep_s [.str s, .int .i64 c] = some (0, [.str (Lib.repeatL s c.toNat)]) := if_pos hc
theorem rep_c {G : Nat → Option Obj} (hst : StartOk Tryd.prog G gl H0 n0) : ConOk Tryd.prog G 19 [.s 9, .s 3] rep_s [.s 9] := by
  intro us outs w vs R hsh hs hG hR
  unfold rep_s at hs
  split at hs
  · skip
    rename_i s c
    split at hs
    · rename_i hc
      cases hs
      have hv := val_of_shL (vs2 := [.string ⟨⟨s⟩⟩, .int .i64 c]) hsh rfl
      subst hv
      refine con_end (vr := [.string ⟨⟨Lib.repeatL s c.toNat⟩⟩]) Tryd.func19 rfl (by kernel_rfl) rfl ?_
      obtain ⟨k, rfl⟩ : ∃ k : Nat, c = k := ⟨c.toNat, by omega⟩
      rw [Int.toNat_natCast] at hc ⊢
      by_cases h0 : k = 0
      · subst h0
        exact (Tryd.strings_Repeat_zero ⟨⟨s⟩⟩ w).mono fun e w' ⟨h1, h2⟩ => ⟨h1, by subst h2; exact RowKit.Below.refl _ _⟩
      by_cases h1 : k = 1
      · subst h1
        exact (Tryd.strings_Repeat_one ⟨⟨s⟩⟩ w).mono fun e w' ⟨h1, h2⟩ => ⟨by rw [Lib.repeatL_one]; exact h1, by subst h2; exact RowKit.Below.refl _ _⟩
      by_cases h2 : s = []
      · subst h2
        exact (Tryd.strings_Repeat_empty ⟨⟨[]⟩⟩ k w (by omega) (by omega) rfl).mono fun e w' ⟨h1, h2⟩ => ⟨by rw [Lib.repeatL_nil]; exact h1, by subst h2; exact RowKit.Below.refl _ _⟩
      have h3 : 0 < s.length := List.length_pos_iff.2 h2
      exact (Tryd.strings_Repeat_main ⟨⟨s⟩⟩ k w (by omega) (by omega) (by show s.length * k ≤ _; omega) h3).mono fun e w' ⟨h1, h2⟩ => ⟨h1, h2⟩
    · cases hs
  · cases hs
noncomputable def L_rep : List (FuncId × FnC) := (19, conF Tryd.prog [.s 9, .s 3] rep_s [.s 9]) :: L_rw
theorem L_rep_ok {G : Nat → Option Obj} (hst : StartOk Tryd.prog G gl H0 n0) : ConsOk Tryd.prog G gl L_rep := .cons (rep_c hst) (L_rw_ok hst)
end Go.Proofs.YtadmkfclgpbebaaDoor
