/- The law ParamCanon: for every input the call returns true, and the arguments read behind it as they read before. No condition. -/
import Derived.Test.YtadmkfclgpbebaaDoorX11
import Derived.Test.YtadmkfclgpbebaaDoorCards
import Derived.Test.YtadmkfclgpbebaaDoorTie
import Derived.WalkKit
import Derived.ProofKit
import Derived.OpenShut
import Derived.Below
import Derived.Carry
import Derived.Lib.SmallJoins
import Derived.Deep.DeepHandedRow
import Derived.Lib.LaidTab
import Derived.MakeChecks
namespace Go.Proofs.YtadmkfclgpbebaaDoor
set_option linter.all false
open Go Go.Sx
set_option maxRecDepth 100000
set_option linter.unusedVariables false
set_option linter.unusedSimpArgs false
def wks_s : List U → Option (Nat × List U)
  | [] => some (0, [.bool (true)])
  | _ => none
def wks_t : Tr := .fn prs_s [.string ⟨⟨[49, 59, 50, 58, 51]⟩⟩] 2 <| .lt 8 (.bin .eql) [h 1 3, .int .i64 (0)] <| .br 2 (.dt 11 (.mk 1) [.int .i64 (1)] <| .dt 11 (.mk 1) [.int .i64 (2), .int .i64 (3)] <| .dt 11 (.mk 1) [h 3 11, h 4 11] <| .fn rw_s [h 5 11] 1 <| .fn rsame_s [h 0 11, h 6 11] 1 <| .br 7 (.fn prs_s [.string ⟨⟨[]⟩⟩] 2 <| .lt 8 (.bin .eql) [h 9 3, .int .i64 (0)] <| .br 10 (.dt 11 (.nilw 1) [] <| .fn rw_s [h 11 11] 1 <| .fn rsame_s [h 8 11, h 12 11] 1 <| .br 13 (.fn prs_s [.string ⟨⟨[59]⟩⟩] 2 <| .lt 8 (.bin .eql) [h 15 3, .int .i64 (0)] <| .br 16 (.dt 11 (.mk 1) [.int .i64 (-1)] <| .dt 11 (.mk 1) [.int .i64 (-1)] <| .dt 11 (.mk 1) [h 17 11, h 18 11] <| .fn rw_s [h 19 11] 1 <| .fn rsame_s [h 14 11, h 20 11] 1 <| .br 21 (.fn prs_s [.string ⟨⟨[48, 48, 55]⟩⟩] 2 <| .lt 8 (.bin .eql) [h 23 3, .int .i64 (0)] <| .br 24 (.dt 11 (.mk 1) [.int .i64 (7)] <| .dt 11 (.mk 1) [h 25 11] <| .fn rw_s [h 26 11] 1 <| .fn rsame_s [h 22 11, h 27 11] 1 <| .br 28 (.fn prs_s [.string ⟨⟨[57, 57, 57, 57, 57]⟩⟩] 2 <| .lt 8 (.bin .eql) [h 30 3, .int .i64 (0)] <| .br 31 (.dt 11 (.mk 1) [.int .i64 (9999)] <| .dt 11 (.mk 1) [h 32 11] <| .fn rw_s [h 33 11] 1 <| .fn rsame_s [h 29 11, h 34 11] 1 <| .br 35 (.fn prs_s [.string ⟨⟨[52, 58]⟩⟩] 2 <| .lt 8 (.bin .eql) [h 37 3, .int .i64 (0)] <| .br 38 (.dt 11 (.mk 1) [.int .i64 (4), .int .i64 (-1)] <| .dt 11 (.mk 1) [h 39 11] <| .fn rw_s [h 40 11] 1 <| .fn rsame_s [h 36 11, h 41 11] 1 <| .dt 11 (.mk 1) [.int .i64 (38), .int .i64 (2), .int .i64 (-1), .int .i64 (9), .int .i64 (8), .int .i64 (7)] <| .dt 11 (.mk 1) [.int .i64 (1)] <| .dt 11 (.mk 1) [h 43 11, h 44 11] <| .fn rw_s [h 45 11] 1 <| .fn prt_s [h 46 11] 2 <| .dt 11 (.mk 1) [.int .i64 (-1)] <| .dt 11 (.mk 1) [h 49 11] <| .fn rw_s [h 50 11] 1 <| .fn chk_s [h 51 11] 1 <| .lt 8 (.bin .eql) [h 52 3, .int .i64 (150)] <| .br 53 (.dt 11 (.mk 1) [.int .i64 (10000)] <| .dt 11 (.mk 1) [h 54 11] <| .fn rw_s [h 55 11] 1 <| .fn chk_s [h 56 11] 1 <| .lt 8 (.bin .eql) [h 57 3, .int .i64 (150)] <| .br 58 (.dt 11 (.nilw 1) [] <| .dt 11 (.mk 1) [h 59 11] <| .fn rw_s [h 60 11] 1 <| .fn chk_s [h 61 11] 1 <| .lt 8 (.bin .eql) [h 62 3, .int .i64 (150)] <| .dt 11 (.mk 1) [.int .i64 (5)] <| .dt 11 (.mk 1) [.int .i64 (-1)] <| .dt 11 (.mk 1) [h 64 11, h 65 11] <| .fn rw_s [h 66 11] 1 <| .fn val_s [h 67 11, .int .i64 (0), .int .i64 (9)] 1 <| .lt 8 (.bin .eql) [h 68 3, .int .i64 (5)] <| .br 69 (.fn val_s [h 67 11, .int .i64 (1), .int .i64 (9)] 1 <| .lt 8 (.bin .eql) [h 70 3, .int .i64 (9)] <| .br 71 (.fn val_s [h 67 11, .int .i64 (2), .int .i64 (9)] 1 <| .lt 8 (.bin .eql) [h 72 3, .int .i64 (9)] <| .br 42 (.lt 8 (.bin .eql) [h 47 9, .string ⟨⟨[51, 56, 58, 50, 58, 58, 57, 58, 56, 58, 55, 59, 49]⟩⟩] <| .br 74 (.lt 8 (.bin .eql) [h 48 3, .int .i64 (0)] <| .br 75 (.br 63 (.fn prs_s [.string ⟨⟨[49, 97]⟩⟩] 2 <| .lt 8 (.bin .eql) [h 77 3, .int .i64 (6)] <| .br 78 (.lt 3 (.len) [h 76 11] <| .lt 8 (.bin .eql) [h 79 3, .int .i64 (0)] <| .br 80 (.fn rep_s [.string ⟨⟨[59]⟩⟩, .int .i64 (16)] 1 <| .fn prs_s [h 81 9] 2 <| .lt 8 (.bin .eql) [h 83 3, .int .i64 (3)] <| .br 84 (.lt 3 (.len) [h 82 11] <| .lt 8 (.bin .eql) [h 85 3, .int .i64 (0)] <| .br 86 (.fn prs_s [.string ⟨⟨[49, 58, 50, 58, 51, 58, 52, 58, 53, 58, 54, 58]⟩⟩] 2 <| .lt 8 (.bin .eql) [h 88 3, .int .i64 (3)] <| .br 89 (.lt 3 (.len) [h 87 11] <| .lt 8 (.bin .eql) [h 90 3, .int .i64 (0)] <| .br 91 (.ret [h 73 8]) (.no)) (.no)) (.no)) (.no)) (.no)) (.no)) (.no)) (.no)) (.no)) (.no)) (.no)) (.no)) (.no)) (.no)) (.no)) (.no)) (.no)) (.no)) (.no)) (.no)) (.no)) (.no)) (.no)) (.no)) (.no)
theorem wks_c {G : Nat → Option Obj} (hst : StartOk Tryd.prog G gl H0 n0) : ConOk Tryd.prog G 15 [] wks_s [.s 8] := by
  refine con_of_tree (C := cx L_rep P_rwl) (d := 60) wks_t (cxg (L_rep_ok hst) (P_rwl_ok hst)) hst ⟨Tryd.f15, _, Tryd.func15, rfl⟩ (by kernel_rfl) (by kernel_rfl) ?_
  intro us outs hs
  unfold wks_s at hs
  split at hs
  · skip
    skip
    cases hs
    unfold wks_t
    refine sat_fn [_, _] (prs_s_e _) rfl rfl ?_
    refine sat_lt [_, _, _] (ev_eql _ _ _) ⟨by decide, rfl⟩ rfl ?_
    first | refine sat_br rfl (fun g0 => ?_) (fun g0 => ?_) | refine sat_brB rfl (fun g0 => ?_) (fun g0 => ?_)
    · skip
      refine sat_dt (r := rI) [_, _, _, _] (ev_mkS [_] rfl (by decide) rfl) rfl rfl ?_
      refine sat_dt (r := rI) [_, _, _, _, _] (ev_mkS [_, _] rfl (by decide) rfl) rfl rfl ?_
      refine sat_dt (r := rP) [_, _, _, _, _, _] (ev_mkS [_, _] rfl (by decide) rfl) rfl rfl ?_
      refine sat_fn [_, _, _, _, _, _, _] (rw_s_e _ (by decide +kernel)) rfl rfl ?_
      refine sat_fn [_, _, _, _, _, _, _, _] (rsame_s_e _ _ (by decide +kernel)) rfl rfl ?_
      first | refine sat_br rfl (fun g1 => ?_) (fun g1 => ?_) | refine sat_brB rfl (fun g1 => ?_) (fun g1 => ?_)
      · skip
        refine sat_fn [_, _, _, _, _, _, _, _, _, _] (prs_s_e _) rfl rfl ?_
        refine sat_lt [_, _, _, _, _, _, _, _, _, _, _] (ev_eql _ _ _) ⟨by decide, rfl⟩ rfl ?_
        first | refine sat_br rfl (fun g2 => ?_) (fun g2 => ?_) | refine sat_brB rfl (fun g2 => ?_) (fun g2 => ?_)
        · skip
          refine sat_dt (r := rP) [_, _, _, _, _, _, _, _, _, _, _, _] (ev_nilwS rfl) rfl rfl ?_
          refine sat_fn [_, _, _, _, _, _, _, _, _, _, _, _, _] (rw_s_e _ (by decide +kernel)) rfl rfl ?_
          refine sat_fn [_, _, _, _, _, _, _, _, _, _, _, _, _, _] (rsame_s_e _ _ (by decide +kernel)) rfl rfl ?_
          first | refine sat_br rfl (fun g3 => ?_) (fun g3 => ?_) | refine sat_brB rfl (fun g3 => ?_) (fun g3 => ?_)
          · skip
            refine sat_fn [_, _, _, _, _, _, _, _, _, _, _, _, _, _, _, _] (prs_s_e _) rfl rfl ?_
            refine sat_lt [_, _, _, _, _, _, _, _, _, _, _, _, _, _, _, _, _] (ev_eql _ _ _) ⟨by decide, rfl⟩ rfl ?_
            first | refine sat_br rfl (fun g4 => ?_) (fun g4 => ?_) | refine sat_brB rfl (fun g4 => ?_) (fun g4 => ?_)
            · skip
              refine sat_dt (r := rI) [_, _, _, _, _, _, _, _, _, _, _, _, _, _, _, _, _, _] (ev_mkS [_] rfl (by decide) rfl) rfl rfl ?_
              refine sat_dt (r := rI) [_, _, _, _, _, _, _, _, _, _, _, _, _, _, _, _, _, _, _] (ev_mkS [_] rfl (by decide) rfl) rfl rfl ?_
              refine sat_dt (r := rP) [_, _, _, _, _, _, _, _, _, _, _, _, _, _, _, _, _, _, _, _] (ev_mkS [_, _] rfl (by decide) rfl) rfl rfl ?_
              refine sat_fn [_, _, _, _, _, _, _, _, _, _, _, _, _, _, _, _, _, _, _, _, _] (rw_s_e _ (by decide +kernel)) rfl rfl ?_
              refine sat_fn [_, _, _, _, _, _, _, _, _, _, _, _, _, _, _, _, _, _, _, _, _, _] (rsame_s_e _ _ (by decide +kernel)) rfl rfl ?_
              first | refine sat_br rfl (fun g5 => ?_) (fun g5 => ?_) | refine sat_brB rfl (fun g5 => ?_) (fun g5 => ?_)
              · skip
                refine sat_fn [_, _, _, _, _, _, _, _, _, _, _, _, _, _, _, _, _, _, _, _, _, _, _, _] (prs_s_e _) rfl rfl ?_
                refine sat_lt [_, _, _, _, _, _, _, _, _, _, _, _, _, _, _, _, _, _, _, _, _, _, _, _, _] (ev_eql _ _ _) ⟨by decide, rfl⟩ rfl ?_
                first | refine sat_br rfl (fun g6 => ?_) (fun g6 => ?_) | refine sat_brB rfl (fun g6 => ?_) (fun g6 => ?_)
                · skip
                  refine sat_dt (r := rI) [_, _, _, _, _, _, _, _, _, _, _, _, _, _, _, _, _, _, _, _, _, _, _, _, _, _] (ev_mkS [_] rfl (by decide) rfl) rfl rfl ?_
                  refine sat_dt (r := rP) [_, _, _, _, _, _, _, _, _, _, _, _, _, _, _, _, _, _, _, _, _, _, _, _, _, _, _] (ev_mkS [_] rfl (by decide) rfl) rfl rfl ?_
                  refine sat_fn [_, _, _, _, _, _, _, _, _, _, _, _, _, _, _, _, _, _, _, _, _, _, _, _, _, _, _, _] (rw_s_e _ (by decide +kernel)) rfl rfl ?_
                  refine sat_fn [_, _, _, _, _, _, _, _, _, _, _, _, _, _, _, _, _, _, _, _, _, _, _, _, _, _, _, _, _] (rsame_s_e _ _ (by decide +kernel)) rfl rfl ?_
                  first | refine sat_br rfl (fun g7 => ?_) (fun g7 => ?_) | refine sat_brB rfl (fun g7 => ?_) (fun g7 => ?_)
                  · skip
                    refine sat_fn [_, _, _, _, _, _, _, _, _, _, _, _, _, _, _, _, _, _, _, _, _, _, _, _, _, _, _, _, _, _, _] (prs_s_e _) rfl rfl ?_
                    refine sat_lt [_, _, _, _, _, _, _, _, _, _, _, _, _, _, _, _, _, _, _, _, _, _, _, _, _, _, _, _, _, _, _, _] (ev_eql _ _ _) ⟨by decide, rfl⟩ rfl ?_
                    first | refine sat_br rfl (fun g8 => ?_) (fun g8 => ?_) | refine sat_brB rfl (fun g8 => ?_) (fun g8 => ?_)
                    · skip
                      refine sat_dt (r := rI) [_, _, _, _, _, _, _, _, _, _, _, _, _, _, _, _, _, _, _, _, _, _, _, _, _, _, _, _, _, _, _, _, _] (ev_mkS [_] rfl (by decide) rfl) rfl rfl ?_
                      refine sat_dt (r := rP) [_, _, _, _, _, _, _, _, _, _, _, _, _, _, _, _, _, _, _, _, _, _, _, _, _, _, _, _, _, _, _, _, _, _] (ev_mkS [_] rfl (by decide) rfl) rfl rfl ?_
                      refine sat_fn [_, _, _, _, _, _, _, _, _, _, _, _, _, _, _, _, _, _, _, _, _, _, _, _, _, _, _, _, _, _, _, _, _, _, _] (rw_s_e _ (by decide +kernel)) rfl rfl ?_
                      refine sat_fn [_, _, _, _, _, _, _, _, _, _, _, _, _, _, _, _, _, _, _, _, _, _, _, _, _, _, _, _, _, _, _, _, _, _, _, _] (rsame_s_e _ _ (by decide +kernel)) rfl rfl ?_
                      first | refine sat_br rfl (fun g9 => ?_) (fun g9 => ?_) | refine sat_brB rfl (fun g9 => ?_) (fun g9 => ?_)
                      · skip
                        refine sat_fn [_, _, _, _, _, _, _, _, _, _, _, _, _, _, _, _, _, _, _, _, _, _, _, _, _, _, _, _, _, _, _, _, _, _, _, _, _, _] (prs_s_e _) rfl rfl ?_
                        refine sat_lt [_, _, _, _, _, _, _, _, _, _, _, _, _, _, _, _, _, _, _, _, _, _, _, _, _, _, _, _, _, _, _, _, _, _, _, _, _, _, _] (ev_eql _ _ _) ⟨by decide, rfl⟩ rfl ?_
                        first | refine sat_br rfl (fun g10 => ?_) (fun g10 => ?_) | refine sat_brB rfl (fun g10 => ?_) (fun g10 => ?_)
                        · skip
                          refine sat_dt (r := rI) [_, _, _, _, _, _, _, _, _, _, _, _, _, _, _, _, _, _, _, _, _, _, _, _, _, _, _, _, _, _, _, _, _, _, _, _, _, _, _, _] (ev_mkS [_, _] rfl (by decide) rfl) rfl rfl ?_
                          refine sat_dt (r := rP) [_, _, _, _, _, _, _, _, _, _, _, _, _, _, _, _, _, _, _, _, _, _, _, _, _, _, _, _, _, _, _, _, _, _, _, _, _, _, _, _, _] (ev_mkS [_] rfl (by decide) rfl) rfl rfl ?_
                          refine sat_fn [_, _, _, _, _, _, _, _, _, _, _, _, _, _, _, _, _, _, _, _, _, _, _, _, _, _, _, _, _, _, _, _, _, _, _, _, _, _, _, _, _, _] (rw_s_e _ (by decide +kernel)) rfl rfl ?_
                          refine sat_fn [_, _, _, _, _, _, _, _, _, _, _, _, _, _, _, _, _, _, _, _, _, _, _, _, _, _, _, _, _, _, _, _, _, _, _, _, _, _, _, _, _, _, _] (rsame_s_e _ _ (by decide +kernel)) rfl rfl ?_
                          refine sat_dt (r := rI) [_, _, _, _, _, _, _, _, _, _, _, _, _, _, _, _, _, _, _, _, _, _, _, _, _, _, _, _, _, _, _, _, _, _, _, _, _, _, _, _, _, _, _, _] (ev_mkS [_, _, _, _, _, _] rfl (by decide) rfl) rfl rfl ?_
                          refine sat_dt (r := rI) [_, _, _, _, _, _, _, _, _, _, _, _, _, _, _, _, _, _, _, _, _, _, _, _, _, _, _, _, _, _, _, _, _, _, _, _, _, _, _, _, _, _, _, _, _] (ev_mkS [_] rfl (by decide) rfl) rfl rfl ?_
                          refine sat_dt (r := rP) [_, _, _, _, _, _, _, _, _, _, _, _, _, _, _, _, _, _, _, _, _, _, _, _, _, _, _, _, _, _, _, _, _, _, _, _, _, _, _, _, _, _, _, _, _, _] (ev_mkS [_, _] rfl (by decide) rfl) rfl rfl ?_
                          refine sat_fn [_, _, _, _, _, _, _, _, _, _, _, _, _, _, _, _, _, _, _, _, _, _, _, _, _, _, _, _, _, _, _, _, _, _, _, _, _, _, _, _, _, _, _, _, _, _, _] (rw_s_e _ (by decide +kernel)) rfl rfl ?_
                          refine sat_fn [_, _, _, _, _, _, _, _, _, _, _, _, _, _, _, _, _, _, _, _, _, _, _, _, _, _, _, _, _, _, _, _, _, _, _, _, _, _, _, _, _, _, _, _, _, _, _, _, _] (prt_s_e _ (by decide +kernel)) rfl rfl ?_
                          refine sat_dt (r := rI) [_, _, _, _, _, _, _, _, _, _, _, _, _, _, _, _, _, _, _, _, _, _, _, _, _, _, _, _, _, _, _, _, _, _, _, _, _, _, _, _, _, _, _, _, _, _, _, _, _, _] (ev_mkS [_] rfl (by decide) rfl) rfl rfl ?_
                          refine sat_dt (r := rP) [_, _, _, _, _, _, _, _, _, _, _, _, _, _, _, _, _, _, _, _, _, _, _, _, _, _, _, _, _, _, _, _, _, _, _, _, _, _, _, _, _, _, _, _, _, _, _, _, _, _, _] (ev_mkS [_] rfl (by decide) rfl) rfl rfl ?_
                          refine sat_fn [_, _, _, _, _, _, _, _, _, _, _, _, _, _, _, _, _, _, _, _, _, _, _, _, _, _, _, _, _, _, _, _, _, _, _, _, _, _, _, _, _, _, _, _, _, _, _, _, _, _, _, _] (rw_s_e _ (by decide +kernel)) rfl rfl ?_
                          refine sat_fn [_, _, _, _, _, _, _, _, _, _, _, _, _, _, _, _, _, _, _, _, _, _, _, _, _, _, _, _, _, _, _, _, _, _, _, _, _, _, _, _, _, _, _, _, _, _, _, _, _, _, _, _, _] (chk_s_e _ (by decide +kernel)) rfl rfl ?_
                          refine sat_lt [_, _, _, _, _, _, _, _, _, _, _, _, _, _, _, _, _, _, _, _, _, _, _, _, _, _, _, _, _, _, _, _, _, _, _, _, _, _, _, _, _, _, _, _, _, _, _, _, _, _, _, _, _, _] (ev_eql _ _ _) ⟨by decide, rfl⟩ rfl ?_
                          first | refine sat_br rfl (fun g11 => ?_) (fun g11 => ?_) | refine sat_brB rfl (fun g11 => ?_) (fun g11 => ?_)
                          · skip
                            refine sat_dt (r := rI) [_, _, _, _, _, _, _, _, _, _, _, _, _, _, _, _, _, _, _, _, _, _, _, _, _, _, _, _, _, _, _, _, _, _, _, _, _, _, _, _, _, _, _, _, _, _, _, _, _, _, _, _, _, _, _] (ev_mkS [_] rfl (by decide) rfl) rfl rfl ?_
                            refine sat_dt (r := rP) [_, _, _, _, _, _, _, _, _, _, _, _, _, _, _, _, _, _, _, _, _, _, _, _, _, _, _, _, _, _, _, _, _, _, _, _, _, _, _, _, _, _, _, _, _, _, _, _, _, _, _, _, _, _, _, _] (ev_mkS [_] rfl (by decide) rfl) rfl rfl ?_
                            refine sat_fn [_, _, _, _, _, _, _, _, _, _, _, _, _, _, _, _, _, _, _, _, _, _, _, _, _, _, _, _, _, _, _, _, _, _, _, _, _, _, _, _, _, _, _, _, _, _, _, _, _, _, _, _, _, _, _, _, _] (rw_s_e _ (by decide +kernel)) rfl rfl ?_
                            refine sat_fn [_, _, _, _, _, _, _, _, _, _, _, _, _, _, _, _, _, _, _, _, _, _, _, _, _, _, _, _, _, _, _, _, _, _, _, _, _, _, _, _, _, _, _, _, _, _, _, _, _, _, _, _, _, _, _, _, _, _] (chk_s_e _ (by decide +kernel)) rfl rfl ?_
                            refine sat_lt [_, _, _, _, _, _, _, _, _, _, _, _, _, _, _, _, _, _, _, _, _, _, _, _, _, _, _, _, _, _, _, _, _, _, _, _, _, _, _, _, _, _, _, _, _, _, _, _, _, _, _, _, _, _, _, _, _, _, _] (ev_eql _ _ _) ⟨by decide, rfl⟩ rfl ?_
                            first | refine sat_br rfl (fun g12 => ?_) (fun g12 => ?_) | refine sat_brB rfl (fun g12 => ?_) (fun g12 => ?_)
                            · skip
                              refine sat_dt (r := rI) [_, _, _, _, _, _, _, _, _, _, _, _, _, _, _, _, _, _, _, _, _, _, _, _, _, _, _, _, _, _, _, _, _, _, _, _, _, _, _, _, _, _, _, _, _, _, _, _, _, _, _, _, _, _, _, _, _, _, _, _] (ev_nilwS rfl) rfl rfl ?_
                              refine sat_dt (r := rP) [_, _, _, _, _, _, _, _, _, _, _, _, _, _, _, _, _, _, _, _, _, _, _, _, _, _, _, _, _, _, _, _, _, _, _, _, _, _, _, _, _, _, _, _, _, _, _, _, _, _, _, _, _, _, _, _, _, _, _, _, _] (ev_mkS [_] rfl (by decide) rfl) rfl rfl ?_
                              refine sat_fn [_, _, _, _, _, _, _, _, _, _, _, _, _, _, _, _, _, _, _, _, _, _, _, _, _, _, _, _, _, _, _, _, _, _, _, _, _, _, _, _, _, _, _, _, _, _, _, _, _, _, _, _, _, _, _, _, _, _, _, _, _, _] (rw_s_e _ (by decide +kernel)) rfl rfl ?_
                              refine sat_fn [_, _, _, _, _, _, _, _, _, _, _, _, _, _, _, _, _, _, _, _, _, _, _, _, _, _, _, _, _, _, _, _, _, _, _, _, _, _, _, _, _, _, _, _, _, _, _, _, _, _, _, _, _, _, _, _, _, _, _, _, _, _, _] (chk_s_e _ (by decide +kernel)) rfl rfl ?_
                              refine sat_lt [_, _, _, _, _, _, _, _, _, _, _, _, _, _, _, _, _, _, _, _, _, _, _, _, _, _, _, _, _, _, _, _, _, _, _, _, _, _, _, _, _, _, _, _, _, _, _, _, _, _, _, _, _, _, _, _, _, _, _, _, _, _, _, _] (ev_eql _ _ _) ⟨by decide, rfl⟩ rfl ?_
                              refine sat_dt (r := rI) [_, _, _, _, _, _, _, _, _, _, _, _, _, _, _, _, _, _, _, _, _, _, _, _, _, _, _, _, _, _, _, _, _, _, _, _, _, _, _, _, _, _, _, _, _, _, _, _, _, _, _, _, _, _, _, _, _, _, _, _, _, _, _, _, _] (ev_mkS [_] rfl (by decide) rfl) rfl rfl ?_
                              refine sat_dt (r := rI) [_, _, _, _, _, _, _, _, _, _, _, _, _, _, _, _, _, _, _, _, _, _, _, _, _, _, _, _, _, _, _, _, _, _, _, _, _, _, _, _, _, _, _, _, _, _, _, _, _, _, _, _, _, _, _, _, _, _, _, _, _, _, _, _, _, _] (ev_mkS [_] rfl (by decide) rfl) rfl rfl ?_
                              refine sat_dt (r := rP) [_, _, _, _, _, _, _, _, _, _, _, _, _, _, _, _, _, _, _, _, _, _, _, _, _, _, _, _, _, _, _, _, _, _, _, _, _, _, _, _, _, _, _, _, _, _, _, _, _, _, _, _, _, _, _, _, _, _, _, _, _, _, _, _, _, _, _] (ev_mkS [_, _] rfl (by decide) rfl) rfl rfl ?_
                              refine sat_fn [_, _, _, _, _, _, _, _, _, _, _, _, _, _, _, _, _, _, _, _, _, _, _, _, _, _, _, _, _, _, _, _, _, _, _, _, _, _, _, _, _, _, _, _, _, _, _, _, _, _, _, _, _, _, _, _, _, _, _, _, _, _, _, _, _, _, _, _] (rw_s_e _ (by decide +kernel)) rfl rfl ?_
                              refine sat_fn [_, _, _, _, _, _, _, _, _, _, _, _, _, _, _, _, _, _, _, _, _, _, _, _, _, _, _, _, _, _, _, _, _, _, _, _, _, _, _, _, _, _, _, _, _, _, _, _, _, _, _, _, _, _, _, _, _, _, _, _, _, _, _, _, _, _, _, _, _] (val_s_e _ _ _ (by decide)) rfl rfl ?_
                              refine sat_lt [_, _, _, _, _, _, _, _, _, _, _, _, _, _, _, _, _, _, _, _, _, _, _, _, _, _, _, _, _, _, _, _, _, _, _, _, _, _, _, _, _, _, _, _, _, _, _, _, _, _, _, _, _, _, _, _, _, _, _, _, _, _, _, _, _, _, _, _, _, _] (ev_eql _ _ _) ⟨by decide, rfl⟩ rfl ?_
                              first | refine sat_br rfl (fun g13 => ?_) (fun g13 => ?_) | refine sat_brB rfl (fun g13 => ?_) (fun g13 => ?_)
                              · skip
                                refine sat_fn [_, _, _, _, _, _, _, _, _, _, _, _, _, _, _, _, _, _, _, _, _, _, _, _, _, _, _, _, _, _, _, _, _, _, _, _, _, _, _, _, _, _, _, _, _, _, _, _, _, _, _, _, _, _, _, _, _, _, _, _, _, _, _, _, _, _, _, _, _, _, _] (val_s_e _ _ _ (by decide)) rfl rfl ?_
                                refine sat_lt [_, _, _, _, _, _, _, _, _, _, _, _, _, _, _, _, _, _, _, _, _, _, _, _, _, _, _, _, _, _, _, _, _, _, _, _, _, _, _, _, _, _, _, _, _, _, _, _, _, _, _, _, _, _, _, _, _, _, _, _, _, _, _, _, _, _, _, _, _, _, _, _] (ev_eql _ _ _) ⟨by decide, rfl⟩ rfl ?_
                                first | refine sat_br rfl (fun g14 => ?_) (fun g14 => ?_) | refine sat_brB rfl (fun g14 => ?_) (fun g14 => ?_)
                                · skip
                                  refine sat_fn [_, _, _, _, _, _, _, _, _, _, _, _, _, _, _, _, _, _, _, _, _, _, _, _, _, _, _, _, _, _, _, _, _, _, _, _, _, _, _, _, _, _, _, _, _, _, _, _, _, _, _, _, _, _, _, _, _, _, _, _, _, _, _, _, _, _, _, _, _, _, _, _, _] (val_s_e _ _ _ (by decide)) rfl rfl ?_
                                  refine sat_lt [_, _, _, _, _, _, _, _, _, _, _, _, _, _, _, _, _, _, _, _, _, _, _, _, _, _, _, _, _, _, _, _, _, _, _, _, _, _, _, _, _, _, _, _, _, _, _, _, _, _, _, _, _, _, _, _, _, _, _, _, _, _, _, _, _, _, _, _, _, _, _, _, _, _] (ev_eql _ _ _) ⟨by decide, rfl⟩ rfl ?_
                                  first | refine sat_br rfl (fun g15 => ?_) (fun g15 => ?_) | refine sat_brB rfl (fun g15 => ?_) (fun g15 => ?_)
                                  · skip
                                    refine sat_lt [_, _, _, _, _, _, _, _, _, _, _, _, _, _, _, _, _, _, _, _, _, _, _, _, _, _, _, _, _, _, _, _, _, _, _, _, _, _, _, _, _, _, _, _, _, _, _, _, _, _, _, _, _, _, _, _, _, _, _, _, _, _, _, _, _, _, _, _, _, _, _, _, _, _, _] (ev_seq _ _) ⟨by decide, rfl⟩ rfl ?_
                                    first | refine sat_br rfl (fun g16 => ?_) (fun g16 => ?_) | refine sat_brB rfl (fun g16 => ?_) (fun g16 => ?_)
                                    · skip
                                      refine sat_lt [_, _, _, _, _, _, _, _, _, _, _, _, _, _, _, _, _, _, _, _, _, _, _, _, _, _, _, _, _, _, _, _, _, _, _, _, _, _, _, _, _, _, _, _, _, _, _, _, _, _, _, _, _, _, _, _, _, _, _, _, _, _, _, _, _, _, _, _, _, _, _, _, _, _, _, _] (ev_eql _ _ _) ⟨by decide, rfl⟩ rfl ?_
                                      first | refine sat_br rfl (fun g17 => ?_) (fun g17 => ?_) | refine sat_brB rfl (fun g17 => ?_) (fun g17 => ?_)
                                      · skip
                                        first | refine sat_br rfl (fun g18 => ?_) (fun g18 => ?_) | refine sat_brB rfl (fun g18 => ?_) (fun g18 => ?_)
                                        · skip
                                          refine sat_fn [_, _, _, _, _, _, _, _, _, _, _, _, _, _, _, _, _, _, _, _, _, _, _, _, _, _, _, _, _, _, _, _, _, _, _, _, _, _, _, _, _, _, _, _, _, _, _, _, _, _, _, _, _, _, _, _, _, _, _, _, _, _, _, _, _, _, _, _, _, _, _, _, _, _, _, _, _, _] (prs_s_e _) rfl rfl ?_
                                          refine sat_lt [_, _, _, _, _, _, _, _, _, _, _, _, _, _, _, _, _, _, _, _, _, _, _, _, _, _, _, _, _, _, _, _, _, _, _, _, _, _, _, _, _, _, _, _, _, _, _, _, _, _, _, _, _, _, _, _, _, _, _, _, _, _, _, _, _, _, _, _, _, _, _, _, _, _, _, _, _, _, _] (ev_eql _ _ _) ⟨by decide, rfl⟩ rfl ?_
                                          first | refine sat_br rfl (fun g19 => ?_) (fun g19 => ?_) | refine sat_brB rfl (fun g19 => ?_) (fun g19 => ?_)
                                          · skip
                                            refine sat_lt [_, _, _, _, _, _, _, _, _, _, _, _, _, _, _, _, _, _, _, _, _, _, _, _, _, _, _, _, _, _, _, _, _, _, _, _, _, _, _, _, _, _, _, _, _, _, _, _, _, _, _, _, _, _, _, _, _, _, _, _, _, _, _, _, _, _, _, _, _, _, _, _, _, _, _, _, _, _, _, _] (ev_lenS _ _) ⟨by decide, rfl⟩ rfl ?_
                                            refine sat_lt [_, _, _, _, _, _, _, _, _, _, _, _, _, _, _, _, _, _, _, _, _, _, _, _, _, _, _, _, _, _, _, _, _, _, _, _, _, _, _, _, _, _, _, _, _, _, _, _, _, _, _, _, _, _, _, _, _, _, _, _, _, _, _, _, _, _, _, _, _, _, _, _, _, _, _, _, _, _, _, _, _] (ev_eql _ _ _) ⟨by decide, rfl⟩ rfl ?_
                                            first | refine sat_br rfl (fun g20 => ?_) (fun g20 => ?_) | refine sat_brB rfl (fun g20 => ?_) (fun g20 => ?_)
                                            · skip
                                              refine sat_fn [_, _, _, _, _, _, _, _, _, _, _, _, _, _, _, _, _, _, _, _, _, _, _, _, _, _, _, _, _, _, _, _, _, _, _, _, _, _, _, _, _, _, _, _, _, _, _, _, _, _, _, _, _, _, _, _, _, _, _, _, _, _, _, _, _, _, _, _, _, _, _, _, _, _, _, _, _, _, _, _, _, _] (rep_s_e _ _ (by decide)) rfl rfl ?_
                                              refine sat_fn [_, _, _, _, _, _, _, _, _, _, _, _, _, _, _, _, _, _, _, _, _, _, _, _, _, _, _, _, _, _, _, _, _, _, _, _, _, _, _, _, _, _, _, _, _, _, _, _, _, _, _, _, _, _, _, _, _, _, _, _, _, _, _, _, _, _, _, _, _, _, _, _, _, _, _, _, _, _, _, _, _, _, _, _] (prs_s_e _) rfl rfl ?_
                                              refine sat_lt [_, _, _, _, _, _, _, _, _, _, _, _, _, _, _, _, _, _, _, _, _, _, _, _, _, _, _, _, _, _, _, _, _, _, _, _, _, _, _, _, _, _, _, _, _, _, _, _, _, _, _, _, _, _, _, _, _, _, _, _, _, _, _, _, _, _, _, _, _, _, _, _, _, _, _, _, _, _, _, _, _, _, _, _, _] (ev_eql _ _ _) ⟨by decide, rfl⟩ rfl ?_
                                              first | refine sat_br rfl (fun g21 => ?_) (fun g21 => ?_) | refine sat_brB rfl (fun g21 => ?_) (fun g21 => ?_)
                                              · skip
                                                refine sat_lt [_, _, _, _, _, _, _, _, _, _, _, _, _, _, _, _, _, _, _, _, _, _, _, _, _, _, _, _, _, _, _, _, _, _, _, _, _, _, _, _, _, _, _, _, _, _, _, _, _, _, _, _, _, _, _, _, _, _, _, _, _, _, _, _, _, _, _, _, _, _, _, _, _, _, _, _, _, _, _, _, _, _, _, _, _, _] (ev_lenS _ _) ⟨by decide, rfl⟩ rfl ?_
                                                refine sat_lt [_, _, _, _, _, _, _, _, _, _, _, _, _, _, _, _, _, _, _, _, _, _, _, _, _, _, _, _, _, _, _, _, _, _, _, _, _, _, _, _, _, _, _, _, _, _, _, _, _, _, _, _, _, _, _, _, _, _, _, _, _, _, _, _, _, _, _, _, _, _, _, _, _, _, _, _, _, _, _, _, _, _, _, _, _, _, _] (ev_eql _ _ _) ⟨by decide, rfl⟩ rfl ?_
                                                first | refine sat_br rfl (fun g22 => ?_) (fun g22 => ?_) | refine sat_brB rfl (fun g22 => ?_) (fun g22 => ?_)
                                                · skip
                                                  refine sat_fn [_, _, _, _, _, _, _, _, _, _, _, _, _, _, _, _, _, _, _, _, _, _, _, _, _, _, _, _, _, _, _, _, _, _, _, _, _, _, _, _, _, _, _, _, _, _, _, _, _, _, _, _, _, _, _, _, _, _, _, _, _, _, _, _, _, _, _, _, _, _, _, _, _, _, _, _, _, _, _, _, _, _, _, _, _, _, _, _, _] (prs_s_e _) rfl rfl ?_
                                                  refine sat_lt [_, _, _, _, _, _, _, _, _, _, _, _, _, _, _, _, _, _, _, _, _, _, _, _, _, _, _, _, _, _, _, _, _, _, _, _, _, _, _, _, _, _, _, _, _, _, _, _, _, _, _, _, _, _, _, _, _, _, _, _, _, _, _, _, _, _, _, _, _, _, _, _, _, _, _, _, _, _, _, _, _, _, _, _, _, _, _, _, _, _] (ev_eql _ _ _) ⟨by decide, rfl⟩ rfl ?_
                                                  first | refine sat_br rfl (fun g23 => ?_) (fun g23 => ?_) | refine sat_brB rfl (fun g23 => ?_) (fun g23 => ?_)
                                                  · skip
                                                    refine sat_lt [_, _, _, _, _, _, _, _, _, _, _, _, _, _, _, _, _, _, _, _, _, _, _, _, _, _, _, _, _, _, _, _, _, _, _, _, _, _, _, _, _, _, _, _, _, _, _, _, _, _, _, _, _, _, _, _, _, _, _, _, _, _, _, _, _, _, _, _, _, _, _, _, _, _, _, _, _, _, _, _, _, _, _, _, _, _, _, _, _, _, _] (ev_lenS _ _) ⟨by decide, rfl⟩ rfl ?_
                                                    refine sat_lt [_, _, _, _, _, _, _, _, _, _, _, _, _, _, _, _, _, _, _, _, _, _, _, _, _, _, _, _, _, _, _, _, _, _, _, _, _, _, _, _, _, _, _, _, _, _, _, _, _, _, _, _, _, _, _, _, _, _, _, _, _, _, _, _, _, _, _, _, _, _, _, _, _, _, _, _, _, _, _, _, _, _, _, _, _, _, _, _, _, _, _, _] (ev_eql _ _ _) ⟨by decide, rfl⟩ rfl ?_
                                                    first | refine sat_br rfl (fun g24 => ?_) (fun g24 => ?_) | refine sat_brB rfl (fun g24 => ?_) (fun g24 => ?_)
                                                    · skip
                                                      refine sat_ret [.bool _] rfl ?_
                                                      exact congrArg (fun b => [U.bool b]) (decide_eq_true (by decide +kernel))
                                                    · skip
                                                      (refine absurd ?_ (by assumption); decide +kernel)
                                                  · skip
                                                    (refine absurd ?_ (by assumption); decide +kernel)
                                                · skip
                                                  (refine absurd ?_ (by assumption); decide +kernel)
                                              · skip
                                                (refine absurd ?_ (by assumption); decide +kernel)
                                            · skip
                                              (refine absurd ?_ (by assumption); decide +kernel)
                                          · skip
                                            (refine absurd ?_ (by assumption); decide +kernel)
                                        · skip
                                          (refine absurd ?_ (by assumption); decide +kernel)
                                      · skip
                                        (refine absurd ?_ (by assumption); decide +kernel)
                                    · skip
                                      (refine absurd ?_ (by assumption); decide +kernel)
                                  · skip
                                    (refine absurd ?_ (by assumption); decide +kernel)
                                · skip
                                  (refine absurd ?_ (by assumption); decide +kernel)
                              · skip
                                (refine absurd ?_ (by assumption); decide +kernel)
                            · skip
                              (refine absurd ?_ (by assumption); decide +kernel)
                          · skip
                            (refine absurd ?_ (by assumption); decide +kernel)
                        · skip
                          (refine absurd ?_ (by assumption); decide +kernel)
                      · skip
                        (refine absurd ?_ (by assumption); decide +kernel)
                    · skip
                      (refine absurd ?_ (by assumption); decide +kernel)
                  · skip
                    (refine absurd ?_ (by assumption); decide +kernel)
                · skip
                  (refine absurd ?_ (by assumption); decide +kernel)
              · skip
                (refine absurd ?_ (by assumption); decide +kernel)
            · skip
              (refine absurd ?_ (by assumption); decide +kernel)
          · skip
            (refine absurd ?_ (by assumption); decide +kernel)
        · skip
          (refine absurd ?_ (by assumption); decide +kernel)
      · skip
        (refine absurd ?_ (by assumption); decide +kernel)
    · skip
      (refine absurd ?_ (by assumption); decide +kernel)
  · cases hs
noncomputable def L_wks : List (FuncId × FnC) := (15, conF Tryd.prog [] wks_s [.s 8]) :: L_rep
theorem L_wks_ok {G : Nat → Option Obj} (hst : StartOk Tryd.prog G gl H0 n0) : ConsOk Tryd.prog G gl L_wks := .cons (wks_c hst) (L_rep_ok hst)
end Go.Proofs.YtadmkfclgpbebaaDoor

namespace Go.Proofs.YtadmkfclgpbebaaDoor
set_option linter.all false
open Go Go.Sx
theorem parE_app : ∀ (s t : List UInt8) (l : Rws), parE l (s ++ t) = match parE l s with | none => parE (parL l s) t | some e => some e
  | [], t, l => rfl
  | b :: s, t, l => by
    rw [List.cons_append]
    by_cases h : (stepS l b.toNat).2 ≠ 0
    · rw [parE_so h, parE_so h]
    · rw [parE_no h, parE_no h, parE_app s t]; rfl
theorem parL_app : ∀ (s t : List UInt8) (l : Rws), parL l (s ++ t) = parL (parL l s) t
  | [], t, l => rfl
  | b :: s, t, l => by rw [List.cons_append, parL_c, parL_c, parL_app s t]
def stOf (M : List (List Int)) : Rws := if M = [[-1]] then none else some (M.map some)
end Go.Proofs.YtadmkfclgpbebaaDoor
namespace Go.Proofs.YtadmkfclgpbebaaDoor
set_option linter.all false
open Go Go.Sx
structure OkM (M : List (List Int)) : Prop where
  len : M.length ≤ 16
  row : ∀ p ∈ M, 1 ≤ p.length ∧ p.length ≤ 6
  num : ∀ p ∈ M, ∀ n ∈ p, -1 ≤ n ∧ n ≤ 9999
theorem badP_ok {p : List Int} (h1 : 1 ≤ p.length ∧ p.length ≤ 6) (h2 : ∀ n ∈ p, -1 ≤ n ∧ n ≤ 9999) : badP (some p) = false := by
  unfold badP
  rw [el_some, Bool.or_eq_false_iff, Bool.or_eq_false_iff]
  refine ⟨decide_eq_false (by omega), decide_eq_false (by omega), ?_⟩
  rw [List.any_eq_false]
  intro n hn
  rw [badI_f (by have := h2 n hn; omega)]
  decide
theorem check_ok {M : List (List Int)} (h : OkM M) (hne : M ≠ [[-1]]) : checkS (some (M.map some)) = 0 := by
  unfold checkS
  refine if_neg ?_
  rintro (h1 | h1 | h1)
  · rw [el_some, List.length_map] at h1; have := h.len; omega
  · apply hne
    unfold emptyP at h1
    rw [el_some] at h1
    match M, h1 with
    | [p], h1 =>
      match p, h1 with
      | [n], h1 => simp [el] at h1; rw [h1]
      | [], h1 => simp [el] at h1
      | _ :: _ :: _, h1 => simp [el] at h1
    | [], h1 => simp at h1
    | _ :: _ :: _, h1 => simp at h1
  · rw [el_some, List.any_map] at h1
    obtain ⟨p, hp, h2⟩ := List.any_eq_true.1 h1
    have := badP_ok (h.row p hp) (h.num p hp)
    simp [this] at h2
theorem check_st {M : List (List Int)} (h : OkM M) : checkS (stOf M) = 0 := by
  unfold stOf
  split
  · decide
  · rename_i hne; exact check_ok h hne
end Go.Proofs.YtadmkfclgpbebaaDoor
namespace Go.Proofs.YtadmkfclgpbebaaDoor
set_option linter.all false
open Go Go.Sx
theorem allL_eq {α : Type} (l : Option (List α)) : allL l = el l := by
  show el (subS l 0 ((el l).length : Int).toNat) = _
  rw [el_subS, Int.toNat_natCast, Nat.sub_zero, List.drop_zero, List.take_length]
theorem cutL_app {α : Type} (F : List α) (x : α) : cutL (some (F ++ [x])) = F := by
  show el (subS (some (F ++ [x])) 0 (((F ++ [x]).length : Int) - 1).toNat) = _
  rw [el_subS, el_some, List.length_append, List.length_singleton, show (((F.length + 1 : Nat) : Int) - 1).toNat = F.length by omega]
  simp
theorem lastP_app (F : List (Option (List Int))) (x : Option (List Int)) : lastP (some (F ++ [x])) = x := by
  show (F ++ [x]).getD (((F ++ [x]).length : Int) - 1).toNat default = x
  rw [List.length_append, List.length_singleton, show (((F.length + 1 : Nat) : Int) - 1).toNat = F.length by omega]
  simp
theorem lastN_app (F : List Int) (x : Int) : lastN (some (F ++ [x])) = x := by
  show (F ++ [x]).getD (((F ++ [x]).length : Int) - 1).toNat default = x
  rw [List.length_append, List.length_singleton, show (((F.length + 1 : Nat) : Int) - 1).toNat = F.length by omega]
  simp
theorem step_semi {M : List (List Int)} (h : OkM M) (hne : M ≠ []) (hl : M.length < 16) : stepS (stOf M) 59 = (some ((M ++ [[-1]]).map some), 0) := by
  have hc := check_st h
  unfold stOf at hc ⊢
  split
  · rename_i e; subst e
    rw [step_1 none 59 (by decide) (by decide) rfl]; rfl
  · rename_i e
    rw [if_neg e] at hc
    have h0 : 0 < M.length := List.length_pos_iff.2 hne
    rw [step_5 _ 59 hc (by rw [el_some, List.length_map]; omega) rfl (by rw [el_some, List.length_map]; omega), allL_eq, el_some, List.map_append]
    rfl
end Go.Proofs.YtadmkfclgpbebaaDoor
namespace Go.Proofs.YtadmkfclgpbebaaDoor
set_option linter.all false
open Go Go.Sx
theorem st_some {M : List (List Int)} (h : M ≠ [[-1]]) : stOf M = some (M.map some) := if_neg h
theorem step_colon {F : List (List Int)} {p : List Int} (h : OkM (F ++ [p])) (hl : p.length < 6) : stepS (stOf (F ++ [p])) 58 = (some ((F ++ [p ++ [-1]]).map some), 0) := by
  have hc := check_st h
  unfold stOf at hc ⊢
  split
  · rename_i e
    have h1 : F = [] ∧ p = [-1] := by
      cases F with
      | nil => simpa using e
      | cons a F => cases F <;> simp at e
    obtain ⟨rfl, rfl⟩ := h1
    rw [step_2 none 58 (by decide) (by decide) rfl]; rfl
  · rename_i e
    rw [if_neg e] at hc
    have em : (F ++ [p]).map some = F.map some ++ [some p] := by simp
    rw [em] at hc ⊢
    have hlp : lastP (some (F.map some ++ [some p])) = some p := lastP_app _ _
    rw [step_6 _ 58 hc (by rw [el_some, List.length_append, List.length_singleton]; omega) rfl (by
      show ((el (lastP (some (F.map some ++ [some p])))).length : Int) < 6
      rw [hlp, el_some]; omega), hlp, cutL_app, allL_eq, el_some]
    simp
theorem step_dig {F : List (List Int)} {p : List Int} {n c : Int} (h : OkM (F ++ [p ++ [n]])) (hd : 48 ≤ c ∧ c ≤ 57) : stepS (stOf (F ++ [p ++ [n]])) c = (some ((F ++ [p ++ [digV n c]]).map some), 0) := by
  have hc := check_st h
  unfold stOf at hc ⊢
  split
  · rename_i e
    have h1 : F = [] ∧ p = [] ∧ n = -1 := by
      cases F with
      | nil =>
        cases p with
        | nil => simpa using e
        | cons a p => cases p <;> simp at e
      | cons a F => cases F <;> simp at e
    obtain ⟨rfl, rfl, rfl⟩ := h1
    rw [step_3 none c (by decide) (by decide) hd]; rfl
  · rename_i e
    rw [if_neg e] at hc
    have em : (F ++ [p ++ [n]]).map some = F.map some ++ [some (p ++ [n])] := by simp
    rw [em] at hc ⊢
    have hlp : lastP (some (F.map some ++ [some (p ++ [n])])) = some (p ++ [n]) := lastP_app _ _
    rw [step_8 _ c hc (by rw [el_some, List.length_append, List.length_singleton]; omega) hd, hlp, cutL_app, cutL_app, lastN_app]
    simp
end Go.Proofs.YtadmkfclgpbebaaDoor

namespace Go.Proofs.YtadmkfclgpbebaaDoor
set_option linter.all false
open Go Go.Sx
theorem OkM.set {F : List (List Int)} {p : List Int} {n m : Int} (h : OkM (F ++ [p ++ [n]])) (hm : -1 ≤ m ∧ m ≤ 9999) : OkM (F ++ [p ++ [m]]) := by
  have hl := h.len
  refine ⟨by simpa using hl, fun q hq => ?_, fun q hq k hk => ?_⟩
  · rcases List.mem_append.1 hq with hq | hq
    · exact h.row q (List.mem_append_left _ hq)
    · rw [List.mem_singleton.1 hq]
      have := h.row (p ++ [n]) (List.mem_append_right _ (List.mem_singleton.2 rfl))
      simpa using this
  · rcases List.mem_append.1 hq with hq | hq
    · exact h.num q (List.mem_append_left _ hq) k hk
    · rw [List.mem_singleton.1 hq] at hk
      rcases List.mem_append.1 hk with hk | hk
      · exact h.num (p ++ [n]) (List.mem_append_right _ (List.mem_singleton.2 rfl)) k (List.mem_append_left _ hk)
      · rw [List.mem_singleton.1 hk]; exact hm
theorem ne_m1 {F : List (List Int)} {p : List Int} {n : Int} (hn : n ≠ -1) : F ++ [p ++ [n]] ≠ [[-1]] := fun e => by
  cases F with
  | nil => cases p with
    | nil => simp at e; exact hn e
    | cons a p => cases p <;> simp at e
  | cons a F => cases F <;> simp at e
theorem digit_nat (d : Nat) (h : d < 10) : ((UInt8.ofNat (48 + d)).toNat : Int) = 48 + d := by
  rw [UInt8.toNat_ofNat']
  omega
theorem num_read {F : List (List Int)} {p : List Int} (h : OkM (F ++ [p ++ [-1]])) : ∀ (u : Nat), u ≤ 9999 → parE (stOf (F ++ [p ++ [-1]])) (Lib.decDigits u) = none ∧ parL (stOf (F ++ [p ++ [-1]])) (Lib.decDigits u) = stOf (F ++ [p ++ [(u : Int)]]) := by
  intro u
  induction u using Nat.strongRecOn with
  | _ u ih =>
    intro hu
    have one : ∀ (n : Int) (d : Nat), d < 10 → OkM (F ++ [p ++ [n]]) → parE (stOf (F ++ [p ++ [n]])) [UInt8.ofNat (48 + d)] = none ∧ parL (stOf (F ++ [p ++ [n]])) [UInt8.ofNat (48 + d)] = some ((F ++ [p ++ [digV n (48 + d)]]).map some) := fun n d hd hn => by
      have hs := step_dig (c := 48 + (d : Int)) hn ⟨by omega, by omega⟩
      refine ⟨?_, ?_⟩
      · rw [parE_no (by rw [digit_nat d hd, hs]; exact fun h => h rfl)]; rfl
      · rw [parL_c, digit_nat d hd, hs]; rfl
    by_cases hs : u < 10
    · rw [Lib.decDigits_one hs]
      obtain ⟨a, b⟩ := one (-1) u hs h
      have e : digV (-1) (48 + (u : Int)) = u := by unfold digV; omega
      refine ⟨a, ?_⟩
      rw [b, e, st_some (ne_m1 (by omega))]
    · obtain ⟨a, b⟩ := ih (u / 10) (by omega) (by omega)
      have hok := OkM.set h (m := ((u / 10 : Nat) : Int)) ⟨by omega, by omega⟩
      obtain ⟨c, d⟩ := one ((u / 10 : Nat) : Int) (u % 10) (by omega) hok
      have e : digV ((u / 10 : Nat) : Int) (48 + ((u % 10 : Nat) : Int)) = u := by unfold digV; omega
      rw [show Lib.decDigits u = Lib.decDigits (u / 10) ++ [UInt8.ofNat (48 + u % 10)] by rw [Lib.decDigits, dif_neg hs]]
      refine ⟨?_, ?_⟩
      · rw [parE_app, a, b]; exact c
      · rw [parL_app, b, d, e, st_some (ne_m1 (by omega))]
end Go.Proofs.YtadmkfclgpbebaaDoor

namespace Go.Proofs.YtadmkfclgpbebaaDoor
set_option linter.all false
open Go Go.Sx
theorem part_read {F : List (List Int)} {p : List Int} (h : OkM (F ++ [p ++ [-1]])) {n : Int} (hn : -1 ≤ n ∧ n ≤ 9999) : parE (stOf (F ++ [p ++ [-1]])) (partS n) = none ∧ parL (stOf (F ++ [p ++ [-1]])) (partS n) = stOf (F ++ [p ++ [n]]) := by
  unfold partS
  split
  · rename_i e; subst e; exact ⟨rfl, rfl⟩
  · obtain ⟨u, rfl⟩ : ∃ u : Nat, n = u := ⟨n.toNat, by omega⟩
    rw [Lib.itoa_nonneg]
    exact num_read h u (by omega)
theorem row_read {F : List (List Int)} {i : Int} : ∀ (r q : List Int) (k : Int), 1 ≤ k → q ≠ [] → OkM (F ++ [q ++ r]) → parE (stOf (F ++ [q])) (rowS i k r) = none ∧ parL (stOf (F ++ [q])) (rowS i k r) = stOf (F ++ [q ++ r])
  | [], q, k, _, _, _ => by rw [List.append_nil]; exact ⟨rfl, rfl⟩
  | n :: r, q, k, hk, hq, h => by
    have hrow := h.row (q ++ n :: r) (List.mem_append_right _ (List.mem_singleton.2 rfl))
    have hnum := h.num (q ++ n :: r) (List.mem_append_right _ (List.mem_singleton.2 rfl))
    have sub : ∀ s : List Int, s ≠ [] → s.length ≤ 6 → (∀ x ∈ s, -1 ≤ x ∧ x ≤ 9999) → OkM (F ++ [s]) := fun s h1 h2 h3 => by
      have hl := h.len
      refine ⟨by simpa using hl, fun t ht => ?_, fun t ht x hx => ?_⟩
      · rcases List.mem_append.1 ht with ht | ht
        · exact h.row t (List.mem_append_left _ ht)
        · rw [List.mem_singleton.1 ht]; exact ⟨List.length_pos_iff.2 h1, h2⟩
      · rcases List.mem_append.1 ht with ht | ht
        · exact h.num t (List.mem_append_left _ ht) x hx
        · rw [List.mem_singleton.1 ht] at hx; exact h3 x hx
    have hlen : q.length + (r.length + 1) ≤ 6 := by have := hrow.2; simpa using this
    have hq1 := sub q hq (by omega) fun x hx => hnum x (List.mem_append_left _ hx)
    have hq2 := sub (q ++ [-1]) (by simp) (by simp; omega) fun x hx => by
      rcases List.mem_append.1 hx with hx | hx
      · exact hnum x (List.mem_append_left _ hx)
      · rw [List.mem_singleton.1 hx]; omega
    have hs := step_colon hq1 (by omega)
    have hst : (some ((F ++ [q ++ [-1]]).map some) : Rws) = stOf (F ++ [q ++ [-1]]) := (st_some fun e => by
      cases F with
      | nil => cases q with
        | nil => exact hq rfl
        | cons a q => cases q <;> simp at e
      | cons a F => cases F <;> simp at e).symm
    obtain ⟨a, b⟩ := part_read hq2 (n := n) (hnum n (by simp))
    obtain ⟨c, d⟩ := row_read r (q ++ [n]) (k + 1) (by omega) (by simp) (by rw [List.append_assoc q [n] r]; exact h)
    have ha : aheadS i k = [58] := by unfold aheadS; rw [if_neg (by omega)]
    rw [row_cons, ha, List.append_assoc]
    have h58 : ((58 : UInt8).toNat : Int) = 58 := rfl
    refine ⟨?_, ?_⟩
    · show parE _ (58 :: (partS n ++ rowS i (k + 1) r)) = none
      rw [parE_no (by rw [h58, hs]; exact fun h => h rfl), h58, hs]
      show parE (some _) _ = _
      rw [hst, parE_app, a, b]; exact c
    · show parL _ (58 :: (partS n ++ rowS i (k + 1) r)) = _
      rw [parL_c, h58, hs]
      show parL (some _) _ = _
      rw [hst, parL_app, b, d, List.append_assoc q [n] r]; rfl
end Go.Proofs.YtadmkfclgpbebaaDoor

namespace Go.Proofs.YtadmkfclgpbebaaDoor
set_option linter.all false
open Go Go.Sx
theorem OkM.left {A B : List (List Int)} (h : OkM (A ++ B)) : OkM A :=
  ⟨by have := h.len; rw [List.length_append] at this; omega, fun p hp => h.row p (List.mem_append_left _ hp), fun p hp => h.num p (List.mem_append_left _ hp)⟩
theorem OkM.snoc {F : List (List Int)} {p : List Int} (h : OkM F) (hl : F.length < 16) (h1 : 1 ≤ p.length ∧ p.length ≤ 6) (h2 : ∀ n ∈ p, -1 ≤ n ∧ n ≤ 9999) : OkM (F ++ [p]) := by
  refine ⟨by simp; omega, fun q hq => ?_, fun q hq => ?_⟩
  · rcases List.mem_append.1 hq with hq | hq
    · exact h.row q hq
    · rw [List.mem_singleton.1 hq]; exact h1
  · rcases List.mem_append.1 hq with hq | hq
    · exact h.num q hq
    · rw [List.mem_singleton.1 hq]; exact h2
theorem m1_num : ∀ n ∈ [(-1 : Int)], -1 ≤ n ∧ n ≤ 9999 := fun n hn => by rw [List.mem_singleton.1 hn]; omega
theorem st_snoc1 {F : List (List Int)} (hF : F ≠ []) : (some ((F ++ [[-1]]).map some) : Rws) = stOf (F ++ [[] ++ [-1]]) := (st_some fun e => by
  cases F with
  | nil => exact hF rfl
  | cons a F => cases F <;> simp at e).symm
theorem rows_read : ∀ (ps : List (Option (List Int))) (F : List (List Int)) (j : Int), 1 ≤ j → F ≠ [] → OkM (F ++ ps.map el) → parE (stOf F) (rowsS j ps) = none ∧ parL (stOf F) (rowsS j ps) = stOf (F ++ ps.map el)
  | [], F, j, _, _, _ => by rw [List.map_nil, List.append_nil]; exact ⟨rfl, rfl⟩
  | p :: ps, F, j, hj, hF, h => by
    have hF1 := h.left
    have hlen := h.len
    rw [List.length_append, List.length_map, List.length_cons] at hlen
    have hp1 := h.row (el p) (List.mem_append_right _ (by simp))
    have hp2 := h.num (el p) (List.mem_append_right _ (by simp))
    obtain ⟨n, r, e⟩ : ∃ n r, el p = n :: r := by
      cases hq : el p with
      | nil => rw [hq] at hp1; simp at hp1
      | cons n r => exact ⟨n, r, rfl⟩
    have hs := step_semi hF1 hF (by omega)
    rw [st_snoc1 hF] at hs
    have h1 : OkM (F ++ [[] ++ [-1]]) := hF1.snoc (by omega) ⟨Nat.le_refl 1, by decide⟩ m1_num
    rw [e] at hp2 hp1
    obtain ⟨a, b⟩ := part_read h1 (n := n) (hp2 n (by simp))
    have h2 : OkM (F ++ [[n] ++ r]) := hF1.snoc (by omega) hp1 hp2
    obtain ⟨c, d⟩ := row_read (i := j) r [n] 1 (by omega) (by simp) h2
    have h3 : OkM ((F ++ [n :: r]) ++ ps.map el) := by rw [List.append_assoc, ← e]; exact h
    obtain ⟨f, g⟩ := rows_read ps (F ++ [n :: r]) (j + 1) (by omega) (by simp) h3
    have ha : aheadS j 0 = [59] := by unfold aheadS; rw [if_pos rfl, if_neg (by omega)]
    have ht : rowsS j (p :: ps) = 59 :: (partS n ++ (rowS j 1 r ++ rowsS (j + 1) ps)) := by
      show rowS j 0 (el p) ++ rowsS (j + 1) ps = _
      rw [e, row_cons, ha]; simp
    have h59 : ((59 : UInt8).toNat : Int) = 59 := rfl
    have hM : F ++ (p :: ps).map el = (F ++ [n :: r]) ++ ps.map el := by rw [List.map_cons, e]; simp
    rw [ht, hM]
    refine ⟨?_, ?_⟩
    · rw [parE_no (by rw [h59, hs]; exact fun h => h rfl), h59, hs, parE_app, a, b]
      show parE (stOf (F ++ [[n]])) _ = none
      rw [parE_app, c, d]; exact f
    · rw [parL_c, h59, hs, parL_app, b]
      show parL (stOf (F ++ [[n]])) _ = _
      rw [parL_app, d]; exact g
theorem ok_of {l : Rws} (h : checkS l = 0) : OkM ((el l).map el) := by
  rcases check_bd l with h1 | ⟨_, h2, h3⟩
  · omega
  · refine ⟨by simpa using h2, fun p hp => ?_, fun p hp => ?_⟩
    · obtain ⟨q, hq, rfl⟩ := List.mem_map.1 hp
      exact ⟨(h3 q hq).1, (h3 q hq).2.1⟩
    · obtain ⟨q, hq, rfl⟩ := List.mem_map.1 hp
      exact (h3 q hq).2.2
theorem ne_of {l : Rws} (h : checkS l = 0) : (el l).map el ≠ [[-1]] := fun e => by
  have he : emptyP l = true := by
    unfold emptyP
    match hl : el l, e with
    | [p], e =>
      have e : el p = [-1] := by simpa using e
      simp [e]
    | [], e => simp at e
    | _ :: _ :: _, e => simp at e
  unfold checkS at h
  rw [if_pos (.inr (.inl he))] at h
  omega
theorem back {l : Rws} (h : checkS l = 0) : (parseS (printS l).1).2 = 0 ∧ (el (parseS (printS l).1).1).map el = (el l).map el := by
  have hp := print_1 l h
  have hlen : (rowsS 0 (el l)).length ≤ 4096 := by
    rcases check_bd l with h1 | ⟨_, h2, h3⟩
    · omega
    · have := rows_len (j := 0) fun p hp => (h3 p hp).2
      omega
  have key : parE none (rowsS 0 (el l)) = none ∧ (el (parL none (rowsS 0 (el l)))).map el = (el l).map el := by
    have hok := ok_of h
    have hne := ne_of h
    cases hl : el l with
    | nil => exact ⟨rfl, rfl⟩
    | cons p ps =>
      rw [hl] at hok hne
      have hp1 := hok.row (el p) (by simp)
      have hp2 := hok.num (el p) (by simp)
      obtain ⟨n, r, e⟩ : ∃ n r, el p = n :: r := by
        cases hq : el p with
        | nil => rw [hq] at hp1; simp at hp1
        | cons n r => exact ⟨n, r, rfl⟩
      rw [e] at hp1 hp2
      have h0 : OkM ([] : List (List Int)) := ⟨Nat.zero_le _, (fun p hp => by cases hp), (fun p hp => by cases hp)⟩
      obtain ⟨a, b⟩ := part_read (F := []) (p := []) (h0.snoc (by decide) ⟨Nat.le_refl 1, by decide⟩ m1_num) (n := n) (hp2 n (by simp))
      obtain ⟨c, d⟩ := row_read (F := []) (i := 0) r [n] 1 (by omega) (by simp) (h0.snoc (by decide) hp1 hp2)
      have hM : (p :: ps).map el = [n :: r] ++ ps.map el := by rw [List.map_cons, e]; rfl
      obtain ⟨f, g⟩ := rows_read ps [n :: r] (0 + 1) (by omega) (by simp) (by rw [← hM]; exact hok)
      have ht : rowsS 0 (p :: ps) = partS n ++ (rowS 0 1 r ++ rowsS (0 + 1) ps) := by
        show rowS 0 0 (el p) ++ rowsS (0 + 1) ps = _
        rw [e, row_cons]
        have ha : aheadS 0 0 = [] := rfl
        rw [ha]; simp
      have hst : (none : Rws) = stOf ([] ++ [[] ++ [-1]]) := rfl
      rw [ht, hst]
      refine ⟨?_, ?_⟩
      · rw [parE_app, a, b]
        show parE (stOf ([] ++ [[n]])) _ = none
        rw [parE_app, c, d]; exact f
      · rw [parL_app, b]
        show (el (parL (stOf ([] ++ [[n]])) _)).map el = _
        rw [parL_app, d]
        show (el (parL (stOf [n :: r]) _)).map el = _
        rw [g, ← hM, st_some hne, el_some, List.map_map]
        have : (el ∘ some : List Int → List Int) = id := rfl
        rw [this, List.map_id]
  rw [hp]
  show (parseS (rowsS 0 (el l))).2 = 0 ∧ _
  have hq : parseS (rowsS 0 (el l)) = (parL none (rowsS 0 (el l)), 0) := by
    unfold parseS
    rw [if_neg (by omega), key.1]
  rw [hq]
  exact ⟨rfl, key.2⟩
end Go.Proofs.YtadmkfclgpbebaaDoor

namespace Go.Proofs.YtadmkfclgpbebaaDoor
set_option linter.all false
open Go Go.Sx
set_option maxRecDepth 100000
set_option linter.unusedVariables false
set_option linter.unusedSimpArgs false
end Go.Proofs.YtadmkfclgpbebaaDoor

namespace Go.Proofs.YtadmkfclgpbebaaDoor
set_option linter.all false
open Go Go.Sx
def Rd (M : List (List Int)) (s : List UInt8) (M2 : List (List Int)) : Prop := parE (stOf M) s = none ∧ parL (stOf M) s = stOf M2
theorem Rd.nil (M : List (List Int)) : Rd M [] M := ⟨rfl, rfl⟩
theorem Rd.app {A B C : List (List Int)} {s t : List UInt8} (h : Rd A s B) (k : Rd B t C) : Rd A (s ++ t) C := ⟨by rw [parE_app, h.1, h.2]; exact k.1, by rw [parL_app, h.2]; exact k.2⟩
theorem Rd.cons {A B C : List (List Int)} {b : UInt8} {t : List UInt8} (h : Rd A [b] B) (k : Rd B t C) : Rd A (b :: t) C := Rd.app h k
theorem read_dig {F : List (List Int)} {p : List Int} {m : Int} (h : OkM (F ++ [p ++ [m]])) {d : Nat} (hd : d < 10) : Rd (F ++ [p ++ [m]]) [UInt8.ofNat (48 + d)] (F ++ [p ++ [digV m (48 + d)]]) := by
  have hs := step_dig (c := 48 + (d : Int)) h ⟨by omega, by omega⟩
  have hv : digV m (48 + d) ≠ -1 := by unfold digV; omega
  refine ⟨?_, ?_⟩
  · rw [parE_no (by rw [digit_nat d hd, hs]; exact fun h => h rfl)]; rfl
  · rw [parL_c, digit_nat d hd, hs, st_some (ne_m1 hv)]; rfl
theorem digV_bd {m c : Int} (h1 : 48 ≤ c) : -1 ≤ digV m c ∧ digV m c ≤ 9999 := by unfold digV; omega
theorem read_colon {F : List (List Int)} {p : List Int} (h : OkM (F ++ [p])) (hl : p.length < 6) (hp : p ≠ []) : Rd (F ++ [p]) [58] (F ++ [p ++ [-1]]) := by
  have hs := step_colon h hl
  have h58 : ((58 : UInt8).toNat : Int) = 58 := rfl
  have hst : (some ((F ++ [p ++ [-1]]).map some) : Rws) = stOf (F ++ [p ++ [-1]]) := (st_some fun e => by
    cases F with
    | nil => cases p with
      | nil => exact hp rfl
      | cons a q => cases q <;> simp at e
    | cons a F => cases F <;> simp at e).symm
  refine ⟨?_, ?_⟩
  · rw [parE_no (by rw [h58, hs]; exact fun h => h rfl)]; rfl
  · rw [parL_c, h58, hs, hst]; rfl
theorem OkM.last {F : List (List Int)} {p q : List Int} (h : OkM (F ++ [p])) (h1 : 1 ≤ q.length ∧ q.length ≤ 6) (h2 : ∀ n ∈ q, -1 ≤ n ∧ n ≤ 9999) : OkM (F ++ [q]) := by
  have hl := h.len
  simp at hl
  exact h.left.snoc (by omega) h1 h2
end Go.Proofs.YtadmkfclgpbebaaDoor

namespace Go.Proofs.YtadmkfclgpbebaaDoor
set_option linter.all false
open Go Go.Sx
def Sg (s : List UInt8) : Prop := ∀ b ∈ s, 48 ≤ b.toNat ∧ b.toNat ≤ 59
def txt (M : List (List Int)) : List UInt8 := rowsS 0 (M.map some)
theorem rowsS_app : ∀ (ps qs : List (Option (List Int))) (j : Int), rowsS j (ps ++ qs) = rowsS j ps ++ rowsS (j + ps.length) qs
  | [], qs, j => by simp [rowsS]
  | p :: ps, qs, j => by
    show rowS j 0 (el p) ++ rowsS (j + 1) (ps ++ qs) = (rowS j 0 (el p) ++ rowsS (j + 1) ps) ++ _
    rw [rowsS_app ps qs (j + 1), List.append_assoc, List.length_cons, show j + 1 + (ps.length : Int) = j + ((ps.length + 1 : Nat) : Int) by omega]
theorem rowS_app (i : Int) : ∀ (r q : List Int) (k : Int), rowS i k (r ++ q) = rowS i k r ++ rowS i (k + r.length) q
  | [], q, k => by simp [rowS]
  | n :: r, q, k => by
    rw [List.cons_append, row_cons, row_cons, rowS_app i r q (k + 1), List.length_cons, show k + 1 + (r.length : Int) = k + ((r.length + 1 : Nat) : Int) by omega]
    simp only [List.append_assoc]
def hd (F : List (List Int)) (p : List Int) : List UInt8 := rowsS 0 (F.map some) ++ (rowS (F.length : Int) 0 p ++ aheadS (F.length : Int) (p.length : Int))
theorem txt_last (F : List (List Int)) (p : List Int) (n : Int) : txt (F ++ [p ++ [n]]) = hd F p ++ partS n := by
  unfold txt hd
  rw [List.map_append, rowsS_app, List.length_map]
  show _ ++ (rowS (0 + (F.length : Int)) 0 (p ++ [n]) ++ []) = _
  rw [rowS_app, List.append_nil, Int.zero_add, Int.zero_add, row_cons]
  simp [rowS]
theorem txt_colon (F : List (List Int)) (p : List Int) (n : Int) : txt (F ++ [p ++ [n] ++ [-1]]) = txt (F ++ [p ++ [n]]) ++ [58] := by
  rw [txt_last F (p ++ [n]) (-1), txt_last]
  unfold hd
  rw [rowS_app, row_cons]
  have h1 : aheadS (F.length : Int) ((p ++ [n]).length : Int) = [58] := by unfold aheadS; rw [if_neg (by simp; omega)]
  rw [h1, Int.zero_add]
  simp [rowS, partS]
theorem txt_semi {M : List (List Int)} (h : M ≠ []) : txt (M ++ [[-1]]) = txt M ++ [59] := by
  have e := txt_last M [] (-1)
  rw [List.nil_append] at e
  rw [e]
  unfold hd txt
  have hl : 0 < M.length := List.length_pos_iff.2 h
  have h1 : aheadS (M.length : Int) (([] : List Int).length : Int) = [59] := by
    unfold aheadS
    rw [if_pos (by rfl), if_neg (by omega)]
  rw [h1]
  simp [rowS, partS]
theorem dig_rng : ∀ (u : Nat), ∀ b ∈ Lib.decDigits u, 48 ≤ b.toNat ∧ b.toNat ≤ 57 := by
  intro u
  induction u using Nat.strongRecOn with
  | _ u ih =>
    intro b hb
    have one : ∀ d : Nat, d < 10 → 48 ≤ (UInt8.ofNat (48 + d)).toNat ∧ (UInt8.ofNat (48 + d)).toNat ≤ 57 := fun d hd => by
      rw [UInt8.toNat_ofNat']; omega
    by_cases hs : u < 10
    · rw [Lib.decDigits_one hs] at hb
      rw [List.mem_singleton.1 hb]; exact one u hs
    · rw [show Lib.decDigits u = Lib.decDigits (u / 10) ++ [UInt8.ofNat (48 + u % 10)] by rw [Lib.decDigits, dif_neg hs]] at hb
      rcases List.mem_append.1 hb with hb | hb
      · exact ih (u / 10) (by omega) b hb
      · rw [List.mem_singleton.1 hb]; exact one _ (by omega)
theorem part_rng {n : Int} (hn : -1 ≤ n) : ∀ b ∈ partS n, 48 ≤ b.toNat ∧ b.toNat ≤ 57 := fun b hb => by
  unfold partS at hb
  split at hb
  · cases hb
  · obtain ⟨u, rfl⟩ : ∃ u : Nat, n = u := ⟨n.toNat, by omega⟩
    rw [Lib.itoa_nonneg] at hb
    exact dig_rng u b hb
theorem dig_step (u : Nat) (h : ¬u < 10) : (Lib.decDigits u).length = (Lib.decDigits (u / 10)).length + 1 := by
  rw [show Lib.decDigits u = Lib.decDigits (u / 10) ++ [UInt8.ofNat (48 + u % 10)] by rw [Lib.decDigits, dif_neg h]]
  simp
theorem dig_pos (u : Nat) : 1 ≤ (Lib.decDigits u).length := by
  by_cases h : u < 10
  · rw [Lib.decDigits_one h]; exact Nat.le_refl 1
  · rw [dig_step u h]; omega
theorem part_step {n c : Int} (hn : -1 ≤ n ∧ n ≤ 9999) (hc : 48 ≤ c ∧ c ≤ 57) : (partS (digV n c)).length ≤ (partS n).length + 1 := by
  have hp : ∀ v : Nat, partS (v : Int) = Lib.decDigits v := fun v => by unfold partS; rw [if_neg (by omega), Lib.itoa_nonneg]
  by_cases h : n ≤ 0
  · obtain ⟨d, hd⟩ : ∃ d : Nat, digV n c = d ∧ d < 10 := ⟨(c - 48).toNat, by unfold digV; omega, by omega⟩
    rw [hd.1, hp, Lib.decDigits_one hd.2]
    simp
  · obtain ⟨u, rfl⟩ : ∃ u : Nat, n = u := ⟨n.toNat, by omega⟩
    by_cases h2 : u * 10 + (c - 48).toNat ≤ 9999
    · have e : digV u c = ((u * 10 + (c - 48).toNat : Nat) : Int) := by unfold digV; omega
      rw [e, hp, hp, dig_step _ (by omega), show (u * 10 + (c - 48).toNat) / 10 = u by omega]
      exact Nat.le_refl _
    · have e : digV u c = ((9999 : Nat) : Int) := by unfold digV; omega
      rw [e, hp, hp]
      have h4 : (Lib.decDigits 9999).length = 4 := by decide +kernel
      have h5 := dig_step u (by omega)
      have h6 := dig_step (u / 10) (by omega)
      have h7 := dig_pos (u / 10 / 10)
      omega
theorem cnt_app (s t : List UInt8) (c : UInt8) : Lib.countByte (s ++ t) c = Lib.countByte s c + Lib.countByte t c := by
  unfold Lib.countByte
  first | (rw [List.filter_append, List.length_append]; done) | (rw [List.countP_append]; done) | (simp; omega) | simp
theorem cnt_zero {s : List UInt8} {c : UInt8} (h : ∀ b ∈ s, b ≠ c) : Lib.countByte s c = 0 := by
  induction s with
  | nil => rfl
  | cons b s ih =>
    have e := cnt_app [b] s c
    rw [List.singleton_append] at e
    rw [e, ih fun x hx => h x (List.mem_cons_of_mem _ hx)]
    have : b ≠ c := h b List.mem_cons_self
    simp [Lib.countByte, this]
structure Go1 (M : List (List Int)) (s : List UInt8) (M2 : List (List Int)) : Prop where
  rd : Rd M s M2
  ok : OkM M2
  ne : M2 ≠ []
  len : (txt M2).length ≤ (txt M).length + s.length
  semi : Lib.countByte (txt M2) 59 = Lib.countByte (txt M) 59 + Lib.countByte s 59
  col : Lib.countByte (txt M2) 58 = Lib.countByte (txt M) 58 + Lib.countByte s 58
theorem Go1.app {A B C : List (List Int)} {s t : List UInt8} (h : Go1 A s B) (k : Go1 B t C) : Go1 A (s ++ t) C :=
  ⟨h.rd.app k.rd, k.ok, k.ne, by have := h.len; have := k.len; rw [List.length_append]; omega, by rw [cnt_app, k.semi, h.semi]; omega, by rw [cnt_app, k.col, h.col]; omega⟩
theorem last_of {M : List (List Int)} (h : OkM M) (hne : M ≠ []) : ∃ F p n, M = F ++ [p ++ [n]] := by
  obtain ⟨F, q, rfl⟩ : ∃ F q, M = F ++ [q] := ⟨M.dropLast, M.getLast hne, (List.dropLast_concat_getLast hne).symm⟩
  have hq := (h.row q (List.mem_append_right _ (List.mem_singleton.2 rfl))).1
  have hqn : q ≠ [] := fun e => by subst e; simp at hq
  exact ⟨F, q.dropLast, q.getLast hqn, by rw [List.dropLast_concat_getLast hqn]⟩
theorem step_go {M : List (List Int)} (h : OkM M) (hne : M ≠ []) {b : UInt8} (hb : 48 ≤ b.toNat ∧ b.toNat ≤ 59) : (∃ M2, Go1 M [b] M2) ∨ parE (stOf M) [b] = some 3 := by
  obtain ⟨F, p, n, rfl⟩ := last_of h hne
  have hl := h.len
  rw [List.length_append, List.length_singleton] at hl
  have hr := h.row (p ++ [n]) (List.mem_append_right _ (List.mem_singleton.2 rfl))
  have hnm := h.num (p ++ [n]) (List.mem_append_right _ (List.mem_singleton.2 rfl))
  have hn := hnm n (by simp)
  have hc0 := check_st h
  have hst0 : el (stOf (F ++ [p ++ [n]])) = (F ++ [p ++ [n]]).map some ∨ F = [] ∧ p = [] := by
    by_cases e : F ++ [p ++ [n]] = [[-1]]
    · refine .inr ?_
      cases F with
      | nil => cases p with
        | nil => exact ⟨rfl, rfl⟩
        | cons a p => cases p <;> simp at e
      | cons a F => cases F <;> simp at e
    · exact .inl (by rw [st_some e]; rfl)
  by_cases h9 : b.toNat ≤ 57
  ·
    obtain ⟨d, hd, rfl⟩ : ∃ d : Nat, d < 10 ∧ b = UInt8.ofNat (48 + d) := ⟨b.toNat - 48, by omega, by rw [show 48 + (b.toNat - 48) = b.toNat by omega]; simp⟩
    have h1 := read_dig h hd
    have hv : -1 ≤ digV n (48 + (d : Int)) ∧ digV n (48 + (d : Int)) ≤ 9999 := digV_bd (by omega)
    have nc : ∀ c : UInt8, 58 ≤ c.toNat → Lib.countByte (txt (F ++ [p ++ [digV n (48 + (d : Int))]])) c = Lib.countByte (txt (F ++ [p ++ [n]])) c + Lib.countByte [UInt8.ofNat (48 + d)] c := fun c hc => by
      rw [txt_last, txt_last, cnt_app, cnt_app, cnt_zero (s := partS (digV n _)) fun x hx e => by have := part_rng hv.1 x hx; rw [e] at this; omega,
        cnt_zero (s := partS n) fun x hx e => by have := part_rng hn.1 x hx; rw [e] at this; omega, cnt_zero (s := [UInt8.ofNat (48 + d)]) fun x hx e => by
          rw [List.mem_singleton.1 hx] at e; rw [← e, UInt8.toNat_ofNat'] at hc; omega]
    refine .inl ⟨_, h1, OkM.set h hv, by simp, ?_, nc 59 (by decide), nc 58 (by decide)⟩
    rw [txt_last, txt_last, List.length_append, List.length_append, List.length_singleton]
    have := part_step hn (c := 48 + (d : Int)) ⟨by omega, by omega⟩
    omega
  · by_cases h58 : b.toNat = 58
    · obtain rfl : b = 58 := UInt8.toNat_inj.1 h58
      by_cases hp : (p ++ [n]).length < 6
      · have h1 := read_colon h hp (by simp)
        refine .inl ⟨_, h1, h.last (by simp at hp ⊢; omega) fun m hm => ?_, by simp, ?_, ?_, ?_⟩
        · rcases List.mem_append.1 hm with hm | hm
          · exact hnm m hm
          · rw [List.mem_singleton.1 hm]; omega
        · rw [txt_colon, List.length_append]; exact Nat.le_refl _
        · rw [txt_colon, cnt_app]
        · rw [txt_colon, cnt_app]
      · refine .inr ?_
        have hs : stepS (stOf (F ++ [p ++ [n]])) 58 = (none, 3) := by
          rcases hst0 with e | ⟨_, e⟩
          · have e2 : stOf (F ++ [p ++ [n]]) = some ((F ++ [p ++ [n]]).map some) := st_some fun e => by
              cases F with
              | nil => cases p with
                | nil => simp at hp
                | cons a p => cases p <;> simp at e
              | cons a F => cases F <;> simp at e
            rw [e2] at hc0 ⊢
            have em : (F ++ [p ++ [n]]).map some = F.map some ++ [some (p ++ [n])] := by simp
            rw [em] at hc0 ⊢
            have hlp : lastP (some (F.map some ++ [some (p ++ [n])])) = some (p ++ [n]) := lastP_app _ _
            unfold stepS
            rw [if_neg (by omega), if_neg (by rw [el_some, List.length_append, List.length_singleton]; omega), if_neg (by omega), if_neg (fun hq => by have hq2 := hq.2; rw [hlp, el_some] at hq2; omega), if_pos (.inr rfl)]
          · subst e; exact absurd (show ([] ++ [n]).length < 6 from (by decide : 1 < 6)) hp
        have h2 : ((58 : UInt8).toNat : Int) = 58 := rfl
        rw [parE_so (by rw [h2, hs]; exact fun h => by cases h), h2, hs]
    · obtain rfl : b = 59 := UInt8.toNat_inj.1 (by have : (59 : UInt8).toNat = 59 := rfl; omega)
      by_cases hM : F.length + 1 < 16
      · have hs := step_semi h hne (by rw [List.length_append, List.length_singleton]; exact hM)
        have hst : (some (((F ++ [p ++ [n]]) ++ [[-1]]).map some) : Rws) = stOf ((F ++ [p ++ [n]]) ++ [[-1]]) := st_snoc1 hne
        rw [hst] at hs
        have h2 : ((59 : UInt8).toNat : Int) = 59 := rfl
        refine .inl ⟨(F ++ [p ++ [n]]) ++ [[-1]], ⟨by rw [parE_no (by rw [h2, hs]; exact fun h => h rfl)]; rfl, by rw [parL_c, h2, hs]; rfl⟩, h.snoc (by rw [List.length_append, List.length_singleton]; exact hM) ⟨Nat.le_refl 1, by decide⟩ m1_num, by simp, ?_, ?_, ?_⟩
        · rw [txt_semi hne, List.length_append]; exact Nat.le_refl _
        · rw [txt_semi hne, cnt_app]
        · rw [txt_semi hne, cnt_app]
      · refine .inr ?_
        have hs : stepS (stOf (F ++ [p ++ [n]])) 59 = (none, 3) := by
          have e2 : stOf (F ++ [p ++ [n]]) = some ((F ++ [p ++ [n]]).map some) := st_some fun e => by
            have := congrArg List.length e
            rw [List.length_append] at this
            simp only [List.length_singleton] at this
            omega
          rw [e2] at hc0 ⊢
          have hll : (el (some ((F ++ [p ++ [n]]).map some) : Rws)).length = F.length + 1 := by rw [el_some]; simp
          unfold stepS
          rw [if_neg (by omega), if_neg (by rw [hll]; omega), if_neg (by rw [hll]; omega), if_neg (by omega), if_pos (.inl rfl)]
        have h2 : ((59 : UInt8).toNat : Int) = 59 := rfl
        rw [parE_so (by rw [h2, hs]; exact fun h => by cases h), h2, hs]
theorem run_go : ∀ (s : List UInt8) {M : List (List Int)}, OkM M → M ≠ [] → Sg s → (∃ M2, Go1 M s M2) ∨ parE (stOf M) s = some 3
  | [], M, h, hne, _ => .inl ⟨M, Rd.nil M, h, hne, Nat.le_refl _, by simp [Lib.countByte], by simp [Lib.countByte]⟩
  | b :: s, M, h, hne, hs => by
    have e : parE (stOf M) (b :: s) = match parE (stOf M) [b] with | none => parE (parL (stOf M) [b]) s | some e => some e := by
      exact parE_app [b] s (stOf M)
    rcases step_go h hne (hs b List.mem_cons_self) with ⟨M1, h1⟩ | h1
    · rcases run_go s h1.ok h1.ne (fun x hx => hs x (List.mem_cons_of_mem _ hx)) with ⟨M2, h2⟩ | h2
      · exact .inl ⟨M2, h1.app h2⟩
      · refine .inr ?_
        rw [e, h1.rd.1, h1.rd.2]; exact h2
    · refine .inr ?_
      rw [e, h1]
theorem el_st {M : List (List Int)} (h : M ≠ []) : rowsS 0 (el (stOf M)) = txt M := by
  by_cases e : M = [[-1]]
  · subst e; rfl
  · rw [st_some e]; rfl
theorem canon {s : List UInt8} (hs : Sg s) (hl : s.length ≤ 4096) (k : Nat) :
    (parseS s = (none, 3)) ∨ ∃ x, parseS s = (x, 0) ∧ checkS x = 0 ∧ (printS x).2 = 0 ∧ (parseS (s.take k)).2 = 0 ∧ (printS x).1.length ≤ s.length ∧ Lib.countByte (printS x).1 59 = Lib.countByte s 59 ∧ Lib.countByte (printS x).1 58 = Lib.countByte s 58 := by
  have h0 : OkM [[(-1 : Int)]] := ⟨by decide, (fun p hp => by rw [List.mem_singleton.1 hp]; exact ⟨Nat.le_refl 1, by decide⟩), (fun p hp => by rw [List.mem_singleton.1 hp]; exact m1_num)⟩
  have hn : stOf [[(-1 : Int)]] = none := rfl
  rcases run_go s h0 (by simp) hs with ⟨M, h⟩ | h
  · refine .inr ⟨stOf M, ?_, check_st h.ok, ?_⟩
    · have a := h.rd.1
      have b := h.rd.2
      rw [hn] at a b
      unfold parseS
      rw [if_neg (by omega), a, b]
    · have hc := check_st h.ok
      rw [print_1 _ hc]
      have ht : txt [[(-1 : Int)]] = [] := rfl
      refine ⟨rfl, ?_, ?_, ?_, ?_⟩
      · have a := h.rd.1
        rw [hn] at a
        have e : parE none (s.take k) = none := by
          rw [← List.take_append_drop k s, parE_app] at a
          cases hq : parE none (s.take k) with
          | none => rfl
          | some e => rw [hq] at a; cases a
        unfold parseS
        rw [if_neg (by rw [List.length_take]; omega), e]
      · show (rowsS 0 (el (stOf M))).length ≤ _
        rw [el_st h.ne]
        have := h.len
        rw [ht] at this
        simpa using this
      · show Lib.countByte (rowsS 0 (el (stOf M))) 59 = _
        rw [el_st h.ne, h.semi, ht]; simp [Lib.countByte]
      · show Lib.countByte (rowsS 0 (el (stOf M))) 58 = _
        rw [el_st h.ne, h.col, ht]; simp [Lib.countByte]
  · refine .inl ?_
    rw [hn] at h
    unfold parseS
    rw [if_neg (by omega), h]
end Go.Proofs.YtadmkfclgpbebaaDoor

namespace Go.Proofs.YtadmkfclgpbebaaDoor
set_option linter.all false
open Go Go.Sx
set_option maxRecDepth 100000
set_option linter.unusedVariables false
set_option linter.unusedSimpArgs false
def cnt_s : List U → Option (Nat × List U)
  | [.str s, .str c] => if c.length = 1 then some (0, [.int .i64 ((Lib.countByte s (c.getD 0 0) : Int))]) else none
  | _ => none
theorem cnt_s_e (s : (List UInt8)) (c : (List UInt8)) (hc : c.length = 1) : cnt_s [.str s, .str c] = some (0, [.int .i64 ((Lib.countByte s (c.getD 0 0) : Int))]) := if_pos hc
theorem cnt_c {G : Nat → Option Obj} (hst : StartOk Tryd.prog G gl H0 n0) : ConOk Tryd.prog G 30 [.s 9, .s 9] cnt_s [.s 3] := by
  intro us outs w vs R hsh hs hG hR
  unfold cnt_s at hs
  split at hs
  · skip
    rename_i s c
    split at hs
    · rename_i hc
      cases hs
      have hv := val_of_shL (vs2 := [.string ⟨⟨s⟩⟩, .string ⟨⟨c⟩⟩]) hsh rfl
      subst hv
      refine con_end (vr := [.int .i64 (Lib.countByte s (c.getD 0 0))]) Tryd.func30 rfl (by kernel_rfl) rfl ?_
      obtain ⟨x, rfl⟩ : ∃ x, c = [x] := by
        match c, hc with
        | [x], _ => exact ⟨x, rfl⟩
        | [], h => cases h
        | _ :: _ :: _, h => simp at h
      exact (Tryd.strings_Count_one ⟨⟨s⟩⟩ x w).mono fun e w' ⟨h1, h2⟩ => ⟨h1, by subst h2; exact RowKit.Below.refl _ _⟩
    · cases hs
  · cases hs
noncomputable def L_cnt : List (FuncId × FnC) := (30, conF Tryd.prog [.s 9, .s 9] cnt_s [.s 3]) :: L_wks
theorem L_cnt_ok {G : Nat → Option Obj} (hst : StartOk Tryd.prog G gl H0 n0) : ConsOk Tryd.prog G gl L_cnt := .cons (cnt_c hst) (L_wks_ok hst)
theorem lens_of {l : Rws} (h : checkS l = 0) : (el l).length ≤ 1000000000 ∧ ∀ p ∈ el l, (el p).length ≤ 1000000000 := by
  rcases check_bd l with h1 | ⟨_, h2, h3⟩
  · omega
  · exact ⟨by omega, fun p hp => by have := (h3 p hp).2.1; omega⟩
theorem lens_eq {l r : Rws} (h : (el l).map el = (el r).map el) (k : (el r).length ≤ 1000000000 ∧ ∀ p ∈ el r, (el p).length ≤ 1000000000) : (el l).length ≤ 1000000000 ∧ ∀ p ∈ el l, (el p).length ≤ 1000000000 := by
  have hl := congrArg List.length h
  simp only [List.length_map] at hl
  refine ⟨by omega, fun p hp => ?_⟩
  have : el p ∈ (el r).map el := by rw [← h]; exact List.mem_map.2 ⟨p, hp, rfl⟩
  obtain ⟨q, hq, e⟩ := List.mem_map.1 this
  rw [← e]; exact k.2 q hq
def sgn (x : Int) : Int := 48 + x % 12
theorem sgn_idx {x : Int} (h : 0 ≤ x) : (([48, 49, 50, 51, 52, 53, 54, 55, 56, 57, 58, 59] : List UInt8).getD (x % 12).toNat 0).toNat = sgn x := by
  have h1 : 0 ≤ x % 12 := by omega
  have h2 : x % 12 < 12 := by omega
  unfold sgn
  generalize x % 12 = y at *
  obtain ⟨n, rfl⟩ : ∃ n : Nat, y = n := ⟨y.toNat, by omega⟩
  have : n < 12 := by omega
  rcases n with _ | _ | _ | _ | _ | _ | _ | _ | _ | _ | _ | _ | n <;> first | rfl | (exfalso; omega)
theorem sg_step (l : List Int) {i : Int} (h0 : 0 ≤ i) (h1 : i < (l.length : Int)) (h2 : i < 100) : ((l.drop i.toNat).take (100 - i).toNat).map sgn = sgn (l.getD i.toNat default) :: ((l.drop (i + 1).toNat).take (100 - (i + 1)).toNat).map sgn := by
  rw [drop_step l h0 h1, show (100 - i).toNat = (100 - (i + 1)).toNat + 1 by omega]; rfl
theorem sg_end (l : List Int) {i : Int} (h : (l.length : Int) ≤ i ∨ 100 ≤ i) : ((l.drop i.toNat).take (100 - i).toNat).map sgn = [] := by
  rcases h with h | h
  · rw [drop_end l h]; simp
  · rw [show (100 - i).toNat = 0 by omega]; rfl
def cnl_s : List U → Option (Nat × List U)
  | [u_s, .int .u8 k, u_b, .int .i64 i] => (decS rB u_s).bind fun s => (decS rB u_b).bind fun b => if 0 ≤ i ∧ i ≤ 100 ∧ ((el b).length : Int) = i ∧ ∀ x ∈ el s, 0 ≤ x ∧ x ≤ 255 then some (0, [.int .u8 k, encS rB (catS b (some ((((el s).drop i.toNat).take (100 - i).toNat).map sgn)))]) else none
  | _ => none
theorem cnl_s_e (s : (Option (List Int))) (k : Int) (b : (Option (List Int))) (i : Int) (hc : 0 ≤ i ∧ i ≤ 100 ∧ ((el b).length : Int) = i ∧ ∀ x ∈ el s, 0 ≤ x ∧ x ≤ 255) : cnl_s [encS rB s, .int .u8 k, encS rB b, .int .i64 i] = some (0, [.int .u8 k, encS rB (catS b (some ((((el s).drop i.toNat).take (100 - i).toNat).map sgn)))]) := by
  simp only [cnl_s, decS_enc, Option.bind_some]
  exact if_pos hc
def cnl_D : LoopD := ⟨[(0, dat 5 0 11), (1, h 1 4), (5, own 6 2 11), (6, h 3 3)], [(6, .sq 2 11 5 7), (5, .frz), (7, .frz)], 4, [⟨.exit 0, [(1, h 0 4), (5, own 8 1 11)], [(8, .sq 1 11 5 9), (9, .frz)], 2⟩]⟩
noncomputable def cnl_B : Code := (Tryd.f9.body).getD .skip
noncomputable def cnl_x : Code := match codeAt [true, true, true, false, true, false] cnl_B with | some (.loop x) => x | _ => .skip
theorem cnl_b : Tryd.f9.body = some cnl_B := rfl
theorem cnl_p : codeAt [true, true, true, false, true, false] cnl_B = some (.loop cnl_x) := by kernel_rfl
def cnl_t : Tr := .lt 3 (.len) [h 0 11] <| .lt 8 (.bin .lss) [h 3 3, h 4 3] <| .br 5 (.lt 8 (.bin .lss) [h 3 3, .int .i64 (100)] <| .br 6 (.lt 8 (.inbs 1) [h 3 3, h 0 11] <| .br 7 (.lt 4 (.get 1 0) [h 0 11, h 3 3] <| .lt 4 (.bin .rem) [h 8 4, .int .u8 (12)] <| .lt 4 (.idx) [.string ⟨⟨[48, 49, 50, 51, 52, 53, 54, 55, 56, 57, 58, 59]⟩⟩, h 9 4] <| .dt 11 (.snoc 1) [h 2 11, h 10 4] <| .lt 3 (.bin .add) [h 3 3, .int .i64 (1)] <| .ret [.int .i64 (-1), h 0 11, h 1 4, h 11 11, h 12 3]) (.no)) (.ret [.int .i64 (0), h 1 4, h 2 11])) (.ret [.int .i64 (0), h 1 4, h 2 11])
def cnl_m : List U → Nat
  | [u_s, .int .u8 k, u_b, .int .i64 i] => (match decS rB u_s with | some s => (match decS rB u_b with | some b => (100 - i).toNat | none => 0) | none => 0)
  | _ => 0
theorem cnl_me (s : (Option (List Int))) (k : Int) (b : (Option (List Int))) (i : Int) : cnl_m [encS rB s, .int .u8 k, encS rB b, .int .i64 i] = (100 - i).toNat := by
  simp only [cnl_m, decS_enc]
theorem cnl_c {G : Nat → Option Obj} (hst : StartOk Tryd.prog G gl H0 n0) : ∀ (E : Nat → U) (base : Nat), @CodeOk ⟨E, G⟩ Tryd.prog base gl Tryd.f9.ntmps cnl_x (loopF Tryd.prog gl n0 10 cnl_D cnl_s) := by
  refine loop_ok (C := cx L_cnt P_rwl) (dep := 60) (f := 9) (n0 := n0) (nB := 10) (H0 := H0) cnl_m cnl_t (cxg (L_cnt_ok hst) (P_rwl_ok hst)) hst Tryd.func9 cnl_b cnl_p (by kernel_rfl) (by kernel_rfl) (by kernel_rfl) ?_
  intro us d outs hs
  have hs0 := hs
  unfold cnl_s at hs
  split at hs
  · skip
    rename_i u_s k u_b i
    have hq_s := Option.bind_eq_some_iff.1 hs
    clear hs
    obtain ⟨s, hd_s, hs⟩ := hq_s
    replace hd_s := decS_eq hd_s
    subst hd_s
    have hq_b := Option.bind_eq_some_iff.1 hs
    clear hs
    obtain ⟨b, hd_b, hs⟩ := hq_b
    replace hd_b := decS_eq hd_b
    subst hd_b
    split at hs
    · rename_i hc
      clear hs hs0
      have hg := getB_bd (by decide) hc.2.2.2 i.toNat
      refine ⟨rfl, ?_⟩
      unfold cnl_t
      refine sat_lt [_, _, _, _, _] (ev_lenS _ _) ⟨by decide, rfl⟩ rfl ?_
      refine sat_lt [_, _, _, _, _, _] (ev_lss _ _ _) ⟨by decide, rfl⟩ rfl ?_
      first | refine sat_br rfl (fun g0 => ?_) (fun g0 => ?_) | refine sat_brB rfl (fun g0 => ?_) (fun g0 => ?_)
      · skip
        refine sat_lt [_, _, _, _, _, _, _] (ev_lss _ _ _) ⟨by decide, rfl⟩ rfl ?_
        first | refine sat_br rfl (fun g1 => ?_) (fun g1 => ?_) | refine sat_brB rfl (fun g1 => ?_) (fun g1 => ?_)
        · skip
          refine sat_lt [_, _, _, _, _, _, _, _] (ev_inbsS rfl) ⟨by decide, rfl⟩ rfl ?_
          first | refine sat_br rfl (fun g2 => ?_) (fun g2 => ?_) | refine sat_brB rfl (fun g2 => ?_) (fun g2 => ?_)
          · skip
            refine sat_lt (u := .int .u8 _) [_, _, _, _, _, _, _, _, _] (ev_getS rfl (by omega) (by omega) rfl) ⟨by decide, rfl⟩ rfl ?_
            first | refine sat_lt [_, _, _, _, _, _, _, _, _, _] (ev_remW (by omega) (by omega)) ⟨by decide, rfl⟩ rfl ?_ | refine sat_lt [_, _, _, _, _, _, _, _, _, _] (ev_rem _ _ _ (by omega)) ⟨by decide, rfl⟩ rfl ?_
            refine sat_lt [_, _, _, _, _, _, _, _, _, _, _] (ev_idx _ _ _ (by omega) (by simp [*] <;> omega)) ⟨by decide, rfl⟩ rfl ?_
            refine sat_dt (r := rB) [_, _, _, _, _, _, _, _, _, _, _, _] (ev_snocR rfl rfl (by decide) (by simp [*] <;> omega)) rfl rfl ?_
            first | refine sat_lt [_, _, _, _, _, _, _, _, _, _, _, _, _] (ev_addW (wrap64 (by omega) (by omega))) ⟨by decide, rfl⟩ rfl ?_ | refine sat_lt [_, _, _, _, _, _, _, _, _, _, _, _, _] (ev_add _ _ _) ⟨by decide, rfl⟩ rfl ?_
            refine sat_ret [.int .i64 _, encS rB _, .int .u8 _, encS rB _, .int .i64 _] rfl ?_
            refine leaf_back ?_ ?_
            · rw [cnl_s_e s k b i hc, sg_step (el s) (by omega) (by omega) (by omega), ← catS_cons, ← sgn_idx hg.1]
              exact cnl_s_e _ _ _ _ ⟨by omega, by omega, by simp [el_some]; omega, hc.2.2.2⟩
            · rw [cnl_me, cnl_me]; omega
          · skip
            first | omega | (exfalso; simp_all; done) | (exfalso; simp_all; omega)
        · skip
          refine sat_ret [.int .i64 _, .int .u8 _, encS rB _] rfl ?_
          refine leaf_exit (d := 0) ?_
          rw [cnl_s_e s k b i hc, sg_end (el s) (by omega)]; rfl
      · skip
        refine sat_ret [.int .i64 _, .int .u8 _, encS rB _] rfl ?_
        refine leaf_exit (d := 0) ?_
        rw [cnl_s_e s k b i hc, sg_end (el s) (by omega)]; rfl
    · cases hs
  · cases hs
noncomputable def P_cnl : List LpE := (9, ([true, true, true, false, true, false], loopF Tryd.prog gl n0 10 cnl_D cnl_s)) :: P_rwl
theorem P_cnl_ok {G : Nat → Option Obj} (hst : StartOk Tryd.prog G gl H0 n0) : LpsOk Tryd.prog G gl P_cnl := .cons Tryd.func9 cnl_b cnl_p (cnl_c hst) (P_rwl_ok hst)
theorem canon2 {s : List UInt8} (hs : Sg s) (hl : s.length ≤ 4096) : ((parseS s).2 = 3 ∧ (parseS s).1 = none ∨ (parseS s).2 = 0 ∧ checkS (parseS s).1 = 0 ∧ (printS (parseS s).1).2 = 0 ∧ (∀ k, (parseS (s.take k)).2 = 0) ∧ ((printS (parseS s).1).1.length : Int) ≤ s.length ∧ (Lib.countByte (printS (parseS s).1).1 59 : Int) = Lib.countByte s 59 ∧ (Lib.countByte (printS (parseS s).1).1 58 : Int) = Lib.countByte s 58 ∧
    (parseS (printS (parseS s).1).1).2 = 0 ∧ sameP (parseS (printS (parseS s).1).1).1 (parseS s).1 = true ∧ (el (parseS (printS (parseS s).1).1).1).length ≤ 1000000000 ∧ ∀ p ∈ el (parseS (printS (parseS s).1).1).1, (el p).length ≤ 1000000000) ∧
    (el (parseS s).1).length ≤ 1000000000 ∧ ∀ p ∈ el (parseS s).1, (el p).length ≤ 1000000000 := by
  rcases canon hs hl 0 with h | ⟨x, h, h1, h2, _, h4, h5, h6⟩
  · rw [h]; exact ⟨.inl ⟨rfl, rfl⟩, by decide, fun p hp => by cases hp⟩
  · have hk : ∀ k, (parseS (s.take k)).2 = 0 := fun k => by
      rcases canon hs hl k with g | ⟨_, _, _, _, g, _⟩
      · rw [g] at h; cases h
      · exact g
    have hb := back h1
    have hl2 := lens_of h1
    have hl3 := lens_eq hb.2 hl2
    rw [h]
    exact ⟨.inr ⟨rfl, h1, h2, hk, by exact_mod_cast h4, by exact_mod_cast h5, by exact_mod_cast h6, hb.1, decide_eq_true hb.2, hl3⟩, hl2⟩
def cns_s : List U → Option (Nat × List U)
  | [u_s, .int .u8 k] => (decS rB u_s).bind fun s => if (el s).length ≤ 140737488351232 ∧ (∀ x ∈ el s, 0 ≤ x ∧ x ≤ 255) ∧ 0 ≤ k ∧ k ≤ 255 then some (0, [.bool (true)]) else none
  | _ => none
theorem cns_s_e (s : (Option (List Int))) (k : Int) (hc : (el s).length ≤ 140737488351232 ∧ (∀ x ∈ el s, 0 ≤ x ∧ x ≤ 255) ∧ 0 ≤ k ∧ k ≤ 255) : cns_s [encS rB s, .int .u8 k] = some (0, [.bool (true)]) := by
  simp only [cns_s, decS_enc, Option.bind_some]
  exact if_pos hc
def cns_t : Tr := .fn wks_s [] 1 <| .lt 8 (.un .not) [h 2 8] <| .br 3 (.ret [.bool false]) (.dt 11 (.nilw 1) [] <| .fn cnl_s [h 0 11, h 1 4, h 4 11, .int .i64 (0)] 2 <| .lt 9 (.str) [h 6 11] <| .fn prs_s [h 7 9] 2 <| .lt 3 (.conv .i64) [h 5 4] <| .lt 3 (.len) [h 7 9] <| .lt 3 (.bin .add) [h 11 3, .int .i64 (1)] <| .lt 3 (.bin .rem) [h 10 3, h 12 3] <| .lt 9 (.sub) [h 7 9, .int .i64 (0), h 13 3] <| .fn prs_s [h 14 9] 2 <| .lt 8 (.bin .neq) [h 9 3, .int .i64 (0)] <| .br 17 (.lt 8 (.bin .eql) [h 9 3, .int .i64 (3)] <| .br 18 (.lt 3 (.len) [h 8 11] <| .lt 8 (.bin .eql) [h 19 3, .int .i64 (0)] <| .ret [h 20 8]) (.ret [.bool false])) (.fn prt_s [h 8 11] 2 <| .fn prs_s [h 18 9] 2 <| .lt 8 (.bin .eql) [h 16 3, .int .i64 (0)] <| .br 22 (.lt 8 (.bin .eql) [h 19 3, .int .i64 (0)] <| .br 23 (.lt 8 (.bin .eql) [h 21 3, .int .i64 (0)] <| .br 24 (.fn chk_s [h 8 11] 1 <| .lt 8 (.bin .eql) [h 25 3, .int .i64 (0)] <| .br 26 (.fn rsame_s [h 20 11, h 8 11] 1 <| .br 27 (.lt 3 (.len) [h 18 9] <| .lt 3 (.len) [h 7 9] <| .lt 8 (.bin .leq) [h 28 3, h 29 3] <| .br 30 (.fn cnt_s [h 18 9, .string ⟨⟨[59]⟩⟩] 1 <| .fn cnt_s [h 7 9, .string ⟨⟨[59]⟩⟩] 1 <| .lt 8 (.bin .eql) [h 31 3, h 32 3] <| .br 33 (.fn cnt_s [h 18 9, .string ⟨⟨[58]⟩⟩] 1 <| .fn cnt_s [h 7 9, .string ⟨⟨[58]⟩⟩] 1 <| .lt 8 (.bin .eql) [h 34 3, h 35 3] <| .ret [h 36 8]) (.ret [.bool false])) (.ret [.bool false])) (.ret [.bool false])) (.ret [.bool false])) (.ret [.bool false])) (.ret [.bool false])) (.ret [.bool false])))
theorem cns_c {G : Nat → Option Obj} (hst : StartOk Tryd.prog G gl H0 n0) : ConOk Tryd.prog G 9 [.s 11, .s 4] cns_s [.s 8] := by
  refine con_of_tree (C := cx L_cnt P_cnl) (d := 60) cns_t (cxg (L_cnt_ok hst) (P_cnl_ok hst)) hst ⟨Tryd.f9, _, Tryd.func9, rfl⟩ (by kernel_rfl) (by kernel_rfl) ?_
  intro us outs hs
  unfold cns_s at hs
  split at hs
  · skip
    rename_i u_s k
    have hq_s := Option.bind_eq_some_iff.1 hs
    clear hs
    obtain ⟨s, hd_s, hs⟩ := hq_s
    replace hd_s := decS_eq hd_s
    subst hd_s
    split at hs
    · rename_i hc
      cases hs
      have hn : (el (none : Option (List Int))).length = 0 := rfl
      obtain ⟨L, hL⟩ : ∃ L, L = catS none (some ((((el s).drop (0 : Int).toNat).take (100 - 0 : Int).toNat).map sgn)) := ⟨_, rfl⟩
      have hE : el L = (((el s).drop (0 : Int).toNat).take (100 - 0 : Int).toNat).map sgn := by rw [hL, el_catS]; rfl
      have hB : ∀ n ∈ el L, 48 ≤ n ∧ n ≤ 59 := fun n hn => by
        rw [hE] at hn
        obtain ⟨x, hx, rfl⟩ := List.mem_map.1 hn
        have := hc.2.1 x (List.mem_of_mem_drop (List.mem_of_mem_take hx))
        unfold sgn; omega
      have hR : ∀ n ∈ el L, 0 ≤ n ∧ n < 256 := fun n hn => by have := hB n hn; omega
      have hl : (iB (el L)).length ≤ 100 := by
        unfold iB
        rw [List.length_map, hE, List.length_map, List.length_take]
        show min 100 _ ≤ 100
        omega
      have hS : Sg (iB (el L)) := fun b hb => by
        obtain ⟨x, hx, rfl⟩ := List.mem_map.1 hb
        have := hB x hx
        rw [UInt8.toNat_ofNat']; omega
      obtain ⟨cn, lx⟩ := canon2 hS (by omega)
      have hloop : cnl_s [encS rB s, .int .u8 k, encS rB none, .int .i64 0] = some (0, [.int .u8 k, encS rB L]) := by
        rw [cnl_s_e s k none 0 ⟨by decide, by decide, rfl, hc.2.1⟩, hL]
      have hm0 : 0 ≤ k % (((iB (el L)).length : Int) + 1) := Int.emod_nonneg _ (by omega)
      have hm1 : k % (((iB (el L)).length : Int) + 1) < ((iB (el L)).length : Int) + 1 := Int.emod_lt_of_pos _ (by omega)
      clear hL hE hS hB
      unfold cns_t
      refine sat_fn [_, _, _] rfl rfl rfl ?_
      first | refine sat_lt [_, _, _, _] (ev_notD _) ⟨by decide, rfl⟩ rfl ?_ | refine sat_lt [_, _, _, _] (ev_not _) ⟨by decide, rfl⟩ rfl ?_
      first | refine sat_br rfl (fun g0 => ?_) (fun g0 => ?_) | refine sat_brB rfl (fun g0 => ?_) (fun g0 => ?_)
      · skip
        refine sat_ret [.bool _] rfl ?_
        first | (cases g0; done) | (rcases cn with ⟨c1, c2⟩ | ⟨c1, c2, c3, c4, c5, c6, c7, c8, c9, _⟩ <;> first | (exfalso; omega) | (rw [c2]; rfl) | exact congrArg (fun b => [U.bool b]) (decide_eq_true c7) | (exfalso; exact g2 (c4 _)) | (exfalso; exact g6 (of_decide_eq_true c9)) | (exfalso; exact g8 c6))
      · skip
        refine sat_dt (r := rB) [_, _, _, _, _] (ev_nilwS rfl) rfl rfl ?_
        refine sat_fn [_, _, _, _, _, _, _] hloop rfl rfl ?_
        refine sat_lt [_, _, _, _, _, _, _, _] (ev_strS rfl hR) ⟨by decide, rfl⟩ rfl ?_
        refine sat_fn [_, _, _, _, _, _, _, _, _, _] (prs_s_e _) rfl rfl ?_
        first | refine sat_lt [_, _, _, _, _, _, _, _, _, _, _] (ev_convW (wrap64 (by omega) (by omega))) ⟨by decide, rfl⟩ rfl ?_ | refine sat_lt [_, _, _, _, _, _, _, _, _, _, _] (ev_conv _ _ _) ⟨by decide, rfl⟩ rfl ?_
        refine sat_lt [_, _, _, _, _, _, _, _, _, _, _, _] (ev_len _) ⟨by decide, rfl⟩ rfl ?_
        first | refine sat_lt [_, _, _, _, _, _, _, _, _, _, _, _, _] (ev_addW (wrap64 (by omega) (by omega))) ⟨by decide, rfl⟩ rfl ?_ | refine sat_lt [_, _, _, _, _, _, _, _, _, _, _, _, _] (ev_add _ _ _) ⟨by decide, rfl⟩ rfl ?_
        first | refine sat_lt [_, _, _, _, _, _, _, _, _, _, _, _, _, _] (ev_remW (by omega) (by omega)) ⟨by decide, rfl⟩ rfl ?_ | refine sat_lt [_, _, _, _, _, _, _, _, _, _, _, _, _, _] (ev_rem _ _ _ (by omega)) ⟨by decide, rfl⟩ rfl ?_
        refine sat_lt [_, _, _, _, _, _, _, _, _, _, _, _, _, _, _] (ev_sub' _ _ _ _ _ (by omega) (by omega) (by omega)) ⟨by decide, rfl⟩ rfl ?_
        refine sat_fn [_, _, _, _, _, _, _, _, _, _, _, _, _, _, _, _, _] (prs_s_e _) rfl rfl ?_
        refine sat_lt [_, _, _, _, _, _, _, _, _, _, _, _, _, _, _, _, _, _] (ev_neq _ _ _) ⟨by decide, rfl⟩ rfl ?_
        first | refine sat_br rfl (fun g1 => ?_) (fun g1 => ?_) | refine sat_brB rfl (fun g1 => ?_) (fun g1 => ?_)
        · skip
          refine sat_lt [_, _, _, _, _, _, _, _, _, _, _, _, _, _, _, _, _, _, _] (ev_eql _ _ _) ⟨by decide, rfl⟩ rfl ?_
          first | refine sat_br rfl (fun g2 => ?_) (fun g2 => ?_) | refine sat_brB rfl (fun g2 => ?_) (fun g2 => ?_)
          · skip
            refine sat_lt [_, _, _, _, _, _, _, _, _, _, _, _, _, _, _, _, _, _, _, _] (ev_lenS _ _) ⟨by decide, rfl⟩ rfl ?_
            refine sat_lt [_, _, _, _, _, _, _, _, _, _, _, _, _, _, _, _, _, _, _, _, _] (ev_eql _ _ _) ⟨by decide, rfl⟩ rfl ?_
            refine sat_ret [.bool _] rfl ?_
            first | (cases g0; done) | (rcases cn with ⟨c1, c2⟩ | ⟨c1, c2, c3, c4, c5, c6, c7, c8, c9, _⟩ <;> first | (exfalso; omega) | (rw [c2]; rfl) | exact congrArg (fun b => [U.bool b]) (decide_eq_true c7) | (exfalso; exact g2 (c4 _)) | (exfalso; exact g6 (of_decide_eq_true c9)) | (exfalso; exact g8 c6))
          · skip
            refine sat_ret [.bool _] rfl ?_
            first | (cases g0; done) | (rcases cn with ⟨c1, c2⟩ | ⟨c1, c2, c3, c4, c5, c6, c7, c8, c9, _⟩ <;> first | (exfalso; omega) | (rw [c2]; rfl) | exact congrArg (fun b => [U.bool b]) (decide_eq_true c7) | (exfalso; exact g2 (c4 _)) | (exfalso; exact g6 (of_decide_eq_true c9)) | (exfalso; exact g8 c6))
        · skip
          refine sat_fn [_, _, _, _, _, _, _, _, _, _, _, _, _, _, _, _, _, _, _, _] (prt_s_e _ lx) rfl rfl ?_
          refine sat_fn [_, _, _, _, _, _, _, _, _, _, _, _, _, _, _, _, _, _, _, _, _, _] (prs_s_e _) rfl rfl ?_
          refine sat_lt [_, _, _, _, _, _, _, _, _, _, _, _, _, _, _, _, _, _, _, _, _, _, _] (ev_eql _ _ _) ⟨by decide, rfl⟩ rfl ?_
          first | refine sat_br rfl (fun g2 => ?_) (fun g2 => ?_) | refine sat_brB rfl (fun g2 => ?_) (fun g2 => ?_)
          · skip
            refine sat_lt [_, _, _, _, _, _, _, _, _, _, _, _, _, _, _, _, _, _, _, _, _, _, _, _] (ev_eql _ _ _) ⟨by decide, rfl⟩ rfl ?_
            first | refine sat_br rfl (fun g3 => ?_) (fun g3 => ?_) | refine sat_brB rfl (fun g3 => ?_) (fun g3 => ?_)
            · skip
              refine sat_lt [_, _, _, _, _, _, _, _, _, _, _, _, _, _, _, _, _, _, _, _, _, _, _, _, _] (ev_eql _ _ _) ⟨by decide, rfl⟩ rfl ?_
              first | refine sat_br rfl (fun g4 => ?_) (fun g4 => ?_) | refine sat_brB rfl (fun g4 => ?_) (fun g4 => ?_)
              · skip
                refine sat_fn [_, _, _, _, _, _, _, _, _, _, _, _, _, _, _, _, _, _, _, _, _, _, _, _, _, _] (chk_s_e _ lx) rfl rfl ?_
                refine sat_lt [_, _, _, _, _, _, _, _, _, _, _, _, _, _, _, _, _, _, _, _, _, _, _, _, _, _, _] (ev_eql _ _ _) ⟨by decide, rfl⟩ rfl ?_
                first | refine sat_br rfl (fun g5 => ?_) (fun g5 => ?_) | refine sat_brB rfl (fun g5 => ?_) (fun g5 => ?_)
                · skip
                  refine sat_fn [_, _, _, _, _, _, _, _, _, _, _, _, _, _, _, _, _, _, _, _, _, _, _, _, _, _, _, _] (rsame_s_e _ _ (by rcases cn with ⟨c1, _⟩ | ⟨_, _, _, _, _, _, _, _, _, h1, h2⟩ <;> first | (exfalso; omega) | exact ⟨h1, lx.1, h2, lx.2⟩)) rfl rfl ?_
                  first | refine sat_br rfl (fun g6 => ?_) (fun g6 => ?_) | refine sat_brB rfl (fun g6 => ?_) (fun g6 => ?_)
                  · skip
                    refine sat_lt [_, _, _, _, _, _, _, _, _, _, _, _, _, _, _, _, _, _, _, _, _, _, _, _, _, _, _, _, _] (ev_len _) ⟨by decide, rfl⟩ rfl ?_
                    refine sat_lt [_, _, _, _, _, _, _, _, _, _, _, _, _, _, _, _, _, _, _, _, _, _, _, _, _, _, _, _, _, _] (ev_len _) ⟨by decide, rfl⟩ rfl ?_
                    refine sat_lt [_, _, _, _, _, _, _, _, _, _, _, _, _, _, _, _, _, _, _, _, _, _, _, _, _, _, _, _, _, _, _] (ev_leq _ _ _) ⟨by decide, rfl⟩ rfl ?_
                    first | refine sat_br rfl (fun g7 => ?_) (fun g7 => ?_) | refine sat_brB rfl (fun g7 => ?_) (fun g7 => ?_)
                    · skip
                      refine sat_fn [_, _, _, _, _, _, _, _, _, _, _, _, _, _, _, _, _, _, _, _, _, _, _, _, _, _, _, _, _, _, _, _] (cnt_s_e _ _ rfl) rfl rfl ?_
                      refine sat_fn [_, _, _, _, _, _, _, _, _, _, _, _, _, _, _, _, _, _, _, _, _, _, _, _, _, _, _, _, _, _, _, _, _] (cnt_s_e _ _ rfl) rfl rfl ?_
                      refine sat_lt [_, _, _, _, _, _, _, _, _, _, _, _, _, _, _, _, _, _, _, _, _, _, _, _, _, _, _, _, _, _, _, _, _, _] (ev_eql _ _ _) ⟨by decide, rfl⟩ rfl ?_
                      first | refine sat_br rfl (fun g8 => ?_) (fun g8 => ?_) | refine sat_brB rfl (fun g8 => ?_) (fun g8 => ?_)
                      · skip
                        refine sat_fn [_, _, _, _, _, _, _, _, _, _, _, _, _, _, _, _, _, _, _, _, _, _, _, _, _, _, _, _, _, _, _, _, _, _, _] (cnt_s_e _ _ rfl) rfl rfl ?_
                        refine sat_fn [_, _, _, _, _, _, _, _, _, _, _, _, _, _, _, _, _, _, _, _, _, _, _, _, _, _, _, _, _, _, _, _, _, _, _, _] (cnt_s_e _ _ rfl) rfl rfl ?_
                        refine sat_lt [_, _, _, _, _, _, _, _, _, _, _, _, _, _, _, _, _, _, _, _, _, _, _, _, _, _, _, _, _, _, _, _, _, _, _, _, _] (ev_eql _ _ _) ⟨by decide, rfl⟩ rfl ?_
                        refine sat_ret [.bool _] rfl ?_
                        first | (cases g0; done) | (rcases cn with ⟨c1, c2⟩ | ⟨c1, c2, c3, c4, c5, c6, c7, c8, c9, _⟩ <;> first | (exfalso; omega) | (rw [c2]; rfl) | exact congrArg (fun b => [U.bool b]) (decide_eq_true c7) | (exfalso; exact g2 (c4 _)) | (exfalso; exact g6 (of_decide_eq_true c9)) | (exfalso; exact g8 c6))
                      · skip
                        refine sat_ret [.bool _] rfl ?_
                        first | (cases g0; done) | (rcases cn with ⟨c1, c2⟩ | ⟨c1, c2, c3, c4, c5, c6, c7, c8, c9, _⟩ <;> first | (exfalso; omega) | (rw [c2]; rfl) | exact congrArg (fun b => [U.bool b]) (decide_eq_true c7) | (exfalso; exact g2 (c4 _)) | (exfalso; exact g6 (of_decide_eq_true c9)) | (exfalso; exact g8 c6))
                    · skip
                      refine sat_ret [.bool _] rfl ?_
                      first | (cases g0; done) | (rcases cn with ⟨c1, c2⟩ | ⟨c1, c2, c3, c4, c5, c6, c7, c8, c9, _⟩ <;> first | (exfalso; omega) | (rw [c2]; rfl) | exact congrArg (fun b => [U.bool b]) (decide_eq_true c7) | (exfalso; exact g2 (c4 _)) | (exfalso; exact g6 (of_decide_eq_true c9)) | (exfalso; exact g8 c6))
                  · skip
                    refine sat_ret [.bool _] rfl ?_
                    first | (cases g0; done) | (rcases cn with ⟨c1, c2⟩ | ⟨c1, c2, c3, c4, c5, c6, c7, c8, c9, _⟩ <;> first | (exfalso; omega) | (rw [c2]; rfl) | exact congrArg (fun b => [U.bool b]) (decide_eq_true c7) | (exfalso; exact g2 (c4 _)) | (exfalso; exact g6 (of_decide_eq_true c9)) | (exfalso; exact g8 c6))
                · skip
                  refine sat_ret [.bool _] rfl ?_
                  first | (cases g0; done) | (rcases cn with ⟨c1, c2⟩ | ⟨c1, c2, c3, c4, c5, c6, c7, c8, c9, _⟩ <;> first | (exfalso; omega) | (rw [c2]; rfl) | exact congrArg (fun b => [U.bool b]) (decide_eq_true c7) | (exfalso; exact g2 (c4 _)) | (exfalso; exact g6 (of_decide_eq_true c9)) | (exfalso; exact g8 c6))
              · skip
                refine sat_ret [.bool _] rfl ?_
                first | (cases g0; done) | (rcases cn with ⟨c1, c2⟩ | ⟨c1, c2, c3, c4, c5, c6, c7, c8, c9, _⟩ <;> first | (exfalso; omega) | (rw [c2]; rfl) | exact congrArg (fun b => [U.bool b]) (decide_eq_true c7) | (exfalso; exact g2 (c4 _)) | (exfalso; exact g6 (of_decide_eq_true c9)) | (exfalso; exact g8 c6))
            · skip
              refine sat_ret [.bool _] rfl ?_
              first | (cases g0; done) | (rcases cn with ⟨c1, c2⟩ | ⟨c1, c2, c3, c4, c5, c6, c7, c8, c9, _⟩ <;> first | (exfalso; omega) | (rw [c2]; rfl) | exact congrArg (fun b => [U.bool b]) (decide_eq_true c7) | (exfalso; exact g2 (c4 _)) | (exfalso; exact g6 (of_decide_eq_true c9)) | (exfalso; exact g8 c6))
          · skip
            refine sat_ret [.bool _] rfl ?_
            first | (cases g0; done) | (rcases cn with ⟨c1, c2⟩ | ⟨c1, c2, c3, c4, c5, c6, c7, c8, c9, _⟩ <;> first | (exfalso; omega) | (rw [c2]; rfl) | exact congrArg (fun b => [U.bool b]) (decide_eq_true c7) | (exfalso; exact g2 (c4 _)) | (exfalso; exact g6 (of_decide_eq_true c9)) | (exfalso; exact g8 c6))
    · cases hs
  · cases hs
end Go.Proofs.YtadmkfclgpbebaaDoor

namespace Go.Proofs.YtadmkfclgpbebaaDoor.paramCanonDone
set_option linter.all false
open Go Go.Sx Go.ChangeShapes Go.WideShapes Go.ChangeAt Go.RowKit
set_option linter.unusedVariables false
set_option maxRecDepth 100000
theorem start {W : World} (h : laidMetH Tryd.prog Rows.paramCanonRow.laid W) : StartOk Tryd.prog (fun k => W.heap[k]?) gl H0 n0 := by
  rw [MakeChecks.laidMetH_plain _ _ _ (by kernel_rfl)] at h
  have r2 : RowAt W 2 [.int .u8 (0), .int .u8 (1), .int .u8 (28), .int .u8 (2), .int .u8 (29), .int .u8 (14), .int .u8 (24), .int .u8 (3), .int .u8 (30), .int .u8 (22), .int .u8 (20), .int .u8 (15), .int .u8 (25), .int .u8 (17), .int .u8 (4), .int .u8 (8), .int .u8 (31), .int .u8 (27), .int .u8 (13), .int .u8 (23), .int .u8 (21), .int .u8 (19), .int .u8 (16), .int .u8 (7), .int .u8 (26), .int .u8 (12), .int .u8 (18), .int .u8 (6), .int .u8 (11), .int .u8 (5), .int .u8 (10), .int .u8 (9)] := rowAt_data (by kernel_rfl) (laid_row (n := "math/bits.deBruijn32tab") (d := Rows.laid_math_bits_deBruijn32tab) (g := 2) (k := 6) (t := 117) h (List.mem_of_getElem? (i := 0) rfl) (by kernel_rfl) (by kernel_rfl) (by kernel_rfl))
  have r3 : RowAt W 3 [.int .u8 (0), .int .u8 (1), .int .u8 (56), .int .u8 (2), .int .u8 (57), .int .u8 (49), .int .u8 (28), .int .u8 (3), .int .u8 (61), .int .u8 (58), .int .u8 (42), .int .u8 (50), .int .u8 (38), .int .u8 (29), .int .u8 (17), .int .u8 (4), .int .u8 (62), .int .u8 (47), .int .u8 (59), .int .u8 (36), .int .u8 (45), .int .u8 (43), .int .u8 (51), .int .u8 (22), .int .u8 (53), .int .u8 (39), .int .u8 (33), .int .u8 (30), .int .u8 (24), .int .u8 (18), .int .u8 (12), .int .u8 (5), .int .u8 (63), .int .u8 (55), .int .u8 (48), .int .u8 (27), .int .u8 (60), .int .u8 (41), .int .u8 (37), .int .u8 (16), .int .u8 (46), .int .u8 (35), .int .u8 (44), .int .u8 (21), .int .u8 (52), .int .u8 (32), .int .u8 (23), .int .u8 (11), .int .u8 (54), .int .u8 (26), .int .u8 (40), .int .u8 (15), .int .u8 (34), .int .u8 (20), .int .u8 (31), .int .u8 (10), .int .u8 (25), .int .u8 (14), .int .u8 (19), .int .u8 (9), .int .u8 (13), .int .u8 (8), .int .u8 (7), .int .u8 (6)] := rowAt_data (by kernel_rfl) (laid_row (n := "math/bits.deBruijn64tab") (d := Rows.laid_math_bits_deBruijn64tab) (g := 3) (k := 6) (t := 118) h (List.mem_of_getElem? (i := 1) rfl) (by kernel_rfl) (by kernel_rfl) (by kernel_rfl))
  have r1 : RowAt W 1 [.int .u64 (1), .int .u64 (10), .int .u64 (100), .int .u64 (1000), .int .u64 (10000), .int .u64 (100000), .int .u64 (1000000), .int .u64 (10000000), .int .u64 (100000000), .int .u64 (1000000000), .int .u64 (10000000000), .int .u64 (100000000000), .int .u64 (1000000000000), .int .u64 (10000000000000), .int .u64 (100000000000000), .int .u64 (1000000000000000), .int .u64 (10000000000000000), .int .u64 (100000000000000000), .int .u64 (1000000000000000000), .int .u64 (10000000000000000000)] := rowAt_data (by kernel_rfl) (laid_row (n := "internal/strconv.uint64pow10") (d := Rows.laid_internal_strconv_uint64pow10) (g := 1) (k := 6) (t := 113) h (List.mem_of_getElem? (i := 2) rfl) (by kernel_rfl) (by kernel_rfl) (by kernel_rfl))
  have hs : gl ≤ W.heap.size := by
    obtain ⟨C, T, fz, e, _⟩ := r3
    have := (Array.getElem?_eq_some_iff.1 e).1
    show 4 ≤ _
    omega
  refine start_of hs (by decide) ?_ ?_
  · have e : (rows0.all fun r => Nat.blt r.1 gl) = true := by kernel_rfl
    exact fun r hr => Nat.le_of_ble_eq_true (List.all_eq_true.1 e r hr)
  · intro r hr
    unfold rows0 at hr
    rcases List.mem_cons.1 hr with rfl | hr
    · exact r2
    rcases List.mem_cons.1 hr with rfl | hr
    · exact r3
    rcases List.mem_cons.1 hr with rfl | hr
    · exact r1
    cases hr
theorem own : ownKnob Tryd.prog.godebug = none := by kernel_rfl
theorem laidOut : laidOutB Tryd.prog = true := by kernel_rfl
noncomputable def low : Nat := (World.holding Tryd.prog default ⟨#[], #[.slice none 0 0, .int .u8 0], []⟩).heap.size
noncomputable def put (g : Nat) (cs : Array Value) (h : Array Obj) : Array Obj := h.modify g fun
  | .cells _ t frozen => .cells cs t frozen
  | o => o
noncomputable def laidWorld (os : Os) : World :=
  let w0 := World.holding Tryd.prog os ⟨#[], #[.slice none 0 0, .int .u8 0], []⟩
  { w0 with heap := (put 1 (rows0.getD 2 (0, [])).2.toArray (put 3 (rows0.getD 1 (0, [])).2.toArray (put 2 (rows0.getD 0 (0, [])).2.toArray w0.heap))) }
theorem laid_met (os : Os) : laidMet Tryd.prog Rows.paramCanonRow.laid ((laidWorld os).forCall (fun _ _ => 0) ⟨#[], #[.slice none 0 0, .int .u8 0], []⟩).memory :=
  laidMet_of_run' 8 (by kernel_rfl) (by kernel_rfl)
theorem reads (os : Os) {H : Type} (enc : TypeId × Value → H) : ∃ places, DataW.whole enc Tryd.prog ((laidWorld os).forCall (fun _ _ => 0) ⟨#[], #[.slice none 0 0, .int .u8 0], []⟩).memory Tryd.f9.params.toList Rows.paramCanonSpec.vars false [.slice none 0 0, .int .u8 0] 8 = some ([.nil, .lit (.int .u8 0)], [], places) :=
  ⟨[], by kernel_rfl⟩
theorem contract (H : Type) (enc : TypeId × Value → H) (W : World) (base : Nat) (args : Array Value) (ds gs : List (DataW H)) (before : List MemPlace)
    (hval : ∀ (j : Nat) t v, Tryd.f9.params[j]? = some t → args[j]? = some v → Value.okWide Tryd.prog W .any base t v)
    (hW : DataW.Whole enc Tryd.prog Tryd.f9.params.toList Rows.paramCanonSpec.vars false W args.toList ds gs before) (hL : laidMetH Tryd.prog Rows.paramCanonRow.laid W)
    (hwt : (DataW.weightsEach Tryd.prog (Tryd.f9.params.toList ++ (OpenSpec.ofChange Rows.paramCanonSpec).bare.plain.varTypes Tryd.prog) (ds ++ gs)).all (· ≤ reachBytes) = true) :
    Calls Tryd.prog 9 args W fun e W' => ∃ v, e = .returned v ∧ Rows.paramCanonSpec.post enc Tryd.prog Tryd.f9 false true false false W args v W' := by
  have hW' := hW
  obtain ⟨p, q, hA0, hV, rfl, hfz, hnd⟩ := hW
  have hA : DataW.TrodAll enc Tryd.prog W 0 (fun _ => true) true Tryd.f9.params.toList args.toList ds p := hA0
  rw [Tryd.params9] at hA hval hwt
  obtain ⟨v0, vs0, d0, ds0, p0, q0, hargs, rfl, rfl, h0, tl0⟩ := trodAll_cons hA
  obtain ⟨v1, vs1, d1, ds1, p1, q1, rfl, rfl, rfl, h1, tl1⟩ := trodAll_cons tl0
  obtain ⟨rfl, rfl, rfl⟩ := trodAll_nil tl1
  obtain rfl : args = #[v0, v1] := by cases args; simp_all
  obtain ⟨rfl, rfl⟩ := trodVars_none hV
  have lt0 : ∀ x ∈ p0, x.block < W.heap.size := by obtain ⟨m, hm⟩ := h0; exact DataW.trod_lt m _ _ _ hm
  have wl0 : Light Tryd.prog 24 d0 := weightsEach_get (i := 0) hwt rfl rfl
  obtain ⟨a0, s0, q0⟩ := arg_s (c := (cSl rB)) (RdC.slice' (r := rB) (e := 5) 1 (by kernel_rfl) (by kernel_rfl) (by decide) (by kernel_rfl) (by decide) (RdR.of (k := 12) (ts := [5]) (by kernel_rfl) (RdL.nil1 (RdC.u8 (by kernel_rfl))))) (by kernel_rfl) (hval 0 24 v0 rfl rfl) h0 wl0
  try simp only at q0
  have lt1 : ∀ x ∈ p1, x.block < W.heap.size := by obtain ⟨m, hm⟩ := h1; exact DataW.trod_lt m _ _ _ hm
  have wl1 : Light Tryd.prog 5 d1 := weightsEach_get (i := 1) hwt rfl rfl
  obtain ⟨a1, s1, q1⟩ := arg_s (c := (cInt .u8)) (RdC.u8 (by kernel_rfl)) (by kernel_rfl) (hval 1 5 v1 rfl rfl) h1 wl1
  try simp only at q1
  clear hA0
  simp only [List.append_nil] at hW'
  have hsh : ShL (hpOf W) [.s 11, .s 4] [encS rB a0, .int .u8 a1] [v0, v1] := (.cons s0 (.cons s1 .nil))
  obtain ⟨_, hc⟩ := cns_c (start hL) [encS rB a0, .int .u8 a1] [.bool true] W _ (hpOf W) hsh (cns_s_e _ _ ⟨q0.1, q0.2, q1.1, q1.2⟩) (fun k o h => h) (fun k o h => h)
  refine hc.mono fun e W' ⟨r, R', hr, he, hg, _⟩ => ?_
  have hrv := val_of_shL (vs2 := [.bool true]) hr rfl
  subst hrv
  subst he
  have bel : Below W.heap.size W W' := ⟨hg.os.1, hg.os.2.1, hg.os.2.2, hg.size, hg.keep⟩
  exact ⟨_, rfl, _, _, _, [], _, [], hW', trodAll_mk1 (shut_bool Tryd.underlying4 _), (trodAll_cons_mk (Below.trod laidOut (by kernel_rfl) (of_decide_eq_true (by kernel_rfl)) h0 bel lt0) (trodAll_cons_mk (Below.trod laidOut (by kernel_rfl) (of_decide_eq_true (by kernel_rfl)) h1 bel lt1) trodAll_mk0)), rfl, hg.kept _, fun h => by cases h⟩
theorem lifted (os : Os) (started : os.Started) (H : Type) (enc : TypeId × Value → H) (F : Stop.Interp) :
    ReturnsInHanded {} Tryd.checked os 9 .any ((OpenSpec.ofChange Rows.paramCanonSpec).preRow enc Tryd.prog Tryd.f9 Rows.paramCanonRow.domain false Rows.paramCanonRow.laid) (((OpenSpec.ofChange Rows.paramCanonSpec).at F).post enc Tryd.prog Tryd.f9 false true false false) := by
  obtain ⟨places, hx⟩ := reads os enc
  refine returnsInHanded_of_row (C := Tryd.checked) (s := OpenSpec.ofChange Rows.paramCanonSpec) own started (by kernel_rfl) Tryd.func9
    (witness_row_at (enc := enc) (C := Tryd.checked) false (laidWorld os) #[.slice none 0 0, .int .u8 0] rfl (by kernel_rfl) (by kernel_rfl) (by kernel_rfl)
      (OpenSpec.preRow_of_cond 8 hx (by kernel_rfl) (fun k hk => by cases hk) (by kernel_rfl) (laid_met os))) ?_
  intro W base args ds gs before hval hW _ _ hwt hL _ _
  exact contract H enc W base args ds gs before hval hW hL hwt
theorem said : Rows.ParamCanonSaid :=
  OpenClaim.holds_of_cond 9 Tryd.f9 rfl rfl rfl rfl rfl rfl rfl ⟨rfl, rfl, rfl, rfl, rfl⟩ rfl rfl rfl rfl rfl (by kernel_rfl) Tryd.func9 (by kernel_rfl)
    (of_decide_eq_true (by kernel_rfl)) (by unfold Func.isWrapper; first | (rw [if_pos (by decide +kernel)]; kernel_rfl) | (rw [if_neg (by decide +kernel)]; exact ⟨rfl, rfl⟩))
    (fun os started H enc _ F => by rw [OpenClaim.pre_eq_preRow]; exact lifted os started H enc F)
theorem plain (f : FuncId) (fn : Func) (hf : Tryd.pinned.checked.prog.funcNamed "fenestra/fenestralaw05.ParamCanon" = some f) (hfn : Tryd.pinned.checked.prog.funcs[f]? = some fn) :
    false = Tryd.pinned.checked.prog.looks [] ∧ ∀ (j : Nat) t, fn.params[j]? = some t → Tryd.pinned.checked.prog.wantsStandIn t = false := by
  obtain rfl : f = 9 := Option.some.inj ((show Tryd.prog.funcNamed "fenestra/fenestralaw05.ParamCanon" = some 9 by kernel_rfl).symm.trans hf) |>.symm
  obtain rfl : fn = Tryd.f9 := (Option.some.inj (Tryd.func9.symm.trans hfn)).symm
  refine ⟨by kernel_rfl, fun j t ht => ?_⟩
  have hall : (Tryd.f9.params.toList.all fun t => !Tryd.prog.wantsStandIn t) = true := by kernel_rfl
  have := List.all_eq_true.1 hall t (Array.mem_def.1 (Array.mem_of_getElem? ht))
  have h2 : Tryd.prog.wantsStandIn t = false := by simpa using this
  exact h2
theorem proved : Rows.ParamCanonCardSaid :=
  Claim7.holds_tied_plain_at .later [] _ _ _ _ said (fun _ h => by cases h) (by kernel_rfl) (fun _ h => by cases h) paramCanon_row_tie rfl ⟨rfl, rfl⟩ (by kernel_rfl) rfl plain (by kernel_rfl)
#print axioms proved
end Go.Proofs.YtadmkfclgpbebaaDoor.paramCanonDone
