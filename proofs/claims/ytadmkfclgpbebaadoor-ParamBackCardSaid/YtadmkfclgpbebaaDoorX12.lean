/- The law ParamBack: for every input the call returns true, and the arguments read behind it as they read before. No condition. -/
import Derived.Test.YtadmkfclgpbebaaDoorX11
import Derived.Test.YtadmkfclgpbebaaDoorCards
import Derived.Test.YtadmkfclgpbebaaDoorTie
import Derived.WalkKit
import Derived.ProofKit
import Derived.OpenShut
import Derived.Below
import Derived.Carry
import Derived.Lib.SmallJoins
import Derived.Deep.DeepHandedRow
import Derived.Lib.LaidTab
import Derived.MakeChecks
namespace Go.Proofs.YtadmkfclgpbebaaDoor
set_option linter.all false
open Go Go.Sx
set_option maxRecDepth 100000
set_option linter.unusedVariables false
set_option linter.unusedSimpArgs false
def wks_s : List U → Option (Nat × List U)
  | [] => some (0, [.bool (true)])
  | _ => none
def wks_t : Tr := .fn prs_s [.string ⟨⟨[49, 59, 50, 58, 51]⟩⟩] 2 <| .lt 8 (.bin .eql) [h 1 3, .int .i64 (0)] <| .br 2 (.dt 11 (.mk 1) [.int .i64 (1)] <| .dt 11 (.mk 1) [.int .i64 (2), .int .i64 (3)] <| .dt 11 (.mk 1) [h 3 11, h 4 11] <| .fn rw_s [h 5 11] 1 <| .fn rsame_s [h 0 11, h 6 11] 1 <| .br 7 (.fn prs_s [.string ⟨⟨[]⟩⟩] 2 <| .lt 8 (.bin .eql) [h 9 3, .int .i64 (0)] <| .br 10 (.dt 11 (.nilw 1) [] <| .fn rw_s [h 11 11] 1 <| .fn rsame_s [h 8 11, h 12 11] 1 <| .br 13 (.fn prs_s [.string ⟨⟨[59]⟩⟩] 2 <| .lt 8 (.bin .eql) [h 15 3, .int .i64 (0)] <| .br 16 (.dt 11 (.mk 1) [.int .i64 (-1)] <| .dt 11 (.mk 1) [.int .i64 (-1)] <| .dt 11 (.mk 1) [h 17 11, h 18 11] <| .fn rw_s [h 19 11] 1 <| .fn rsame_s [h 14 11, h 20 11] 1 <| .br 21 (.fn prs_s [.string ⟨⟨[48, 48, 55]⟩⟩] 2 <| .lt 8 (.bin .eql) [h 23 3, .int .i64 (0)] <| .br 24 (.dt 11 (.mk 1) [.int .i64 (7)] <| .dt 11 (.mk 1) [h 25 11] <| .fn rw_s [h 26 11] 1 <| .fn rsame_s [h 22 11, h 27 11] 1 <| .br 28 (.fn prs_s [.string ⟨⟨[57, 57, 57, 57, 57]⟩⟩] 2 <| .lt 8 (.bin .eql) [h 30 3, .int .i64 (0)] <| .br 31 (.dt 11 (.mk 1) [.int .i64 (9999)] <| .dt 11 (.mk 1) [h 32 11] <| .fn rw_s [h 33 11] 1 <| .fn rsame_s [h 29 11, h 34 11] 1 <| .br 35 (.fn prs_s [.string ⟨⟨[52, 58]⟩⟩] 2 <| .lt 8 (.bin .eql) [h 37 3, .int .i64 (0)] <| .br 38 (.dt 11 (.mk 1) [.int .i64 (4), .int .i64 (-1)] <| .dt 11 (.mk 1) [h 39 11] <| .fn rw_s [h 40 11] 1 <| .fn rsame_s [h 36 11, h 41 11] 1 <| .dt 11 (.mk 1) [.int .i64 (38), .int .i64 (2), .int .i64 (-1), .int .i64 (9), .int .i64 (8), .int .i64 (7)] <| .dt 11 (.mk 1) [.int .i64 (1)] <| .dt 11 (.mk 1) [h 43 11, h 44 11] <| .fn rw_s [h 45 11] 1 <| .fn prt_s [h 46 11] 2 <| .dt 11 (.mk 1) [.int .i64 (-1)] <| .dt 11 (.mk 1) [h 49 11] <| .fn rw_s [h 50 11] 1 <| .fn chk_s [h 51 11] 1 <| .lt 8 (.bin .eql) [h 52 3, .int .i64 (150)] <| .br 53 (.dt 11 (.mk 1) [.int .i64 (10000)] <| .dt 11 (.mk 1) [h 54 11] <| .fn rw_s [h 55 11] 1 <| .fn chk_s [h 56 11] 1 <| .lt 8 (.bin .eql) [h 57 3, .int .i64 (150)] <| .br 58 (.dt 11 (.nilw 1) [] <| .dt 11 (.mk 1) [h 59 11] <| .fn rw_s [h 60 11] 1 <| .fn chk_s [h 61 11] 1 <| .lt 8 (.bin .eql) [h 62 3, .int .i64 (150)] <| .dt 11 (.mk 1) [.int .i64 (5)] <| .dt 11 (.mk 1) [.int .i64 (-1)] <| .dt 11 (.mk 1) [h 64 11, h 65 11] <| .fn rw_s [h 66 11] 1 <| .fn val_s [h 67 11, .int .i64 (0), .int .i64 (9)] 1 <| .lt 8 (.bin .eql) [h 68 3, .int .i64 (5)] <| .br 69 (.fn val_s [h 67 11, .int .i64 (1), .int .i64 (9)] 1 <| .lt 8 (.bin .eql) [h 70 3, .int .i64 (9)] <| .br 71 (.fn val_s [h 67 11, .int .i64 (2), .int .i64 (9)] 1 <| .lt 8 (.bin .eql) [h 72 3, .int .i64 (9)] <| .br 42 (.lt 8 (.bin .eql) [h 47 9, .string ⟨⟨[51, 56, 58, 50, 58, 58, 57, 58, 56, 58, 55, 59, 49]⟩⟩] <| .br 74 (.lt 8 (.bin .eql) [h 48 3, .int .i64 (0)] <| .br 75 (.br 63 (.fn prs_s [.string ⟨⟨[49, 97]⟩⟩] 2 <| .lt 8 (.bin .eql) [h 77 3, .int .i64 (6)] <| .br 78 (.lt 3 (.len) [h 76 11] <| .lt 8 (.bin .eql) [h 79 3, .int .i64 (0)] <| .br 80 (.fn rep_s [.string ⟨⟨[59]⟩⟩, .int .i64 (16)] 1 <| .fn prs_s [h 81 9] 2 <| .lt 8 (.bin .eql) [h 83 3, .int .i64 (3)] <| .br 84 (.lt 3 (.len) [h 82 11] <| .lt 8 (.bin .eql) [h 85 3, .int .i64 (0)] <| .br 86 (.fn prs_s [.string ⟨⟨[49, 58, 50, 58, 51, 58, 52, 58, 53, 58, 54, 58]⟩⟩] 2 <| .lt 8 (.bin .eql) [h 88 3, .int .i64 (3)] <| .br 89 (.lt 3 (.len) [h 87 11] <| .lt 8 (.bin .eql) [h 90 3, .int .i64 (0)] <| .br 91 (.ret [h 73 8]) (.no)) (.no)) (.no)) (.no)) (.no)) (.no)) (.no)) (.no)) (.no)) (.no)) (.no)) (.no)) (.no)) (.no)) (.no)) (.no)) (.no)) (.no)) (.no)) (.no)) (.no)) (.no)) (.no)) (.no)) (.no)
theorem wks_c {G : Nat → Option Obj} (hst : StartOk Tryd.prog G gl H0 n0) : ConOk Tryd.prog G 15 [] wks_s [.s 8] := by
  refine con_of_tree (C := cx L_rep P_rwl) (d := 60) wks_t (cxg (L_rep_ok hst) (P_rwl_ok hst)) hst ⟨Tryd.f15, _, Tryd.func15, rfl⟩ (by kernel_rfl) (by kernel_rfl) ?_
  intro us outs hs
  unfold wks_s at hs
  split at hs
  · skip
    skip
    cases hs
    unfold wks_t
    refine sat_fn [_, _] (prs_s_e _) rfl rfl ?_
    refine sat_lt [_, _, _] (ev_eql _ _ _) ⟨by decide, rfl⟩ rfl ?_
    first | refine sat_br rfl (fun g0 => ?_) (fun g0 => ?_) | refine sat_brB rfl (fun g0 => ?_) (fun g0 => ?_)
    · skip
      refine sat_dt (r := rI) [_, _, _, _] (ev_mkS [_] rfl (by decide) rfl) rfl rfl ?_
      refine sat_dt (r := rI) [_, _, _, _, _] (ev_mkS [_, _] rfl (by decide) rfl) rfl rfl ?_
      refine sat_dt (r := rP) [_, _, _, _, _, _] (ev_mkS [_, _] rfl (by decide) rfl) rfl rfl ?_
      refine sat_fn [_, _, _, _, _, _, _] (rw_s_e _ (by decide +kernel)) rfl rfl ?_
      refine sat_fn [_, _, _, _, _, _, _, _] (rsame_s_e _ _ (by decide +kernel)) rfl rfl ?_
      first | refine sat_br rfl (fun g1 => ?_) (fun g1 => ?_) | refine sat_brB rfl (fun g1 => ?_) (fun g1 => ?_)
      · skip
        refine sat_fn [_, _, _, _, _, _, _, _, _, _] (prs_s_e _) rfl rfl ?_
        refine sat_lt [_, _, _, _, _, _, _, _, _, _, _] (ev_eql _ _ _) ⟨by decide, rfl⟩ rfl ?_
        first | refine sat_br rfl (fun g2 => ?_) (fun g2 => ?_) | refine sat_brB rfl (fun g2 => ?_) (fun g2 => ?_)
        · skip
          refine sat_dt (r := rP) [_, _, _, _, _, _, _, _, _, _, _, _] (ev_nilwS rfl) rfl rfl ?_
          refine sat_fn [_, _, _, _, _, _, _, _, _, _, _, _, _] (rw_s_e _ (by decide +kernel)) rfl rfl ?_
          refine sat_fn [_, _, _, _, _, _, _, _, _, _, _, _, _, _] (rsame_s_e _ _ (by decide +kernel)) rfl rfl ?_
          first | refine sat_br rfl (fun g3 => ?_) (fun g3 => ?_) | refine sat_brB rfl (fun g3 => ?_) (fun g3 => ?_)
          · skip
            refine sat_fn [_, _, _, _, _, _, _, _, _, _, _, _, _, _, _, _] (prs_s_e _) rfl rfl ?_
            refine sat_lt [_, _, _, _, _, _, _, _, _, _, _, _, _, _, _, _, _] (ev_eql _ _ _) ⟨by decide, rfl⟩ rfl ?_
            first | refine sat_br rfl (fun g4 => ?_) (fun g4 => ?_) | refine sat_brB rfl (fun g4 => ?_) (fun g4 => ?_)
            · skip
              refine sat_dt (r := rI) [_, _, _, _, _, _, _, _, _, _, _, _, _, _, _, _, _, _] (ev_mkS [_] rfl (by decide) rfl) rfl rfl ?_
              refine sat_dt (r := rI) [_, _, _, _, _, _, _, _, _, _, _, _, _, _, _, _, _, _, _] (ev_mkS [_] rfl (by decide) rfl) rfl rfl ?_
              refine sat_dt (r := rP) [_, _, _, _, _, _, _, _, _, _, _, _, _, _, _, _, _, _, _, _] (ev_mkS [_, _] rfl (by decide) rfl) rfl rfl ?_
              refine sat_fn [_, _, _, _, _, _, _, _, _, _, _, _, _, _, _, _, _, _, _, _, _] (rw_s_e _ (by decide +kernel)) rfl rfl ?_
              refine sat_fn [_, _, _, _, _, _, _, _, _, _, _, _, _, _, _, _, _, _, _, _, _, _] (rsame_s_e _ _ (by decide +kernel)) rfl rfl ?_
              first | refine sat_br rfl (fun g5 => ?_) (fun g5 => ?_) | refine sat_brB rfl (fun g5 => ?_) (fun g5 => ?_)
              · skip
                refine sat_fn [_, _, _, _, _, _, _, _, _, _, _, _, _, _, _, _, _, _, _, _, _, _, _, _] (prs_s_e _) rfl rfl ?_
                refine sat_lt [_, _, _, _, _, _, _, _, _, _, _, _, _, _, _, _, _, _, _, _, _, _, _, _, _] (ev_eql _ _ _) ⟨by decide, rfl⟩ rfl ?_
                first | refine sat_br rfl (fun g6 => ?_) (fun g6 => ?_) | refine sat_brB rfl (fun g6 => ?_) (fun g6 => ?_)
                · skip
                  refine sat_dt (r := rI) [_, _, _, _, _, _, _, _, _, _, _, _, _, _, _, _, _, _, _, _, _, _, _, _, _, _] (ev_mkS [_] rfl (by decide) rfl) rfl rfl ?_
                  refine sat_dt (r := rP) [_, _, _, _, _, _, _, _, _, _, _, _, _, _, _, _, _, _, _, _, _, _, _, _, _, _, _] (ev_mkS [_] rfl (by decide) rfl) rfl rfl ?_
                  refine sat_fn [_, _, _, _, _, _, _, _, _, _, _, _, _, _, _, _, _, _, _, _, _, _, _, _, _, _, _, _] (rw_s_e _ (by decide +kernel)) rfl rfl ?_
                  refine sat_fn [_, _, _, _, _, _, _, _, _, _, _, _, _, _, _, _, _, _, _, _, _, _, _, _, _, _, _, _, _] (rsame_s_e _ _ (by decide +kernel)) rfl rfl ?_
                  first | refine sat_br rfl (fun g7 => ?_) (fun g7 => ?_) | refine sat_brB rfl (fun g7 => ?_) (fun g7 => ?_)
                  · skip
                    refine sat_fn [_, _, _, _, _, _, _, _, _, _, _, _, _, _, _, _, _, _, _, _, _, _, _, _, _, _, _, _, _, _, _] (prs_s_e _) rfl rfl ?_
                    refine sat_lt [_, _, _, _, _, _, _, _, _, _, _, _, _, _, _, _, _, _, _, _, _, _, _, _, _, _, _, _, _, _, _, _] (ev_eql _ _ _) ⟨by decide, rfl⟩ rfl ?_
                    first | refine sat_br rfl (fun g8 => ?_) (fun g8 => ?_) | refine sat_brB rfl (fun g8 => ?_) (fun g8 => ?_)
                    · skip
                      refine sat_dt (r := rI) [_, _, _, _, _, _, _, _, _, _, _, _, _, _, _, _, _, _, _, _, _, _, _, _, _, _, _, _, _, _, _, _, _] (ev_mkS [_] rfl (by decide) rfl) rfl rfl ?_
                      refine sat_dt (r := rP) [_, _, _, _, _, _, _, _, _, _, _, _, _, _, _, _, _, _, _, _, _, _, _, _, _, _, _, _, _, _, _, _, _, _] (ev_mkS [_] rfl (by decide) rfl) rfl rfl ?_
                      refine sat_fn [_, _, _, _, _, _, _, _, _, _, _, _, _, _, _, _, _, _, _, _, _, _, _, _, _, _, _, _, _, _, _, _, _, _, _] (rw_s_e _ (by decide +kernel)) rfl rfl ?_
                      refine sat_fn [_, _, _, _, _, _, _, _, _, _, _, _, _, _, _, _, _, _, _, _, _, _, _, _, _, _, _, _, _, _, _, _, _, _, _, _] (rsame_s_e _ _ (by decide +kernel)) rfl rfl ?_
                      first | refine sat_br rfl (fun g9 => ?_) (fun g9 => ?_) | refine sat_brB rfl (fun g9 => ?_) (fun g9 => ?_)
                      · skip
                        refine sat_fn [_, _, _, _, _, _, _, _, _, _, _, _, _, _, _, _, _, _, _, _, _, _, _, _, _, _, _, _, _, _, _, _, _, _, _, _, _, _] (prs_s_e _) rfl rfl ?_
                        refine sat_lt [_, _, _, _, _, _, _, _, _, _, _, _, _, _, _, _, _, _, _, _, _, _, _, _, _, _, _, _, _, _, _, _, _, _, _, _, _, _, _] (ev_eql _ _ _) ⟨by decide, rfl⟩ rfl ?_
                        first | refine sat_br rfl (fun g10 => ?_) (fun g10 => ?_) | refine sat_brB rfl (fun g10 => ?_) (fun g10 => ?_)
                        · skip
                          refine sat_dt (r := rI) [_, _, _, _, _, _, _, _, _, _, _, _, _, _, _, _, _, _, _, _, _, _, _, _, _, _, _, _, _, _, _, _, _, _, _, _, _, _, _, _] (ev_mkS [_, _] rfl (by decide) rfl) rfl rfl ?_
                          refine sat_dt (r := rP) [_, _, _, _, _, _, _, _, _, _, _, _, _, _, _, _, _, _, _, _, _, _, _, _, _, _, _, _, _, _, _, _, _, _, _, _, _, _, _, _, _] (ev_mkS [_] rfl (by decide) rfl) rfl rfl ?_
                          refine sat_fn [_, _, _, _, _, _, _, _, _, _, _, _, _, _, _, _, _, _, _, _, _, _, _, _, _, _, _, _, _, _, _, _, _, _, _, _, _, _, _, _, _, _] (rw_s_e _ (by decide +kernel)) rfl rfl ?_
                          refine sat_fn [_, _, _, _, _, _, _, _, _, _, _, _, _, _, _, _, _, _, _, _, _, _, _, _, _, _, _, _, _, _, _, _, _, _, _, _, _, _, _, _, _, _, _] (rsame_s_e _ _ (by decide +kernel)) rfl rfl ?_
                          refine sat_dt (r := rI) [_, _, _, _, _, _, _, _, _, _, _, _, _, _, _, _, _, _, _, _, _, _, _, _, _, _, _, _, _, _, _, _, _, _, _, _, _, _, _, _, _, _, _, _] (ev_mkS [_, _, _, _, _, _] rfl (by decide) rfl) rfl rfl ?_
                          refine sat_dt (r := rI) [_, _, _, _, _, _, _, _, _, _, _, _, _, _, _, _, _, _, _, _, _, _, _, _, _, _, _, _, _, _, _, _, _, _, _, _, _, _, _, _, _, _, _, _, _] (ev_mkS [_] rfl (by decide) rfl) rfl rfl ?_
                          refine sat_dt (r := rP) [_, _, _, _, _, _, _, _, _, _, _, _, _, _, _, _, _, _, _, _, _, _, _, _, _, _, _, _, _, _, _, _, _, _, _, _, _, _, _, _, _, _, _, _, _, _] (ev_mkS [_, _] rfl (by decide) rfl) rfl rfl ?_
                          refine sat_fn [_, _, _, _, _, _, _, _, _, _, _, _, _, _, _, _, _, _, _, _, _, _, _, _, _, _, _, _, _, _, _, _, _, _, _, _, _, _, _, _, _, _, _, _, _, _, _] (rw_s_e _ (by decide +kernel)) rfl rfl ?_
                          refine sat_fn [_, _, _, _, _, _, _, _, _, _, _, _, _, _, _, _, _, _, _, _, _, _, _, _, _, _, _, _, _, _, _, _, _, _, _, _, _, _, _, _, _, _, _, _, _, _, _, _, _] (prt_s_e _ (by decide +kernel)) rfl rfl ?_
                          refine sat_dt (r := rI) [_, _, _, _, _, _, _, _, _, _, _, _, _, _, _, _, _, _, _, _, _, _, _, _, _, _, _, _, _, _, _, _, _, _, _, _, _, _, _, _, _, _, _, _, _, _, _, _, _, _] (ev_mkS [_] rfl (by decide) rfl) rfl rfl ?_
                          refine sat_dt (r := rP) [_, _, _, _, _, _, _, _, _, _, _, _, _, _, _, _, _, _, _, _, _, _, _, _, _, _, _, _, _, _, _, _, _, _, _, _, _, _, _, _, _, _, _, _, _, _, _, _, _, _, _] (ev_mkS [_] rfl (by decide) rfl) rfl rfl ?_
                          refine sat_fn [_, _, _, _, _, _, _, _, _, _, _, _, _, _, _, _, _, _, _, _, _, _, _, _, _, _, _, _, _, _, _, _, _, _, _, _, _, _, _, _, _, _, _, _, _, _, _, _, _, _, _, _] (rw_s_e _ (by decide +kernel)) rfl rfl ?_
                          refine sat_fn [_, _, _, _, _, _, _, _, _, _, _, _, _, _, _, _, _, _, _, _, _, _, _, _, _, _, _, _, _, _, _, _, _, _, _, _, _, _, _, _, _, _, _, _, _, _, _, _, _, _, _, _, _] (chk_s_e _ (by decide +kernel)) rfl rfl ?_
                          refine sat_lt [_, _, _, _, _, _, _, _, _, _, _, _, _, _, _, _, _, _, _, _, _, _, _, _, _, _, _, _, _, _, _, _, _, _, _, _, _, _, _, _, _, _, _, _, _, _, _, _, _, _, _, _, _, _] (ev_eql _ _ _) ⟨by decide, rfl⟩ rfl ?_
                          first | refine sat_br rfl (fun g11 => ?_) (fun g11 => ?_) | refine sat_brB rfl (fun g11 => ?_) (fun g11 => ?_)
                          · skip
                            refine sat_dt (r := rI) [_, _, _, _, _, _, _, _, _, _, _, _, _, _, _, _, _, _, _, _, _, _, _, _, _, _, _, _, _, _, _, _, _, _, _, _, _, _, _, _, _, _, _, _, _, _, _, _, _, _, _, _, _, _, _] (ev_mkS [_] rfl (by decide) rfl) rfl rfl ?_
                            refine sat_dt (r := rP) [_, _, _, _, _, _, _, _, _, _, _, _, _, _, _, _, _, _, _, _, _, _, _, _, _, _, _, _, _, _, _, _, _, _, _, _, _, _, _, _, _, _, _, _, _, _, _, _, _, _, _, _, _, _, _, _] (ev_mkS [_] rfl (by decide) rfl) rfl rfl ?_
                            refine sat_fn [_, _, _, _, _, _, _, _, _, _, _, _, _, _, _, _, _, _, _, _, _, _, _, _, _, _, _, _, _, _, _, _, _, _, _, _, _, _, _, _, _, _, _, _, _, _, _, _, _, _, _, _, _, _, _, _, _] (rw_s_e _ (by decide +kernel)) rfl rfl ?_
                            refine sat_fn [_, _, _, _, _, _, _, _, _, _, _, _, _, _, _, _, _, _, _, _, _, _, _, _, _, _, _, _, _, _, _, _, _, _, _, _, _, _, _, _, _, _, _, _, _, _, _, _, _, _, _, _, _, _, _, _, _, _] (chk_s_e _ (by decide +kernel)) rfl rfl ?_
                            refine sat_lt [_, _, _, _, _, _, _, _, _, _, _, _, _, _, _, _, _, _, _, _, _, _, _, _, _, _, _, _, _, _, _, _, _, _, _, _, _, _, _, _, _, _, _, _, _, _, _, _, _, _, _, _, _, _, _, _, _, _, _] (ev_eql _ _ _) ⟨by decide, rfl⟩ rfl ?_
                            first | refine sat_br rfl (fun g12 => ?_) (fun g12 => ?_) | refine sat_brB rfl (fun g12 => ?_) (fun g12 => ?_)
                            · skip
                              refine sat_dt (r := rI) [_, _, _, _, _, _, _, _, _, _, _, _, _, _, _, _, _, _, _, _, _, _, _, _, _, _, _, _, _, _, _, _, _, _, _, _, _, _, _, _, _, _, _, _, _, _, _, _, _, _, _, _, _, _, _, _, _, _, _, _] (ev_nilwS rfl) rfl rfl ?_
                              refine sat_dt (r := rP) [_, _, _, _, _, _, _, _, _, _, _, _, _, _, _, _, _, _, _, _, _, _, _, _, _, _, _, _, _, _, _, _, _, _, _, _, _, _, _, _, _, _, _, _, _, _, _, _, _, _, _, _, _, _, _, _, _, _, _, _, _] (ev_mkS [_] rfl (by decide) rfl) rfl rfl ?_
                              refine sat_fn [_, _, _, _, _, _, _, _, _, _, _, _, _, _, _, _, _, _, _, _, _, _, _, _, _, _, _, _, _, _, _, _, _, _, _, _, _, _, _, _, _, _, _, _, _, _, _, _, _, _, _, _, _, _, _, _, _, _, _, _, _, _] (rw_s_e _ (by decide +kernel)) rfl rfl ?_
                              refine sat_fn [_, _, _, _, _, _, _, _, _, _, _, _, _, _, _, _, _, _, _, _, _, _, _, _, _, _, _, _, _, _, _, _, _, _, _, _, _, _, _, _, _, _, _, _, _, _, _, _, _, _, _, _, _, _, _, _, _, _, _, _, _, _, _] (chk_s_e _ (by decide +kernel)) rfl rfl ?_
                              refine sat_lt [_, _, _, _, _, _, _, _, _, _, _, _, _, _, _, _, _, _, _, _, _, _, _, _, _, _, _, _, _, _, _, _, _, _, _, _, _, _, _, _, _, _, _, _, _, _, _, _, _, _, _, _, _, _, _, _, _, _, _, _, _, _, _, _] (ev_eql _ _ _) ⟨by decide, rfl⟩ rfl ?_
                              refine sat_dt (r := rI) [_, _, _, _, _, _, _, _, _, _, _, _, _, _, _, _, _, _, _, _, _, _, _, _, _, _, _, _, _, _, _, _, _, _, _, _, _, _, _, _, _, _, _, _, _, _, _, _, _, _, _, _, _, _, _, _, _, _, _, _, _, _, _, _, _] (ev_mkS [_] rfl (by decide) rfl) rfl rfl ?_
                              refine sat_dt (r := rI) [_, _, _, _, _, _, _, _, _, _, _, _, _, _, _, _, _, _, _, _, _, _, _, _, _, _, _, _, _, _, _, _, _, _, _, _, _, _, _, _, _, _, _, _, _, _, _, _, _, _, _, _, _, _, _, _, _, _, _, _, _, _, _, _, _, _] (ev_mkS [_] rfl (by decide) rfl) rfl rfl ?_
                              refine sat_dt (r := rP) [_, _, _, _, _, _, _, _, _, _, _, _, _, _, _, _, _, _, _, _, _, _, _, _, _, _, _, _, _, _, _, _, _, _, _, _, _, _, _, _, _, _, _, _, _, _, _, _, _, _, _, _, _, _, _, _, _, _, _, _, _, _, _, _, _, _, _] (ev_mkS [_, _] rfl (by decide) rfl) rfl rfl ?_
                              refine sat_fn [_, _, _, _, _, _, _, _, _, _, _, _, _, _, _, _, _, _, _, _, _, _, _, _, _, _, _, _, _, _, _, _, _, _, _, _, _, _, _, _, _, _, _, _, _, _, _, _, _, _, _, _, _, _, _, _, _, _, _, _, _, _, _, _, _, _, _, _] (rw_s_e _ (by decide +kernel)) rfl rfl ?_
                              refine sat_fn [_, _, _, _, _, _, _, _, _, _, _, _, _, _, _, _, _, _, _, _, _, _, _, _, _, _, _, _, _, _, _, _, _, _, _, _, _, _, _, _, _, _, _, _, _, _, _, _, _, _, _, _, _, _, _, _, _, _, _, _, _, _, _, _, _, _, _, _, _] (val_s_e _ _ _ (by decide)) rfl rfl ?_
                              refine sat_lt [_, _, _, _, _, _, _, _, _, _, _, _, _, _, _, _, _, _, _, _, _, _, _, _, _, _, _, _, _, _, _, _, _, _, _, _, _, _, _, _, _, _, _, _, _, _, _, _, _, _, _, _, _, _, _, _, _, _, _, _, _, _, _, _, _, _, _, _, _, _] (ev_eql _ _ _) ⟨by decide, rfl⟩ rfl ?_
                              first | refine sat_br rfl (fun g13 => ?_) (fun g13 => ?_) | refine sat_brB rfl (fun g13 => ?_) (fun g13 => ?_)
                              · skip
                                refine sat_fn [_, _, _, _, _, _, _, _, _, _, _, _, _, _, _, _, _, _, _, _, _, _, _, _, _, _, _, _, _, _, _, _, _, _, _, _, _, _, _, _, _, _, _, _, _, _, _, _, _, _, _, _, _, _, _, _, _, _, _, _, _, _, _, _, _, _, _, _, _, _, _] (val_s_e _ _ _ (by decide)) rfl rfl ?_
                                refine sat_lt [_, _, _, _, _, _, _, _, _, _, _, _, _, _, _, _, _, _, _, _, _, _, _, _, _, _, _, _, _, _, _, _, _, _, _, _, _, _, _, _, _, _, _, _, _, _, _, _, _, _, _, _, _, _, _, _, _, _, _, _, _, _, _, _, _, _, _, _, _, _, _, _] (ev_eql _ _ _) ⟨by decide, rfl⟩ rfl ?_
                                first | refine sat_br rfl (fun g14 => ?_) (fun g14 => ?_) | refine sat_brB rfl (fun g14 => ?_) (fun g14 => ?_)
                                · skip
                                  refine sat_fn [_, _, _, _, _, _, _, _, _, _, _, _, _, _, _, _, _, _, _, _, _, _, _, _, _, _, _, _, _, _, _, _, _, _, _, _, _, _, _, _, _, _, _, _, _, _, _, _, _, _, _, _, _, _, _, _, _, _, _, _, _, _, _, _, _, _, _, _, _, _, _, _, _] (val_s_e _ _ _ (by decide)) rfl rfl ?_
                                  refine sat_lt [_, _, _, _, _, _, _, _, _, _, _, _, _, _, _, _, _, _, _, _, _, _, _, _, _, _, _, _, _, _, _, _, _, _, _, _, _, _, _, _, _, _, _, _, _, _, _, _, _, _, _, _, _, _, _, _, _, _, _, _, _, _, _, _, _, _, _, _, _, _, _, _, _, _] (ev_eql _ _ _) ⟨by decide, rfl⟩ rfl ?_
                                  first | refine sat_br rfl (fun g15 => ?_) (fun g15 => ?_) | refine sat_brB rfl (fun g15 => ?_) (fun g15 => ?_)
                                  · skip
                                    refine sat_lt [_, _, _, _, _, _, _, _, _, _, _, _, _, _, _, _, _, _, _, _, _, _, _, _, _, _, _, _, _, _, _, _, _, _, _, _, _, _, _, _, _, _, _, _, _, _, _, _, _, _, _, _, _, _, _, _, _, _, _, _, _, _, _, _, _, _, _, _, _, _, _, _, _, _, _] (ev_seq _ _) ⟨by decide, rfl⟩ rfl ?_
                                    first | refine sat_br rfl (fun g16 => ?_) (fun g16 => ?_) | refine sat_brB rfl (fun g16 => ?_) (fun g16 => ?_)
                                    · skip
                                      refine sat_lt [_, _, _, _, _, _, _, _, _, _, _, _, _, _, _, _, _, _, _, _, _, _, _, _, _, _, _, _, _, _, _, _, _, _, _, _, _, _, _, _, _, _, _, _, _, _, _, _, _, _, _, _, _, _, _, _, _, _, _, _, _, _, _, _, _, _, _, _, _, _, _, _, _, _, _, _] (ev_eql _ _ _) ⟨by decide, rfl⟩ rfl ?_
                                      first | refine sat_br rfl (fun g17 => ?_) (fun g17 => ?_) | refine sat_brB rfl (fun g17 => ?_) (fun g17 => ?_)
                                      · skip
                                        first | refine sat_br rfl (fun g18 => ?_) (fun g18 => ?_) | refine sat_brB rfl (fun g18 => ?_) (fun g18 => ?_)
                                        · skip
                                          refine sat_fn [_, _, _, _, _, _, _, _, _, _, _, _, _, _, _, _, _, _, _, _, _, _, _, _, _, _, _, _, _, _, _, _, _, _, _, _, _, _, _, _, _, _, _, _, _, _, _, _, _, _, _, _, _, _, _, _, _, _, _, _, _, _, _, _, _, _, _, _, _, _, _, _, _, _, _, _, _, _] (prs_s_e _) rfl rfl ?_
                                          refine sat_lt [_, _, _, _, _, _, _, _, _, _, _, _, _, _, _, _, _, _, _, _, _, _, _, _, _, _, _, _, _, _, _, _, _, _, _, _, _, _, _, _, _, _, _, _, _, _, _, _, _, _, _, _, _, _, _, _, _, _, _, _, _, _, _, _, _, _, _, _, _, _, _, _, _, _, _, _, _, _, _] (ev_eql _ _ _) ⟨by decide, rfl⟩ rfl ?_
                                          first | refine sat_br rfl (fun g19 => ?_) (fun g19 => ?_) | refine sat_brB rfl (fun g19 => ?_) (fun g19 => ?_)
                                          · skip
                                            refine sat_lt [_, _, _, _, _, _, _, _, _, _, _, _, _, _, _, _, _, _, _, _, _, _, _, _, _, _, _, _, _, _, _, _, _, _, _, _, _, _, _, _, _, _, _, _, _, _, _, _, _, _, _, _, _, _, _, _, _, _, _, _, _, _, _, _, _, _, _, _, _, _, _, _, _, _, _, _, _, _, _, _] (ev_lenS _ _) ⟨by decide, rfl⟩ rfl ?_
                                            refine sat_lt [_, _, _, _, _, _, _, _, _, _, _, _, _, _, _, _, _, _, _, _, _, _, _, _, _, _, _, _, _, _, _, _, _, _, _, _, _, _, _, _, _, _, _, _, _, _, _, _, _, _, _, _, _, _, _, _, _, _, _, _, _, _, _, _, _, _, _, _, _, _, _, _, _, _, _, _, _, _, _, _, _] (ev_eql _ _ _) ⟨by decide, rfl⟩ rfl ?_
                                            first | refine sat_br rfl (fun g20 => ?_) (fun g20 => ?_) | refine sat_brB rfl (fun g20 => ?_) (fun g20 => ?_)
                                            · skip
                                              refine sat_fn [_, _, _, _, _, _, _, _, _, _, _, _, _, _, _, _, _, _, _, _, _, _, _, _, _, _, _, _, _, _, _, _, _, _, _, _, _, _, _, _, _, _, _, _, _, _, _, _, _, _, _, _, _, _, _, _, _, _, _, _, _, _, _, _, _, _, _, _, _, _, _, _, _, _, _, _, _, _, _, _, _, _] (rep_s_e _ _ (by decide)) rfl rfl ?_
                                              refine sat_fn [_, _, _, _, _, _, _, _, _, _, _, _, _, _, _, _, _, _, _, _, _, _, _, _, _, _, _, _, _, _, _, _, _, _, _, _, _, _, _, _, _, _, _, _, _, _, _, _, _, _, _, _, _, _, _, _, _, _, _, _, _, _, _, _, _, _, _, _, _, _, _, _, _, _, _, _, _, _, _, _, _, _, _, _] (prs_s_e _) rfl rfl ?_
                                              refine sat_lt [_, _, _, _, _, _, _, _, _, _, _, _, _, _, _, _, _, _, _, _, _, _, _, _, _, _, _, _, _, _, _, _, _, _, _, _, _, _, _, _, _, _, _, _, _, _, _, _, _, _, _, _, _, _, _, _, _, _, _, _, _, _, _, _, _, _, _, _, _, _, _, _, _, _, _, _, _, _, _, _, _, _, _, _, _] (ev_eql _ _ _) ⟨by decide, rfl⟩ rfl ?_
                                              first | refine sat_br rfl (fun g21 => ?_) (fun g21 => ?_) | refine sat_brB rfl (fun g21 => ?_) (fun g21 => ?_)
                                              · skip
                                                refine sat_lt [_, _, _, _, _, _, _, _, _, _, _, _, _, _, _, _, _, _, _, _, _, _, _, _, _, _, _, _, _, _, _, _, _, _, _, _, _, _, _, _, _, _, _, _, _, _, _, _, _, _, _, _, _, _, _, _, _, _, _, _, _, _, _, _, _, _, _, _, _, _, _, _, _, _, _, _, _, _, _, _, _, _, _, _, _, _] (ev_lenS _ _) ⟨by decide, rfl⟩ rfl ?_
                                                refine sat_lt [_, _, _, _, _, _, _, _, _, _, _, _, _, _, _, _, _, _, _, _, _, _, _, _, _, _, _, _, _, _, _, _, _, _, _, _, _, _, _, _, _, _, _, _, _, _, _, _, _, _, _, _, _, _, _, _, _, _, _, _, _, _, _, _, _, _, _, _, _, _, _, _, _, _, _, _, _, _, _, _, _, _, _, _, _, _, _] (ev_eql _ _ _) ⟨by decide, rfl⟩ rfl ?_
                                                first | refine sat_br rfl (fun g22 => ?_) (fun g22 => ?_) | refine sat_brB rfl (fun g22 => ?_) (fun g22 => ?_)
                                                · skip
                                                  refine sat_fn [_, _, _, _, _, _, _, _, _, _, _, _, _, _, _, _, _, _, _, _, _, _, _, _, _, _, _, _, _, _, _, _, _, _, _, _, _, _, _, _, _, _, _, _, _, _, _, _, _, _, _, _, _, _, _, _, _, _, _, _, _, _, _, _, _, _, _, _, _, _, _, _, _, _, _, _, _, _, _, _, _, _, _, _, _, _, _, _, _] (prs_s_e _) rfl rfl ?_
                                                  refine sat_lt [_, _, _, _, _, _, _, _, _, _, _, _, _, _, _, _, _, _, _, _, _, _, _, _, _, _, _, _, _, _, _, _, _, _, _, _, _, _, _, _, _, _, _, _, _, _, _, _, _, _, _, _, _, _, _, _, _, _, _, _, _, _, _, _, _, _, _, _, _, _, _, _, _, _, _, _, _, _, _, _, _, _, _, _, _, _, _, _, _, _] (ev_eql _ _ _) ⟨by decide, rfl⟩ rfl ?_
                                                  first | refine sat_br rfl (fun g23 => ?_) (fun g23 => ?_) | refine sat_brB rfl (fun g23 => ?_) (fun g23 => ?_)
                                                  · skip
                                                    refine sat_lt [_, _, _, _, _, _, _, _, _, _, _, _, _, _, _, _, _, _, _, _, _, _, _, _, _, _, _, _, _, _, _, _, _, _, _, _, _, _, _, _, _, _, _, _, _, _, _, _, _, _, _, _, _, _, _, _, _, _, _, _, _, _, _, _, _, _, _, _, _, _, _, _, _, _, _, _, _, _, _, _, _, _, _, _, _, _, _, _, _, _, _] (ev_lenS _ _) ⟨by decide, rfl⟩ rfl ?_
                                                    refine sat_lt [_, _, _, _, _, _, _, _, _, _, _, _, _, _, _, _, _, _, _, _, _, _, _, _, _, _, _, _, _, _, _, _, _, _, _, _, _, _, _, _, _, _, _, _, _, _, _, _, _, _, _, _, _, _, _, _, _, _, _, _, _, _, _, _, _, _, _, _, _, _, _, _, _, _, _, _, _, _, _, _, _, _, _, _, _, _, _, _, _, _, _, _] (ev_eql _ _ _) ⟨by decide, rfl⟩ rfl ?_
                                                    first | refine sat_br rfl (fun g24 => ?_) (fun g24 => ?_) | refine sat_brB rfl (fun g24 => ?_) (fun g24 => ?_)
                                                    · skip
                                                      refine sat_ret [.bool _] rfl ?_
                                                      exact congrArg (fun b => [U.bool b]) (decide_eq_true (by decide +kernel))
                                                    · skip
                                                      (refine absurd ?_ (by assumption); decide +kernel)
                                                  · skip
                                                    (refine absurd ?_ (by assumption); decide +kernel)
                                                · skip
                                                  (refine absurd ?_ (by assumption); decide +kernel)
                                              · skip
                                                (refine absurd ?_ (by assumption); decide +kernel)
                                            · skip
                                              (refine absurd ?_ (by assumption); decide +kernel)
                                          · skip
                                            (refine absurd ?_ (by assumption); decide +kernel)
                                        · skip
                                          (refine absurd ?_ (by assumption); decide +kernel)
                                      · skip
                                        (refine absurd ?_ (by assumption); decide +kernel)
                                    · skip
                                      (refine absurd ?_ (by assumption); decide +kernel)
                                  · skip
                                    (refine absurd ?_ (by assumption); decide +kernel)
                                · skip
                                  (refine absurd ?_ (by assumption); decide +kernel)
                              · skip
                                (refine absurd ?_ (by assumption); decide +kernel)
                            · skip
                              (refine absurd ?_ (by assumption); decide +kernel)
                          · skip
                            (refine absurd ?_ (by assumption); decide +kernel)
                        · skip
                          (refine absurd ?_ (by assumption); decide +kernel)
                      · skip
                        (refine absurd ?_ (by assumption); decide +kernel)
                    · skip
                      (refine absurd ?_ (by assumption); decide +kernel)
                  · skip
                    (refine absurd ?_ (by assumption); decide +kernel)
                · skip
                  (refine absurd ?_ (by assumption); decide +kernel)
              · skip
                (refine absurd ?_ (by assumption); decide +kernel)
            · skip
              (refine absurd ?_ (by assumption); decide +kernel)
          · skip
            (refine absurd ?_ (by assumption); decide +kernel)
        · skip
          (refine absurd ?_ (by assumption); decide +kernel)
      · skip
        (refine absurd ?_ (by assumption); decide +kernel)
    · skip
      (refine absurd ?_ (by assumption); decide +kernel)
  · cases hs
noncomputable def L_wks : List (FuncId × FnC) := (15, conF Tryd.prog [] wks_s [.s 8]) :: L_rep
theorem L_wks_ok {G : Nat → Option Obj} (hst : StartOk Tryd.prog G gl H0 n0) : ConsOk Tryd.prog G gl L_wks := .cons (wks_c hst) (L_rep_ok hst)
end Go.Proofs.YtadmkfclgpbebaaDoor

namespace Go.Proofs.YtadmkfclgpbebaaDoor
set_option linter.all false
open Go Go.Sx
theorem parE_app : ∀ (s t : List UInt8) (l : Rws), parE l (s ++ t) = match parE l s with | none => parE (parL l s) t | some e => some e
  | [], t, l => rfl
  | b :: s, t, l => by
    rw [List.cons_append]
    by_cases h : (stepS l b.toNat).2 ≠ 0
    · rw [parE_so h, parE_so h]
    · rw [parE_no h, parE_no h, parE_app s t]; rfl
theorem parL_app : ∀ (s t : List UInt8) (l : Rws), parL l (s ++ t) = parL (parL l s) t
  | [], t, l => rfl
  | b :: s, t, l => by rw [List.cons_append, parL_c, parL_c, parL_app s t]
def stOf (M : List (List Int)) : Rws := if M = [[-1]] then none else some (M.map some)
end Go.Proofs.YtadmkfclgpbebaaDoor
namespace Go.Proofs.YtadmkfclgpbebaaDoor
set_option linter.all false
open Go Go.Sx
structure OkM (M : List (List Int)) : Prop where
  len : M.length ≤ 16
  row : ∀ p ∈ M, 1 ≤ p.length ∧ p.length ≤ 6
  num : ∀ p ∈ M, ∀ n ∈ p, -1 ≤ n ∧ n ≤ 9999
theorem badP_ok {p : List Int} (h1 : 1 ≤ p.length ∧ p.length ≤ 6) (h2 : ∀ n ∈ p, -1 ≤ n ∧ n ≤ 9999) : badP (some p) = false := by
  unfold badP
  rw [el_some, Bool.or_eq_false_iff, Bool.or_eq_false_iff]
  refine ⟨decide_eq_false (by omega), decide_eq_false (by omega), ?_⟩
  rw [List.any_eq_false]
  intro n hn
  rw [badI_f (by have := h2 n hn; omega)]
  decide
theorem check_ok {M : List (List Int)} (h : OkM M) (hne : M ≠ [[-1]]) : checkS (some (M.map some)) = 0 := by
  unfold checkS
  refine if_neg ?_
  rintro (h1 | h1 | h1)
  · rw [el_some, List.length_map] at h1; have := h.len; omega
  · apply hne
    unfold emptyP at h1
    rw [el_some] at h1
    match M, h1 with
    | [p], h1 =>
      match p, h1 with
      | [n], h1 => simp [el] at h1; rw [h1]
      | [], h1 => simp [el] at h1
      | _ :: _ :: _, h1 => simp [el] at h1
    | [], h1 => simp at h1
    | _ :: _ :: _, h1 => simp at h1
  · rw [el_some, List.any_map] at h1
    obtain ⟨p, hp, h2⟩ := List.any_eq_true.1 h1
    have := badP_ok (h.row p hp) (h.num p hp)
    simp [this] at h2
theorem check_st {M : List (List Int)} (h : OkM M) : checkS (stOf M) = 0 := by
  unfold stOf
  split
  · decide
  · rename_i hne; exact check_ok h hne
end Go.Proofs.YtadmkfclgpbebaaDoor
namespace Go.Proofs.YtadmkfclgpbebaaDoor
set_option linter.all false
open Go Go.Sx
theorem allL_eq {α : Type} (l : Option (List α)) : allL l = el l := by
  show el (subS l 0 ((el l).length : Int).toNat) = _
  rw [el_subS, Int.toNat_natCast, Nat.sub_zero, List.drop_zero, List.take_length]
theorem cutL_app {α : Type} (F : List α) (x : α) : cutL (some (F ++ [x])) = F := by
  show el (subS (some (F ++ [x])) 0 (((F ++ [x]).length : Int) - 1).toNat) = _
  rw [el_subS, el_some, List.length_append, List.length_singleton, show (((F.length + 1 : Nat) : Int) - 1).toNat = F.length by omega]
  simp
theorem lastP_app (F : List (Option (List Int))) (x : Option (List Int)) : lastP (some (F ++ [x])) = x := by
  show (F ++ [x]).getD (((F ++ [x]).length : Int) - 1).toNat default = x
  rw [List.length_append, List.length_singleton, show (((F.length + 1 : Nat) : Int) - 1).toNat = F.length by omega]
  simp
theorem lastN_app (F : List Int) (x : Int) : lastN (some (F ++ [x])) = x := by
  show (F ++ [x]).getD (((F ++ [x]).length : Int) - 1).toNat default = x
  rw [List.length_append, List.length_singleton, show (((F.length + 1 : Nat) : Int) - 1).toNat = F.length by omega]
  simp
theorem step_semi {M : List (List Int)} (h : OkM M) (hne : M ≠ []) (hl : M.length < 16) : stepS (stOf M) 59 = (some ((M ++ [[-1]]).map some), 0) := by
  have hc := check_st h
  unfold stOf at hc ⊢
  split
  · rename_i e; subst e
    rw [step_1 none 59 (by decide) (by decide) rfl]; rfl
  · rename_i e
    rw [if_neg e] at hc
    have h0 : 0 < M.length := List.length_pos_iff.2 hne
    rw [step_5 _ 59 hc (by rw [el_some, List.length_map]; omega) rfl (by rw [el_some, List.length_map]; omega), allL_eq, el_some, List.map_append]
    rfl
end Go.Proofs.YtadmkfclgpbebaaDoor
namespace Go.Proofs.YtadmkfclgpbebaaDoor
set_option linter.all false
open Go Go.Sx
theorem st_some {M : List (List Int)} (h : M ≠ [[-1]]) : stOf M = some (M.map some) := if_neg h
theorem step_colon {F : List (List Int)} {p : List Int} (h : OkM (F ++ [p])) (hl : p.length < 6) : stepS (stOf (F ++ [p])) 58 = (some ((F ++ [p ++ [-1]]).map some), 0) := by
  have hc := check_st h
  unfold stOf at hc ⊢
  split
  · rename_i e
    have h1 : F = [] ∧ p = [-1] := by
      cases F with
      | nil => simpa using e
      | cons a F => cases F <;> simp at e
    obtain ⟨rfl, rfl⟩ := h1
    rw [step_2 none 58 (by decide) (by decide) rfl]; rfl
  · rename_i e
    rw [if_neg e] at hc
    have em : (F ++ [p]).map some = F.map some ++ [some p] := by simp
    rw [em] at hc ⊢
    have hlp : lastP (some (F.map some ++ [some p])) = some p := lastP_app _ _
    rw [step_6 _ 58 hc (by rw [el_some, List.length_append, List.length_singleton]; omega) rfl (by
      show ((el (lastP (some (F.map some ++ [some p])))).length : Int) < 6
      rw [hlp, el_some]; omega), hlp, cutL_app, allL_eq, el_some]
    simp
theorem step_dig {F : List (List Int)} {p : List Int} {n c : Int} (h : OkM (F ++ [p ++ [n]])) (hd : 48 ≤ c ∧ c ≤ 57) : stepS (stOf (F ++ [p ++ [n]])) c = (some ((F ++ [p ++ [digV n c]]).map some), 0) := by
  have hc := check_st h
  unfold stOf at hc ⊢
  split
  · rename_i e
    have h1 : F = [] ∧ p = [] ∧ n = -1 := by
      cases F with
      | nil =>
        cases p with
        | nil => simpa using e
        | cons a p => cases p <;> simp at e
      | cons a F => cases F <;> simp at e
    obtain ⟨rfl, rfl, rfl⟩ := h1
    rw [step_3 none c (by decide) (by decide) hd]; rfl
  · rename_i e
    rw [if_neg e] at hc
    have em : (F ++ [p ++ [n]]).map some = F.map some ++ [some (p ++ [n])] := by simp
    rw [em] at hc ⊢
    have hlp : lastP (some (F.map some ++ [some (p ++ [n])])) = some (p ++ [n]) := lastP_app _ _
    rw [step_8 _ c hc (by rw [el_some, List.length_append, List.length_singleton]; omega) hd, hlp, cutL_app, cutL_app, lastN_app]
    simp
end Go.Proofs.YtadmkfclgpbebaaDoor

namespace Go.Proofs.YtadmkfclgpbebaaDoor
set_option linter.all false
open Go Go.Sx
theorem OkM.set {F : List (List Int)} {p : List Int} {n m : Int} (h : OkM (F ++ [p ++ [n]])) (hm : -1 ≤ m ∧ m ≤ 9999) : OkM (F ++ [p ++ [m]]) := by
  have hl := h.len
  refine ⟨by simpa using hl, fun q hq => ?_, fun q hq k hk => ?_⟩
  · rcases List.mem_append.1 hq with hq | hq
    · exact h.row q (List.mem_append_left _ hq)
    · rw [List.mem_singleton.1 hq]
      have := h.row (p ++ [n]) (List.mem_append_right _ (List.mem_singleton.2 rfl))
      simpa using this
  · rcases List.mem_append.1 hq with hq | hq
    · exact h.num q (List.mem_append_left _ hq) k hk
    · rw [List.mem_singleton.1 hq] at hk
      rcases List.mem_append.1 hk with hk | hk
      · exact h.num (p ++ [n]) (List.mem_append_right _ (List.mem_singleton.2 rfl)) k (List.mem_append_left _ hk)
      · rw [List.mem_singleton.1 hk]; exact hm
theorem ne_m1 {F : List (List Int)} {p : List Int} {n : Int} (hn : n ≠ -1) : F ++ [p ++ [n]] ≠ [[-1]] := fun e => by
  cases F with
  | nil => cases p with
    | nil => simp at e; exact hn e
    | cons a p => cases p <;> simp at e
  | cons a F => cases F <;> simp at e
theorem digit_nat (d : Nat) (h : d < 10) : ((UInt8.ofNat (48 + d)).toNat : Int) = 48 + d := by
  rw [UInt8.toNat_ofNat']
  omega
theorem num_read {F : List (List Int)} {p : List Int} (h : OkM (F ++ [p ++ [-1]])) : ∀ (u : Nat), u ≤ 9999 → parE (stOf (F ++ [p ++ [-1]])) (Lib.decDigits u) = none ∧ parL (stOf (F ++ [p ++ [-1]])) (Lib.decDigits u) = stOf (F ++ [p ++ [(u : Int)]]) := by
  intro u
  induction u using Nat.strongRecOn with
  | _ u ih =>
    intro hu
    have one : ∀ (n : Int) (d : Nat), d < 10 → OkM (F ++ [p ++ [n]]) → parE (stOf (F ++ [p ++ [n]])) [UInt8.ofNat (48 + d)] = none ∧ parL (stOf (F ++ [p ++ [n]])) [UInt8.ofNat (48 + d)] = some ((F ++ [p ++ [digV n (48 + d)]]).map some) := fun n d hd hn => by
      have hs := step_dig (c := 48 + (d : Int)) hn ⟨by omega, by omega⟩
      refine ⟨?_, ?_⟩
      · rw [parE_no (by rw [digit_nat d hd, hs]; exact fun h => h rfl)]; rfl
      · rw [parL_c, digit_nat d hd, hs]; rfl
    by_cases hs : u < 10
    · rw [Lib.decDigits_one hs]
      obtain ⟨a, b⟩ := one (-1) u hs h
      have e : digV (-1) (48 + (u : Int)) = u := by unfold digV; omega
      refine ⟨a, ?_⟩
      rw [b, e, st_some (ne_m1 (by omega))]
    · obtain ⟨a, b⟩ := ih (u / 10) (by omega) (by omega)
      have hok := OkM.set h (m := ((u / 10 : Nat) : Int)) ⟨by omega, by omega⟩
      obtain ⟨c, d⟩ := one ((u / 10 : Nat) : Int) (u % 10) (by omega) hok
      have e : digV ((u / 10 : Nat) : Int) (48 + ((u % 10 : Nat) : Int)) = u := by unfold digV; omega
      rw [show Lib.decDigits u = Lib.decDigits (u / 10) ++ [UInt8.ofNat (48 + u % 10)] by rw [Lib.decDigits, dif_neg hs]]
      refine ⟨?_, ?_⟩
      · rw [parE_app, a, b]; exact c
      · rw [parL_app, b, d, e, st_some (ne_m1 (by omega))]
end Go.Proofs.YtadmkfclgpbebaaDoor

namespace Go.Proofs.YtadmkfclgpbebaaDoor
set_option linter.all false
open Go Go.Sx
theorem part_read {F : List (List Int)} {p : List Int} (h : OkM (F ++ [p ++ [-1]])) {n : Int} (hn : -1 ≤ n ∧ n ≤ 9999) : parE (stOf (F ++ [p ++ [-1]])) (partS n) = none ∧ parL (stOf (F ++ [p ++ [-1]])) (partS n) = stOf (F ++ [p ++ [n]]) := by
  unfold partS
  split
  · rename_i e; subst e; exact ⟨rfl, rfl⟩
  · obtain ⟨u, rfl⟩ : ∃ u : Nat, n = u := ⟨n.toNat, by omega⟩
    rw [Lib.itoa_nonneg]
    exact num_read h u (by omega)
theorem row_read {F : List (List Int)} {i : Int} : ∀ (r q : List Int) (k : Int), 1 ≤ k → q ≠ [] → OkM (F ++ [q ++ r]) → parE (stOf (F ++ [q])) (rowS i k r) = none ∧ parL (stOf (F ++ [q])) (rowS i k r) = stOf (F ++ [q ++ r])
  | [], q, k, _, _, _ => by rw [List.append_nil]; exact ⟨rfl, rfl⟩
  | n :: r, q, k, hk, hq, h => by
    have hrow := h.row (q ++ n :: r) (List.mem_append_right _ (List.mem_singleton.2 rfl))
    have hnum := h.num (q ++ n :: r) (List.mem_append_right _ (List.mem_singleton.2 rfl))
    have sub : ∀ s : List Int, s ≠ [] → s.length ≤ 6 → (∀ x ∈ s, -1 ≤ x ∧ x ≤ 9999) → OkM (F ++ [s]) := fun s h1 h2 h3 => by
      have hl := h.len
      refine ⟨by simpa using hl, fun t ht => ?_, fun t ht x hx => ?_⟩
      · rcases List.mem_append.1 ht with ht | ht
        · exact h.row t (List.mem_append_left _ ht)
        · rw [List.mem_singleton.1 ht]; exact ⟨List.length_pos_iff.2 h1, h2⟩
      · rcases List.mem_append.1 ht with ht | ht
        · exact h.num t (List.mem_append_left _ ht) x hx
        · rw [List.mem_singleton.1 ht] at hx; exact h3 x hx
    have hlen : q.length + (r.length + 1) ≤ 6 := by have := hrow.2; simpa using this
    have hq1 := sub q hq (by omega) fun x hx => hnum x (List.mem_append_left _ hx)
    have hq2 := sub (q ++ [-1]) (by simp) (by simp; omega) fun x hx => by
      rcases List.mem_append.1 hx with hx | hx
      · exact hnum x (List.mem_append_left _ hx)
      · rw [List.mem_singleton.1 hx]; omega
    have hs := step_colon hq1 (by omega)
    have hst : (some ((F ++ [q ++ [-1]]).map some) : Rws) = stOf (F ++ [q ++ [-1]]) := (st_some fun e => by
      cases F with
      | nil => cases q with
        | nil => exact hq rfl
        | cons a q => cases q <;> simp at e
      | cons a F => cases F <;> simp at e).symm
    obtain ⟨a, b⟩ := part_read hq2 (n := n) (hnum n (by simp))
    obtain ⟨c, d⟩ := row_read r (q ++ [n]) (k + 1) (by omega) (by simp) (by rw [List.append_assoc q [n] r]; exact h)
    have ha : aheadS i k = [58] := by unfold aheadS; rw [if_neg (by omega)]
    rw [row_cons, ha, List.append_assoc]
    have h58 : ((58 : UInt8).toNat : Int) = 58 := rfl
    refine ⟨?_, ?_⟩
    · show parE _ (58 :: (partS n ++ rowS i (k + 1) r)) = none
      rw [parE_no (by rw [h58, hs]; exact fun h => h rfl), h58, hs]
      show parE (some _) _ = _
      rw [hst, parE_app, a, b]; exact c
    · show parL _ (58 :: (partS n ++ rowS i (k + 1) r)) = _
      rw [parL_c, h58, hs]
      show parL (some _) _ = _
      rw [hst, parL_app, b, d, List.append_assoc q [n] r]; rfl
end Go.Proofs.YtadmkfclgpbebaaDoor

namespace Go.Proofs.YtadmkfclgpbebaaDoor
set_option linter.all false
open Go Go.Sx
theorem OkM.left {A B : List (List Int)} (h : OkM (A ++ B)) : OkM A :=
  ⟨by have := h.len; rw [List.length_append] at this; omega, fun p hp => h.row p (List.mem_append_left _ hp), fun p hp => h.num p (List.mem_append_left _ hp)⟩
theorem OkM.snoc {F : List (List Int)} {p : List Int} (h : OkM F) (hl : F.length < 16) (h1 : 1 ≤ p.length ∧ p.length ≤ 6) (h2 : ∀ n ∈ p, -1 ≤ n ∧ n ≤ 9999) : OkM (F ++ [p]) := by
  refine ⟨by simp; omega, fun q hq => ?_, fun q hq => ?_⟩
  · rcases List.mem_append.1 hq with hq | hq
    · exact h.row q hq
    · rw [List.mem_singleton.1 hq]; exact h1
  · rcases List.mem_append.1 hq with hq | hq
    · exact h.num q hq
    · rw [List.mem_singleton.1 hq]; exact h2
theorem m1_num : ∀ n ∈ [(-1 : Int)], -1 ≤ n ∧ n ≤ 9999 := fun n hn => by rw [List.mem_singleton.1 hn]; omega
theorem st_snoc1 {F : List (List Int)} (hF : F ≠ []) : (some ((F ++ [[-1]]).map some) : Rws) = stOf (F ++ [[] ++ [-1]]) := (st_some fun e => by
  cases F with
  | nil => exact hF rfl
  | cons a F => cases F <;> simp at e).symm
theorem rows_read : ∀ (ps : List (Option (List Int))) (F : List (List Int)) (j : Int), 1 ≤ j → F ≠ [] → OkM (F ++ ps.map el) → parE (stOf F) (rowsS j ps) = none ∧ parL (stOf F) (rowsS j ps) = stOf (F ++ ps.map el)
  | [], F, j, _, _, _ => by rw [List.map_nil, List.append_nil]; exact ⟨rfl, rfl⟩
  | p :: ps, F, j, hj, hF, h => by
    have hF1 := h.left
    have hlen := h.len
    rw [List.length_append, List.length_map, List.length_cons] at hlen
    have hp1 := h.row (el p) (List.mem_append_right _ (by simp))
    have hp2 := h.num (el p) (List.mem_append_right _ (by simp))
    obtain ⟨n, r, e⟩ : ∃ n r, el p = n :: r := by
      cases hq : el p with
      | nil => rw [hq] at hp1; simp at hp1
      | cons n r => exact ⟨n, r, rfl⟩
    have hs := step_semi hF1 hF (by omega)
    rw [st_snoc1 hF] at hs
    have h1 : OkM (F ++ [[] ++ [-1]]) := hF1.snoc (by omega) ⟨Nat.le_refl 1, by decide⟩ m1_num
    rw [e] at hp2 hp1
    obtain ⟨a, b⟩ := part_read h1 (n := n) (hp2 n (by simp))
    have h2 : OkM (F ++ [[n] ++ r]) := hF1.snoc (by omega) hp1 hp2
    obtain ⟨c, d⟩ := row_read (i := j) r [n] 1 (by omega) (by simp) h2
    have h3 : OkM ((F ++ [n :: r]) ++ ps.map el) := by rw [List.append_assoc, ← e]; exact h
    obtain ⟨f, g⟩ := rows_read ps (F ++ [n :: r]) (j + 1) (by omega) (by simp) h3
    have ha : aheadS j 0 = [59] := by unfold aheadS; rw [if_pos rfl, if_neg (by omega)]
    have ht : rowsS j (p :: ps) = 59 :: (partS n ++ (rowS j 1 r ++ rowsS (j + 1) ps)) := by
      show rowS j 0 (el p) ++ rowsS (j + 1) ps = _
      rw [e, row_cons, ha]; simp
    have h59 : ((59 : UInt8).toNat : Int) = 59 := rfl
    have hM : F ++ (p :: ps).map el = (F ++ [n :: r]) ++ ps.map el := by rw [List.map_cons, e]; simp
    rw [ht, hM]
    refine ⟨?_, ?_⟩
    · rw [parE_no (by rw [h59, hs]; exact fun h => h rfl), h59, hs, parE_app, a, b]
      show parE (stOf (F ++ [[n]])) _ = none
      rw [parE_app, c, d]; exact f
    · rw [parL_c, h59, hs, parL_app, b]
      show parL (stOf (F ++ [[n]])) _ = _
      rw [parL_app, d]; exact g
theorem ok_of {l : Rws} (h : checkS l = 0) : OkM ((el l).map el) := by
  rcases check_bd l with h1 | ⟨_, h2, h3⟩
  · omega
  · refine ⟨by simpa using h2, fun p hp => ?_, fun p hp => ?_⟩
    · obtain ⟨q, hq, rfl⟩ := List.mem_map.1 hp
      exact ⟨(h3 q hq).1, (h3 q hq).2.1⟩
    · obtain ⟨q, hq, rfl⟩ := List.mem_map.1 hp
      exact (h3 q hq).2.2
theorem ne_of {l : Rws} (h : checkS l = 0) : (el l).map el ≠ [[-1]] := fun e => by
  have he : emptyP l = true := by
    unfold emptyP
    match hl : el l, e with
    | [p], e =>
      have e : el p = [-1] := by simpa using e
      simp [e]
    | [], e => simp at e
    | _ :: _ :: _, e => simp at e
  unfold checkS at h
  rw [if_pos (.inr (.inl he))] at h
  omega
theorem back {l : Rws} (h : checkS l = 0) : (parseS (printS l).1).2 = 0 ∧ (el (parseS (printS l).1).1).map el = (el l).map el := by
  have hp := print_1 l h
  have hlen : (rowsS 0 (el l)).length ≤ 4096 := by
    rcases check_bd l with h1 | ⟨_, h2, h3⟩
    · omega
    · have := rows_len (j := 0) fun p hp => (h3 p hp).2
      omega
  have key : parE none (rowsS 0 (el l)) = none ∧ (el (parL none (rowsS 0 (el l)))).map el = (el l).map el := by
    have hok := ok_of h
    have hne := ne_of h
    cases hl : el l with
    | nil => exact ⟨rfl, rfl⟩
    | cons p ps =>
      rw [hl] at hok hne
      have hp1 := hok.row (el p) (by simp)
      have hp2 := hok.num (el p) (by simp)
      obtain ⟨n, r, e⟩ : ∃ n r, el p = n :: r := by
        cases hq : el p with
        | nil => rw [hq] at hp1; simp at hp1
        | cons n r => exact ⟨n, r, rfl⟩
      rw [e] at hp1 hp2
      have h0 : OkM ([] : List (List Int)) := ⟨Nat.zero_le _, (fun p hp => by cases hp), (fun p hp => by cases hp)⟩
      obtain ⟨a, b⟩ := part_read (F := []) (p := []) (h0.snoc (by decide) ⟨Nat.le_refl 1, by decide⟩ m1_num) (n := n) (hp2 n (by simp))
      obtain ⟨c, d⟩ := row_read (F := []) (i := 0) r [n] 1 (by omega) (by simp) (h0.snoc (by decide) hp1 hp2)
      have hM : (p :: ps).map el = [n :: r] ++ ps.map el := by rw [List.map_cons, e]; rfl
      obtain ⟨f, g⟩ := rows_read ps [n :: r] (0 + 1) (by omega) (by simp) (by rw [← hM]; exact hok)
      have ht : rowsS 0 (p :: ps) = partS n ++ (rowS 0 1 r ++ rowsS (0 + 1) ps) := by
        show rowS 0 0 (el p) ++ rowsS (0 + 1) ps = _
        rw [e, row_cons]
        have ha : aheadS 0 0 = [] := rfl
        rw [ha]; simp
      have hst : (none : Rws) = stOf ([] ++ [[] ++ [-1]]) := rfl
      rw [ht, hst]
      refine ⟨?_, ?_⟩
      · rw [parE_app, a, b]
        show parE (stOf ([] ++ [[n]])) _ = none
        rw [parE_app, c, d]; exact f
      · rw [parL_app, b]
        show (el (parL (stOf ([] ++ [[n]])) _)).map el = _
        rw [parL_app, d]
        show (el (parL (stOf [n :: r]) _)).map el = _
        rw [g, ← hM, st_some hne, el_some, List.map_map]
        have : (el ∘ some : List Int → List Int) = id := rfl
        rw [this, List.map_id]
  rw [hp]
  show (parseS (rowsS 0 (el l))).2 = 0 ∧ _
  have hq : parseS (rowsS 0 (el l)) = (parL none (rowsS 0 (el l)), 0) := by
    unfold parseS
    rw [if_neg (by omega), key.1]
  rw [hq]
  exact ⟨rfl, key.2⟩
theorem text_eq {l r : Rws} (hl : checkS l = 0) (hr : checkS r = 0) : (printS l).1 = (printS r).1 ↔ (el l).map el = (el r).map el := by
  constructor
  · intro e
    rw [← (back hl).2, ← (back hr).2, e]
  · intro e
    rw [print_1 l hl, print_1 r hr]
    have key : ∀ (ps qs : List (Option (List Int))) (j : Int), ps.map el = qs.map el → rowsS j ps = rowsS j qs := fun ps => by
      induction ps with
      | nil => intro qs j h; cases qs with
        | nil => rfl
        | cons q qs => simp at h
      | cons p ps ih => intro qs j h; cases qs with
        | nil => simp at h
        | cons q qs =>
          simp only [List.map_cons, List.cons.injEq] at h
          show rowS j 0 (el p) ++ rowsS (j + 1) ps = rowS j 0 (el q) ++ rowsS (j + 1) qs
          rw [h.1, ih qs (j + 1) h.2]
    exact key _ _ _ e
theorem rowN_len (parts : Option (List Int)) : ∀ (n : Nat) (k : Int), (rowN parts k n).length = n
  | 0, _ => rfl
  | n + 1, k => by rw [rowN, List.length_cons, rowN_len parts n]
theorem rowN_num {parts : Option (List Int)} (h : ∀ q ∈ el parts, 0 ≤ q ∧ q ≤ 65535) : ∀ (n : Nat) (k : Int), ∀ x ∈ rowN parts k n, -1 ≤ x ∧ x ≤ 9999
  | 0, _, x, hx => by cases hx
  | n + 1, k, x, hx => by
    rw [rowN] at hx
    rcases List.mem_cons.1 hx with rfl | hx
    · unfold partN
      split
      · have := getB_bd (by decide) h k.toNat; omega
      · omega
    · exact rowN_num h n _ x hx
theorem rowsF_ok {parts : Option (List Int)} (h : ∀ q ∈ el parts, 0 ≤ q ∧ q ≤ 65535) : ∀ (ms : List Int) (k : Int), (∀ m ∈ ms, 0 ≤ m ∧ m ≤ 255) → (rowsF parts k ms).length = ms.length ∧ ∀ p ∈ rowsF parts k ms, 1 ≤ (el p).length ∧ (el p).length ≤ 6 ∧ ∀ x ∈ el p, -1 ≤ x ∧ x ≤ 9999
  | [], k, _ => ⟨rfl, fun p hp => by cases hp⟩
  | m :: ms, k, hm => by
    obtain ⟨a, b⟩ := rowsF_ok h ms (k + (m % 6 + 1)) fun x hx => hm x (List.mem_cons_of_mem _ hx)
    have hm0 := hm m List.mem_cons_self
    rw [rowsF]
    refine ⟨by rw [List.length_cons, a, List.length_cons], fun p hp => ?_⟩
    rcases List.mem_cons.1 hp with rfl | hp
    · rw [el_some, rowN_len]
      exact ⟨by omega, by omega, rowN_num h _ _⟩
    · exact b p hp
theorem row_ok {parts many : Option (List Int)} (h1 : ∀ m ∈ el many, 0 ≤ m ∧ m ≤ 255) (h2 : ∀ q ∈ el parts, 0 ≤ q ∧ q ≤ 65535) : checkS (rowF parts many) = 0 := by
  obtain ⟨a, b⟩ := rowsF_ok h2 ((el many).take 16) 0 fun m hm => h1 m (List.mem_of_mem_take hm)
  have e : el (rowR parts many) = rowsF parts 0 ((el many).take 16) := by
    unfold rowR; rw [el_catS]; rfl
  have key : ∀ l : Rws, (el l).length ≤ 16 → (∀ p ∈ el l, 1 ≤ (el p).length ∧ (el p).length ≤ 6 ∧ ∀ x ∈ el p, -1 ≤ x ∧ x ≤ 9999) → emptyP l = false → checkS l = 0 := fun l q1 q2 q3 => by
    unfold checkS
    refine if_neg ?_
    rintro (h | h | h)
    · omega
    · rw [q3] at h; cases h
    · obtain ⟨p, hp, h⟩ := List.any_eq_true.1 h
      obtain ⟨q4, q5, q6⟩ := q2 p hp
      unfold badP at h
      simp only [Bool.or_eq_true, decide_eq_true_eq, List.any_eq_true] at h
      rcases h with h | h | ⟨x, hx, h⟩
      · omega
      · omega
      · rw [badI_f (by have := q6 x hx; omega)] at h; cases h
  unfold rowF
  split
  · decide
  · rename_i hne
    refine key _ (by rw [e, a, List.length_take]; omega) (by rw [e]; exact b) ?_
    by_cases g1 : ((el (rowR parts many)).length : Int) = 1
    · by_cases g2 : ((el (at0 (el (rowR parts many)))).length : Int) = 1
      · rw [emptyP_1 _ g1 g2]
        exact decide_eq_false fun g3 => hne ⟨g1, g2, g3⟩
      · exact emptyP_3 _ g1 g2
    · exact emptyP_2 _ g1
end Go.Proofs.YtadmkfclgpbebaaDoor

namespace Go.Proofs.YtadmkfclgpbebaaDoor
set_option linter.all false
open Go Go.Sx
set_option maxRecDepth 100000
set_option linter.unusedVariables false
set_option linter.unusedSimpArgs false
theorem lens_of {l : Rws} (h : checkS l = 0) : (el l).length ≤ 1000000000 ∧ ∀ p ∈ el l, (el p).length ≤ 1000000000 := by
  rcases check_bd l with h1 | ⟨_, h2, h3⟩
  · omega
  · exact ⟨by omega, fun p hp => by have := (h3 p hp).2.1; omega⟩
theorem lens_eq {l r : Rws} (h : (el l).map el = (el r).map el) (k : (el r).length ≤ 1000000000 ∧ ∀ p ∈ el r, (el p).length ≤ 1000000000) : (el l).length ≤ 1000000000 ∧ ∀ p ∈ el l, (el p).length ≤ 1000000000 := by
  have hl := congrArg List.length h
  simp only [List.length_map] at hl
  refine ⟨by omega, fun p hp => ?_⟩
  have : el p ∈ (el r).map el := by rw [← h]; exact List.mem_map.2 ⟨p, hp, rfl⟩
  obtain ⟨q, hq, e⟩ := List.mem_map.1 this
  rw [← e]; exact k.2 q hq
def bck_s : List U → Option (Nat × List U)
  | [u_pa, u_ma, u_pb, u_mb] => (decS rU u_pa).bind fun pa => (decS rB u_ma).bind fun ma => (decS rU u_pb).bind fun pb => (decS rB u_mb).bind fun mb => if ((el ma).length ≤ 140737488351232 ∧ (el pa).length ≤ 140737488351232 ∧ (∀ m ∈ el ma, 0 ≤ m ∧ m ≤ 255) ∧ (∀ q ∈ el pa, 0 ≤ q ∧ q ≤ 65535)) ∧ ((el mb).length ≤ 140737488351232 ∧ (el pb).length ≤ 140737488351232 ∧ (∀ m ∈ el mb, 0 ≤ m ∧ m ≤ 255) ∧ (∀ q ∈ el pb, 0 ≤ q ∧ q ≤ 65535)) then some (0, [.bool (true)]) else none
  | _ => none
theorem bck_s_e (pa : (Option (List Int))) (ma : (Option (List Int))) (pb : (Option (List Int))) (mb : (Option (List Int))) (hc : ((el ma).length ≤ 140737488351232 ∧ (el pa).length ≤ 140737488351232 ∧ (∀ m ∈ el ma, 0 ≤ m ∧ m ≤ 255) ∧ (∀ q ∈ el pa, 0 ≤ q ∧ q ≤ 65535)) ∧ ((el mb).length ≤ 140737488351232 ∧ (el pb).length ≤ 140737488351232 ∧ (∀ m ∈ el mb, 0 ≤ m ∧ m ≤ 255) ∧ (∀ q ∈ el pb, 0 ≤ q ∧ q ≤ 65535))) : bck_s [encS rU pa, encS rB ma, encS rU pb, encS rB mb] = some (0, [.bool (true)]) := by
  simp only [bck_s, decS_enc, Option.bind_some]
  exact if_pos hc
def bck_t : Tr := .fn wks_s [] 1 <| .lt 8 (.un .not) [h 4 8] <| .br 5 (.ret [.bool false]) (.fn row_s [h 0 11, h 1 11] 1 <| .fn row_s [h 2 11, h 3 11] 1 <| .fn prt_s [h 6 11] 2 <| .fn prt_s [h 7 11] 2 <| .fn prs_s [h 8 9] 2 <| .lt 8 (.bin .eql) [h 9 3, .int .i64 (0)] <| .br 14 (.lt 8 (.bin .eql) [h 11 3, .int .i64 (0)] <| .br 15 (.lt 8 (.bin .eql) [h 13 3, .int .i64 (0)] <| .br 16 (.fn chk_s [h 6 11] 1 <| .lt 8 (.bin .eql) [h 17 3, .int .i64 (0)] <| .br 18 (.fn rsame_s [h 12 11, h 6 11] 1 <| .br 19 (.lt 8 (.bin .eql) [h 8 9, h 10 9] <| .fn rsame_s [h 6 11, h 7 11] 1 <| .lt 8 (.bin .eql) [h 20 8, h 21 8] <| .br 22 (.fn same_s [h 6 11, h 7 11] 1 <| .lt 8 (.bin .eql) [h 8 9, h 10 9] <| .lt 8 (.bin .eql) [h 23 8, h 24 8] <| .ret [h 25 8]) (.ret [.bool false])) (.ret [.bool false])) (.ret [.bool false])) (.ret [.bool false])) (.ret [.bool false])) (.ret [.bool false]))
theorem bck_c {G : Nat → Option Obj} (hst : StartOk Tryd.prog G gl H0 n0) : ConOk Tryd.prog G 8 [.a [11, 11], .a [11, 11]] bck_s [.s 8] := by
  refine con_of_tree (C := cx L_wks P_rwl) (d := 60) bck_t (cxg (L_wks_ok hst) (P_rwl_ok hst)) hst ⟨Tryd.f8, _, Tryd.func8, rfl⟩ (by kernel_rfl) (by kernel_rfl) ?_
  intro us outs hs
  unfold bck_s at hs
  split at hs
  · skip
    rename_i u_pa u_ma u_pb u_mb
    have hq_pa := Option.bind_eq_some_iff.1 hs
    clear hs
    obtain ⟨pa, hd_pa, hs⟩ := hq_pa
    replace hd_pa := decS_eq hd_pa
    subst hd_pa
    have hq_ma := Option.bind_eq_some_iff.1 hs
    clear hs
    obtain ⟨ma, hd_ma, hs⟩ := hq_ma
    replace hd_ma := decS_eq hd_ma
    subst hd_ma
    have hq_pb := Option.bind_eq_some_iff.1 hs
    clear hs
    obtain ⟨pb, hd_pb, hs⟩ := hq_pb
    replace hd_pb := decS_eq hd_pb
    subst hd_pb
    have hq_mb := Option.bind_eq_some_iff.1 hs
    clear hs
    obtain ⟨mb, hd_mb, hs⟩ := hq_mb
    replace hd_mb := decS_eq hd_mb
    subst hd_mb
    split at hs
    · rename_i hc
      cases hs
      have qa : checkS (rowF pa ma) = 0 := row_ok hc.1.2.2.1 hc.1.2.2.2
      have qb : checkS (rowF pb mb) = 0 := row_ok hc.2.2.2.1 hc.2.2.2.2
      have la := lens_of qa
      have lb := lens_of qb
      have fa : (printS (rowF pa ma)).2 = 0 := by rw [print_1 _ qa]
      have fb : (printS (rowF pb mb)).2 = 0 := by rw [print_1 _ qb]
      obtain ⟨bk, bl⟩ := back qa
      have lx := lens_eq bl la
      have s1 : sameP (parseS (printS (rowF pa ma)).1).1 (rowF pa ma) = true := decide_eq_true bl
      have s2 : decide ((printS (rowF pa ma)).1 = (printS (rowF pb mb)).1) = sameP (rowF pa ma) (rowF pb mb) := decide_eq_decide.2 (text_eq qa qb)
      unfold bck_t
      refine sat_fn [_, _, _, _, _] rfl rfl rfl ?_
      first | refine sat_lt [_, _, _, _, _, _] (ev_notD _) ⟨by decide, rfl⟩ rfl ?_ | refine sat_lt [_, _, _, _, _, _] (ev_not _) ⟨by decide, rfl⟩ rfl ?_
      first | refine sat_br rfl (fun g0 => ?_) (fun g0 => ?_) | refine sat_brB rfl (fun g0 => ?_) (fun g0 => ?_)
      · skip
        refine sat_ret [.bool _] rfl ?_
        first | exact congrArg (fun b => [U.bool b]) (decide_eq_true s2.symm) | (cases g0; done) | (exfalso; contradiction) | (exfalso; exact absurd (decide_eq_true bl) (by assumption)) | (exfalso; exact absurd s2 (by assumption)) | (exfalso; exact absurd bl (by assumption))
      · skip
        refine sat_fn [_, _, _, _, _, _, _] (row_s_e _ _ (by first | exact hc.1 | exact hc.2)) rfl rfl ?_
        refine sat_fn [_, _, _, _, _, _, _, _] (row_s_e _ _ (by first | exact hc.1 | exact hc.2)) rfl rfl ?_
        refine sat_fn [_, _, _, _, _, _, _, _, _, _] (prt_s_e _ (by first | exact la | exact lb)) rfl rfl ?_
        refine sat_fn [_, _, _, _, _, _, _, _, _, _, _, _] (prt_s_e _ (by first | exact la | exact lb)) rfl rfl ?_
        refine sat_fn [_, _, _, _, _, _, _, _, _, _, _, _, _, _] (prs_s_e _) rfl rfl ?_
        refine sat_lt [_, _, _, _, _, _, _, _, _, _, _, _, _, _, _] (ev_eql _ _ _) ⟨by decide, rfl⟩ rfl ?_
        first | refine sat_br rfl (fun g1 => ?_) (fun g1 => ?_) | refine sat_brB rfl (fun g1 => ?_) (fun g1 => ?_)
        · skip
          refine sat_lt [_, _, _, _, _, _, _, _, _, _, _, _, _, _, _, _] (ev_eql _ _ _) ⟨by decide, rfl⟩ rfl ?_
          first | refine sat_br rfl (fun g2 => ?_) (fun g2 => ?_) | refine sat_brB rfl (fun g2 => ?_) (fun g2 => ?_)
          · skip
            refine sat_lt [_, _, _, _, _, _, _, _, _, _, _, _, _, _, _, _, _] (ev_eql _ _ _) ⟨by decide, rfl⟩ rfl ?_
            first | refine sat_br rfl (fun g3 => ?_) (fun g3 => ?_) | refine sat_brB rfl (fun g3 => ?_) (fun g3 => ?_)
            · skip
              refine sat_fn [_, _, _, _, _, _, _, _, _, _, _, _, _, _, _, _, _, _] (chk_s_e _ la) rfl rfl ?_
              refine sat_lt [_, _, _, _, _, _, _, _, _, _, _, _, _, _, _, _, _, _, _] (ev_eql _ _ _) ⟨by decide, rfl⟩ rfl ?_
              first | refine sat_br rfl (fun g4 => ?_) (fun g4 => ?_) | refine sat_brB rfl (fun g4 => ?_) (fun g4 => ?_)
              · skip
                refine sat_fn [_, _, _, _, _, _, _, _, _, _, _, _, _, _, _, _, _, _, _, _] (rsame_s_e _ _ (by first | exact ⟨lx.1, la.1, lx.2, la.2⟩ | exact ⟨la.1, lb.1, la.2, lb.2⟩)) rfl rfl ?_
                first | refine sat_br rfl (fun g5 => ?_) (fun g5 => ?_) | refine sat_brB rfl (fun g5 => ?_) (fun g5 => ?_)
                · skip
                  refine sat_lt [_, _, _, _, _, _, _, _, _, _, _, _, _, _, _, _, _, _, _, _, _] (ev_seq _ _) ⟨by decide, rfl⟩ rfl ?_
                  refine sat_fn [_, _, _, _, _, _, _, _, _, _, _, _, _, _, _, _, _, _, _, _, _, _] (rsame_s_e _ _ (by first | exact ⟨lx.1, la.1, lx.2, la.2⟩ | exact ⟨la.1, lb.1, la.2, lb.2⟩)) rfl rfl ?_
                  refine sat_lt [_, _, _, _, _, _, _, _, _, _, _, _, _, _, _, _, _, _, _, _, _, _, _] (ev_beq _ _) ⟨by decide, rfl⟩ rfl ?_
                  first | refine sat_br rfl (fun g6 => ?_) (fun g6 => ?_) | refine sat_brB rfl (fun g6 => ?_) (fun g6 => ?_)
                  · skip
                    refine sat_fn [_, _, _, _, _, _, _, _, _, _, _, _, _, _, _, _, _, _, _, _, _, _, _, _] (same_s_e _ _ ⟨la.1, lb.1, la.2, lb.2⟩) rfl rfl ?_
                    refine sat_lt [_, _, _, _, _, _, _, _, _, _, _, _, _, _, _, _, _, _, _, _, _, _, _, _, _] (ev_seq _ _) ⟨by decide, rfl⟩ rfl ?_
                    refine sat_lt [_, _, _, _, _, _, _, _, _, _, _, _, _, _, _, _, _, _, _, _, _, _, _, _, _, _] (ev_beq _ _) ⟨by decide, rfl⟩ rfl ?_
                    refine sat_ret [.bool _] rfl ?_
                    first | exact congrArg (fun b => [U.bool b]) (decide_eq_true s2.symm) | (cases g0; done) | (exfalso; contradiction) | (exfalso; exact absurd (decide_eq_true bl) (by assumption)) | (exfalso; exact absurd s2 (by assumption)) | (exfalso; exact absurd bl (by assumption))
                  · skip
                    refine sat_ret [.bool _] rfl ?_
                    first | exact congrArg (fun b => [U.bool b]) (decide_eq_true s2.symm) | (cases g0; done) | (exfalso; contradiction) | (exfalso; exact absurd (decide_eq_true bl) (by assumption)) | (exfalso; exact absurd s2 (by assumption)) | (exfalso; exact absurd bl (by assumption))
                · skip
                  refine sat_ret [.bool _] rfl ?_
                  first | exact congrArg (fun b => [U.bool b]) (decide_eq_true s2.symm) | (cases g0; done) | (exfalso; contradiction) | (exfalso; exact absurd (decide_eq_true bl) (by assumption)) | (exfalso; exact absurd s2 (by assumption)) | (exfalso; exact absurd bl (by assumption))
              · skip
                refine sat_ret [.bool _] rfl ?_
                first | exact congrArg (fun b => [U.bool b]) (decide_eq_true s2.symm) | (cases g0; done) | (exfalso; contradiction) | (exfalso; exact absurd (decide_eq_true bl) (by assumption)) | (exfalso; exact absurd s2 (by assumption)) | (exfalso; exact absurd bl (by assumption))
            · skip
              refine sat_ret [.bool _] rfl ?_
              first | exact congrArg (fun b => [U.bool b]) (decide_eq_true s2.symm) | (cases g0; done) | (exfalso; contradiction) | (exfalso; exact absurd (decide_eq_true bl) (by assumption)) | (exfalso; exact absurd s2 (by assumption)) | (exfalso; exact absurd bl (by assumption))
          · skip
            refine sat_ret [.bool _] rfl ?_
            first | exact congrArg (fun b => [U.bool b]) (decide_eq_true s2.symm) | (cases g0; done) | (exfalso; contradiction) | (exfalso; exact absurd (decide_eq_true bl) (by assumption)) | (exfalso; exact absurd s2 (by assumption)) | (exfalso; exact absurd bl (by assumption))
        · skip
          refine sat_ret [.bool _] rfl ?_
          first | exact congrArg (fun b => [U.bool b]) (decide_eq_true s2.symm) | (cases g0; done) | (exfalso; contradiction) | (exfalso; exact absurd (decide_eq_true bl) (by assumption)) | (exfalso; exact absurd s2 (by assumption)) | (exfalso; exact absurd bl (by assumption))
    · cases hs
  · cases hs
end Go.Proofs.YtadmkfclgpbebaaDoor

namespace Go.Proofs.YtadmkfclgpbebaaDoor.paramBackDone
set_option linter.all false
open Go Go.Sx Go.ChangeShapes Go.WideShapes Go.ChangeAt Go.RowKit
set_option linter.unusedVariables false
set_option maxRecDepth 100000
theorem start {W : World} (h : laidMetH Tryd.prog Rows.paramBackRow.laid W) : StartOk Tryd.prog (fun k => W.heap[k]?) gl H0 n0 := by
  rw [MakeChecks.laidMetH_plain _ _ _ (by kernel_rfl)] at h
  have r2 : RowAt W 2 [.int .u8 (0), .int .u8 (1), .int .u8 (28), .int .u8 (2), .int .u8 (29), .int .u8 (14), .int .u8 (24), .int .u8 (3), .int .u8 (30), .int .u8 (22), .int .u8 (20), .int .u8 (15), .int .u8 (25), .int .u8 (17), .int .u8 (4), .int .u8 (8), .int .u8 (31), .int .u8 (27), .int .u8 (13), .int .u8 (23), .int .u8 (21), .int .u8 (19), .int .u8 (16), .int .u8 (7), .int .u8 (26), .int .u8 (12), .int .u8 (18), .int .u8 (6), .int .u8 (11), .int .u8 (5), .int .u8 (10), .int .u8 (9)] := rowAt_data (by kernel_rfl) (laid_row (n := "math/bits.deBruijn32tab") (d := Rows.laid_math_bits_deBruijn32tab) (g := 2) (k := 6) (t := 117) h (List.mem_of_getElem? (i := 0) rfl) (by kernel_rfl) (by kernel_rfl) (by kernel_rfl))
  have r3 : RowAt W 3 [.int .u8 (0), .int .u8 (1), .int .u8 (56), .int .u8 (2), .int .u8 (57), .int .u8 (49), .int .u8 (28), .int .u8 (3), .int .u8 (61), .int .u8 (58), .int .u8 (42), .int .u8 (50), .int .u8 (38), .int .u8 (29), .int .u8 (17), .int .u8 (4), .int .u8 (62), .int .u8 (47), .int .u8 (59), .int .u8 (36), .int .u8 (45), .int .u8 (43), .int .u8 (51), .int .u8 (22), .int .u8 (53), .int .u8 (39), .int .u8 (33), .int .u8 (30), .int .u8 (24), .int .u8 (18), .int .u8 (12), .int .u8 (5), .int .u8 (63), .int .u8 (55), .int .u8 (48), .int .u8 (27), .int .u8 (60), .int .u8 (41), .int .u8 (37), .int .u8 (16), .int .u8 (46), .int .u8 (35), .int .u8 (44), .int .u8 (21), .int .u8 (52), .int .u8 (32), .int .u8 (23), .int .u8 (11), .int .u8 (54), .int .u8 (26), .int .u8 (40), .int .u8 (15), .int .u8 (34), .int .u8 (20), .int .u8 (31), .int .u8 (10), .int .u8 (25), .int .u8 (14), .int .u8 (19), .int .u8 (9), .int .u8 (13), .int .u8 (8), .int .u8 (7), .int .u8 (6)] := rowAt_data (by kernel_rfl) (laid_row (n := "math/bits.deBruijn64tab") (d := Rows.laid_math_bits_deBruijn64tab) (g := 3) (k := 6) (t := 118) h (List.mem_of_getElem? (i := 1) rfl) (by kernel_rfl) (by kernel_rfl) (by kernel_rfl))
  have r1 : RowAt W 1 [.int .u64 (1), .int .u64 (10), .int .u64 (100), .int .u64 (1000), .int .u64 (10000), .int .u64 (100000), .int .u64 (1000000), .int .u64 (10000000), .int .u64 (100000000), .int .u64 (1000000000), .int .u64 (10000000000), .int .u64 (100000000000), .int .u64 (1000000000000), .int .u64 (10000000000000), .int .u64 (100000000000000), .int .u64 (1000000000000000), .int .u64 (10000000000000000), .int .u64 (100000000000000000), .int .u64 (1000000000000000000), .int .u64 (10000000000000000000)] := rowAt_data (by kernel_rfl) (laid_row (n := "internal/strconv.uint64pow10") (d := Rows.laid_internal_strconv_uint64pow10) (g := 1) (k := 6) (t := 113) h (List.mem_of_getElem? (i := 2) rfl) (by kernel_rfl) (by kernel_rfl) (by kernel_rfl))
  have hs : gl ≤ W.heap.size := by
    obtain ⟨C, T, fz, e, _⟩ := r3
    have := (Array.getElem?_eq_some_iff.1 e).1
    show 4 ≤ _
    omega
  refine start_of hs (by decide) ?_ ?_
  · have e : (rows0.all fun r => Nat.blt r.1 gl) = true := by kernel_rfl
    exact fun r hr => Nat.le_of_ble_eq_true (List.all_eq_true.1 e r hr)
  · intro r hr
    unfold rows0 at hr
    rcases List.mem_cons.1 hr with rfl | hr
    · exact r2
    rcases List.mem_cons.1 hr with rfl | hr
    · exact r3
    rcases List.mem_cons.1 hr with rfl | hr
    · exact r1
    cases hr
theorem own : ownKnob Tryd.prog.godebug = none := by kernel_rfl
theorem laidOut : laidOutB Tryd.prog = true := by kernel_rfl
noncomputable def low : Nat := (World.holding Tryd.prog default ⟨#[], #[.agg #[.slice none 0 0, .slice none 0 0], .agg #[.slice none 0 0, .slice none 0 0]], []⟩).heap.size
noncomputable def put (g : Nat) (cs : Array Value) (h : Array Obj) : Array Obj := h.modify g fun
  | .cells _ t frozen => .cells cs t frozen
  | o => o
noncomputable def laidWorld (os : Os) : World :=
  let w0 := World.holding Tryd.prog os ⟨#[], #[.agg #[.slice none 0 0, .slice none 0 0], .agg #[.slice none 0 0, .slice none 0 0]], []⟩
  { w0 with heap := (put 1 (rows0.getD 2 (0, [])).2.toArray (put 3 (rows0.getD 1 (0, [])).2.toArray (put 2 (rows0.getD 0 (0, [])).2.toArray w0.heap))) }
theorem laid_met (os : Os) : laidMet Tryd.prog Rows.paramBackRow.laid ((laidWorld os).forCall (fun _ _ => 0) ⟨#[], #[.agg #[.slice none 0 0, .slice none 0 0], .agg #[.slice none 0 0, .slice none 0 0]], []⟩).memory :=
  laidMet_of_run' 8 (by kernel_rfl) (by kernel_rfl)
theorem reads (os : Os) {H : Type} (enc : TypeId × Value → H) : ∃ places, DataW.whole enc Tryd.prog ((laidWorld os).forCall (fun _ _ => 0) ⟨#[], #[.agg #[.slice none 0 0, .slice none 0 0], .agg #[.slice none 0 0, .slice none 0 0]], []⟩).memory Tryd.f8.params.toList Rows.paramBackSpec.vars false [.agg #[.slice none 0 0, .slice none 0 0], .agg #[.slice none 0 0, .slice none 0 0]] 8 = some ([.agg [.nil, .nil], .agg [.nil, .nil]], [], places) :=
  ⟨[], by kernel_rfl⟩
theorem contract (H : Type) (enc : TypeId × Value → H) (W : World) (base : Nat) (args : Array Value) (ds gs : List (DataW H)) (before : List MemPlace)
    (hval : ∀ (j : Nat) t v, Tryd.f8.params[j]? = some t → args[j]? = some v → Value.okWide Tryd.prog W .any base t v)
    (hW : DataW.Whole enc Tryd.prog Tryd.f8.params.toList Rows.paramBackSpec.vars false W args.toList ds gs before) (hL : laidMetH Tryd.prog Rows.paramBackRow.laid W)
    (hwt : (DataW.weightsEach Tryd.prog (Tryd.f8.params.toList ++ (OpenSpec.ofChange Rows.paramBackSpec).bare.plain.varTypes Tryd.prog) (ds ++ gs)).all (· ≤ reachBytes) = true) :
    Calls Tryd.prog 8 args W fun e W' => ∃ v, e = .returned v ∧ Rows.paramBackSpec.post enc Tryd.prog Tryd.f8 false true false false W args v W' := by
  have hW' := hW
  obtain ⟨p, q, hA0, hV, rfl, hfz, hnd⟩ := hW
  have hA : DataW.TrodAll enc Tryd.prog W 0 (fun _ => true) true Tryd.f8.params.toList args.toList ds p := hA0
  rw [Tryd.params8] at hA hval hwt
  obtain ⟨v0, vs0, d0, ds0, p0, q0, hargs, rfl, rfl, h0, tl0⟩ := trodAll_cons hA
  obtain ⟨v1, vs1, d1, ds1, p1, q1, rfl, rfl, rfl, h1, tl1⟩ := trodAll_cons tl0
  obtain ⟨rfl, rfl, rfl⟩ := trodAll_nil tl1
  obtain rfl : args = #[v0, v1] := by cases args; simp_all
  obtain ⟨rfl, rfl⟩ := trodVars_none hV
  have lt0 : ∀ x ∈ p0, x.block < W.heap.size := by obtain ⟨m, hm⟩ := h0; exact DataW.trod_lt m _ _ _ hm
  have wl0 : Light Tryd.prog 26 d0 := weightsEach_get (i := 0) hwt rfl rfl
  obtain ⟨⟨a0_0, a0_1⟩, s0, q0⟩ := arg_a (r := (rC (cSl rU) (r1 (cSl rB)))) (tg := [11, 11]) (RdR.of (k := 12) (ts := [23, 24]) (by kernel_rfl) (RdL.cons (RdC.slice' (r := rU) (e := 60) 2 (by kernel_rfl) (by kernel_rfl) (by decide) (by kernel_rfl) (by decide) (RdR.of (k := 12) (ts := [60]) (by kernel_rfl) (RdL.nil1 (RdC.u16 (by kernel_rfl))))) (RdL.nil1 (RdC.slice' (r := rB) (e := 5) 1 (by kernel_rfl) (by kernel_rfl) (by decide) (by kernel_rfl) (by decide) (RdR.of (k := 12) (ts := [5]) (by kernel_rfl) (RdL.nil1 (RdC.u8 (by kernel_rfl)))))))) (fun _ => by simp only [rC, r1, List.map_cons, List.map_nil, cSl, cInt, cBool, cStr, tagS]; rfl) (okWide_agg (by kernel_rfl) (hval 0 26 v0 rfl rfl)) h0 wl0
  simp only at q0
  have lt1 : ∀ x ∈ p1, x.block < W.heap.size := by obtain ⟨m, hm⟩ := h1; exact DataW.trod_lt m _ _ _ hm
  have wl1 : Light Tryd.prog 26 d1 := weightsEach_get (i := 1) hwt rfl rfl
  obtain ⟨⟨a1_0, a1_1⟩, s1, q1⟩ := arg_a (r := (rC (cSl rU) (r1 (cSl rB)))) (tg := [11, 11]) (RdR.of (k := 12) (ts := [23, 24]) (by kernel_rfl) (RdL.cons (RdC.slice' (r := rU) (e := 60) 2 (by kernel_rfl) (by kernel_rfl) (by decide) (by kernel_rfl) (by decide) (RdR.of (k := 12) (ts := [60]) (by kernel_rfl) (RdL.nil1 (RdC.u16 (by kernel_rfl))))) (RdL.nil1 (RdC.slice' (r := rB) (e := 5) 1 (by kernel_rfl) (by kernel_rfl) (by decide) (by kernel_rfl) (by decide) (RdR.of (k := 12) (ts := [5]) (by kernel_rfl) (RdL.nil1 (RdC.u8 (by kernel_rfl)))))))) (fun _ => by simp only [rC, r1, List.map_cons, List.map_nil, cSl, cInt, cBool, cStr, tagS]; rfl) (okWide_agg (by kernel_rfl) (hval 1 26 v1 rfl rfl)) h1 wl1
  simp only at q1
  clear hA0
  simp only [List.append_nil] at hW'
  have hsh : ShL (hpOf W) [.a [11, 11], .a [11, 11]] [encS rU a0_0, encS rB a0_1, encS rU a1_0, encS rB a1_1] [v0, v1] := (.cons s0 (.cons s1 .nil))
  obtain ⟨_, hc⟩ := bck_c (start hL) [encS rU a0_0, encS rB a0_1, encS rU a1_0, encS rB a1_1] [.bool true] W _ (hpOf W) hsh (bck_s_e _ _ _ _ ⟨⟨q0.2.1, q0.1.1, q0.2.2, q0.1.2⟩, q1.2.1, q1.1.1, q1.2.2, q1.1.2⟩) (fun k o h => h) (fun k o h => h)
  refine hc.mono fun e W' ⟨r, R', hr, he, hg, _⟩ => ?_
  have hrv := val_of_shL (vs2 := [.bool true]) hr rfl
  subst hrv
  subst he
  have bel : Below W.heap.size W W' := ⟨hg.os.1, hg.os.2.1, hg.os.2.2, hg.size, hg.keep⟩
  exact ⟨_, rfl, _, _, _, [], _, [], hW', trodAll_mk1 (shut_bool Tryd.underlying4 _), (trodAll_cons_mk (Below.trod laidOut (by kernel_rfl) (of_decide_eq_true (by kernel_rfl)) h0 bel lt0) (trodAll_cons_mk (Below.trod laidOut (by kernel_rfl) (of_decide_eq_true (by kernel_rfl)) h1 bel lt1) trodAll_mk0)), rfl, hg.kept _, fun h => by cases h⟩
theorem lifted (os : Os) (started : os.Started) (H : Type) (enc : TypeId × Value → H) (F : Stop.Interp) :
    ReturnsInHanded {} Tryd.checked os 8 .any ((OpenSpec.ofChange Rows.paramBackSpec).preRow enc Tryd.prog Tryd.f8 Rows.paramBackRow.domain false Rows.paramBackRow.laid) (((OpenSpec.ofChange Rows.paramBackSpec).at F).post enc Tryd.prog Tryd.f8 false true false false) := by
  obtain ⟨places, hx⟩ := reads os enc
  refine returnsInHanded_of_row (C := Tryd.checked) (s := OpenSpec.ofChange Rows.paramBackSpec) own started (by kernel_rfl) Tryd.func8
    (witness_row_at (enc := enc) (C := Tryd.checked) false (laidWorld os) #[.agg #[.slice none 0 0, .slice none 0 0], .agg #[.slice none 0 0, .slice none 0 0]] rfl (by kernel_rfl) (by kernel_rfl) (by kernel_rfl)
      (OpenSpec.preRow_of_cond 8 hx (by kernel_rfl) (fun k hk => by cases hk) (by kernel_rfl) (laid_met os))) ?_
  intro W base args ds gs before hval hW _ _ hwt hL _ _
  exact contract H enc W base args ds gs before hval hW hL hwt
theorem said : Rows.ParamBackSaid :=
  OpenClaim.holds_of_cond 8 Tryd.f8 rfl rfl rfl rfl rfl rfl rfl ⟨rfl, rfl, rfl, rfl, rfl⟩ rfl rfl rfl rfl rfl (by kernel_rfl) Tryd.func8 (by kernel_rfl)
    (of_decide_eq_true (by kernel_rfl)) (by unfold Func.isWrapper; first | (rw [if_pos (by decide +kernel)]; kernel_rfl) | (rw [if_neg (by decide +kernel)]; exact ⟨rfl, rfl⟩))
    (fun os started H enc _ F => by rw [OpenClaim.pre_eq_preRow]; exact lifted os started H enc F)
theorem plain (f : FuncId) (fn : Func) (hf : Tryd.pinned.checked.prog.funcNamed "fenestra/fenestralaw05.ParamBack" = some f) (hfn : Tryd.pinned.checked.prog.funcs[f]? = some fn) :
    false = Tryd.pinned.checked.prog.looks [] ∧ ∀ (j : Nat) t, fn.params[j]? = some t → Tryd.pinned.checked.prog.wantsStandIn t = false := by
  obtain rfl : f = 8 := Option.some.inj ((show Tryd.prog.funcNamed "fenestra/fenestralaw05.ParamBack" = some 8 by kernel_rfl).symm.trans hf) |>.symm
  obtain rfl : fn = Tryd.f8 := (Option.some.inj (Tryd.func8.symm.trans hfn)).symm
  refine ⟨by kernel_rfl, fun j t ht => ?_⟩
  have hall : (Tryd.f8.params.toList.all fun t => !Tryd.prog.wantsStandIn t) = true := by kernel_rfl
  have := List.all_eq_true.1 hall t (Array.mem_def.1 (Array.mem_of_getElem? ht))
  have h2 : Tryd.prog.wantsStandIn t = false := by simpa using this
  exact h2
theorem proved : Rows.ParamBackCardSaid :=
  Claim7.holds_tied_plain_at .later [] _ _ _ _ said (fun _ h => by cases h) (by kernel_rfl) (fun _ h => by cases h) paramBack_row_tie rfl ⟨rfl, rfl⟩ (by kernel_rfl) rfl plain (by kernel_rfl)
#print axioms proved
end Go.Proofs.YtadmkfclgpbebaaDoor.paramBackDone
