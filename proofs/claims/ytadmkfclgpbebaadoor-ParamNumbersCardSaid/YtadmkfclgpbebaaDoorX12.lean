/- The law ParamNumbers: for every input the call returns true, and the arguments read behind it as they read before. No condition. -/
import Derived.Test.YtadmkfclgpbebaaDoorX11
namespace Go.Proofs.YtadmkfclgpbebaaDoor
set_option linter.all false
open Go Go.Sx
set_option maxRecDepth 100000
set_option linter.unusedVariables false
set_option linter.unusedSimpArgs false
def wks_s : List U → Option (Nat × List U)
  | [] => some (0, [.bool (true)])
  | _ => none
def wks_t : Tr := .fn prs_s [.string ⟨⟨[49, 59, 50, 58, 51]⟩⟩] 2 <| .lt 8 (.bin .eql) [h 1 3, .int .i64 (0)] <| .br 2 (.dt 11 (.mk 1) [.int .i64 (1)] <| .dt 11 (.mk 1) [.int .i64 (2), .int .i64 (3)] <| .dt 11 (.mk 1) [h 3 11, h 4 11] <| .fn rw_s [h 5 11] 1 <| .fn rsame_s [h 0 11, h 6 11] 1 <| .br 7 (.fn prs_s [.string ⟨⟨[]⟩⟩] 2 <| .lt 8 (.bin .eql) [h 9 3, .int .i64 (0)] <| .br 10 (.dt 11 (.nilw 1) [] <| .fn rw_s [h 11 11] 1 <| .fn rsame_s [h 8 11, h 12 11] 1 <| .br 13 (.fn prs_s [.string ⟨⟨[59]⟩⟩] 2 <| .lt 8 (.bin .eql) [h 15 3, .int .i64 (0)] <| .br 16 (.dt 11 (.mk 1) [.int .i64 (-1)] <| .dt 11 (.mk 1) [.int .i64 (-1)] <| .dt 11 (.mk 1) [h 17 11, h 18 11] <| .fn rw_s [h 19 11] 1 <| .fn rsame_s [h 14 11, h 20 11] 1 <| .br 21 (.fn prs_s [.string ⟨⟨[48, 48, 55]⟩⟩] 2 <| .lt 8 (.bin .eql) [h 23 3, .int .i64 (0)] <| .br 24 (.dt 11 (.mk 1) [.int .i64 (7)] <| .dt 11 (.mk 1) [h 25 11] <| .fn rw_s [h 26 11] 1 <| .fn rsame_s [h 22 11, h 27 11] 1 <| .br 28 (.fn prs_s [.string ⟨⟨[57, 57, 57, 57, 57]⟩⟩] 2 <| .lt 8 (.bin .eql) [h 30 3, .int .i64 (0)] <| .br 31 (.dt 11 (.mk 1) [.int .i64 (9999)] <| .dt 11 (.mk 1) [h 32 11] <| .fn rw_s [h 33 11] 1 <| .fn rsame_s [h 29 11, h 34 11] 1 <| .br 35 (.fn prs_s [.string ⟨⟨[52, 58]⟩⟩] 2 <| .lt 8 (.bin .eql) [h 37 3, .int .i64 (0)] <| .br 38 (.dt 11 (.mk 1) [.int .i64 (4), .int .i64 (-1)] <| .dt 11 (.mk 1) [h 39 11] <| .fn rw_s [h 40 11] 1 <| .fn rsame_s [h 36 11, h 41 11] 1 <| .dt 11 (.mk 1) [.int .i64 (38), .int .i64 (2), .int .i64 (-1), .int .i64 (9), .int .i64 (8), .int .i64 (7)] <| .dt 11 (.mk 1) [.int .i64 (1)] <| .dt 11 (.mk 1) [h 43 11, h 44 11] <| .fn rw_s [h 45 11] 1 <| .fn prt_s [h 46 11] 2 <| .dt 11 (.mk 1) [.int .i64 (-1)] <| .dt 11 (.mk 1) [h 49 11] <| .fn rw_s [h 50 11] 1 <| .fn chk_s [h 51 11] 1 <| .lt 8 (.bin .eql) [h 52 3, .int .i64 (150)] <| .br 53 (.dt 11 (.mk 1) [.int .i64 (10000)] <| .dt 11 (.mk 1) [h 54 11] <| .fn rw_s [h 55 11] 1 <| .fn chk_s [h 56 11] 1 <| .lt 8 (.bin .eql) [h 57 3, .int .i64 (150)] <| .br 58 (.dt 11 (.nilw 1) [] <| .dt 11 (.mk 1) [h 59 11] <| .fn rw_s [h 60 11] 1 <| .fn chk_s [h 61 11] 1 <| .lt 8 (.bin .eql) [h 62 3, .int .i64 (150)] <| .dt 11 (.mk 1) [.int .i64 (5)] <| .dt 11 (.mk 1) [.int .i64 (-1)] <| .dt 11 (.mk 1) [h 64 11, h 65 11] <| .fn rw_s [h 66 11] 1 <| .fn val_s [h 67 11, .int .i64 (0), .int .i64 (9)] 1 <| .lt 8 (.bin .eql) [h 68 3, .int .i64 (5)] <| .br 69 (.fn val_s [h 67 11, .int .i64 (1), .int .i64 (9)] 1 <| .lt 8 (.bin .eql) [h 70 3, .int .i64 (9)] <| .br 71 (.fn val_s [h 67 11, .int .i64 (2), .int .i64 (9)] 1 <| .lt 8 (.bin .eql) [h 72 3, .int .i64 (9)] <| .br 42 (.lt 8 (.bin .eql) [h 47 9, .string ⟨⟨[51, 56, 58, 50, 58, 58, 57, 58, 56, 58, 55, 59, 49]⟩⟩] <| .br 74 (.lt 8 (.bin .eql) [h 48 3, .int .i64 (0)] <| .br 75 (.br 63 (.fn prs_s [.string ⟨⟨[49, 97]⟩⟩] 2 <| .lt 8 (.bin .eql) [h 77 3, .int .i64 (6)] <| .br 78 (.lt 3 (.len) [h 76 11] <| .lt 8 (.bin .eql) [h 79 3, .int .i64 (0)] <| .br 80 (.fn rep_s [.string ⟨⟨[59]⟩⟩, .int .i64 (16)] 1 <| .fn prs_s [h 81 9] 2 <| .lt 8 (.bin .eql) [h 83 3, .int .i64 (3)] <| .br 84 (.lt 3 (.len) [h 82 11] <| .lt 8 (.bin .eql) [h 85 3, .int .i64 (0)] <| .br 86 (.fn prs_s [.string ⟨⟨[49, 58, 50, 58, 51, 58, 52, 58, 53, 58, 54, 58]⟩⟩] 2 <| .lt 8 (.bin .eql) [h 88 3, .int .i64 (3)] <| .br 89 (.lt 3 (.len) [h 87 11] <| .lt 8 (.bin .eql) [h 90 3, .int .i64 (0)] <| .br 91 (.ret [h 73 8]) (.no)) (.no)) (.no)) (.no)) (.no)) (.no)) (.no)) (.no)) (.no)) (.no)) (.no)) (.no)) (.no)) (.no)) (.no)) (.no)) (.no)) (.no)) (.no)) (.no)) (.no)) (.no)) (.no)) (.no)) (.no)
theorem wks_c {G : Nat → Option Obj} (hst : StartOk Tryd.prog G gl H0 n0) : ConOk Tryd.prog G 15 [] wks_s [.s 8] := by
  refine con_of_tree (C := cx L_rep P_rwl) (d := 60) wks_t (cxg (L_rep_ok hst) (P_rwl_ok hst)) hst ⟨Tryd.f15, _, Tryd.func15, rfl⟩ (by kernel_rfl) (by kernel_rfl) ?_
  intro us outs hs
  unfold wks_s at hs
  split at hs
  · skip
    skip
    cases hs
    unfold wks_t
    refine sat_fn [_, _] (prs_s_e _) rfl rfl ?_
    refine sat_lt [_, _, _] (ev_eql _ _ _) ⟨by decide, rfl⟩ rfl ?_
    first | refine sat_br rfl (fun g0 => ?_) (fun g0 => ?_) | refine sat_brB rfl (fun g0 => ?_) (fun g0 => ?_)
    · skip
      refine sat_dt (r := rI) [_, _, _, _] (ev_mkS [_] rfl (by decide) rfl) rfl rfl ?_
      refine sat_dt (r := rI) [_, _, _, _, _] (ev_mkS [_, _] rfl (by decide) rfl) rfl rfl ?_
      refine sat_dt (r := rP) [_, _, _, _, _, _] (ev_mkS [_, _] rfl (by decide) rfl) rfl rfl ?_
      refine sat_fn [_, _, _, _, _, _, _] (rw_s_e _ (by decide +kernel)) rfl rfl ?_
      refine sat_fn [_, _, _, _, _, _, _, _] (rsame_s_e _ _ (by decide +kernel)) rfl rfl ?_
      first | refine sat_br rfl (fun g1 => ?_) (fun g1 => ?_) | refine sat_brB rfl (fun g1 => ?_) (fun g1 => ?_)
      · skip
        refine sat_fn [_, _, _, _, _, _, _, _, _, _] (prs_s_e _) rfl rfl ?_
        refine sat_lt [_, _, _, _, _, _, _, _, _, _, _] (ev_eql _ _ _) ⟨by decide, rfl⟩ rfl ?_
        first | refine sat_br rfl (fun g2 => ?_) (fun g2 => ?_) | refine sat_brB rfl (fun g2 => ?_) (fun g2 => ?_)
        · skip
          refine sat_dt (r := rP) [_, _, _, _, _, _, _, _, _, _, _, _] (ev_nilwS rfl) rfl rfl ?_
          refine sat_fn [_, _, _, _, _, _, _, _, _, _, _, _, _] (rw_s_e _ (by decide +kernel)) rfl rfl ?_
          refine sat_fn [_, _, _, _, _, _, _, _, _, _, _, _, _, _] (rsame_s_e _ _ (by decide +kernel)) rfl rfl ?_
          first | refine sat_br rfl (fun g3 => ?_) (fun g3 => ?_) | refine sat_brB rfl (fun g3 => ?_) (fun g3 => ?_)
          · skip
            refine sat_fn [_, _, _, _, _, _, _, _, _, _, _, _, _, _, _, _] (prs_s_e _) rfl rfl ?_
            refine sat_lt [_, _, _, _, _, _, _, _, _, _, _, _, _, _, _, _, _] (ev_eql _ _ _) ⟨by decide, rfl⟩ rfl ?_
            first | refine sat_br rfl (fun g4 => ?_) (fun g4 => ?_) | refine sat_brB rfl (fun g4 => ?_) (fun g4 => ?_)
            · skip
              refine sat_dt (r := rI) [_, _, _, _, _, _, _, _, _, _, _, _, _, _, _, _, _, _] (ev_mkS [_] rfl (by decide) rfl) rfl rfl ?_
              refine sat_dt (r := rI) [_, _, _, _, _, _, _, _, _, _, _, _, _, _, _, _, _, _, _] (ev_mkS [_] rfl (by decide) rfl) rfl rfl ?_
              refine sat_dt (r := rP) [_, _, _, _, _, _, _, _, _, _, _, _, _, _, _, _, _, _, _, _] (ev_mkS [_, _] rfl (by decide) rfl) rfl rfl ?_
              refine sat_fn [_, _, _, _, _, _, _, _, _, _, _, _, _, _, _, _, _, _, _, _, _] (rw_s_e _ (by decide +kernel)) rfl rfl ?_
              refine sat_fn [_, _, _, _, _, _, _, _, _, _, _, _, _, _, _, _, _, _, _, _, _, _] (rsame_s_e _ _ (by decide +kernel)) rfl rfl ?_
              first | refine sat_br rfl (fun g5 => ?_) (fun g5 => ?_) | refine sat_brB rfl (fun g5 => ?_) (fun g5 => ?_)
              · skip
                refine sat_fn [_, _, _, _, _, _, _, _, _, _, _, _, _, _, _, _, _, _, _, _, _, _, _, _] (prs_s_e _) rfl rfl ?_
                refine sat_lt [_, _, _, _, _, _, _, _, _, _, _, _, _, _, _, _, _, _, _, _, _, _, _, _, _] (ev_eql _ _ _) ⟨by decide, rfl⟩ rfl ?_
                first | refine sat_br rfl (fun g6 => ?_) (fun g6 => ?_) | refine sat_brB rfl (fun g6 => ?_) (fun g6 => ?_)
                · skip
                  refine sat_dt (r := rI) [_, _, _, _, _, _, _, _, _, _, _, _, _, _, _, _, _, _, _, _, _, _, _, _, _, _] (ev_mkS [_] rfl (by decide) rfl) rfl rfl ?_
                  refine sat_dt (r := rP) [_, _, _, _, _, _, _, _, _, _, _, _, _, _, _, _, _, _, _, _, _, _, _, _, _, _, _] (ev_mkS [_] rfl (by decide) rfl) rfl rfl ?_
                  refine sat_fn [_, _, _, _, _, _, _, _, _, _, _, _, _, _, _, _, _, _, _, _, _, _, _, _, _, _, _, _] (rw_s_e _ (by decide +kernel)) rfl rfl ?_
                  refine sat_fn [_, _, _, _, _, _, _, _, _, _, _, _, _, _, _, _, _, _, _, _, _, _, _, _, _, _, _, _, _] (rsame_s_e _ _ (by decide +kernel)) rfl rfl ?_
                  first | refine sat_br rfl (fun g7 => ?_) (fun g7 => ?_) | refine sat_brB rfl (fun g7 => ?_) (fun g7 => ?_)
                  · skip
                    refine sat_fn [_, _, _, _, _, _, _, _, _, _, _, _, _, _, _, _, _, _, _, _, _, _, _, _, _, _, _, _, _, _, _] (prs_s_e _) rfl rfl ?_
                    refine sat_lt [_, _, _, _, _, _, _, _, _, _, _, _, _, _, _, _, _, _, _, _, _, _, _, _, _, _, _, _, _, _, _, _] (ev_eql _ _ _) ⟨by decide, rfl⟩ rfl ?_
                    first | refine sat_br rfl (fun g8 => ?_) (fun g8 => ?_) | refine sat_brB rfl (fun g8 => ?_) (fun g8 => ?_)
                    · skip
                      refine sat_dt (r := rI) [_, _, _, _, _, _, _, _, _, _, _, _, _, _, _, _, _, _, _, _, _, _, _, _, _, _, _, _, _, _, _, _, _] (ev_mkS [_] rfl (by decide) rfl) rfl rfl ?_
                      refine sat_dt (r := rP) [_, _, _, _, _, _, _, _, _, _, _, _, _, _, _, _, _, _, _, _, _, _, _, _, _, _, _, _, _, _, _, _, _, _] (ev_mkS [_] rfl (by decide) rfl) rfl rfl ?_
                      refine sat_fn [_, _, _, _, _, _, _, _, _, _, _, _, _, _, _, _, _, _, _, _, _, _, _, _, _, _, _, _, _, _, _, _, _, _, _] (rw_s_e _ (by decide +kernel)) rfl rfl ?_
                      refine sat_fn [_, _, _, _, _, _, _, _, _, _, _, _, _, _, _, _, _, _, _, _, _, _, _, _, _, _, _, _, _, _, _, _, _, _, _, _] (rsame_s_e _ _ (by decide +kernel)) rfl rfl ?_
                      first | refine sat_br rfl (fun g9 => ?_) (fun g9 => ?_) | refine sat_brB rfl (fun g9 => ?_) (fun g9 => ?_)
                      · skip
                        refine sat_fn [_, _, _, _, _, _, _, _, _, _, _, _, _, _, _, _, _, _, _, _, _, _, _, _, _, _, _, _, _, _, _, _, _, _, _, _, _, _] (prs_s_e _) rfl rfl ?_
                        refine sat_lt [_, _, _, _, _, _, _, _, _, _, _, _, _, _, _, _, _, _, _, _, _, _, _, _, _, _, _, _, _, _, _, _, _, _, _, _, _, _, _] (ev_eql _ _ _) ⟨by decide, rfl⟩ rfl ?_
                        first | refine sat_br rfl (fun g10 => ?_) (fun g10 => ?_) | refine sat_brB rfl (fun g10 => ?_) (fun g10 => ?_)
                        · skip
                          refine sat_dt (r := rI) [_, _, _, _, _, _, _, _, _, _, _, _, _, _, _, _, _, _, _, _, _, _, _, _, _, _, _, _, _, _, _, _, _, _, _, _, _, _, _, _] (ev_mkS [_, _] rfl (by decide) rfl) rfl rfl ?_
                          refine sat_dt (r := rP) [_, _, _, _, _, _, _, _, _, _, _, _, _, _, _, _, _, _, _, _, _, _, _, _, _, _, _, _, _, _, _, _, _, _, _, _, _, _, _, _, _] (ev_mkS [_] rfl (by decide) rfl) rfl rfl ?_
                          refine sat_fn [_, _, _, _, _, _, _, _, _, _, _, _, _, _, _, _, _, _, _, _, _, _, _, _, _, _, _, _, _, _, _, _, _, _, _, _, _, _, _, _, _, _] (rw_s_e _ (by decide +kernel)) rfl rfl ?_
                          refine sat_fn [_, _, _, _, _, _, _, _, _, _, _, _, _, _, _, _, _, _, _, _, _, _, _, _, _, _, _, _, _, _, _, _, _, _, _, _, _, _, _, _, _, _, _] (rsame_s_e _ _ (by decide +kernel)) rfl rfl ?_
                          refine sat_dt (r := rI) [_, _, _, _, _, _, _, _, _, _, _, _, _, _, _, _, _, _, _, _, _, _, _, _, _, _, _, _, _, _, _, _, _, _, _, _, _, _, _, _, _, _, _, _] (ev_mkS [_, _, _, _, _, _] rfl (by decide) rfl) rfl rfl ?_
                          refine sat_dt (r := rI) [_, _, _, _, _, _, _, _, _, _, _, _, _, _, _, _, _, _, _, _, _, _, _, _, _, _, _, _, _, _, _, _, _, _, _, _, _, _, _, _, _, _, _, _, _] (ev_mkS [_] rfl (by decide) rfl) rfl rfl ?_
                          refine sat_dt (r := rP) [_, _, _, _, _, _, _, _, _, _, _, _, _, _, _, _, _, _, _, _, _, _, _, _, _, _, _, _, _, _, _, _, _, _, _, _, _, _, _, _, _, _, _, _, _, _] (ev_mkS [_, _] rfl (by decide) rfl) rfl rfl ?_
                          refine sat_fn [_, _, _, _, _, _, _, _, _, _, _, _, _, _, _, _, _, _, _, _, _, _, _, _, _, _, _, _, _, _, _, _, _, _, _, _, _, _, _, _, _, _, _, _, _, _, _] (rw_s_e _ (by decide +kernel)) rfl rfl ?_
                          refine sat_fn [_, _, _, _, _, _, _, _, _, _, _, _, _, _, _, _, _, _, _, _, _, _, _, _, _, _, _, _, _, _, _, _, _, _, _, _, _, _, _, _, _, _, _, _, _, _, _, _, _] (prt_s_e _ (by decide +kernel)) rfl rfl ?_
                          refine sat_dt (r := rI) [_, _, _, _, _, _, _, _, _, _, _, _, _, _, _, _, _, _, _, _, _, _, _, _, _, _, _, _, _, _, _, _, _, _, _, _, _, _, _, _, _, _, _, _, _, _, _, _, _, _] (ev_mkS [_] rfl (by decide) rfl) rfl rfl ?_
                          refine sat_dt (r := rP) [_, _, _, _, _, _, _, _, _, _, _, _, _, _, _, _, _, _, _, _, _, _, _, _, _, _, _, _, _, _, _, _, _, _, _, _, _, _, _, _, _, _, _, _, _, _, _, _, _, _, _] (ev_mkS [_] rfl (by decide) rfl) rfl rfl ?_
                          refine sat_fn [_, _, _, _, _, _, _, _, _, _, _, _, _, _, _, _, _, _, _, _, _, _, _, _, _, _, _, _, _, _, _, _, _, _, _, _, _, _, _, _, _, _, _, _, _, _, _, _, _, _, _, _] (rw_s_e _ (by decide +kernel)) rfl rfl ?_
                          refine sat_fn [_, _, _, _, _, _, _, _, _, _, _, _, _, _, _, _, _, _, _, _, _, _, _, _, _, _, _, _, _, _, _, _, _, _, _, _, _, _, _, _, _, _, _, _, _, _, _, _, _, _, _, _, _] (chk_s_e _ (by decide +kernel)) rfl rfl ?_
                          refine sat_lt [_, _, _, _, _, _, _, _, _, _, _, _, _, _, _, _, _, _, _, _, _, _, _, _, _, _, _, _, _, _, _, _, _, _, _, _, _, _, _, _, _, _, _, _, _, _, _, _, _, _, _, _, _, _] (ev_eql _ _ _) ⟨by decide, rfl⟩ rfl ?_
                          first | refine sat_br rfl (fun g11 => ?_) (fun g11 => ?_) | refine sat_brB rfl (fun g11 => ?_) (fun g11 => ?_)
                          · skip
                            refine sat_dt (r := rI) [_, _, _, _, _, _, _, _, _, _, _, _, _, _, _, _, _, _, _, _, _, _, _, _, _, _, _, _, _, _, _, _, _, _, _, _, _, _, _, _, _, _, _, _, _, _, _, _, _, _, _, _, _, _, _] (ev_mkS [_] rfl (by decide) rfl) rfl rfl ?_
                            refine sat_dt (r := rP) [_, _, _, _, _, _, _, _, _, _, _, _, _, _, _, _, _, _, _, _, _, _, _, _, _, _, _, _, _, _, _, _, _, _, _, _, _, _, _, _, _, _, _, _, _, _, _, _, _, _, _, _, _, _, _, _] (ev_mkS [_] rfl (by decide) rfl) rfl rfl ?_
                            refine sat_fn [_, _, _, _, _, _, _, _, _, _, _, _, _, _, _, _, _, _, _, _, _, _, _, _, _, _, _, _, _, _, _, _, _, _, _, _, _, _, _, _, _, _, _, _, _, _, _, _, _, _, _, _, _, _, _, _, _] (rw_s_e _ (by decide +kernel)) rfl rfl ?_
                            refine sat_fn [_, _, _, _, _, _, _, _, _, _, _, _, _, _, _, _, _, _, _, _, _, _, _, _, _, _, _, _, _, _, _, _, _, _, _, _, _, _, _, _, _, _, _, _, _, _, _, _, _, _, _, _, _, _, _, _, _, _] (chk_s_e _ (by decide +kernel)) rfl rfl ?_
                            refine sat_lt [_, _, _, _, _, _, _, _, _, _, _, _, _, _, _, _, _, _, _, _, _, _, _, _, _, _, _, _, _, _, _, _, _, _, _, _, _, _, _, _, _, _, _, _, _, _, _, _, _, _, _, _, _, _, _, _, _, _, _] (ev_eql _ _ _) ⟨by decide, rfl⟩ rfl ?_
                            first | refine sat_br rfl (fun g12 => ?_) (fun g12 => ?_) | refine sat_brB rfl (fun g12 => ?_) (fun g12 => ?_)
                            · skip
                              refine sat_dt (r := rI) [_, _, _, _, _, _, _, _, _, _, _, _, _, _, _, _, _, _, _, _, _, _, _, _, _, _, _, _, _, _, _, _, _, _, _, _, _, _, _, _, _, _, _, _, _, _, _, _, _, _, _, _, _, _, _, _, _, _, _, _] (ev_nilwS rfl) rfl rfl ?_
                              refine sat_dt (r := rP) [_, _, _, _, _, _, _, _, _, _, _, _, _, _, _, _, _, _, _, _, _, _, _, _, _, _, _, _, _, _, _, _, _, _, _, _, _, _, _, _, _, _, _, _, _, _, _, _, _, _, _, _, _, _, _, _, _, _, _, _, _] (ev_mkS [_] rfl (by decide) rfl) rfl rfl ?_
                              refine sat_fn [_, _, _, _, _, _, _, _, _, _, _, _, _, _, _, _, _, _, _, _, _, _, _, _, _, _, _, _, _, _, _, _, _, _, _, _, _, _, _, _, _, _, _, _, _, _, _, _, _, _, _, _, _, _, _, _, _, _, _, _, _, _] (rw_s_e _ (by decide +kernel)) rfl rfl ?_
                              refine sat_fn [_, _, _, _, _, _, _, _, _, _, _, _, _, _, _, _, _, _, _, _, _, _, _, _, _, _, _, _, _, _, _, _, _, _, _, _, _, _, _, _, _, _, _, _, _, _, _, _, _, _, _, _, _, _, _, _, _, _, _, _, _, _, _] (chk_s_e _ (by decide +kernel)) rfl rfl ?_
                              refine sat_lt [_, _, _, _, _, _, _, _, _, _, _, _, _, _, _, _, _, _, _, _, _, _, _, _, _, _, _, _, _, _, _, _, _, _, _, _, _, _, _, _, _, _, _, _, _, _, _, _, _, _, _, _, _, _, _, _, _, _, _, _, _, _, _, _] (ev_eql _ _ _) ⟨by decide, rfl⟩ rfl ?_
                              refine sat_dt (r := rI) [_, _, _, _, _, _, _, _, _, _, _, _, _, _, _, _, _, _, _, _, _, _, _, _, _, _, _, _, _, _, _, _, _, _, _, _, _, _, _, _, _, _, _, _, _, _, _, _, _, _, _, _, _, _, _, _, _, _, _, _, _, _, _, _, _] (ev_mkS [_] rfl (by decide) rfl) rfl rfl ?_
                              refine sat_dt (r := rI) [_, _, _, _, _, _, _, _, _, _, _, _, _, _, _, _, _, _, _, _, _, _, _, _, _, _, _, _, _, _, _, _, _, _, _, _, _, _, _, _, _, _, _, _, _, _, _, _, _, _, _, _, _, _, _, _, _, _, _, _, _, _, _, _, _, _] (ev_mkS [_] rfl (by decide) rfl) rfl rfl ?_
                              refine sat_dt (r := rP) [_, _, _, _, _, _, _, _, _, _, _, _, _, _, _, _, _, _, _, _, _, _, _, _, _, _, _, _, _, _, _, _, _, _, _, _, _, _, _, _, _, _, _, _, _, _, _, _, _, _, _, _, _, _, _, _, _, _, _, _, _, _, _, _, _, _, _] (ev_mkS [_, _] rfl (by decide) rfl) rfl rfl ?_
                              refine sat_fn [_, _, _, _, _, _, _, _, _, _, _, _, _, _, _, _, _, _, _, _, _, _, _, _, _, _, _, _, _, _, _, _, _, _, _, _, _, _, _, _, _, _, _, _, _, _, _, _, _, _, _, _, _, _, _, _, _, _, _, _, _, _, _, _, _, _, _, _] (rw_s_e _ (by decide +kernel)) rfl rfl ?_
                              refine sat_fn [_, _, _, _, _, _, _, _, _, _, _, _, _, _, _, _, _, _, _, _, _, _, _, _, _, _, _, _, _, _, _, _, _, _, _, _, _, _, _, _, _, _, _, _, _, _, _, _, _, _, _, _, _, _, _, _, _, _, _, _, _, _, _, _, _, _, _, _, _] (val_s_e _ _ _ (by decide)) rfl rfl ?_
                              refine sat_lt [_, _, _, _, _, _, _, _, _, _, _, _, _, _, _, _, _, _, _, _, _, _, _, _, _, _, _, _, _, _, _, _, _, _, _, _, _, _, _, _, _, _, _, _, _, _, _, _, _, _, _, _, _, _, _, _, _, _, _, _, _, _, _, _, _, _, _, _, _, _] (ev_eql _ _ _) ⟨by decide, rfl⟩ rfl ?_
                              first | refine sat_br rfl (fun g13 => ?_) (fun g13 => ?_) | refine sat_brB rfl (fun g13 => ?_) (fun g13 => ?_)
                              · skip
                                refine sat_fn [_, _, _, _, _, _, _, _, _, _, _, _, _, _, _, _, _, _, _, _, _, _, _, _, _, _, _, _, _, _, _, _, _, _, _, _, _, _, _, _, _, _, _, _, _, _, _, _, _, _, _, _, _, _, _, _, _, _, _, _, _, _, _, _, _, _, _, _, _, _, _] (val_s_e _ _ _ (by decide)) rfl rfl ?_
                                refine sat_lt [_, _, _, _, _, _, _, _, _, _, _, _, _, _, _, _, _, _, _, _, _, _, _, _, _, _, _, _, _, _, _, _, _, _, _, _, _, _, _, _, _, _, _, _, _, _, _, _, _, _, _, _, _, _, _, _, _, _, _, _, _, _, _, _, _, _, _, _, _, _, _, _] (ev_eql _ _ _) ⟨by decide, rfl⟩ rfl ?_
                                first | refine sat_br rfl (fun g14 => ?_) (fun g14 => ?_) | refine sat_brB rfl (fun g14 => ?_) (fun g14 => ?_)
                                · skip
                                  refine sat_fn [_, _, _, _, _, _, _, _, _, _, _, _, _, _, _, _, _, _, _, _, _, _, _, _, _, _, _, _, _, _, _, _, _, _, _, _, _, _, _, _, _, _, _, _, _, _, _, _, _, _, _, _, _, _, _, _, _, _, _, _, _, _, _, _, _, _, _, _, _, _, _, _, _] (val_s_e _ _ _ (by decide)) rfl rfl ?_
                                  refine sat_lt [_, _, _, _, _, _, _, _, _, _, _, _, _, _, _, _, _, _, _, _, _, _, _, _, _, _, _, _, _, _, _, _, _, _, _, _, _, _, _, _, _, _, _, _, _, _, _, _, _, _, _, _, _, _, _, _, _, _, _, _, _, _, _, _, _, _, _, _, _, _, _, _, _, _] (ev_eql _ _ _) ⟨by decide, rfl⟩ rfl ?_
                                  first | refine sat_br rfl (fun g15 => ?_) (fun g15 => ?_) | refine sat_brB rfl (fun g15 => ?_) (fun g15 => ?_)
                                  · skip
                                    refine sat_lt [_, _, _, _, _, _, _, _, _, _, _, _, _, _, _, _, _, _, _, _, _, _, _, _, _, _, _, _, _, _, _, _, _, _, _, _, _, _, _, _, _, _, _, _, _, _, _, _, _, _, _, _, _, _, _, _, _, _, _, _, _, _, _, _, _, _, _, _, _, _, _, _, _, _, _] (ev_seq _ _) ⟨by decide, rfl⟩ rfl ?_
                                    first | refine sat_br rfl (fun g16 => ?_) (fun g16 => ?_) | refine sat_brB rfl (fun g16 => ?_) (fun g16 => ?_)
                                    · skip
                                      refine sat_lt [_, _, _, _, _, _, _, _, _, _, _, _, _, _, _, _, _, _, _, _, _, _, _, _, _, _, _, _, _, _, _, _, _, _, _, _, _, _, _, _, _, _, _, _, _, _, _, _, _, _, _, _, _, _, _, _, _, _, _, _, _, _, _, _, _, _, _, _, _, _, _, _, _, _, _, _] (ev_eql _ _ _) ⟨by decide, rfl⟩ rfl ?_
                                      first | refine sat_br rfl (fun g17 => ?_) (fun g17 => ?_) | refine sat_brB rfl (fun g17 => ?_) (fun g17 => ?_)
                                      · skip
                                        first | refine sat_br rfl (fun g18 => ?_) (fun g18 => ?_) | refine sat_brB rfl (fun g18 => ?_) (fun g18 => ?_)
                                        · skip
                                          refine sat_fn [_, _, _, _, _, _, _, _, _, _, _, _, _, _, _, _, _, _, _, _, _, _, _, _, _, _, _, _, _, _, _, _, _, _, _, _, _, _, _, _, _, _, _, _, _, _, _, _, _, _, _, _, _, _, _, _, _, _, _, _, _, _, _, _, _, _, _, _, _, _, _, _, _, _, _, _, _, _] (prs_s_e _) rfl rfl ?_
                                          refine sat_lt [_, _, _, _, _, _, _, _, _, _, _, _, _, _, _, _, _, _, _, _, _, _, _, _, _, _, _, _, _, _, _, _, _, _, _, _, _, _, _, _, _, _, _, _, _, _, _, _, _, _, _, _, _, _, _, _, _, _, _, _, _, _, _, _, _, _, _, _, _, _, _, _, _, _, _, _, _, _, _] (ev_eql _ _ _) ⟨by decide, rfl⟩ rfl ?_
                                          first | refine sat_br rfl (fun g19 => ?_) (fun g19 => ?_) | refine sat_brB rfl (fun g19 => ?_) (fun g19 => ?_)
                                          · skip
                                            refine sat_lt [_, _, _, _, _, _, _, _, _, _, _, _, _, _, _, _, _, _, _, _, _, _, _, _, _, _, _, _, _, _, _, _, _, _, _, _, _, _, _, _, _, _, _, _, _, _, _, _, _, _, _, _, _, _, _, _, _, _, _, _, _, _, _, _, _, _, _, _, _, _, _, _, _, _, _, _, _, _, _, _] (ev_lenS _ _) ⟨by decide, rfl⟩ rfl ?_
                                            refine sat_lt [_, _, _, _, _, _, _, _, _, _, _, _, _, _, _, _, _, _, _, _, _, _, _, _, _, _, _, _, _, _, _, _, _, _, _, _, _, _, _, _, _, _, _, _, _, _, _, _, _, _, _, _, _, _, _, _, _, _, _, _, _, _, _, _, _, _, _, _, _, _, _, _, _, _, _, _, _, _, _, _, _] (ev_eql _ _ _) ⟨by decide, rfl⟩ rfl ?_
                                            first | refine sat_br rfl (fun g20 => ?_) (fun g20 => ?_) | refine sat_brB rfl (fun g20 => ?_) (fun g20 => ?_)
                                            · skip
                                              refine sat_fn [_, _, _, _, _, _, _, _, _, _, _, _, _, _, _, _, _, _, _, _, _, _, _, _, _, _, _, _, _, _, _, _, _, _, _, _, _, _, _, _, _, _, _, _, _, _, _, _, _, _, _, _, _, _, _, _, _, _, _, _, _, _, _, _, _, _, _, _, _, _, _, _, _, _, _, _, _, _, _, _, _, _] (rep_s_e _ _ (by decide)) rfl rfl ?_
                                              refine sat_fn [_, _, _, _, _, _, _, _, _, _, _, _, _, _, _, _, _, _, _, _, _, _, _, _, _, _, _, _, _, _, _, _, _, _, _, _, _, _, _, _, _, _, _, _, _, _, _, _, _, _, _, _, _, _, _, _, _, _, _, _, _, _, _, _, _, _, _, _, _, _, _, _, _, _, _, _, _, _, _, _, _, _, _, _] (prs_s_e _) rfl rfl ?_
                                              refine sat_lt [_, _, _, _, _, _, _, _, _, _, _, _, _, _, _, _, _, _, _, _, _, _, _, _, _, _, _, _, _, _, _, _, _, _, _, _, _, _, _, _, _, _, _, _, _, _, _, _, _, _, _, _, _, _, _, _, _, _, _, _, _, _, _, _, _, _, _, _, _, _, _, _, _, _, _, _, _, _, _, _, _, _, _, _, _] (ev_eql _ _ _) ⟨by decide, rfl⟩ rfl ?_
                                              first | refine sat_br rfl (fun g21 => ?_) (fun g21 => ?_) | refine sat_brB rfl (fun g21 => ?_) (fun g21 => ?_)
                                              · skip
                                                refine sat_lt [_, _, _, _, _, _, _, _, _, _, _, _, _, _, _, _, _, _, _, _, _, _, _, _, _, _, _, _, _, _, _, _, _, _, _, _, _, _, _, _, _, _, _, _, _, _, _, _, _, _, _, _, _, _, _, _, _, _, _, _, _, _, _, _, _, _, _, _, _, _, _, _, _, _, _, _, _, _, _, _, _, _, _, _, _, _] (ev_lenS _ _) ⟨by decide, rfl⟩ rfl ?_
                                                refine sat_lt [_, _, _, _, _, _, _, _, _, _, _, _, _, _, _, _, _, _, _, _, _, _, _, _, _, _, _, _, _, _, _, _, _, _, _, _, _, _, _, _, _, _, _, _, _, _, _, _, _, _, _, _, _, _, _, _, _, _, _, _, _, _, _, _, _, _, _, _, _, _, _, _, _, _, _, _, _, _, _, _, _, _, _, _, _, _, _] (ev_eql _ _ _) ⟨by decide, rfl⟩ rfl ?_
                                                first | refine sat_br rfl (fun g22 => ?_) (fun g22 => ?_) | refine sat_brB rfl (fun g22 => ?_) (fun g22 => ?_)
                                                · skip
                                                  refine sat_fn [_, _, _, _, _, _, _, _, _, _, _, _, _, _, _, _, _, _, _, _, _, _, _, _, _, _, _, _, _, _, _, _, _, _, _, _, _, _, _, _, _, _, _, _, _, _, _, _, _, _, _, _, _, _, _, _, _, _, _, _, _, _, _, _, _, _, _, _, _, _, _, _, _, _, _, _, _, _, _, _, _, _, _, _, _, _, _, _, _] (prs_s_e _) rfl rfl ?_
                                                  refine sat_lt [_, _, _, _, _, _, _, _, _, _, _, _, _, _, _, _, _, _, _, _, _, _, _, _, _, _, _, _, _, _, _, _, _, _, _, _, _, _, _, _, _, _, _, _, _, _, _, _, _, _, _, _, _, _, _, _, _, _, _, _, _, _, _, _, _, _, _, _, _, _, _, _, _, _, _, _, _, _, _, _, _, _, _, _, _, _, _, _, _, _] (ev_eql _ _ _) ⟨by decide, rfl⟩ rfl ?_
                                                  first | refine sat_br rfl (fun g23 => ?_) (fun g23 => ?_) | refine sat_brB rfl (fun g23 => ?_) (fun g23 => ?_)
                                                  · skip
                                                    refine sat_lt [_, _, _, _, _, _, _, _, _, _, _, _, _, _, _, _, _, _, _, _, _, _, _, _, _, _, _, _, _, _, _, _, _, _, _, _, _, _, _, _, _, _, _, _, _, _, _, _, _, _, _, _, _, _, _, _, _, _, _, _, _, _, _, _, _, _, _, _, _, _, _, _, _, _, _, _, _, _, _, _, _, _, _, _, _, _, _, _, _, _, _] (ev_lenS _ _) ⟨by decide, rfl⟩ rfl ?_
                                                    refine sat_lt [_, _, _, _, _, _, _, _, _, _, _, _, _, _, _, _, _, _, _, _, _, _, _, _, _, _, _, _, _, _, _, _, _, _, _, _, _, _, _, _, _, _, _, _, _, _, _, _, _, _, _, _, _, _, _, _, _, _, _, _, _, _, _, _, _, _, _, _, _, _, _, _, _, _, _, _, _, _, _, _, _, _, _, _, _, _, _, _, _, _, _, _] (ev_eql _ _ _) ⟨by decide, rfl⟩ rfl ?_
                                                    first | refine sat_br rfl (fun g24 => ?_) (fun g24 => ?_) | refine sat_brB rfl (fun g24 => ?_) (fun g24 => ?_)
                                                    · skip
                                                      refine sat_ret [.bool _] rfl ?_
                                                      exact congrArg (fun b => [U.bool b]) (decide_eq_true (by decide +kernel))
                                                    · skip
                                                      (refine absurd ?_ (by assumption); decide +kernel)
                                                  · skip
                                                    (refine absurd ?_ (by assumption); decide +kernel)
                                                · skip
                                                  (refine absurd ?_ (by assumption); decide +kernel)
                                              · skip
                                                (refine absurd ?_ (by assumption); decide +kernel)
                                            · skip
                                              (refine absurd ?_ (by assumption); decide +kernel)
                                          · skip
                                            (refine absurd ?_ (by assumption); decide +kernel)
                                        · skip
                                          (refine absurd ?_ (by assumption); decide +kernel)
                                      · skip
                                        (refine absurd ?_ (by assumption); decide +kernel)
                                    · skip
                                      (refine absurd ?_ (by assumption); decide +kernel)
                                  · skip
                                    (refine absurd ?_ (by assumption); decide +kernel)
                                · skip
                                  (refine absurd ?_ (by assumption); decide +kernel)
                              · skip
                                (refine absurd ?_ (by assumption); decide +kernel)
                            · skip
                              (refine absurd ?_ (by assumption); decide +kernel)
                          · skip
                            (refine absurd ?_ (by assumption); decide +kernel)
                        · skip
                          (refine absurd ?_ (by assumption); decide +kernel)
                      · skip
                        (refine absurd ?_ (by assumption); decide +kernel)
                    · skip
                      (refine absurd ?_ (by assumption); decide +kernel)
                  · skip
                    (refine absurd ?_ (by assumption); decide +kernel)
                · skip
                  (refine absurd ?_ (by assumption); decide +kernel)
              · skip
                (refine absurd ?_ (by assumption); decide +kernel)
            · skip
              (refine absurd ?_ (by assumption); decide +kernel)
          · skip
            (refine absurd ?_ (by assumption); decide +kernel)
        · skip
          (refine absurd ?_ (by assumption); decide +kernel)
      · skip
        (refine absurd ?_ (by assumption); decide +kernel)
    · skip
      (refine absurd ?_ (by assumption); decide +kernel)
  · cases hs
noncomputable def L_wks : List (FuncId × FnC) := (15, conF Tryd.prog [] wks_s [.s 8]) :: L_rep
theorem L_wks_ok {G : Nat → Option Obj} (hst : StartOk Tryd.prog G gl H0 n0) : ConsOk Tryd.prog G gl L_wks := .cons (wks_c hst) (L_rep_ok hst)
end Go.Proofs.YtadmkfclgpbebaaDoor

namespace Go.Proofs.YtadmkfclgpbebaaDoor
set_option linter.all false
open Go Go.Sx
theorem parE_app : ∀ (s t : List UInt8) (l : Rws), parE l (s ++ t) = match parE l s with | none => parE (parL l s) t | some e => some e
  | [], t, l => rfl
  | b :: s, t, l => by
    rw [List.cons_append]
    by_cases h : (stepS l b.toNat).2 ≠ 0
    · rw [parE_so h, parE_so h]
    · rw [parE_no h, parE_no h, parE_app s t]; rfl
theorem parL_app : ∀ (s t : List UInt8) (l : Rws), parL l (s ++ t) = parL (parL l s) t
  | [], t, l => rfl
  | b :: s, t, l => by rw [List.cons_append, parL_c, parL_c, parL_app s t]
def stOf (M : List (List Int)) : Rws := if M = [[-1]] then none else some (M.map some)
end Go.Proofs.YtadmkfclgpbebaaDoor
namespace Go.Proofs.YtadmkfclgpbebaaDoor
set_option linter.all false
open Go Go.Sx
structure OkM (M : List (List Int)) : Prop where
  len : M.length ≤ 16
  row : ∀ p ∈ M, 1 ≤ p.length ∧ p.length ≤ 6
  num : ∀ p ∈ M, ∀ n ∈ p, -1 ≤ n ∧ n ≤ 9999
theorem badP_ok {p : List Int} (h1 : 1 ≤ p.length ∧ p.length ≤ 6) (h2 : ∀ n ∈ p, -1 ≤ n ∧ n ≤ 9999) : badP (some p) = false := by
  unfold badP
  rw [el_some, Bool.or_eq_false_iff, Bool.or_eq_false_iff]
  refine ⟨decide_eq_false (by omega), decide_eq_false (by omega), ?_⟩
  rw [List.any_eq_false]
  intro n hn
  rw [badI_f (by have := h2 n hn; omega)]
  decide
theorem check_ok {M : List (List Int)} (h : OkM M) (hne : M ≠ [[-1]]) : checkS (some (M.map some)) = 0 := by
  unfold checkS
  refine if_neg ?_
  rintro (h1 | h1 | h1)
  · rw [el_some, List.length_map] at h1; have := h.len; omega
  · apply hne
    unfold emptyP at h1
    rw [el_some] at h1
    match M, h1 with
    | [p], h1 =>
      match p, h1 with
      | [n], h1 => simp [el] at h1; rw [h1]
      | [], h1 => simp [el] at h1
      | _ :: _ :: _, h1 => simp [el] at h1
    | [], h1 => simp at h1
    | _ :: _ :: _, h1 => simp at h1
  · rw [el_some, List.any_map] at h1
    obtain ⟨p, hp, h2⟩ := List.any_eq_true.1 h1
    have := badP_ok (h.row p hp) (h.num p hp)
    simp [this] at h2
theorem check_st {M : List (List Int)} (h : OkM M) : checkS (stOf M) = 0 := by
  unfold stOf
  split
  · decide
  · rename_i hne; exact check_ok h hne
end Go.Proofs.YtadmkfclgpbebaaDoor
namespace Go.Proofs.YtadmkfclgpbebaaDoor
set_option linter.all false
open Go Go.Sx
theorem allL_eq {α : Type} (l : Option (List α)) : allL l = el l := by
  show el (subS l 0 ((el l).length : Int).toNat) = _
  rw [el_subS, Int.toNat_natCast, Nat.sub_zero, List.drop_zero, List.take_length]
theorem cutL_app {α : Type} (F : List α) (x : α) : cutL (some (F ++ [x])) = F := by
  show el (subS (some (F ++ [x])) 0 (((F ++ [x]).length : Int) - 1).toNat) = _
  rw [el_subS, el_some, List.length_append, List.length_singleton, show (((F.length + 1 : Nat) : Int) - 1).toNat = F.length by omega]
  simp
theorem lastP_app (F : List (Option (List Int))) (x : Option (List Int)) : lastP (some (F ++ [x])) = x := by
  show (F ++ [x]).getD (((F ++ [x]).length : Int) - 1).toNat default = x
  rw [List.length_append, List.length_singleton, show (((F.length + 1 : Nat) : Int) - 1).toNat = F.length by omega]
  simp
theorem lastN_app (F : List Int) (x : Int) : lastN (some (F ++ [x])) = x := by
  show (F ++ [x]).getD (((F ++ [x]).length : Int) - 1).toNat default = x
  rw [List.length_append, List.length_singleton, show (((F.length + 1 : Nat) : Int) - 1).toNat = F.length by omega]
  simp
theorem step_semi {M : List (List Int)} (h : OkM M) (hne : M ≠ []) (hl : M.length < 16) : stepS (stOf M) 59 = (some ((M ++ [[-1]]).map some), 0) := by
  have hc := check_st h
  unfold stOf at hc ⊢
  split
  · rename_i e; subst e
    rw [step_1 none 59 (by decide) (by decide) rfl]; rfl
  · rename_i e
    rw [if_neg e] at hc
    have h0 : 0 < M.length := List.length_pos_iff.2 hne
    rw [step_5 _ 59 hc (by rw [el_some, List.length_map]; omega) rfl (by rw [el_some, List.length_map]; omega), allL_eq, el_some, List.map_append]
    rfl
end Go.Proofs.YtadmkfclgpbebaaDoor
namespace Go.Proofs.YtadmkfclgpbebaaDoor
set_option linter.all false
open Go Go.Sx
theorem st_some {M : List (List Int)} (h : M ≠ [[-1]]) : stOf M = some (M.map some) := if_neg h
theorem step_colon {F : List (List Int)} {p : List Int} (h : OkM (F ++ [p])) (hl : p.length < 6) : stepS (stOf (F ++ [p])) 58 = (some ((F ++ [p ++ [-1]]).map some), 0) := by
  have hc := check_st h
  unfold stOf at hc ⊢
  split
  · rename_i e
    have h1 : F = [] ∧ p = [-1] := by
      cases F with
      | nil => simpa using e
      | cons a F => cases F <;> simp at e
    obtain ⟨rfl, rfl⟩ := h1
    rw [step_2 none 58 (by decide) (by decide) rfl]; rfl
  · rename_i e
    rw [if_neg e] at hc
    have em : (F ++ [p]).map some = F.map some ++ [some p] := by simp
    rw [em] at hc ⊢
    have hlp : lastP (some (F.map some ++ [some p])) = some p := lastP_app _ _
    rw [step_6 _ 58 hc (by rw [el_some, List.length_append, List.length_singleton]; omega) rfl (by
      show ((el (lastP (some (F.map some ++ [some p])))).length : Int) < 6
      rw [hlp, el_some]; omega), hlp, cutL_app, allL_eq, el_some]
    simp
theorem step_dig {F : List (List Int)} {p : List Int} {n c : Int} (h : OkM (F ++ [p ++ [n]])) (hd : 48 ≤ c ∧ c ≤ 57) : stepS (stOf (F ++ [p ++ [n]])) c = (some ((F ++ [p ++ [digV n c]]).map some), 0) := by
  have hc := check_st h
  unfold stOf at hc ⊢
  split
  · rename_i e
    have h1 : F = [] ∧ p = [] ∧ n = -1 := by
      cases F with
      | nil =>
        cases p with
        | nil => simpa using e
        | cons a p => cases p <;> simp at e
      | cons a F => cases F <;> simp at e
    obtain ⟨rfl, rfl, rfl⟩ := h1
    rw [step_3 none c (by decide) (by decide) hd]; rfl
  · rename_i e
    rw [if_neg e] at hc
    have em : (F ++ [p ++ [n]]).map some = F.map some ++ [some (p ++ [n])] := by simp
    rw [em] at hc ⊢
    have hlp : lastP (some (F.map some ++ [some (p ++ [n])])) = some (p ++ [n]) := lastP_app _ _
    rw [step_8 _ c hc (by rw [el_some, List.length_append, List.length_singleton]; omega) hd, hlp, cutL_app, cutL_app, lastN_app]
    simp
end Go.Proofs.YtadmkfclgpbebaaDoor

namespace Go.Proofs.YtadmkfclgpbebaaDoor
set_option linter.all false
open Go Go.Sx
theorem OkM.set {F : List (List Int)} {p : List Int} {n m : Int} (h : OkM (F ++ [p ++ [n]])) (hm : -1 ≤ m ∧ m ≤ 9999) : OkM (F ++ [p ++ [m]]) := by
  have hl := h.len
  refine ⟨by simpa using hl, fun q hq => ?_, fun q hq k hk => ?_⟩
  · rcases List.mem_append.1 hq with hq | hq
    · exact h.row q (List.mem_append_left _ hq)
    · rw [List.mem_singleton.1 hq]
      have := h.row (p ++ [n]) (List.mem_append_right _ (List.mem_singleton.2 rfl))
      simpa using this
  · rcases List.mem_append.1 hq with hq | hq
    · exact h.num q (List.mem_append_left _ hq) k hk
    · rw [List.mem_singleton.1 hq] at hk
      rcases List.mem_append.1 hk with hk | hk
      · exact h.num (p ++ [n]) (List.mem_append_right _ (List.mem_singleton.2 rfl)) k (List.mem_append_left _ hk)
      · rw [List.mem_singleton.1 hk]; exact hm
theorem ne_m1 {F : List (List Int)} {p : List Int} {n : Int} (hn : n ≠ -1) : F ++ [p ++ [n]] ≠ [[-1]] := fun e => by
  cases F with
  | nil => cases p with
    | nil => simp at e; exact hn e
    | cons a p => cases p <;> simp at e
  | cons a F => cases F <;> simp at e
theorem digit_nat (d : Nat) (h : d < 10) : ((UInt8.ofNat (48 + d)).toNat : Int) = 48 + d := by
  rw [UInt8.toNat_ofNat']
  omega
theorem num_read {F : List (List Int)} {p : List Int} (h : OkM (F ++ [p ++ [-1]])) : ∀ (u : Nat), u ≤ 9999 → parE (stOf (F ++ [p ++ [-1]])) (Lib.decDigits u) = none ∧ parL (stOf (F ++ [p ++ [-1]])) (Lib.decDigits u) = stOf (F ++ [p ++ [(u : Int)]]) := by
  intro u
  induction u using Nat.strongRecOn with
  | _ u ih =>
    intro hu
    have one : ∀ (n : Int) (d : Nat), d < 10 → OkM (F ++ [p ++ [n]]) → parE (stOf (F ++ [p ++ [n]])) [UInt8.ofNat (48 + d)] = none ∧ parL (stOf (F ++ [p ++ [n]])) [UInt8.ofNat (48 + d)] = some ((F ++ [p ++ [digV n (48 + d)]]).map some) := fun n d hd hn => by
      have hs := step_dig (c := 48 + (d : Int)) hn ⟨by omega, by omega⟩
      refine ⟨?_, ?_⟩
      · rw [parE_no (by rw [digit_nat d hd, hs]; exact fun h => h rfl)]; rfl
      · rw [parL_c, digit_nat d hd, hs]; rfl
    by_cases hs : u < 10
    · rw [Lib.decDigits_one hs]
      obtain ⟨a, b⟩ := one (-1) u hs h
      have e : digV (-1) (48 + (u : Int)) = u := by unfold digV; omega
      refine ⟨a, ?_⟩
      rw [b, e, st_some (ne_m1 (by omega))]
    · obtain ⟨a, b⟩ := ih (u / 10) (by omega) (by omega)
      have hok := OkM.set h (m := ((u / 10 : Nat) : Int)) ⟨by omega, by omega⟩
      obtain ⟨c, d⟩ := one ((u / 10 : Nat) : Int) (u % 10) (by omega) hok
      have e : digV ((u / 10 : Nat) : Int) (48 + ((u % 10 : Nat) : Int)) = u := by unfold digV; omega
      rw [show Lib.decDigits u = Lib.decDigits (u / 10) ++ [UInt8.ofNat (48 + u % 10)] by rw [Lib.decDigits, dif_neg hs]]
      refine ⟨?_, ?_⟩
      · rw [parE_app, a, b]; exact c
      · rw [parL_app, b, d, e, st_some (ne_m1 (by omega))]
end Go.Proofs.YtadmkfclgpbebaaDoor

namespace Go.Proofs.YtadmkfclgpbebaaDoor
set_option linter.all false
open Go Go.Sx
theorem part_read {F : List (List Int)} {p : List Int} (h : OkM (F ++ [p ++ [-1]])) {n : Int} (hn : -1 ≤ n ∧ n ≤ 9999) : parE (stOf (F ++ [p ++ [-1]])) (partS n) = none ∧ parL (stOf (F ++ [p ++ [-1]])) (partS n) = stOf (F ++ [p ++ [n]]) := by
  unfold partS
  split
  · rename_i e; subst e; exact ⟨rfl, rfl⟩
  · obtain ⟨u, rfl⟩ : ∃ u : Nat, n = u := ⟨n.toNat, by omega⟩
    rw [Lib.itoa_nonneg]
    exact num_read h u (by omega)
theorem row_read {F : List (List Int)} {i : Int} : ∀ (r q : List Int) (k : Int), 1 ≤ k → q ≠ [] → OkM (F ++ [q ++ r]) → parE (stOf (F ++ [q])) (rowS i k r) = none ∧ parL (stOf (F ++ [q])) (rowS i k r) = stOf (F ++ [q ++ r])
  | [], q, k, _, _, _ => by rw [List.append_nil]; exact ⟨rfl, rfl⟩
  | n :: r, q, k, hk, hq, h => by
    have hrow := h.row (q ++ n :: r) (List.mem_append_right _ (List.mem_singleton.2 rfl))
    have hnum := h.num (q ++ n :: r) (List.mem_append_right _ (List.mem_singleton.2 rfl))
    have sub : ∀ s : List Int, s ≠ [] → s.length ≤ 6 → (∀ x ∈ s, -1 ≤ x ∧ x ≤ 9999) → OkM (F ++ [s]) := fun s h1 h2 h3 => by
      have hl := h.len
      refine ⟨by simpa using hl, fun t ht => ?_, fun t ht x hx => ?_⟩
      · rcases List.mem_append.1 ht with ht | ht
        · exact h.row t (List.mem_append_left _ ht)
        · rw [List.mem_singleton.1 ht]; exact ⟨List.length_pos_iff.2 h1, h2⟩
      · rcases List.mem_append.1 ht with ht | ht
        · exact h.num t (List.mem_append_left _ ht) x hx
        · rw [List.mem_singleton.1 ht] at hx; exact h3 x hx
    have hlen : q.length + (r.length + 1) ≤ 6 := by have := hrow.2; simpa using this
    have hq1 := sub q hq (by omega) fun x hx => hnum x (List.mem_append_left _ hx)
    have hq2 := sub (q ++ [-1]) (by simp) (by simp; omega) fun x hx => by
      rcases List.mem_append.1 hx with hx | hx
      · exact hnum x (List.mem_append_left _ hx)
      · rw [List.mem_singleton.1 hx]; omega
    have hs := step_colon hq1 (by omega)
    have hst : (some ((F ++ [q ++ [-1]]).map some) : Rws) = stOf (F ++ [q ++ [-1]]) := (st_some fun e => by
      cases F with
      | nil => cases q with
        | nil => exact hq rfl
        | cons a q => cases q <;> simp at e
      | cons a F => cases F <;> simp at e).symm
    obtain ⟨a, b⟩ := part_read hq2 (n := n) (hnum n (by simp))
    obtain ⟨c, d⟩ := row_read r (q ++ [n]) (k + 1) (by omega) (by simp) (by rw [List.append_assoc q [n] r]; exact h)
    have ha : aheadS i k = [58] := by unfold aheadS; rw [if_neg (by omega)]
    rw [row_cons, ha, List.append_assoc]
    have h58 : ((58 : UInt8).toNat : Int) = 58 := rfl
    refine ⟨?_, ?_⟩
    · show parE _ (58 :: (partS n ++ rowS i (k + 1) r)) = none
      rw [parE_no (by rw [h58, hs]; exact fun h => h rfl), h58, hs]
      show parE (some _) _ = _
      rw [hst, parE_app, a, b]; exact c
    · show parL _ (58 :: (partS n ++ rowS i (k + 1) r)) = _
      rw [parL_c, h58, hs]
      show parL (some _) _ = _
      rw [hst, parL_app, b, d, List.append_assoc q [n] r]; rfl
end Go.Proofs.YtadmkfclgpbebaaDoor

namespace Go.Proofs.YtadmkfclgpbebaaDoor
set_option linter.all false
open Go Go.Sx
theorem OkM.left {A B : List (List Int)} (h : OkM (A ++ B)) : OkM A :=
  ⟨by have := h.len; rw [List.length_append] at this; omega, fun p hp => h.row p (List.mem_append_left _ hp), fun p hp => h.num p (List.mem_append_left _ hp)⟩
theorem OkM.snoc {F : List (List Int)} {p : List Int} (h : OkM F) (hl : F.length < 16) (h1 : 1 ≤ p.length ∧ p.length ≤ 6) (h2 : ∀ n ∈ p, -1 ≤ n ∧ n ≤ 9999) : OkM (F ++ [p]) := by
  refine ⟨by simp; omega, fun q hq => ?_, fun q hq => ?_⟩
  · rcases List.mem_append.1 hq with hq | hq
    · exact h.row q hq
    · rw [List.mem_singleton.1 hq]; exact h1
  · rcases List.mem_append.1 hq with hq | hq
    · exact h.num q hq
    · rw [List.mem_singleton.1 hq]; exact h2
theorem m1_num : ∀ n ∈ [(-1 : Int)], -1 ≤ n ∧ n ≤ 9999 := fun n hn => by rw [List.mem_singleton.1 hn]; omega
theorem st_snoc1 {F : List (List Int)} (hF : F ≠ []) : (some ((F ++ [[-1]]).map some) : Rws) = stOf (F ++ [[] ++ [-1]]) := (st_some fun e => by
  cases F with
  | nil => exact hF rfl
  | cons a F => cases F <;> simp at e).symm
theorem rows_read : ∀ (ps : List (Option (List Int))) (F : List (List Int)) (j : Int), 1 ≤ j → F ≠ [] → OkM (F ++ ps.map el) → parE (stOf F) (rowsS j ps) = none ∧ parL (stOf F) (rowsS j ps) = stOf (F ++ ps.map el)
  | [], F, j, _, _, _ => by rw [List.map_nil, List.append_nil]; exact ⟨rfl, rfl⟩
  | p :: ps, F, j, hj, hF, h => by
    have hF1 := h.left
    have hlen := h.len
    rw [List.length_append, List.length_map, List.length_cons] at hlen
    have hp1 := h.row (el p) (List.mem_append_right _ (by simp))
    have hp2 := h.num (el p) (List.mem_append_right _ (by simp))
    obtain ⟨n, r, e⟩ : ∃ n r, el p = n :: r := by
      cases hq : el p with
      | nil => rw [hq] at hp1; simp at hp1
      | cons n r => exact ⟨n, r, rfl⟩
    have hs := step_semi hF1 hF (by omega)
    rw [st_snoc1 hF] at hs
    have h1 : OkM (F ++ [[] ++ [-1]]) := hF1.snoc (by omega) ⟨Nat.le_refl 1, by decide⟩ m1_num
    rw [e] at hp2 hp1
    obtain ⟨a, b⟩ := part_read h1 (n := n) (hp2 n (by simp))
    have h2 : OkM (F ++ [[n] ++ r]) := hF1.snoc (by omega) hp1 hp2
    obtain ⟨c, d⟩ := row_read (i := j) r [n] 1 (by omega) (by simp) h2
    have h3 : OkM ((F ++ [n :: r]) ++ ps.map el) := by rw [List.append_assoc, ← e]; exact h
    obtain ⟨f, g⟩ := rows_read ps (F ++ [n :: r]) (j + 1) (by omega) (by simp) h3
    have ha : aheadS j 0 = [59] := by unfold aheadS; rw [if_pos rfl, if_neg (by omega)]
    have ht : rowsS j (p :: ps) = 59 :: (partS n ++ (rowS j 1 r ++ rowsS (j + 1) ps)) := by
      show rowS j 0 (el p) ++ rowsS (j + 1) ps = _
      rw [e, row_cons, ha]; simp
    have h59 : ((59 : UInt8).toNat : Int) = 59 := rfl
    have hM : F ++ (p :: ps).map el = (F ++ [n :: r]) ++ ps.map el := by rw [List.map_cons, e]; simp
    rw [ht, hM]
    refine ⟨?_, ?_⟩
    · rw [parE_no (by rw [h59, hs]; exact fun h => h rfl), h59, hs, parE_app, a, b]
      show parE (stOf (F ++ [[n]])) _ = none
      rw [parE_app, c, d]; exact f
    · rw [parL_c, h59, hs, parL_app, b]
      show parL (stOf (F ++ [[n]])) _ = _
      rw [parL_app, d]; exact g
theorem ok_of {l : Rws} (h : checkS l = 0) : OkM ((el l).map el) := by
  rcases check_bd l with h1 | ⟨_, h2, h3⟩
  · omega
  · refine ⟨by simpa using h2, fun p hp => ?_, fun p hp => ?_⟩
    · obtain ⟨q, hq, rfl⟩ := List.mem_map.1 hp
      exact ⟨(h3 q hq).1, (h3 q hq).2.1⟩
    · obtain ⟨q, hq, rfl⟩ := List.mem_map.1 hp
      exact (h3 q hq).2.2
theorem ne_of {l : Rws} (h : checkS l = 0) : (el l).map el ≠ [[-1]] := fun e => by
  have he : emptyP l = true := by
    unfold emptyP
    match hl : el l, e with
    | [p], e =>
      have e : el p = [-1] := by simpa using e
      simp [e]
    | [], e => simp at e
    | _ :: _ :: _, e => simp at e
  unfold checkS at h
  rw [if_pos (.inr (.inl he))] at h
  omega
theorem back {l : Rws} (h : checkS l = 0) : (parseS (printS l).1).2 = 0 ∧ (el (parseS (printS l).1).1).map el = (el l).map el := by
  have hp := print_1 l h
  have hlen : (rowsS 0 (el l)).length ≤ 4096 := by
    rcases check_bd l with h1 | ⟨_, h2, h3⟩
    · omega
    · have := rows_len (j := 0) fun p hp => (h3 p hp).2
      omega
  have key : parE none (rowsS 0 (el l)) = none ∧ (el (parL none (rowsS 0 (el l)))).map el = (el l).map el := by
    have hok := ok_of h
    have hne := ne_of h
    cases hl : el l with
    | nil => exact ⟨rfl, rfl⟩
    | cons p ps =>
      rw [hl] at hok hne
      have hp1 := hok.row (el p) (by simp)
      have hp2 := hok.num (el p) (by simp)
      obtain ⟨n, r, e⟩ : ∃ n r, el p = n :: r := by
        cases hq : el p with
        | nil => rw [hq] at hp1; simp at hp1
        | cons n r => exact ⟨n, r, rfl⟩
      rw [e] at hp1 hp2
      have h0 : OkM ([] : List (List Int)) := ⟨Nat.zero_le _, (fun p hp => by cases hp), (fun p hp => by cases hp)⟩
      obtain ⟨a, b⟩ := part_read (F := []) (p := []) (h0.snoc (by decide) ⟨Nat.le_refl 1, by decide⟩ m1_num) (n := n) (hp2 n (by simp))
      obtain ⟨c, d⟩ := row_read (F := []) (i := 0) r [n] 1 (by omega) (by simp) (h0.snoc (by decide) hp1 hp2)
      have hM : (p :: ps).map el = [n :: r] ++ ps.map el := by rw [List.map_cons, e]; rfl
      obtain ⟨f, g⟩ := rows_read ps [n :: r] (0 + 1) (by omega) (by simp) (by rw [← hM]; exact hok)
      have ht : rowsS 0 (p :: ps) = partS n ++ (rowS 0 1 r ++ rowsS (0 + 1) ps) := by
        show rowS 0 0 (el p) ++ rowsS (0 + 1) ps = _
        rw [e, row_cons]
        have ha : aheadS 0 0 = [] := rfl
        rw [ha]; simp
      have hst : (none : Rws) = stOf ([] ++ [[] ++ [-1]]) := rfl
      rw [ht, hst]
      refine ⟨?_, ?_⟩
      · rw [parE_app, a, b]
        show parE (stOf ([] ++ [[n]])) _ = none
        rw [parE_app, c, d]; exact f
      · rw [parL_app, b]
        show (el (parL (stOf ([] ++ [[n]])) _)).map el = _
        rw [parL_app, d]
        show (el (parL (stOf [n :: r]) _)).map el = _
        rw [g, ← hM, st_some hne, el_some, List.map_map]
        have : (el ∘ some : List Int → List Int) = id := rfl
        rw [this, List.map_id]
  rw [hp]
  show (parseS (rowsS 0 (el l))).2 = 0 ∧ _
  have hq : parseS (rowsS 0 (el l)) = (parL none (rowsS 0 (el l)), 0) := by
    unfold parseS
    rw [if_neg (by omega), key.1]
  rw [hq]
  exact ⟨rfl, key.2⟩
end Go.Proofs.YtadmkfclgpbebaaDoor

namespace Go.Proofs.YtadmkfclgpbebaaDoor
set_option linter.all false
open Go Go.Sx
set_option maxRecDepth 100000
set_option linter.unusedVariables false
set_option linter.unusedSimpArgs false
theorem dig1 {n : Int} (h0 : 0 ≤ n) (h : n < 10) : Lib.decDigits n.toNat = [UInt8.ofNat (48 + n).toNat] := by
  rw [Lib.decDigits_one (by omega)]
  congr 2; omega
theorem dig2 {n : Int} (h0 : 0 ≤ n) (h : ¬n < 10) : Lib.decDigits n.toNat = Lib.decDigits (n / 10).toNat ++ Lib.decDigits (n % 10).toNat := by
  have h1 : n.toNat / 10 = (n / 10).toNat := by omega
  have h2 : n.toNat % 10 = (n % 10).toNat := by omega
  conv => lhs; rw [Lib.decDigits, dif_neg (by omega)]
  rw [h1, h2, Lib.decDigits_one (i := (n % 10).toNat) (by omega)]
theorem dig_len {n : Int} (h0 : 0 ≤ n) (h : n < 9999999999) : (Lib.decDigits n.toNat).length ≤ 40 := by
  have := Lib.itoa_length_le n (by omega) (by omega)
  rw [show n = (n.toNat : Int) by omega, Lib.itoa_nonneg] at this
  exact Nat.le_trans this (by decide)
noncomputable def U_dg0 : List (FuncId × FnC) := L0
theorem U_dg0_ok {G : Nat → Option Obj} (hst : StartOk Tryd.prog G gl H0 n0) : ConsOk Tryd.prog G gl U_dg0 := .nil
def dg0_s : List U → Option (Nat × List U)
  | [.int .i64 n] => if 0 ≤ n ∧ n < 10 then some (0, [.str (Lib.decDigits n.toNat)]) else none
  | _ => none
theorem dg0_s_e (n : Int) (hc : 0 ≤ n ∧ n < 10) : dg0_s [.int .i64 n] = some (0, [.str (Lib.decDigits n.toNat)]) := if_pos hc
def dg0_t : Tr := .lt 8 (.bin .lss) [h 0 3, .int .i64 (10)] <| .br 1 (.lt 3 (.bin .add) [.int .i64 (48), h 0 3] <| .lt 4 (.conv .u8) [h 2 3] <| .lt 9 (.mks) [h 3 4] <| .ret [h 4 9]) (.no)
theorem dg0_c {G : Nat → Option Obj} (hst : StartOk Tryd.prog G gl H0 n0) : ConOk Tryd.prog G 20 [.s 3] dg0_s [.s 9] := by
  refine con_of_tree (C := cx U_dg0 P_rwl) (d := 1) dg0_t (cxg (U_dg0_ok hst) (P_rwl_ok hst)) hst ⟨Tryd.f20, _, Tryd.func20, rfl⟩ (by kernel_rfl) (by kernel_rfl) ?_
  intro us outs hs
  unfold dg0_s at hs
  split at hs
  · skip
    rename_i n
    split at hs
    · rename_i hc
      cases hs
      have hq := dig_len (n := n / 10) (by omega) (by omega)
      have hr := dig_len (n := n % 10) (by omega) (by omega)
      unfold dg0_t
      refine sat_lt [_, _] (ev_lss _ _ _) ⟨by decide, rfl⟩ rfl ?_
      first | refine sat_br rfl (fun g0 => ?_) (fun g0 => ?_) | refine sat_brB rfl (fun g0 => ?_) (fun g0 => ?_)
      · skip
        first | refine sat_lt [_, _, _] (ev_addW (wrap64 (by omega) (by omega))) ⟨by decide, rfl⟩ rfl ?_ | refine sat_lt [_, _, _] (ev_add _ _ _) ⟨by decide, rfl⟩ rfl ?_
        first | refine sat_lt [_, _, _, _] (ev_convW (wrap8 (by omega) (by omega))) ⟨by decide, rfl⟩ rfl ?_ | refine sat_lt [_, _, _, _] (ev_conv _ _ _) ⟨by decide, rfl⟩ rfl ?_
        refine sat_lt [_, _, _, _, _] (ev_mks [_] (by simp only [List.mem_cons, List.not_mem_nil, or_false, forall_eq_or_imp, forall_eq]; omega)) ⟨by decide, rfl⟩ rfl ?_
        refine sat_ret [.str _] rfl ?_
        first | (rw [dig1 hc.1 g0]; rfl) | (rw [dig2 hc.1 g0]; rfl) | (rw [dig2 hc.1 g0]) | (exfalso; omega)
      · skip
        (exfalso; omega)
    · cases hs
  · cases hs
noncomputable def L_dg0 : List (FuncId × FnC) := (20, conF Tryd.prog [.s 3] dg0_s [.s 9]) :: L_wks
theorem L_dg0_ok {G : Nat → Option Obj} (hst : StartOk Tryd.prog G gl H0 n0) : ConsOk Tryd.prog G gl L_dg0 := .cons (dg0_c hst) (L_wks_ok hst)
noncomputable def U_dg1 : List (FuncId × FnC) := (20, conF Tryd.prog [.s 3] dg0_s [.s 9]) :: L0
theorem U_dg1_ok {G : Nat → Option Obj} (hst : StartOk Tryd.prog G gl H0 n0) : ConsOk Tryd.prog G gl U_dg1 := (.cons (dg0_c hst) .nil)
def dg1_s : List U → Option (Nat × List U)
  | [.int .i64 n] => if 0 ≤ n ∧ n < 100 then some (0, [.str (Lib.decDigits n.toNat)]) else none
  | _ => none
theorem dg1_s_e (n : Int) (hc : 0 ≤ n ∧ n < 100) : dg1_s [.int .i64 n] = some (0, [.str (Lib.decDigits n.toNat)]) := if_pos hc
def dg1_t : Tr := .lt 8 (.bin .lss) [h 0 3, .int .i64 (10)] <| .br 1 (.lt 3 (.bin .add) [.int .i64 (48), h 0 3] <| .lt 4 (.conv .u8) [h 2 3] <| .lt 9 (.mks) [h 3 4] <| .ret [h 4 9]) (.lt 3 (.bin .quo) [h 0 3, .int .i64 (10)] <| .fn dg0_s [h 2 3] 1 <| .lt 3 (.bin .rem) [h 0 3, .int .i64 (10)] <| .fn dg0_s [h 4 3] 1 <| .lt 9 (.bin .add) [h 3 9, h 5 9] <| .ret [h 6 9])
theorem dg1_c {G : Nat → Option Obj} (hst : StartOk Tryd.prog G gl H0 n0) : ConOk Tryd.prog G 20 [.s 3] dg1_s [.s 9] := by
  refine con_of_tree (C := cx U_dg1 P_rwl) (d := 60) dg1_t (cxg (U_dg1_ok hst) (P_rwl_ok hst)) hst ⟨Tryd.f20, _, Tryd.func20, rfl⟩ (by kernel_rfl) (by kernel_rfl) ?_
  intro us outs hs
  unfold dg1_s at hs
  split at hs
  · skip
    rename_i n
    split at hs
    · rename_i hc
      cases hs
      have hq := dig_len (n := n / 10) (by omega) (by omega)
      have hr := dig_len (n := n % 10) (by omega) (by omega)
      unfold dg1_t
      refine sat_lt [_, _] (ev_lss _ _ _) ⟨by decide, rfl⟩ rfl ?_
      first | refine sat_br rfl (fun g0 => ?_) (fun g0 => ?_) | refine sat_brB rfl (fun g0 => ?_) (fun g0 => ?_)
      · skip
        first | refine sat_lt [_, _, _] (ev_addW (wrap64 (by omega) (by omega))) ⟨by decide, rfl⟩ rfl ?_ | refine sat_lt [_, _, _] (ev_add _ _ _) ⟨by decide, rfl⟩ rfl ?_
        first | refine sat_lt [_, _, _, _] (ev_convW (wrap8 (by omega) (by omega))) ⟨by decide, rfl⟩ rfl ?_ | refine sat_lt [_, _, _, _] (ev_conv _ _ _) ⟨by decide, rfl⟩ rfl ?_
        refine sat_lt [_, _, _, _, _] (ev_mks [_] (by simp only [List.mem_cons, List.not_mem_nil, or_false, forall_eq_or_imp, forall_eq]; omega)) ⟨by decide, rfl⟩ rfl ?_
        refine sat_ret [.str _] rfl ?_
        first | (rw [dig1 hc.1 g0]; rfl) | (rw [dig2 hc.1 g0]; rfl) | (rw [dig2 hc.1 g0]) | (exfalso; omega)
      · skip
        first | refine sat_lt [_, _, _] (ev_quoW (by omega) (by omega) (wrap64 (by omega) (by omega))) ⟨by decide, rfl⟩ rfl ?_ | refine sat_lt [_, _, _] (ev_quo _ _ _ (by omega)) ⟨by decide, rfl⟩ rfl ?_
        refine sat_fn [_, _, _, _] (dg0_s_e _ (by omega)) rfl rfl ?_
        first | refine sat_lt [_, _, _, _, _] (ev_remW (by omega) (by omega)) ⟨by decide, rfl⟩ rfl ?_ | refine sat_lt [_, _, _, _, _] (ev_rem _ _ _ (by omega)) ⟨by decide, rfl⟩ rfl ?_
        refine sat_fn [_, _, _, _, _, _] (dg0_s_e _ (by omega)) rfl rfl ?_
        refine sat_lt [_, _, _, _, _, _, _] (ev_cat _ _ (by omega)) ⟨by decide, rfl⟩ rfl ?_
        refine sat_ret [.str _] rfl ?_
        first | (rw [dig1 hc.1 g0]; rfl) | (rw [dig2 hc.1 g0]; rfl) | (rw [dig2 hc.1 g0]) | (exfalso; omega)
    · cases hs
  · cases hs
noncomputable def L_dg1 : List (FuncId × FnC) := (20, conF Tryd.prog [.s 3] dg1_s [.s 9]) :: L_dg0
theorem L_dg1_ok {G : Nat → Option Obj} (hst : StartOk Tryd.prog G gl H0 n0) : ConsOk Tryd.prog G gl L_dg1 := .cons (dg1_c hst) (L_dg0_ok hst)
noncomputable def U_dg2 : List (FuncId × FnC) := (20, conF Tryd.prog [.s 3] dg1_s [.s 9]) :: L0
theorem U_dg2_ok {G : Nat → Option Obj} (hst : StartOk Tryd.prog G gl H0 n0) : ConsOk Tryd.prog G gl U_dg2 := (.cons (dg1_c hst) .nil)
def dg2_s : List U → Option (Nat × List U)
  | [.int .i64 n] => if 0 ≤ n ∧ n < 1000 then some (0, [.str (Lib.decDigits n.toNat)]) else none
  | _ => none
theorem dg2_s_e (n : Int) (hc : 0 ≤ n ∧ n < 1000) : dg2_s [.int .i64 n] = some (0, [.str (Lib.decDigits n.toNat)]) := if_pos hc
def dg2_t : Tr := .lt 8 (.bin .lss) [h 0 3, .int .i64 (10)] <| .br 1 (.lt 3 (.bin .add) [.int .i64 (48), h 0 3] <| .lt 4 (.conv .u8) [h 2 3] <| .lt 9 (.mks) [h 3 4] <| .ret [h 4 9]) (.lt 3 (.bin .quo) [h 0 3, .int .i64 (10)] <| .fn dg1_s [h 2 3] 1 <| .lt 3 (.bin .rem) [h 0 3, .int .i64 (10)] <| .fn dg1_s [h 4 3] 1 <| .lt 9 (.bin .add) [h 3 9, h 5 9] <| .ret [h 6 9])
theorem dg2_c {G : Nat → Option Obj} (hst : StartOk Tryd.prog G gl H0 n0) : ConOk Tryd.prog G 20 [.s 3] dg2_s [.s 9] := by
  refine con_of_tree (C := cx U_dg2 P_rwl) (d := 60) dg2_t (cxg (U_dg2_ok hst) (P_rwl_ok hst)) hst ⟨Tryd.f20, _, Tryd.func20, rfl⟩ (by kernel_rfl) (by kernel_rfl) ?_
  intro us outs hs
  unfold dg2_s at hs
  split at hs
  · skip
    rename_i n
    split at hs
    · rename_i hc
      cases hs
      have hq := dig_len (n := n / 10) (by omega) (by omega)
      have hr := dig_len (n := n % 10) (by omega) (by omega)
      unfold dg2_t
      refine sat_lt [_, _] (ev_lss _ _ _) ⟨by decide, rfl⟩ rfl ?_
      first | refine sat_br rfl (fun g0 => ?_) (fun g0 => ?_) | refine sat_brB rfl (fun g0 => ?_) (fun g0 => ?_)
      · skip
        first | refine sat_lt [_, _, _] (ev_addW (wrap64 (by omega) (by omega))) ⟨by decide, rfl⟩ rfl ?_ | refine sat_lt [_, _, _] (ev_add _ _ _) ⟨by decide, rfl⟩ rfl ?_
        first | refine sat_lt [_, _, _, _] (ev_convW (wrap8 (by omega) (by omega))) ⟨by decide, rfl⟩ rfl ?_ | refine sat_lt [_, _, _, _] (ev_conv _ _ _) ⟨by decide, rfl⟩ rfl ?_
        refine sat_lt [_, _, _, _, _] (ev_mks [_] (by simp only [List.mem_cons, List.not_mem_nil, or_false, forall_eq_or_imp, forall_eq]; omega)) ⟨by decide, rfl⟩ rfl ?_
        refine sat_ret [.str _] rfl ?_
        first | (rw [dig1 hc.1 g0]; rfl) | (rw [dig2 hc.1 g0]; rfl) | (rw [dig2 hc.1 g0]) | (exfalso; omega)
      · skip
        first | refine sat_lt [_, _, _] (ev_quoW (by omega) (by omega) (wrap64 (by omega) (by omega))) ⟨by decide, rfl⟩ rfl ?_ | refine sat_lt [_, _, _] (ev_quo _ _ _ (by omega)) ⟨by decide, rfl⟩ rfl ?_
        refine sat_fn [_, _, _, _] (dg1_s_e _ (by omega)) rfl rfl ?_
        first | refine sat_lt [_, _, _, _, _] (ev_remW (by omega) (by omega)) ⟨by decide, rfl⟩ rfl ?_ | refine sat_lt [_, _, _, _, _] (ev_rem _ _ _ (by omega)) ⟨by decide, rfl⟩ rfl ?_
        refine sat_fn [_, _, _, _, _, _] (dg1_s_e _ (by omega)) rfl rfl ?_
        refine sat_lt [_, _, _, _, _, _, _] (ev_cat _ _ (by omega)) ⟨by decide, rfl⟩ rfl ?_
        refine sat_ret [.str _] rfl ?_
        first | (rw [dig1 hc.1 g0]; rfl) | (rw [dig2 hc.1 g0]; rfl) | (rw [dig2 hc.1 g0]) | (exfalso; omega)
    · cases hs
  · cases hs
noncomputable def L_dg2 : List (FuncId × FnC) := (20, conF Tryd.prog [.s 3] dg2_s [.s 9]) :: L_dg1
theorem L_dg2_ok {G : Nat → Option Obj} (hst : StartOk Tryd.prog G gl H0 n0) : ConsOk Tryd.prog G gl L_dg2 := .cons (dg2_c hst) (L_dg1_ok hst)
noncomputable def U_dg3 : List (FuncId × FnC) := (20, conF Tryd.prog [.s 3] dg2_s [.s 9]) :: L0
theorem U_dg3_ok {G : Nat → Option Obj} (hst : StartOk Tryd.prog G gl H0 n0) : ConsOk Tryd.prog G gl U_dg3 := (.cons (dg2_c hst) .nil)
def dg3_s : List U → Option (Nat × List U)
  | [.int .i64 n] => if 0 ≤ n ∧ n < 10000 then some (0, [.str (Lib.decDigits n.toNat)]) else none
  | _ => none
theorem dg3_s_e (n : Int) (hc : 0 ≤ n ∧ n < 10000) : dg3_s [.int .i64 n] = some (0, [.str (Lib.decDigits n.toNat)]) := if_pos hc
def dg3_t : Tr := .lt 8 (.bin .lss) [h 0 3, .int .i64 (10)] <| .br 1 (.lt 3 (.bin .add) [.int .i64 (48), h 0 3] <| .lt 4 (.conv .u8) [h 2 3] <| .lt 9 (.mks) [h 3 4] <| .ret [h 4 9]) (.lt 3 (.bin .quo) [h 0 3, .int .i64 (10)] <| .fn dg2_s [h 2 3] 1 <| .lt 3 (.bin .rem) [h 0 3, .int .i64 (10)] <| .fn dg2_s [h 4 3] 1 <| .lt 9 (.bin .add) [h 3 9, h 5 9] <| .ret [h 6 9])
theorem dg3_c {G : Nat → Option Obj} (hst : StartOk Tryd.prog G gl H0 n0) : ConOk Tryd.prog G 20 [.s 3] dg3_s [.s 9] := by
  refine con_of_tree (C := cx U_dg3 P_rwl) (d := 60) dg3_t (cxg (U_dg3_ok hst) (P_rwl_ok hst)) hst ⟨Tryd.f20, _, Tryd.func20, rfl⟩ (by kernel_rfl) (by kernel_rfl) ?_
  intro us outs hs
  unfold dg3_s at hs
  split at hs
  · skip
    rename_i n
    split at hs
    · rename_i hc
      cases hs
      have hq := dig_len (n := n / 10) (by omega) (by omega)
      have hr := dig_len (n := n % 10) (by omega) (by omega)
      unfold dg3_t
      refine sat_lt [_, _] (ev_lss _ _ _) ⟨by decide, rfl⟩ rfl ?_
      first | refine sat_br rfl (fun g0 => ?_) (fun g0 => ?_) | refine sat_brB rfl (fun g0 => ?_) (fun g0 => ?_)
      · skip
        first | refine sat_lt [_, _, _] (ev_addW (wrap64 (by omega) (by omega))) ⟨by decide, rfl⟩ rfl ?_ | refine sat_lt [_, _, _] (ev_add _ _ _) ⟨by decide, rfl⟩ rfl ?_
        first | refine sat_lt [_, _, _, _] (ev_convW (wrap8 (by omega) (by omega))) ⟨by decide, rfl⟩ rfl ?_ | refine sat_lt [_, _, _, _] (ev_conv _ _ _) ⟨by decide, rfl⟩ rfl ?_
        refine sat_lt [_, _, _, _, _] (ev_mks [_] (by simp only [List.mem_cons, List.not_mem_nil, or_false, forall_eq_or_imp, forall_eq]; omega)) ⟨by decide, rfl⟩ rfl ?_
        refine sat_ret [.str _] rfl ?_
        first | (rw [dig1 hc.1 g0]; rfl) | (rw [dig2 hc.1 g0]; rfl) | (rw [dig2 hc.1 g0]) | (exfalso; omega)
      · skip
        first | refine sat_lt [_, _, _] (ev_quoW (by omega) (by omega) (wrap64 (by omega) (by omega))) ⟨by decide, rfl⟩ rfl ?_ | refine sat_lt [_, _, _] (ev_quo _ _ _ (by omega)) ⟨by decide, rfl⟩ rfl ?_
        refine sat_fn [_, _, _, _] (dg2_s_e _ (by omega)) rfl rfl ?_
        first | refine sat_lt [_, _, _, _, _] (ev_remW (by omega) (by omega)) ⟨by decide, rfl⟩ rfl ?_ | refine sat_lt [_, _, _, _, _] (ev_rem _ _ _ (by omega)) ⟨by decide, rfl⟩ rfl ?_
        refine sat_fn [_, _, _, _, _, _] (dg2_s_e _ (by omega)) rfl rfl ?_
        refine sat_lt [_, _, _, _, _, _, _] (ev_cat _ _ (by omega)) ⟨by decide, rfl⟩ rfl ?_
        refine sat_ret [.str _] rfl ?_
        first | (rw [dig1 hc.1 g0]; rfl) | (rw [dig2 hc.1 g0]; rfl) | (rw [dig2 hc.1 g0]) | (exfalso; omega)
    · cases hs
  · cases hs
noncomputable def L_dg3 : List (FuncId × FnC) := (20, conF Tryd.prog [.s 3] dg3_s [.s 9]) :: L_dg2
theorem L_dg3_ok {G : Nat → Option Obj} (hst : StartOk Tryd.prog G gl H0 n0) : ConsOk Tryd.prog G gl L_dg3 := .cons (dg3_c hst) (L_dg2_ok hst)
noncomputable def U_dg4 : List (FuncId × FnC) := (20, conF Tryd.prog [.s 3] dg3_s [.s 9]) :: L0
theorem U_dg4_ok {G : Nat → Option Obj} (hst : StartOk Tryd.prog G gl H0 n0) : ConsOk Tryd.prog G gl U_dg4 := (.cons (dg3_c hst) .nil)
def dg4_s : List U → Option (Nat × List U)
  | [.int .i64 n] => if 0 ≤ n ∧ n < 100000 then some (0, [.str (Lib.decDigits n.toNat)]) else none
  | _ => none
theorem dg4_s_e (n : Int) (hc : 0 ≤ n ∧ n < 100000) : dg4_s [.int .i64 n] = some (0, [.str (Lib.decDigits n.toNat)]) := if_pos hc
def dg4_t : Tr := .lt 8 (.bin .lss) [h 0 3, .int .i64 (10)] <| .br 1 (.lt 3 (.bin .add) [.int .i64 (48), h 0 3] <| .lt 4 (.conv .u8) [h 2 3] <| .lt 9 (.mks) [h 3 4] <| .ret [h 4 9]) (.lt 3 (.bin .quo) [h 0 3, .int .i64 (10)] <| .fn dg3_s [h 2 3] 1 <| .lt 3 (.bin .rem) [h 0 3, .int .i64 (10)] <| .fn dg3_s [h 4 3] 1 <| .lt 9 (.bin .add) [h 3 9, h 5 9] <| .ret [h 6 9])
theorem dg4_c {G : Nat → Option Obj} (hst : StartOk Tryd.prog G gl H0 n0) : ConOk Tryd.prog G 20 [.s 3] dg4_s [.s 9] := by
  refine con_of_tree (C := cx U_dg4 P_rwl) (d := 60) dg4_t (cxg (U_dg4_ok hst) (P_rwl_ok hst)) hst ⟨Tryd.f20, _, Tryd.func20, rfl⟩ (by kernel_rfl) (by kernel_rfl) ?_
  intro us outs hs
  unfold dg4_s at hs
  split at hs
  · skip
    rename_i n
    split at hs
    · rename_i hc
      cases hs
      have hq := dig_len (n := n / 10) (by omega) (by omega)
      have hr := dig_len (n := n % 10) (by omega) (by omega)
      unfold dg4_t
      refine sat_lt [_, _] (ev_lss _ _ _) ⟨by decide, rfl⟩ rfl ?_
      first | refine sat_br rfl (fun g0 => ?_) (fun g0 => ?_) | refine sat_brB rfl (fun g0 => ?_) (fun g0 => ?_)
      · skip
        first | refine sat_lt [_, _, _] (ev_addW (wrap64 (by omega) (by omega))) ⟨by decide, rfl⟩ rfl ?_ | refine sat_lt [_, _, _] (ev_add _ _ _) ⟨by decide, rfl⟩ rfl ?_
        first | refine sat_lt [_, _, _, _] (ev_convW (wrap8 (by omega) (by omega))) ⟨by decide, rfl⟩ rfl ?_ | refine sat_lt [_, _, _, _] (ev_conv _ _ _) ⟨by decide, rfl⟩ rfl ?_
        refine sat_lt [_, _, _, _, _] (ev_mks [_] (by simp only [List.mem_cons, List.not_mem_nil, or_false, forall_eq_or_imp, forall_eq]; omega)) ⟨by decide, rfl⟩ rfl ?_
        refine sat_ret [.str _] rfl ?_
        first | (rw [dig1 hc.1 g0]; rfl) | (rw [dig2 hc.1 g0]; rfl) | (rw [dig2 hc.1 g0]) | (exfalso; omega)
      · skip
        first | refine sat_lt [_, _, _] (ev_quoW (by omega) (by omega) (wrap64 (by omega) (by omega))) ⟨by decide, rfl⟩ rfl ?_ | refine sat_lt [_, _, _] (ev_quo _ _ _ (by omega)) ⟨by decide, rfl⟩ rfl ?_
        refine sat_fn [_, _, _, _] (dg3_s_e _ (by omega)) rfl rfl ?_
        first | refine sat_lt [_, _, _, _, _] (ev_remW (by omega) (by omega)) ⟨by decide, rfl⟩ rfl ?_ | refine sat_lt [_, _, _, _, _] (ev_rem _ _ _ (by omega)) ⟨by decide, rfl⟩ rfl ?_
        refine sat_fn [_, _, _, _, _, _] (dg3_s_e _ (by omega)) rfl rfl ?_
        refine sat_lt [_, _, _, _, _, _, _] (ev_cat _ _ (by omega)) ⟨by decide, rfl⟩ rfl ?_
        refine sat_ret [.str _] rfl ?_
        first | (rw [dig1 hc.1 g0]; rfl) | (rw [dig2 hc.1 g0]; rfl) | (rw [dig2 hc.1 g0]) | (exfalso; omega)
    · cases hs
  · cases hs
noncomputable def L_dg4 : List (FuncId × FnC) := (20, conF Tryd.prog [.s 3] dg4_s [.s 9]) :: L_dg3
theorem L_dg4_ok {G : Nat → Option Obj} (hst : StartOk Tryd.prog G gl H0 n0) : ConsOk Tryd.prog G gl L_dg4 := .cons (dg4_c hst) (L_dg3_ok hst)
noncomputable def U_dg5 : List (FuncId × FnC) := (20, conF Tryd.prog [.s 3] dg4_s [.s 9]) :: L0
theorem U_dg5_ok {G : Nat → Option Obj} (hst : StartOk Tryd.prog G gl H0 n0) : ConsOk Tryd.prog G gl U_dg5 := (.cons (dg4_c hst) .nil)
def dg5_s : List U → Option (Nat × List U)
  | [.int .i64 n] => if 0 ≤ n ∧ n < 1000000 then some (0, [.str (Lib.decDigits n.toNat)]) else none
  | _ => none
theorem dg5_s_e (n : Int) (hc : 0 ≤ n ∧ n < 1000000) : dg5_s [.int .i64 n] = some (0, [.str (Lib.decDigits n.toNat)]) := if_pos hc
def dg5_t : Tr := .lt 8 (.bin .lss) [h 0 3, .int .i64 (10)] <| .br 1 (.lt 3 (.bin .add) [.int .i64 (48), h 0 3] <| .lt 4 (.conv .u8) [h 2 3] <| .lt 9 (.mks) [h 3 4] <| .ret [h 4 9]) (.lt 3 (.bin .quo) [h 0 3, .int .i64 (10)] <| .fn dg4_s [h 2 3] 1 <| .lt 3 (.bin .rem) [h 0 3, .int .i64 (10)] <| .fn dg4_s [h 4 3] 1 <| .lt 9 (.bin .add) [h 3 9, h 5 9] <| .ret [h 6 9])
theorem dg5_c {G : Nat → Option Obj} (hst : StartOk Tryd.prog G gl H0 n0) : ConOk Tryd.prog G 20 [.s 3] dg5_s [.s 9] := by
  refine con_of_tree (C := cx U_dg5 P_rwl) (d := 60) dg5_t (cxg (U_dg5_ok hst) (P_rwl_ok hst)) hst ⟨Tryd.f20, _, Tryd.func20, rfl⟩ (by kernel_rfl) (by kernel_rfl) ?_
  intro us outs hs
  unfold dg5_s at hs
  split at hs
  · skip
    rename_i n
    split at hs
    · rename_i hc
      cases hs
      have hq := dig_len (n := n / 10) (by omega) (by omega)
      have hr := dig_len (n := n % 10) (by omega) (by omega)
      unfold dg5_t
      refine sat_lt [_, _] (ev_lss _ _ _) ⟨by decide, rfl⟩ rfl ?_
      first | refine sat_br rfl (fun g0 => ?_) (fun g0 => ?_) | refine sat_brB rfl (fun g0 => ?_) (fun g0 => ?_)
      · skip
        first | refine sat_lt [_, _, _] (ev_addW (wrap64 (by omega) (by omega))) ⟨by decide, rfl⟩ rfl ?_ | refine sat_lt [_, _, _] (ev_add _ _ _) ⟨by decide, rfl⟩ rfl ?_
        first | refine sat_lt [_, _, _, _] (ev_convW (wrap8 (by omega) (by omega))) ⟨by decide, rfl⟩ rfl ?_ | refine sat_lt [_, _, _, _] (ev_conv _ _ _) ⟨by decide, rfl⟩ rfl ?_
        refine sat_lt [_, _, _, _, _] (ev_mks [_] (by simp only [List.mem_cons, List.not_mem_nil, or_false, forall_eq_or_imp, forall_eq]; omega)) ⟨by decide, rfl⟩ rfl ?_
        refine sat_ret [.str _] rfl ?_
        first | (rw [dig1 hc.1 g0]; rfl) | (rw [dig2 hc.1 g0]; rfl) | (rw [dig2 hc.1 g0]) | (exfalso; omega)
      · skip
        first | refine sat_lt [_, _, _] (ev_quoW (by omega) (by omega) (wrap64 (by omega) (by omega))) ⟨by decide, rfl⟩ rfl ?_ | refine sat_lt [_, _, _] (ev_quo _ _ _ (by omega)) ⟨by decide, rfl⟩ rfl ?_
        refine sat_fn [_, _, _, _] (dg4_s_e _ (by omega)) rfl rfl ?_
        first | refine sat_lt [_, _, _, _, _] (ev_remW (by omega) (by omega)) ⟨by decide, rfl⟩ rfl ?_ | refine sat_lt [_, _, _, _, _] (ev_rem _ _ _ (by omega)) ⟨by decide, rfl⟩ rfl ?_
        refine sat_fn [_, _, _, _, _, _] (dg4_s_e _ (by omega)) rfl rfl ?_
        refine sat_lt [_, _, _, _, _, _, _] (ev_cat _ _ (by omega)) ⟨by decide, rfl⟩ rfl ?_
        refine sat_ret [.str _] rfl ?_
        first | (rw [dig1 hc.1 g0]; rfl) | (rw [dig2 hc.1 g0]; rfl) | (rw [dig2 hc.1 g0]) | (exfalso; omega)
    · cases hs
  · cases hs
noncomputable def L_dg5 : List (FuncId × FnC) := (20, conF Tryd.prog [.s 3] dg5_s [.s 9]) :: L_dg4
theorem L_dg5_ok {G : Nat → Option Obj} (hst : StartOk Tryd.prog G gl H0 n0) : ConsOk Tryd.prog G gl L_dg5 := .cons (dg5_c hst) (L_dg4_ok hst)
noncomputable def U_dg6 : List (FuncId × FnC) := (20, conF Tryd.prog [.s 3] dg5_s [.s 9]) :: L0
theorem U_dg6_ok {G : Nat → Option Obj} (hst : StartOk Tryd.prog G gl H0 n0) : ConsOk Tryd.prog G gl U_dg6 := (.cons (dg5_c hst) .nil)
def dg6_s : List U → Option (Nat × List U)
  | [.int .i64 n] => if 0 ≤ n ∧ n < 10000000 then some (0, [.str (Lib.decDigits n.toNat)]) else none
  | _ => none
theorem dg6_s_e (n : Int) (hc : 0 ≤ n ∧ n < 10000000) : dg6_s [.int .i64 n] = some (0, [.str (Lib.decDigits n.toNat)]) := if_pos hc
def dg6_t : Tr := .lt 8 (.bin .lss) [h 0 3, .int .i64 (10)] <| .br 1 (.lt 3 (.bin .add) [.int .i64 (48), h 0 3] <| .lt 4 (.conv .u8) [h 2 3] <| .lt 9 (.mks) [h 3 4] <| .ret [h 4 9]) (.lt 3 (.bin .quo) [h 0 3, .int .i64 (10)] <| .fn dg5_s [h 2 3] 1 <| .lt 3 (.bin .rem) [h 0 3, .int .i64 (10)] <| .fn dg5_s [h 4 3] 1 <| .lt 9 (.bin .add) [h 3 9, h 5 9] <| .ret [h 6 9])
theorem dg6_c {G : Nat → Option Obj} (hst : StartOk Tryd.prog G gl H0 n0) : ConOk Tryd.prog G 20 [.s 3] dg6_s [.s 9] := by
  refine con_of_tree (C := cx U_dg6 P_rwl) (d := 60) dg6_t (cxg (U_dg6_ok hst) (P_rwl_ok hst)) hst ⟨Tryd.f20, _, Tryd.func20, rfl⟩ (by kernel_rfl) (by kernel_rfl) ?_
  intro us outs hs
  unfold dg6_s at hs
  split at hs
  · skip
    rename_i n
    split at hs
    · rename_i hc
      cases hs
      have hq := dig_len (n := n / 10) (by omega) (by omega)
      have hr := dig_len (n := n % 10) (by omega) (by omega)
      unfold dg6_t
      refine sat_lt [_, _] (ev_lss _ _ _) ⟨by decide, rfl⟩ rfl ?_
      first | refine sat_br rfl (fun g0 => ?_) (fun g0 => ?_) | refine sat_brB rfl (fun g0 => ?_) (fun g0 => ?_)
      · skip
        first | refine sat_lt [_, _, _] (ev_addW (wrap64 (by omega) (by omega))) ⟨by decide, rfl⟩ rfl ?_ | refine sat_lt [_, _, _] (ev_add _ _ _) ⟨by decide, rfl⟩ rfl ?_
        first | refine sat_lt [_, _, _, _] (ev_convW (wrap8 (by omega) (by omega))) ⟨by decide, rfl⟩ rfl ?_ | refine sat_lt [_, _, _, _] (ev_conv _ _ _) ⟨by decide, rfl⟩ rfl ?_
        refine sat_lt [_, _, _, _, _] (ev_mks [_] (by simp only [List.mem_cons, List.not_mem_nil, or_false, forall_eq_or_imp, forall_eq]; omega)) ⟨by decide, rfl⟩ rfl ?_
        refine sat_ret [.str _] rfl ?_
        first | (rw [dig1 hc.1 g0]; rfl) | (rw [dig2 hc.1 g0]; rfl) | (rw [dig2 hc.1 g0]) | (exfalso; omega)
      · skip
        first | refine sat_lt [_, _, _] (ev_quoW (by omega) (by omega) (wrap64 (by omega) (by omega))) ⟨by decide, rfl⟩ rfl ?_ | refine sat_lt [_, _, _] (ev_quo _ _ _ (by omega)) ⟨by decide, rfl⟩ rfl ?_
        refine sat_fn [_, _, _, _] (dg5_s_e _ (by omega)) rfl rfl ?_
        first | refine sat_lt [_, _, _, _, _] (ev_remW (by omega) (by omega)) ⟨by decide, rfl⟩ rfl ?_ | refine sat_lt [_, _, _, _, _] (ev_rem _ _ _ (by omega)) ⟨by decide, rfl⟩ rfl ?_
        refine sat_fn [_, _, _, _, _, _] (dg5_s_e _ (by omega)) rfl rfl ?_
        refine sat_lt [_, _, _, _, _, _, _] (ev_cat _ _ (by omega)) ⟨by decide, rfl⟩ rfl ?_
        refine sat_ret [.str _] rfl ?_
        first | (rw [dig1 hc.1 g0]; rfl) | (rw [dig2 hc.1 g0]; rfl) | (rw [dig2 hc.1 g0]) | (exfalso; omega)
    · cases hs
  · cases hs
noncomputable def L_dg6 : List (FuncId × FnC) := (20, conF Tryd.prog [.s 3] dg6_s [.s 9]) :: L_dg5
theorem L_dg6_ok {G : Nat → Option Obj} (hst : StartOk Tryd.prog G gl H0 n0) : ConsOk Tryd.prog G gl L_dg6 := .cons (dg6_c hst) (L_dg5_ok hst)
noncomputable def U_dg7 : List (FuncId × FnC) := (20, conF Tryd.prog [.s 3] dg6_s [.s 9]) :: L0
theorem U_dg7_ok {G : Nat → Option Obj} (hst : StartOk Tryd.prog G gl H0 n0) : ConsOk Tryd.prog G gl U_dg7 := (.cons (dg6_c hst) .nil)
def dg7_s : List U → Option (Nat × List U)
  | [.int .i64 n] => if 0 ≤ n ∧ n < 100000000 then some (0, [.str (Lib.decDigits n.toNat)]) else none
  | _ => none
theorem dg7_s_e (n : Int) (hc : 0 ≤ n ∧ n < 100000000) : dg7_s [.int .i64 n] = some (0, [.str (Lib.decDigits n.toNat)]) := if_pos hc
def dg7_t : Tr := .lt 8 (.bin .lss) [h 0 3, .int .i64 (10)] <| .br 1 (.lt 3 (.bin .add) [.int .i64 (48), h 0 3] <| .lt 4 (.conv .u8) [h 2 3] <| .lt 9 (.mks) [h 3 4] <| .ret [h 4 9]) (.lt 3 (.bin .quo) [h 0 3, .int .i64 (10)] <| .fn dg6_s [h 2 3] 1 <| .lt 3 (.bin .rem) [h 0 3, .int .i64 (10)] <| .fn dg6_s [h 4 3] 1 <| .lt 9 (.bin .add) [h 3 9, h 5 9] <| .ret [h 6 9])
theorem dg7_c {G : Nat → Option Obj} (hst : StartOk Tryd.prog G gl H0 n0) : ConOk Tryd.prog G 20 [.s 3] dg7_s [.s 9] := by
  refine con_of_tree (C := cx U_dg7 P_rwl) (d := 60) dg7_t (cxg (U_dg7_ok hst) (P_rwl_ok hst)) hst ⟨Tryd.f20, _, Tryd.func20, rfl⟩ (by kernel_rfl) (by kernel_rfl) ?_
  intro us outs hs
  unfold dg7_s at hs
  split at hs
  · skip
    rename_i n
    split at hs
    · rename_i hc
      cases hs
      have hq := dig_len (n := n / 10) (by omega) (by omega)
      have hr := dig_len (n := n % 10) (by omega) (by omega)
      unfold dg7_t
      refine sat_lt [_, _] (ev_lss _ _ _) ⟨by decide, rfl⟩ rfl ?_
      first | refine sat_br rfl (fun g0 => ?_) (fun g0 => ?_) | refine sat_brB rfl (fun g0 => ?_) (fun g0 => ?_)
      · skip
        first | refine sat_lt [_, _, _] (ev_addW (wrap64 (by omega) (by omega))) ⟨by decide, rfl⟩ rfl ?_ | refine sat_lt [_, _, _] (ev_add _ _ _) ⟨by decide, rfl⟩ rfl ?_
        first | refine sat_lt [_, _, _, _] (ev_convW (wrap8 (by omega) (by omega))) ⟨by decide, rfl⟩ rfl ?_ | refine sat_lt [_, _, _, _] (ev_conv _ _ _) ⟨by decide, rfl⟩ rfl ?_
        refine sat_lt [_, _, _, _, _] (ev_mks [_] (by simp only [List.mem_cons, List.not_mem_nil, or_false, forall_eq_or_imp, forall_eq]; omega)) ⟨by decide, rfl⟩ rfl ?_
        refine sat_ret [.str _] rfl ?_
        first | (rw [dig1 hc.1 g0]; rfl) | (rw [dig2 hc.1 g0]; rfl) | (rw [dig2 hc.1 g0]) | (exfalso; omega)
      · skip
        first | refine sat_lt [_, _, _] (ev_quoW (by omega) (by omega) (wrap64 (by omega) (by omega))) ⟨by decide, rfl⟩ rfl ?_ | refine sat_lt [_, _, _] (ev_quo _ _ _ (by omega)) ⟨by decide, rfl⟩ rfl ?_
        refine sat_fn [_, _, _, _] (dg6_s_e _ (by omega)) rfl rfl ?_
        first | refine sat_lt [_, _, _, _, _] (ev_remW (by omega) (by omega)) ⟨by decide, rfl⟩ rfl ?_ | refine sat_lt [_, _, _, _, _] (ev_rem _ _ _ (by omega)) ⟨by decide, rfl⟩ rfl ?_
        refine sat_fn [_, _, _, _, _, _] (dg6_s_e _ (by omega)) rfl rfl ?_
        refine sat_lt [_, _, _, _, _, _, _] (ev_cat _ _ (by omega)) ⟨by decide, rfl⟩ rfl ?_
        refine sat_ret [.str _] rfl ?_
        first | (rw [dig1 hc.1 g0]; rfl) | (rw [dig2 hc.1 g0]; rfl) | (rw [dig2 hc.1 g0]) | (exfalso; omega)
    · cases hs
  · cases hs
noncomputable def L_dg7 : List (FuncId × FnC) := (20, conF Tryd.prog [.s 3] dg7_s [.s 9]) :: L_dg6
theorem L_dg7_ok {G : Nat → Option Obj} (hst : StartOk Tryd.prog G gl H0 n0) : ConsOk Tryd.prog G gl L_dg7 := .cons (dg7_c hst) (L_dg6_ok hst)
noncomputable def U_dg8 : List (FuncId × FnC) := (20, conF Tryd.prog [.s 3] dg7_s [.s 9]) :: L0
theorem U_dg8_ok {G : Nat → Option Obj} (hst : StartOk Tryd.prog G gl H0 n0) : ConsOk Tryd.prog G gl U_dg8 := (.cons (dg7_c hst) .nil)
def dg8_s : List U → Option (Nat × List U)
  | [.int .i64 n] => if 0 ≤ n ∧ n < 1000000000 then some (0, [.str (Lib.decDigits n.toNat)]) else none
  | _ => none
theorem dg8_s_e (n : Int) (hc : 0 ≤ n ∧ n < 1000000000) : dg8_s [.int .i64 n] = some (0, [.str (Lib.decDigits n.toNat)]) := if_pos hc
def dg8_t : Tr := .lt 8 (.bin .lss) [h 0 3, .int .i64 (10)] <| .br 1 (.lt 3 (.bin .add) [.int .i64 (48), h 0 3] <| .lt 4 (.conv .u8) [h 2 3] <| .lt 9 (.mks) [h 3 4] <| .ret [h 4 9]) (.lt 3 (.bin .quo) [h 0 3, .int .i64 (10)] <| .fn dg7_s [h 2 3] 1 <| .lt 3 (.bin .rem) [h 0 3, .int .i64 (10)] <| .fn dg7_s [h 4 3] 1 <| .lt 9 (.bin .add) [h 3 9, h 5 9] <| .ret [h 6 9])
theorem dg8_c {G : Nat → Option Obj} (hst : StartOk Tryd.prog G gl H0 n0) : ConOk Tryd.prog G 20 [.s 3] dg8_s [.s 9] := by
  refine con_of_tree (C := cx U_dg8 P_rwl) (d := 60) dg8_t (cxg (U_dg8_ok hst) (P_rwl_ok hst)) hst ⟨Tryd.f20, _, Tryd.func20, rfl⟩ (by kernel_rfl) (by kernel_rfl) ?_
  intro us outs hs
  unfold dg8_s at hs
  split at hs
  · skip
    rename_i n
    split at hs
    · rename_i hc
      cases hs
      have hq := dig_len (n := n / 10) (by omega) (by omega)
      have hr := dig_len (n := n % 10) (by omega) (by omega)
      unfold dg8_t
      refine sat_lt [_, _] (ev_lss _ _ _) ⟨by decide, rfl⟩ rfl ?_
      first | refine sat_br rfl (fun g0 => ?_) (fun g0 => ?_) | refine sat_brB rfl (fun g0 => ?_) (fun g0 => ?_)
      · skip
        first | refine sat_lt [_, _, _] (ev_addW (wrap64 (by omega) (by omega))) ⟨by decide, rfl⟩ rfl ?_ | refine sat_lt [_, _, _] (ev_add _ _ _) ⟨by decide, rfl⟩ rfl ?_
        first | refine sat_lt [_, _, _, _] (ev_convW (wrap8 (by omega) (by omega))) ⟨by decide, rfl⟩ rfl ?_ | refine sat_lt [_, _, _, _] (ev_conv _ _ _) ⟨by decide, rfl⟩ rfl ?_
        refine sat_lt [_, _, _, _, _] (ev_mks [_] (by simp only [List.mem_cons, List.not_mem_nil, or_false, forall_eq_or_imp, forall_eq]; omega)) ⟨by decide, rfl⟩ rfl ?_
        refine sat_ret [.str _] rfl ?_
        first | (rw [dig1 hc.1 g0]; rfl) | (rw [dig2 hc.1 g0]; rfl) | (rw [dig2 hc.1 g0]) | (exfalso; omega)
      · skip
        first | refine sat_lt [_, _, _] (ev_quoW (by omega) (by omega) (wrap64 (by omega) (by omega))) ⟨by decide, rfl⟩ rfl ?_ | refine sat_lt [_, _, _] (ev_quo _ _ _ (by omega)) ⟨by decide, rfl⟩ rfl ?_
        refine sat_fn [_, _, _, _] (dg7_s_e _ (by omega)) rfl rfl ?_
        first | refine sat_lt [_, _, _, _, _] (ev_remW (by omega) (by omega)) ⟨by decide, rfl⟩ rfl ?_ | refine sat_lt [_, _, _, _, _] (ev_rem _ _ _ (by omega)) ⟨by decide, rfl⟩ rfl ?_
        refine sat_fn [_, _, _, _, _, _] (dg7_s_e _ (by omega)) rfl rfl ?_
        refine sat_lt [_, _, _, _, _, _, _] (ev_cat _ _ (by omega)) ⟨by decide, rfl⟩ rfl ?_
        refine sat_ret [.str _] rfl ?_
        first | (rw [dig1 hc.1 g0]; rfl) | (rw [dig2 hc.1 g0]; rfl) | (rw [dig2 hc.1 g0]) | (exfalso; omega)
    · cases hs
  · cases hs
noncomputable def L_dg8 : List (FuncId × FnC) := (20, conF Tryd.prog [.s 3] dg8_s [.s 9]) :: L_dg7
theorem L_dg8_ok {G : Nat → Option Obj} (hst : StartOk Tryd.prog G gl H0 n0) : ConsOk Tryd.prog G gl L_dg8 := .cons (dg8_c hst) (L_dg7_ok hst)
noncomputable def U_dg9 : List (FuncId × FnC) := (20, conF Tryd.prog [.s 3] dg8_s [.s 9]) :: L0
theorem U_dg9_ok {G : Nat → Option Obj} (hst : StartOk Tryd.prog G gl H0 n0) : ConsOk Tryd.prog G gl U_dg9 := (.cons (dg8_c hst) .nil)
def dg9_s : List U → Option (Nat × List U)
  | [.int .i64 n] => if 0 ≤ n ∧ n < 10000000000 then some (0, [.str (Lib.decDigits n.toNat)]) else none
  | _ => none
theorem dg9_s_e (n : Int) (hc : 0 ≤ n ∧ n < 10000000000) : dg9_s [.int .i64 n] = some (0, [.str (Lib.decDigits n.toNat)]) := if_pos hc
def dg9_t : Tr := .lt 8 (.bin .lss) [h 0 3, .int .i64 (10)] <| .br 1 (.lt 3 (.bin .add) [.int .i64 (48), h 0 3] <| .lt 4 (.conv .u8) [h 2 3] <| .lt 9 (.mks) [h 3 4] <| .ret [h 4 9]) (.lt 3 (.bin .quo) [h 0 3, .int .i64 (10)] <| .fn dg8_s [h 2 3] 1 <| .lt 3 (.bin .rem) [h 0 3, .int .i64 (10)] <| .fn dg8_s [h 4 3] 1 <| .lt 9 (.bin .add) [h 3 9, h 5 9] <| .ret [h 6 9])
theorem dg9_c {G : Nat → Option Obj} (hst : StartOk Tryd.prog G gl H0 n0) : ConOk Tryd.prog G 20 [.s 3] dg9_s [.s 9] := by
  refine con_of_tree (C := cx U_dg9 P_rwl) (d := 60) dg9_t (cxg (U_dg9_ok hst) (P_rwl_ok hst)) hst ⟨Tryd.f20, _, Tryd.func20, rfl⟩ (by kernel_rfl) (by kernel_rfl) ?_
  intro us outs hs
  unfold dg9_s at hs
  split at hs
  · skip
    rename_i n
    split at hs
    · rename_i hc
      cases hs
      have hq := dig_len (n := n / 10) (by omega) (by omega)
      have hr := dig_len (n := n % 10) (by omega) (by omega)
      unfold dg9_t
      refine sat_lt [_, _] (ev_lss _ _ _) ⟨by decide, rfl⟩ rfl ?_
      first | refine sat_br rfl (fun g0 => ?_) (fun g0 => ?_) | refine sat_brB rfl (fun g0 => ?_) (fun g0 => ?_)
      · skip
        first | refine sat_lt [_, _, _] (ev_addW (wrap64 (by omega) (by omega))) ⟨by decide, rfl⟩ rfl ?_ | refine sat_lt [_, _, _] (ev_add _ _ _) ⟨by decide, rfl⟩ rfl ?_
        first | refine sat_lt [_, _, _, _] (ev_convW (wrap8 (by omega) (by omega))) ⟨by decide, rfl⟩ rfl ?_ | refine sat_lt [_, _, _, _] (ev_conv _ _ _) ⟨by decide, rfl⟩ rfl ?_
        refine sat_lt [_, _, _, _, _] (ev_mks [_] (by simp only [List.mem_cons, List.not_mem_nil, or_false, forall_eq_or_imp, forall_eq]; omega)) ⟨by decide, rfl⟩ rfl ?_
        refine sat_ret [.str _] rfl ?_
        first | (rw [dig1 hc.1 g0]; rfl) | (rw [dig2 hc.1 g0]; rfl) | (rw [dig2 hc.1 g0]) | (exfalso; omega)
      · skip
        first | refine sat_lt [_, _, _] (ev_quoW (by omega) (by omega) (wrap64 (by omega) (by omega))) ⟨by decide, rfl⟩ rfl ?_ | refine sat_lt [_, _, _] (ev_quo _ _ _ (by omega)) ⟨by decide, rfl⟩ rfl ?_
        refine sat_fn [_, _, _, _] (dg8_s_e _ (by omega)) rfl rfl ?_
        first | refine sat_lt [_, _, _, _, _] (ev_remW (by omega) (by omega)) ⟨by decide, rfl⟩ rfl ?_ | refine sat_lt [_, _, _, _, _] (ev_rem _ _ _ (by omega)) ⟨by decide, rfl⟩ rfl ?_
        refine sat_fn [_, _, _, _, _, _] (dg8_s_e _ (by omega)) rfl rfl ?_
        refine sat_lt [_, _, _, _, _, _, _] (ev_cat _ _ (by omega)) ⟨by decide, rfl⟩ rfl ?_
        refine sat_ret [.str _] rfl ?_
        first | (rw [dig1 hc.1 g0]; rfl) | (rw [dig2 hc.1 g0]; rfl) | (rw [dig2 hc.1 g0]) | (exfalso; omega)
    · cases hs
  · cases hs
noncomputable def L_dg9 : List (FuncId × FnC) := (20, conF Tryd.prog [.s 3] dg9_s [.s 9]) :: L_dg8
theorem L_dg9_ok {G : Nat → Option Obj} (hst : StartOk Tryd.prog G gl H0 n0) : ConsOk Tryd.prog G gl L_dg9 := .cons (dg9_c hst) (L_dg8_ok hst)
end Go.Proofs.YtadmkfclgpbebaaDoor

namespace Go.Proofs.YtadmkfclgpbebaaDoor
set_option linter.all false
open Go Go.Sx
def Rd (M : List (List Int)) (s : List UInt8) (M2 : List (List Int)) : Prop := parE (stOf M) s = none ∧ parL (stOf M) s = stOf M2
theorem Rd.nil (M : List (List Int)) : Rd M [] M := ⟨rfl, rfl⟩
theorem Rd.app {A B C : List (List Int)} {s t : List UInt8} (h : Rd A s B) (k : Rd B t C) : Rd A (s ++ t) C := ⟨by rw [parE_app, h.1, h.2]; exact k.1, by rw [parL_app, h.2]; exact k.2⟩
theorem Rd.cons {A B C : List (List Int)} {b : UInt8} {t : List UInt8} (h : Rd A [b] B) (k : Rd B t C) : Rd A (b :: t) C := Rd.app h k
theorem read_dig {F : List (List Int)} {p : List Int} {m : Int} (h : OkM (F ++ [p ++ [m]])) {d : Nat} (hd : d < 10) : Rd (F ++ [p ++ [m]]) [UInt8.ofNat (48 + d)] (F ++ [p ++ [digV m (48 + d)]]) := by
  have hs := step_dig (c := 48 + (d : Int)) h ⟨by omega, by omega⟩
  have hv : digV m (48 + d) ≠ -1 := by unfold digV; omega
  refine ⟨?_, ?_⟩
  · rw [parE_no (by rw [digit_nat d hd, hs]; exact fun h => h rfl)]; rfl
  · rw [parL_c, digit_nat d hd, hs, st_some (ne_m1 hv)]; rfl
theorem read_zeros {F : List (List Int)} {p : List Int} : ∀ (z : Nat) (m : Int), m = -1 ∨ m = 0 → OkM (F ++ [p ++ [m]]) → ∃ m2, (m2 = -1 ∨ m2 = 0) ∧ Rd (F ++ [p ++ [m]]) (List.replicate z 48) (F ++ [p ++ [m2]]) ∧ OkM (F ++ [p ++ [m2]])
  | 0, m, hm, h => ⟨m, hm, Rd.nil _, h⟩
  | z + 1, m, hm, h => by
    have h1 := read_dig h (d := 0) (by decide)
    have e : digV m (48 + ((0 : Nat) : Int)) = 0 := by unfold digV; omega
    rw [e] at h1
    obtain ⟨m2, a, b, c⟩ := read_zeros z 0 (.inr rfl) (OkM.set h (m := 0) ⟨by omega, by omega⟩)
    exact ⟨m2, a, Rd.cons h1 b, c⟩
theorem read_num {F : List (List Int)} {p : List Int} {m : Int} (hm : m = -1 ∨ m = 0) (h : OkM (F ++ [p ++ [m]])) : ∀ (u : Nat), Rd (F ++ [p ++ [m]]) (Lib.decDigits u) (F ++ [p ++ [min (u : Int) 9999]]) := by
  intro u
  induction u using Nat.strongRecOn with
  | _ u ih =>
    by_cases hs : u < 10
    · rw [Lib.decDigits_one hs]
      have h1 := read_dig h hs
      have e : digV m (48 + (u : Int)) = min (u : Int) 9999 := by unfold digV; omega
      rw [e] at h1
      exact h1
    · have h1 := ih (u / 10) (by omega)
      have hok := OkM.set h (m := min ((u / 10 : Nat) : Int) 9999) ⟨by omega, by omega⟩
      have h2 := read_dig hok (d := u % 10) (by omega)
      have e : digV (min ((u / 10 : Nat) : Int) 9999) (48 + ((u % 10 : Nat) : Int)) = min (u : Int) 9999 := by unfold digV; omega
      rw [e] at h2
      rw [show Lib.decDigits u = Lib.decDigits (u / 10) ++ [UInt8.ofNat (48 + u % 10)] by rw [Lib.decDigits, dif_neg hs]]
      exact h1.app h2
theorem read_colon {F : List (List Int)} {p : List Int} (h : OkM (F ++ [p])) (hl : p.length < 6) (hp : p ≠ []) : Rd (F ++ [p]) [58] (F ++ [p ++ [-1]]) := by
  have hs := step_colon h hl
  have h58 : ((58 : UInt8).toNat : Int) = 58 := rfl
  have hst : (some ((F ++ [p ++ [-1]]).map some) : Rws) = stOf (F ++ [p ++ [-1]]) := (st_some fun e => by
    cases F with
    | nil => cases p with
      | nil => exact hp rfl
      | cons a q => cases q <;> simp at e
    | cons a F => cases F <;> simp at e).symm
  refine ⟨?_, ?_⟩
  · rw [parE_no (by rw [h58, hs]; exact fun h => h rfl)]; rfl
  · rw [parL_c, h58, hs, hst]; rfl
theorem OkM.last {F : List (List Int)} {p q : List Int} (h : OkM (F ++ [p])) (h1 : 1 ≤ q.length ∧ q.length ≤ 6) (h2 : ∀ n ∈ q, -1 ≤ n ∧ n ≤ 9999) : OkM (F ++ [q]) := by
  have hl := h.len
  simp at hl
  exact h.left.snoc (by omega) h1 h2
theorem read_colons {F : List (List Int)} : ∀ (k : Nat) (p : List Int), k + p.length ≤ 6 → p ≠ [] → OkM (F ++ [p]) → Rd (F ++ [p]) (List.replicate k 58) (F ++ [p ++ List.replicate k (-1)]) ∧ OkM (F ++ [p ++ List.replicate k (-1)])
  | 0, p, _, _, h => by simpa using ⟨Rd.nil _, h⟩
  | k + 1, p, hl, hp, h => by
    have h1 := read_colon h (by omega) hp
    have hn := h.num p (List.mem_append_right _ (List.mem_singleton.2 rfl))
    have hok : OkM (F ++ [p ++ [-1]]) := h.last (by simp; omega) fun n hn2 => by
      rcases List.mem_append.1 hn2 with h3 | h3
      · exact hn n h3
      · rw [List.mem_singleton.1 h3]; omega
    obtain ⟨a, b⟩ := read_colons k (p ++ [-1]) (by simp; omega) (by simp) hok
    have e : p ++ [-1] ++ List.replicate k (-1) = p ++ List.replicate (k + 1) (-1) := by rw [List.append_assoc]; rfl
    rw [e] at a b
    exact ⟨h1.cons a, b⟩
theorem rep_one (b : UInt8) (k : Nat) : Lib.repeatL [b] k = List.replicate k b := by
  induction k with
  | zero => rfl
  | succ k ih => rw [List.replicate_succ, ← ih]; first | rfl | (rw [Lib.repeatL_succ]; rfl)
def numT (k z : Nat) (n : Int) : List UInt8 := Lib.repeatL [58] k ++ Lib.repeatL [48] z ++ Lib.decDigits n.toNat
def numR (k : Nat) (n : Int) : List Int := List.replicate k (-1) ++ [min n 9999]
theorem rep_snoc (k : Nat) : ([-1] : List Int) ++ List.replicate k (-1) = List.replicate k (-1) ++ [-1] := by
  rw [show ([-1] : List Int) ++ List.replicate k (-1) = List.replicate (k + 1) (-1) from rfl, List.replicate_succ']
theorem read_half {F : List (List Int)} {k z : Nat} {n : Int} (hk : k ≤ 5) (hn : 0 ≤ n) (h : OkM (F ++ [[-1]])) : Rd (F ++ [[-1]]) (numT k z n) (F ++ [numR k n]) ∧ OkM (F ++ [numR k n]) := by
  obtain ⟨a, b⟩ := read_colons k [-1] (by simp; omega) (by simp) h
  rw [rep_snoc] at a b
  obtain ⟨m2, c, d, e⟩ := read_zeros z (-1) (.inl rfl) b
  have f := read_num c e n.toNat
  have e2 : min ((n.toNat : Nat) : Int) 9999 = min n 9999 := by omega
  rw [e2] at f
  unfold numT numR
  rw [rep_one, rep_one]
  refine ⟨(a.app d).app f, OkM.set e ⟨by omega, by omega⟩⟩
theorem read_both {k z : Nat} {n : Int} (hk : k ≤ 5) (hn : 0 ≤ n) (hl : (numT k z n ++ [59] ++ numT k z n).length ≤ 4096) : parseS (numT k z n ++ [59] ++ numT k z n) = (some [some (numR k n), some (numR k n)], 0) := by
  have h0 : OkM ([] : List (List Int)) := ⟨Nat.zero_le _, (fun p hp => by cases hp), (fun p hp => by cases hp)⟩
  obtain ⟨a, b⟩ := read_half (z := z) hk hn (h0.snoc (p := [-1]) (by decide) ⟨Nat.le_refl 1, by decide⟩ m1_num)
  have hs := step_semi b (by simp) (by simp)
  rw [st_snoc1 (by simp)] at hs
  have h59 : ((59 : UInt8).toNat : Int) = 59 := rfl
  have c : Rd ([] ++ [numR k n]) [59] ([numR k n] ++ [[-1]]) := by
    refine ⟨?_, ?_⟩
    · rw [parE_no (by rw [h59, hs]; exact fun h => h rfl)]; rfl
    · rw [parL_c, h59, hs]; rfl
  obtain ⟨d, e⟩ := read_half (F := [numR k n]) (z := z) hk hn (b.snoc (p := [-1]) (by simp) ⟨Nat.le_refl 1, by decide⟩ m1_num)
  have f := (a.app c).app d
  unfold parseS
  rw [if_neg (by omega)]
  have g1 : parE none (numT k z n ++ [59] ++ numT k z n) = none := f.1
  have g2 : parL none (numT k z n ++ [59] ++ numT k z n) = stOf ([numR k n] ++ [numR k n]) := f.2
  rw [g1, g2, st_some (by simp)]
  rfl
theorem numT_len {k z : Nat} {n : Int} (hk : k ≤ 5) (hz : z ≤ 19) (hn : 0 ≤ n) (hn2 : n < 9999999999) : (numT k z n).length ≤ 64 := by
  unfold numT
  rw [rep_one, rep_one]
  have := dig_len hn hn2
  simp only [List.length_append, List.length_replicate]
  omega
end Go.Proofs.YtadmkfclgpbebaaDoor
