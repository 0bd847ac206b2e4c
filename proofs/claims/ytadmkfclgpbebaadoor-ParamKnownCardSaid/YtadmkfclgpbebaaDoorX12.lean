/- The law ParamKnown: for every input the call returns true, and the arguments read behind it as they read before. No condition. -/
import Derived.Test.YtadmkfclgpbebaaDoorX11
import Derived.Test.YtadmkfclgpbebaaDoorCards
import Derived.Test.YtadmkfclgpbebaaDoorTie
import Derived.WalkKit
import Derived.ProofKit
import Derived.OpenShut
import Derived.Below
import Derived.Carry
import Derived.Lib.SmallJoins
import Derived.Deep.DeepHandedRow
import Derived.Lib.LaidTab
import Derived.MakeChecks
namespace Go.Proofs.YtadmkfclgpbebaaDoor
set_option linter.all false
open Go Go.Sx
set_option maxRecDepth 100000
set_option linter.unusedVariables false
set_option linter.unusedSimpArgs false
set_option maxHeartbeats 10000000
def kno_s : List U → Option (Nat × List U)
  | [] => some (0, [.bool (true)])
  | _ => none
def kno_t : Tr := .fn rep_s [.string ⟨⟨[57, 57, 57, 57, 58, 49, 58, 50, 58, 51, 58, 52, 58, 53, 59]⟩⟩, .int .i64 (16)] 1 <| .lt 3 (.len) [h 0 9] <| .lt 3 (.bin .sub) [h 1 3, .int .i64 (1)] <| .lt 9 (.sub) [h 0 9, .int .i64 (0), h 2 3] <| .fn prso_s [h 3 9] 2 <| .lt 8 (.bin .eql) [h 5 3, .int .i64 (0)] <| .br 6 (.lt 3 (.len) [h 4 11] <| .lt 8 (.bin .eql) [h 7 3, .int .i64 (16)] <| .br 8 (.fn chk_s [h 4 11] 1 <| .lt 8 (.bin .eql) [h 9 3, .int .i64 (0)] <| .br 10 (.fn prso_s [h 0 9] 2 <| .lt 8 (.bin .eql) [h 12 3, .int .i64 (3)] <| .br 13 (.lt 3 (.len) [h 11 11] <| .lt 8 (.bin .eql) [h 14 3, .int .i64 (0)] <| .br 15 (.lt 9 (.bin .add) [h 0 9, .string ⟨⟨[97]⟩⟩] <| .fn prso_s [h 16 9] 2 <| .lt 8 (.bin .eql) [h 18 3, .int .i64 (3)] <| .br 19 (.lt 3 (.len) [h 17 11] <| .lt 8 (.bin .eql) [h 20 3, .int .i64 (0)] <| .br 21 (.dt 11 (.mk 1) [.int .i64 (1)] <| .dt 11 (.snoc 1) [h 4 11, h 22 11] <| .fn chk_s [h 23 11] 1 <| .lt 8 (.bin .eql) [h 24 3, .int .i64 (150)] <| .dt 11 (.mk 1) [.int .i64 (-1)] <| .dt 11 (.mk 1) [h 26 11] <| .fn rw_s [h 27 11] 1 <| .fn stpo_s [h 28 11, .int .u8 (97)] 2 <| .dt 11 (.nilw 1) [] <| .fn stpo_s [h 31 11, .int .u8 (45)] 2 <| .dt 11 (.nilw 1) [] <| .fn stpo_s [h 34 11, .int .u8 (58)] 2 <| .dt 11 (.nilw 1) [] <| .fn chk_s [h 37 11] 1 <| .lt 8 (.bin .eql) [h 38 3, .int .i64 (0)] <| .br 39 (.dt 11 (.mk 1) [.int .i64 (-1)] <| .dt 11 (.mk 1) [.int .i64 (-1)] <| .dt 11 (.mk 1) [h 40 11, h 41 11] <| .fn rw_s [h 42 11] 1 <| .fn chk_s [h 43 11] 1 <| .lt 8 (.bin .eql) [h 44 3, .int .i64 (0)] <| .br 45 (.dt 11 (.mk 1) [.int .i64 (-1), .int .i64 (-1)] <| .dt 11 (.mk 1) [h 46 11] <| .fn rw_s [h 47 11] 1 <| .fn chk_s [h 48 11] 1 <| .lt 8 (.bin .eql) [h 49 3, .int .i64 (0)] <| .br 50 (.dt 11 (.mk 1) [.int .i64 (-2)] <| .dt 11 (.mk 1) [h 51 11] <| .fn rw_s [h 52 11] 1 <| .fn chk_s [h 53 11] 1 <| .lt 8 (.bin .eql) [h 54 3, .int .i64 (150)] <| .br 55 (.dt 11 (.mk 1) [.int .i64 (1), .int .i64 (2), .int .i64 (3), .int .i64 (4), .int .i64 (5), .int .i64 (6), .int .i64 (7)] <| .dt 11 (.mk 1) [h 56 11] <| .fn rw_s [h 57 11] 1 <| .fn chk_s [h 58 11] 1 <| .lt 8 (.bin .eql) [h 59 3, .int .i64 (150)] <| .dt 11 (.nilw 1) [] <| .fn prt_s [h 61 11] 2 <| .dt 11 (.nilw 1) [] <| .fn val_s [h 64 11, .int .i64 (0), .int .i64 (3)] 1 <| .lt 8 (.bin .eql) [h 65 3, .int .i64 (3)] <| .br 66 (.dt 11 (.nilw 1) [] <| .dt 11 (.mk 1) [h 67 11] <| .fn rw_s [h 68 11] 1 <| .fn val_s [h 69 11, .int .i64 (0), .int .i64 (3)] 1 <| .lt 8 (.bin .eql) [h 70 3, .int .i64 (3)] <| .br 71 (.dt 11 (.mk 1) [.int .i64 (0)] <| .dt 11 (.mk 1) [h 72 11] <| .fn rw_s [h 73 11] 1 <| .fn val_s [h 74 11, .int .i64 (0), .int .i64 (3)] 1 <| .lt 8 (.bin .eql) [h 75 3, .int .i64 (0)] <| .br 76 (.dt 11 (.mk 1) [.int .i64 (4)] <| .dt 11 (.mk 1) [h 77 11] <| .fn rw_s [h 78 11] 1 <| .fn val_s [h 79 11, .int .i64 (-1), .int .i64 (3)] 1 <| .lt 8 (.bin .eql) [h 80 3, .int .i64 (3)] <| .br 81 (.dt 11 (.mk 1) [.int .i64 (-7)] <| .dt 11 (.mk 1) [h 82 11] <| .fn rw_s [h 83 11] 1 <| .fn val_s [h 84 11, .int .i64 (0), .int .i64 (3)] 1 <| .lt 8 (.bin .eql) [h 85 3, .int .i64 (3)] <| .fn wks_s [] 1 <| .br 87 (.br 25 (.lt 8 (.bin .eql) [h 30 3, .int .i64 (150)] <| .br 88 (.lt 8 (.bin .eql) [h 33 3, .int .i64 (6)] <| .br 89 (.lt 8 (.bin .eql) [h 36 3, .int .i64 (0)] <| .br 90 (.dt 11 (.mk 1) [.int .i64 (-1), .int .i64 (-1)] <| .dt 11 (.mk 1) [h 91 11] <| .fn rw_s [h 92 11] 1 <| .fn rsame_s [h 35 11, h 93 11] 1 <| .br 94 (.br 60 (.lt 8 (.bin .eql) [h 62 9, .string ⟨⟨[]⟩⟩] <| .br 95 (.lt 8 (.bin .eql) [h 63 3, .int .i64 (0)] <| .br 96 (.br 86 (.fn rep_s [.string ⟨⟨[49]⟩⟩, .int .i64 (4097)] 1 <| .fn prso_s [h 97 9] 2 <| .lt 8 (.bin .eql) [h 99 3, .int .i64 (3)] <| .br 100 (.lt 3 (.len) [h 98 11] <| .lt 8 (.bin .eql) [h 101 3, .int .i64 (0)] <| .br 102 (.fn rep_s [.string ⟨⟨[48]⟩⟩, .int .i64 (4096)] 1 <| .fn prso_s [h 103 9] 2 <| .lt 8 (.bin .eql) [h 105 3, .int .i64 (0)] <| .br 106 (.dt 11 (.mk 1) [.int .i64 (0)] <| .dt 11 (.mk 1) [h 107 11] <| .fn rw_s [h 108 11] 1 <| .fn rsame_s [h 104 11, h 109 11] 1 <| .ret [h 110 8]) (.no)) (.no)) (.no)) (.no)) (.no)) (.no)) (.no)) (.no)) (.no)) (.no)) (.no)) (.no)) (.no)) (.no)) (.no)) (.no)) (.no)) (.no)) (.no)) (.no)) (.no)) (.no)) (.no)) (.no)) (.no)) (.no)) (.no)) (.no)
theorem kno_c {G : Nat → Option Obj} (hst : StartOk Tryd.prog G gl H0 n0) : ConOk Tryd.prog G 6 [] kno_s [.s 8] := by
  refine con_of_tree (C := cx L_prso P_pslo) (d := 60) kno_t (cxg (L_prso_ok hst) (P_pslo_ok hst)) hst ⟨Tryd.f6, _, Tryd.func6, rfl⟩ (by kernel_rfl) (by kernel_rfl) ?_
  intro us outs hs
  unfold kno_s at hs
  split at hs
  · skip
    skip
    cases hs
    unfold kno_t
    refine s0 (.nil) rfl (by simp [Ev.ok, Ev.len]) ?_
    refine s31 (rep_s_e _ _ (by decide +kernel)) rfl ?_
    refine s1 (ev_len _) rfl rfl rfl ?_
    first | refine s1 (ev_subW (wrap64 (by omega) (by omega))) rfl rfl rfl ?_ | refine s1 (ev_sub _ _ _) rfl rfl rfl ?_
    refine s1 (ev_sub' _ _ _ _ _ (by decide +kernel) (by decide +kernel) (by decide +kernel)) rfl rfl rfl ?_
    refine s32 (prso_s_e _) rfl rfl ?_
    refine s1 (ev_eql _ _ _) rfl rfl rfl ?_
    first | refine s5 rfl (fun g0 => ?_) (fun g0 => ?_) | refine s5B rfl (fun g0 => ?_) (fun g0 => ?_)
    · refine s8 ?_
      first | (refine absurd ?_ (by assumption); decide +kernel) | exact absurd (by assumption : true = false) (by decide)
    refine s1 (ev_lenS _ _) rfl rfl rfl ?_
    refine s1 (ev_eql _ _ _) rfl rfl rfl ?_
    first | refine s5 rfl (fun g1 => ?_) (fun g1 => ?_) | refine s5B rfl (fun g1 => ?_) (fun g1 => ?_)
    · refine s8 ?_
      first | (refine absurd ?_ (by assumption); decide +kernel) | exact absurd (by assumption : true = false) (by decide)
    refine s31 (chk_s_e _ (by decide +kernel)) rfl ?_
    refine s1 (ev_eql _ _ _) rfl rfl rfl ?_
    first | refine s5 rfl (fun g2 => ?_) (fun g2 => ?_) | refine s5B rfl (fun g2 => ?_) (fun g2 => ?_)
    · refine s8 ?_
      first | (refine absurd ?_ (by assumption); decide +kernel) | exact absurd (by assumption : true = false) (by decide)
    refine s32 (prso_s_e _) rfl rfl ?_
    refine s1 (ev_eql _ _ _) rfl rfl rfl ?_
    first | refine s5 rfl (fun g3 => ?_) (fun g3 => ?_) | refine s5B rfl (fun g3 => ?_) (fun g3 => ?_)
    · refine s8 ?_
      first | (refine absurd ?_ (by assumption); decide +kernel) | exact absurd (by assumption : true = false) (by decide)
    refine s1 (ev_lenS _ _) rfl rfl rfl ?_
    refine s1 (ev_eql _ _ _) rfl rfl rfl ?_
    first | refine s5 rfl (fun g4 => ?_) (fun g4 => ?_) | refine s5B rfl (fun g4 => ?_) (fun g4 => ?_)
    · refine s8 ?_
      first | (refine absurd ?_ (by assumption); decide +kernel) | exact absurd (by assumption : true = false) (by decide)
    refine s1 (ev_cat _ _ (by decide +kernel)) rfl rfl rfl ?_
    refine s32 (prso_s_e _) rfl rfl ?_
    refine s1 (ev_eql _ _ _) rfl rfl rfl ?_
    first | refine s5 rfl (fun g5 => ?_) (fun g5 => ?_) | refine s5B rfl (fun g5 => ?_) (fun g5 => ?_)
    · refine s8 ?_
      first | (refine absurd ?_ (by assumption); decide +kernel) | exact absurd (by assumption : true = false) (by decide)
    refine s1 (ev_lenS _ _) rfl rfl rfl ?_
    refine s1 (ev_eql _ _ _) rfl rfl rfl ?_
    first | refine s5 rfl (fun g6 => ?_) (fun g6 => ?_) | refine s5B rfl (fun g6 => ?_) (fun g6 => ?_)
    · refine s8 ?_
      first | (refine absurd ?_ (by assumption); decide +kernel) | exact absurd (by assumption : true = false) (by decide)
    refine s2 (r := rI) (ev_mkS [_] rfl (by decide) rfl) rfl rfl ?_
    refine s2 (r := rP) (ev_snocR rfl rfl (by decide) (by decide +kernel)) rfl rfl ?_
    refine s31 (chk_s_e _ (by decide +kernel)) rfl ?_
    refine s1 (ev_eql _ _ _) rfl rfl rfl ?_
    refine s2 (r := rI) (ev_mkS [_] rfl (by decide) rfl) rfl rfl ?_
    refine s2 (r := rP) (ev_mkS [_] rfl (by decide) rfl) rfl rfl ?_
    refine s31 (rw_s_e _ (by decide +kernel)) rfl ?_
    refine s32 (stpo_s_e _ _ (by decide +kernel)) rfl rfl ?_
    refine s2 (r := rP) (ev_nilwS rfl) rfl rfl ?_
    refine s32 (stpo_s_e _ _ (by decide +kernel)) rfl rfl ?_
    refine s2 (r := rP) (ev_nilwS rfl) rfl rfl ?_
    refine s32 (stpo_s_e _ _ (by decide +kernel)) rfl rfl ?_
    refine s2 (r := rP) (ev_nilwS rfl) rfl rfl ?_
    refine s31 (chk_s_e _ (by decide +kernel)) rfl ?_
    refine s1 (ev_eql _ _ _) rfl rfl rfl ?_
    first | refine s5 rfl (fun g7 => ?_) (fun g7 => ?_) | refine s5B rfl (fun g7 => ?_) (fun g7 => ?_)
    · refine s8 ?_
      first | (refine absurd ?_ (by assumption); decide +kernel) | exact absurd (by assumption : true = false) (by decide)
    refine s2 (r := rI) (ev_mkS [_] rfl (by decide) rfl) rfl rfl ?_
    refine s2 (r := rI) (ev_mkS [_] rfl (by decide) rfl) rfl rfl ?_
    refine s2 (r := rP) (ev_mkS [_, _] rfl (by decide) rfl) rfl rfl ?_
    refine s31 (rw_s_e _ (by decide +kernel)) rfl ?_
    refine s31 (chk_s_e _ (by decide +kernel)) rfl ?_
    refine s1 (ev_eql _ _ _) rfl rfl rfl ?_
    first | refine s5 rfl (fun g8 => ?_) (fun g8 => ?_) | refine s5B rfl (fun g8 => ?_) (fun g8 => ?_)
    · refine s8 ?_
      first | (refine absurd ?_ (by assumption); decide +kernel) | exact absurd (by assumption : true = false) (by decide)
    refine s2 (r := rI) (ev_mkS [_, _] rfl (by decide) rfl) rfl rfl ?_
    refine s2 (r := rP) (ev_mkS [_] rfl (by decide) rfl) rfl rfl ?_
    refine s31 (rw_s_e _ (by decide +kernel)) rfl ?_
    refine s31 (chk_s_e _ (by decide +kernel)) rfl ?_
    refine s1 (ev_eql _ _ _) rfl rfl rfl ?_
    first | refine s5 rfl (fun g9 => ?_) (fun g9 => ?_) | refine s5B rfl (fun g9 => ?_) (fun g9 => ?_)
    · refine s8 ?_
      first | (refine absurd ?_ (by assumption); decide +kernel) | exact absurd (by assumption : true = false) (by decide)
    refine s2 (r := rI) (ev_mkS [_] rfl (by decide) rfl) rfl rfl ?_
    refine s2 (r := rP) (ev_mkS [_] rfl (by decide) rfl) rfl rfl ?_
    refine s31 (rw_s_e _ (by decide +kernel)) rfl ?_
    refine s31 (chk_s_e _ (by decide +kernel)) rfl ?_
    refine s1 (ev_eql _ _ _) rfl rfl rfl ?_
    first | refine s5 rfl (fun g10 => ?_) (fun g10 => ?_) | refine s5B rfl (fun g10 => ?_) (fun g10 => ?_)
    · refine s8 ?_
      first | (refine absurd ?_ (by assumption); decide +kernel) | exact absurd (by assumption : true = false) (by decide)
    refine s2 (r := rI) (ev_mkS [_, _, _, _, _, _, _] rfl (by decide) rfl) rfl rfl ?_
    refine s2 (r := rP) (ev_mkS [_] rfl (by decide) rfl) rfl rfl ?_
    refine s31 (rw_s_e _ (by decide +kernel)) rfl ?_
    refine s31 (chk_s_e _ (by decide +kernel)) rfl ?_
    refine s1 (ev_eql _ _ _) rfl rfl rfl ?_
    refine s2 (r := rP) (ev_nilwS rfl) rfl rfl ?_
    refine s32 (prt_s_e _ (by decide +kernel)) rfl rfl ?_
    refine s2 (r := rP) (ev_nilwS rfl) rfl rfl ?_
    refine s31 (val_s_e _ _ _ (by decide)) rfl ?_
    refine s1 (ev_eql _ _ _) rfl rfl rfl ?_
    first | refine s5 rfl (fun g11 => ?_) (fun g11 => ?_) | refine s5B rfl (fun g11 => ?_) (fun g11 => ?_)
    · refine s8 ?_
      first | (refine absurd ?_ (by assumption); decide +kernel) | exact absurd (by assumption : true = false) (by decide)
    refine s2 (r := rI) (ev_nilwS rfl) rfl rfl ?_
    refine s2 (r := rP) (ev_mkS [_] rfl (by decide) rfl) rfl rfl ?_
    refine s31 (rw_s_e _ (by decide +kernel)) rfl ?_
    refine s31 (val_s_e _ _ _ (by decide)) rfl ?_
    refine s1 (ev_eql _ _ _) rfl rfl rfl ?_
    first | refine s5 rfl (fun g12 => ?_) (fun g12 => ?_) | refine s5B rfl (fun g12 => ?_) (fun g12 => ?_)
    · refine s8 ?_
      first | (refine absurd ?_ (by assumption); decide +kernel) | exact absurd (by assumption : true = false) (by decide)
    refine s2 (r := rI) (ev_mkS [_] rfl (by decide) rfl) rfl rfl ?_
    refine s2 (r := rP) (ev_mkS [_] rfl (by decide) rfl) rfl rfl ?_
    refine s31 (rw_s_e _ (by decide +kernel)) rfl ?_
    refine s31 (val_s_e _ _ _ (by decide)) rfl ?_
    refine s1 (ev_eql _ _ _) rfl rfl rfl ?_
    first | refine s5 rfl (fun g13 => ?_) (fun g13 => ?_) | refine s5B rfl (fun g13 => ?_) (fun g13 => ?_)
    · refine s8 ?_
      first | (refine absurd ?_ (by assumption); decide +kernel) | exact absurd (by assumption : true = false) (by decide)
    refine s2 (r := rI) (ev_mkS [_] rfl (by decide) rfl) rfl rfl ?_
    refine s2 (r := rP) (ev_mkS [_] rfl (by decide) rfl) rfl rfl ?_
    refine s31 (rw_s_e _ (by decide +kernel)) rfl ?_
    refine s31 (val_s_e _ _ _ (by decide)) rfl ?_
    refine s1 (ev_eql _ _ _) rfl rfl rfl ?_
    first | refine s5 rfl (fun g14 => ?_) (fun g14 => ?_) | refine s5B rfl (fun g14 => ?_) (fun g14 => ?_)
    · refine s8 ?_
      first | (refine absurd ?_ (by assumption); decide +kernel) | exact absurd (by assumption : true = false) (by decide)
    refine s2 (r := rI) (ev_mkS [_] rfl (by decide) rfl) rfl rfl ?_
    refine s2 (r := rP) (ev_mkS [_] rfl (by decide) rfl) rfl rfl ?_
    refine s31 (rw_s_e _ (by decide +kernel)) rfl ?_
    refine s31 (val_s_e _ _ _ (by decide)) rfl ?_
    refine s1 (ev_eql _ _ _) rfl rfl rfl ?_
    refine s31 rfl rfl ?_
    first | refine s5 rfl (fun g15 => ?_) (fun g15 => ?_) | refine s5B rfl (fun g15 => ?_) (fun g15 => ?_)
    · refine s8 ?_
      first | (refine absurd ?_ (by assumption); decide +kernel) | exact absurd (by assumption : true = false) (by decide)
    first | refine s5 rfl (fun g16 => ?_) (fun g16 => ?_) | refine s5B rfl (fun g16 => ?_) (fun g16 => ?_)
    · refine s8 ?_
      first | (refine absurd ?_ (by assumption); decide +kernel) | exact absurd (by assumption : true = false) (by decide)
    refine s1 (ev_eql _ _ _) rfl rfl rfl ?_
    first | refine s5 rfl (fun g17 => ?_) (fun g17 => ?_) | refine s5B rfl (fun g17 => ?_) (fun g17 => ?_)
    · refine s8 ?_
      first | (refine absurd ?_ (by assumption); decide +kernel) | exact absurd (by assumption : true = false) (by decide)
    refine s1 (ev_eql _ _ _) rfl rfl rfl ?_
    first | refine s5 rfl (fun g18 => ?_) (fun g18 => ?_) | refine s5B rfl (fun g18 => ?_) (fun g18 => ?_)
    · refine s8 ?_
      first | (refine absurd ?_ (by assumption); decide +kernel) | exact absurd (by assumption : true = false) (by decide)
    refine s1 (ev_eql _ _ _) rfl rfl rfl ?_
    first | refine s5 rfl (fun g19 => ?_) (fun g19 => ?_) | refine s5B rfl (fun g19 => ?_) (fun g19 => ?_)
    · refine s8 ?_
      first | (refine absurd ?_ (by assumption); decide +kernel) | exact absurd (by assumption : true = false) (by decide)
    refine s2 (r := rI) (ev_mkS [_, _] rfl (by decide) rfl) rfl rfl ?_
    refine s2 (r := rP) (ev_mkS [_] rfl (by decide) rfl) rfl rfl ?_
    refine s31 (rw_s_e _ (by decide +kernel)) rfl ?_
    refine s31 (rsame_s_e _ _ (by decide +kernel)) rfl ?_
    first | refine s5 rfl (fun g20 => ?_) (fun g20 => ?_) | refine s5B rfl (fun g20 => ?_) (fun g20 => ?_)
    · refine s8 ?_
      first | (refine absurd ?_ (by assumption); decide +kernel) | exact absurd (by assumption : true = false) (by decide)
    first | refine s5 rfl (fun g21 => ?_) (fun g21 => ?_) | refine s5B rfl (fun g21 => ?_) (fun g21 => ?_)
    · refine s8 ?_
      first | (refine absurd ?_ (by assumption); decide +kernel) | exact absurd (by assumption : true = false) (by decide)
    refine s1 (ev_seq _ _) rfl rfl rfl ?_
    first | refine s5 rfl (fun g22 => ?_) (fun g22 => ?_) | refine s5B rfl (fun g22 => ?_) (fun g22 => ?_)
    · refine s8 ?_
      first | (refine absurd ?_ (by assumption); decide +kernel) | exact absurd (by assumption : true = false) (by decide)
    refine s1 (ev_eql _ _ _) rfl rfl rfl ?_
    first | refine s5 rfl (fun g23 => ?_) (fun g23 => ?_) | refine s5B rfl (fun g23 => ?_) (fun g23 => ?_)
    · refine s8 ?_
      first | (refine absurd ?_ (by assumption); decide +kernel) | exact absurd (by assumption : true = false) (by decide)
    first | refine s5 rfl (fun g24 => ?_) (fun g24 => ?_) | refine s5B rfl (fun g24 => ?_) (fun g24 => ?_)
    · refine s8 ?_
      first | (refine absurd ?_ (by assumption); decide +kernel) | exact absurd (by assumption : true = false) (by decide)
    refine s31 (rep_s_e _ _ (by decide +kernel)) rfl ?_
    refine s32 (prso_s_e _) rfl rfl ?_
    refine s1 (ev_eql _ _ _) rfl rfl rfl ?_
    first | refine s5 rfl (fun g25 => ?_) (fun g25 => ?_) | refine s5B rfl (fun g25 => ?_) (fun g25 => ?_)
    · refine s8 ?_
      first | (refine absurd ?_ (by assumption); decide +kernel) | exact absurd (by assumption : true = false) (by decide)
    refine s1 (ev_lenS _ _) rfl rfl rfl ?_
    refine s1 (ev_eql _ _ _) rfl rfl rfl ?_
    first | refine s5 rfl (fun g26 => ?_) (fun g26 => ?_) | refine s5B rfl (fun g26 => ?_) (fun g26 => ?_)
    · refine s8 ?_
      first | (refine absurd ?_ (by assumption); decide +kernel) | exact absurd (by assumption : true = false) (by decide)
    refine s31 (rep_s_e _ _ (by decide +kernel)) rfl ?_
    refine s32 (prso_s_e _) rfl rfl ?_
    refine s1 (ev_eql _ _ _) rfl rfl rfl ?_
    first | refine s5 rfl (fun g27 => ?_) (fun g27 => ?_) | refine s5B rfl (fun g27 => ?_) (fun g27 => ?_)
    · refine s8 ?_
      first | (refine absurd ?_ (by assumption); decide +kernel) | exact absurd (by assumption : true = false) (by decide)
    refine s2 (r := rI) (ev_mkS [_] rfl (by decide) rfl) rfl rfl ?_
    refine s2 (r := rP) (ev_mkS [_] rfl (by decide) rfl) rfl rfl ?_
    refine s31 (rw_s_e _ (by decide +kernel)) rfl ?_
    refine s31 (rsame_s_e _ _ (by decide +kernel)) rfl ?_
    refine s7 [.bool _] rfl ?_
    exact congrArg (fun b => [U.bool b]) (decide_eq_true (by decide +kernel))
  · cases hs
end Go.Proofs.YtadmkfclgpbebaaDoor

namespace Go.Proofs.YtadmkfclgpbebaaDoor.paramKnownDone
set_option linter.all false
open Go Go.Sx Go.ChangeShapes Go.WideShapes Go.ChangeAt Go.RowKit
set_option linter.unusedVariables false
set_option maxRecDepth 100000
theorem start {W : World} (h : laidMetH Tryd.prog Rows.paramKnownRow.laid W) : StartOk Tryd.prog (fun k => W.heap[k]?) gl H0 n0 := by
  rw [MakeChecks.laidMetH_plain _ _ _ (by kernel_rfl)] at h
  have r2 : RowAt W 2 [.int .u8 (0), .int .u8 (1), .int .u8 (28), .int .u8 (2), .int .u8 (29), .int .u8 (14), .int .u8 (24), .int .u8 (3), .int .u8 (30), .int .u8 (22), .int .u8 (20), .int .u8 (15), .int .u8 (25), .int .u8 (17), .int .u8 (4), .int .u8 (8), .int .u8 (31), .int .u8 (27), .int .u8 (13), .int .u8 (23), .int .u8 (21), .int .u8 (19), .int .u8 (16), .int .u8 (7), .int .u8 (26), .int .u8 (12), .int .u8 (18), .int .u8 (6), .int .u8 (11), .int .u8 (5), .int .u8 (10), .int .u8 (9)] := rowAt_data (by kernel_rfl) (laid_row (n := "math/bits.deBruijn32tab") (d := Rows.laid_math_bits_deBruijn32tab) (g := 2) (k := 6) (t := 117) h (List.mem_of_getElem? (i := 0) rfl) (by kernel_rfl) (by kernel_rfl) (by kernel_rfl))
  have r3 : RowAt W 3 [.int .u8 (0), .int .u8 (1), .int .u8 (56), .int .u8 (2), .int .u8 (57), .int .u8 (49), .int .u8 (28), .int .u8 (3), .int .u8 (61), .int .u8 (58), .int .u8 (42), .int .u8 (50), .int .u8 (38), .int .u8 (29), .int .u8 (17), .int .u8 (4), .int .u8 (62), .int .u8 (47), .int .u8 (59), .int .u8 (36), .int .u8 (45), .int .u8 (43), .int .u8 (51), .int .u8 (22), .int .u8 (53), .int .u8 (39), .int .u8 (33), .int .u8 (30), .int .u8 (24), .int .u8 (18), .int .u8 (12), .int .u8 (5), .int .u8 (63), .int .u8 (55), .int .u8 (48), .int .u8 (27), .int .u8 (60), .int .u8 (41), .int .u8 (37), .int .u8 (16), .int .u8 (46), .int .u8 (35), .int .u8 (44), .int .u8 (21), .int .u8 (52), .int .u8 (32), .int .u8 (23), .int .u8 (11), .int .u8 (54), .int .u8 (26), .int .u8 (40), .int .u8 (15), .int .u8 (34), .int .u8 (20), .int .u8 (31), .int .u8 (10), .int .u8 (25), .int .u8 (14), .int .u8 (19), .int .u8 (9), .int .u8 (13), .int .u8 (8), .int .u8 (7), .int .u8 (6)] := rowAt_data (by kernel_rfl) (laid_row (n := "math/bits.deBruijn64tab") (d := Rows.laid_math_bits_deBruijn64tab) (g := 3) (k := 6) (t := 118) h (List.mem_of_getElem? (i := 1) rfl) (by kernel_rfl) (by kernel_rfl) (by kernel_rfl))
  have r1 : RowAt W 1 [.int .u64 (1), .int .u64 (10), .int .u64 (100), .int .u64 (1000), .int .u64 (10000), .int .u64 (100000), .int .u64 (1000000), .int .u64 (10000000), .int .u64 (100000000), .int .u64 (1000000000), .int .u64 (10000000000), .int .u64 (100000000000), .int .u64 (1000000000000), .int .u64 (10000000000000), .int .u64 (100000000000000), .int .u64 (1000000000000000), .int .u64 (10000000000000000), .int .u64 (100000000000000000), .int .u64 (1000000000000000000), .int .u64 (10000000000000000000)] := rowAt_data (by kernel_rfl) (laid_row (n := "internal/strconv.uint64pow10") (d := Rows.laid_internal_strconv_uint64pow10) (g := 1) (k := 6) (t := 113) h (List.mem_of_getElem? (i := 2) rfl) (by kernel_rfl) (by kernel_rfl) (by kernel_rfl))
  have hs : gl ≤ W.heap.size := by
    obtain ⟨C, T, fz, e, _⟩ := r3
    have := (Array.getElem?_eq_some_iff.1 e).1
    show 4 ≤ _
    omega
  refine start_of hs (by decide) ?_ ?_
  · have e : (rows0.all fun r => Nat.blt r.1 gl) = true := by kernel_rfl
    exact fun r hr => Nat.le_of_ble_eq_true (List.all_eq_true.1 e r hr)
  · intro r hr
    unfold rows0 at hr
    rcases List.mem_cons.1 hr with rfl | hr
    · exact r2
    rcases List.mem_cons.1 hr with rfl | hr
    · exact r3
    rcases List.mem_cons.1 hr with rfl | hr
    · exact r1
    cases hr
theorem own : ownKnob Tryd.prog.godebug = none := by kernel_rfl
noncomputable def low : Nat := (World.holding Tryd.prog default ⟨#[], #[], []⟩).heap.size
noncomputable def put (g : Nat) (cs : Array Value) (h : Array Obj) : Array Obj := h.modify g fun
  | .cells _ t frozen => .cells cs t frozen
  | o => o
noncomputable def laidWorld (os : Os) : World :=
  let w0 := World.holding Tryd.prog os ⟨#[], #[], []⟩
  { w0 with heap := (put 1 (rows0.getD 2 (0, [])).2.toArray (put 3 (rows0.getD 1 (0, [])).2.toArray (put 2 (rows0.getD 0 (0, [])).2.toArray w0.heap))) }
theorem laid_met (os : Os) : laidMet Tryd.prog Rows.paramKnownRow.laid ((laidWorld os).forCall (fun _ _ => 0) ⟨#[], #[], []⟩).memory :=
  laidMet_of_run' 8 (by kernel_rfl) (by kernel_rfl)
theorem reads (os : Os) {H : Type} (enc : TypeId × Value → H) : ∃ places, DataW.whole enc Tryd.prog ((laidWorld os).forCall (fun _ _ => 0) ⟨#[], #[], []⟩).memory Tryd.f6.params.toList Rows.paramKnownSpec.vars false [] 8 = some ([], [], places) :=
  ⟨[], by kernel_rfl⟩
theorem contract (H : Type) (enc : TypeId × Value → H) (W : World) (base : Nat) (args : Array Value) (ds gs : List (DataW H)) (before : List MemPlace)
    (hval : ∀ (j : Nat) t v, Tryd.f6.params[j]? = some t → args[j]? = some v → Value.okWide Tryd.prog W .any base t v)
    (hW : DataW.Whole enc Tryd.prog Tryd.f6.params.toList Rows.paramKnownSpec.vars false W args.toList ds gs before) (hL : laidMetH Tryd.prog Rows.paramKnownRow.laid W)
    (hwt : (DataW.weightsEach Tryd.prog (Tryd.f6.params.toList ++ (OpenSpec.ofChange Rows.paramKnownSpec).bare.plain.varTypes Tryd.prog) (ds ++ gs)).all (· ≤ reachBytes) = true) :
    Calls Tryd.prog 6 args W fun e W' => ∃ v, e = .returned v ∧ Rows.paramKnownSpec.post enc Tryd.prog Tryd.f6 false true false false W args v W' := by
  have hW' := hW
  obtain ⟨p, q, hA0, hV, rfl, hfz, hnd⟩ := hW
  have hA : DataW.TrodAll enc Tryd.prog W 0 (fun _ => true) true Tryd.f6.params.toList args.toList ds p := hA0
  rw [Tryd.params6] at hA hval hwt
  obtain ⟨rfl, rfl, rfl⟩ := trodAll_none hA
  obtain ⟨rfl, rfl⟩ := trodVars_none hV
  clear hA0
  simp only [List.append_nil] at hW'
  have hsh : ShL (hpOf W) [] [] [] := .nil
  obtain ⟨_, hc⟩ := kno_c (start hL) [] [.bool true] W _ (hpOf W) hsh (rfl) (fun k o h => h) (fun k o h => h)
  refine hc.mono fun e W' ⟨r, R', hr, he, hg, _⟩ => ?_
  have hrv := val_of_shL (vs2 := [.bool true]) hr rfl
  subst hrv
  subst he
  have bel : Below W.heap.size W W' := ⟨hg.os.1, hg.os.2.1, hg.os.2.2, hg.size, hg.keep⟩
  exact ⟨_, rfl, _, _, _, [], _, [], hW', trodAll_mk1 (shut_bool Tryd.underlying4 _), rfl, rfl, hg.kept _, fun h => by cases h⟩
theorem lifted (os : Os) (started : os.Started) (H : Type) (enc : TypeId × Value → H) (F : Stop.Interp) :
    ReturnsInHanded {} Tryd.checked os 6 .any ((OpenSpec.ofChange Rows.paramKnownSpec).preRow enc Tryd.prog Tryd.f6 Rows.paramKnownRow.domain false Rows.paramKnownRow.laid) (((OpenSpec.ofChange Rows.paramKnownSpec).at F).post enc Tryd.prog Tryd.f6 false true false false) := by
  obtain ⟨places, hx⟩ := reads os enc
  refine returnsInHanded_of_row (C := Tryd.checked) (s := OpenSpec.ofChange Rows.paramKnownSpec) own started (by kernel_rfl) Tryd.func6
    (witness_row_at (enc := enc) (C := Tryd.checked) false (laidWorld os) #[] rfl (by kernel_rfl) (by kernel_rfl) (by kernel_rfl)
      (OpenSpec.preRow_of_cond 8 hx (by kernel_rfl) (fun k hk => by cases hk) (by kernel_rfl) (laid_met os))) ?_
  intro W base args ds gs before hval hW _ _ hwt hL _ _
  exact contract H enc W base args ds gs before hval hW hL hwt
theorem said : Rows.ParamKnownSaid :=
  OpenClaim.holds_of_cond 6 Tryd.f6 rfl rfl rfl rfl rfl rfl rfl ⟨rfl, rfl, rfl, rfl, rfl⟩ rfl rfl rfl rfl rfl (by kernel_rfl) Tryd.func6 (by kernel_rfl)
    (of_decide_eq_true (by kernel_rfl)) (by unfold Func.isWrapper; first | (rw [if_pos (by decide +kernel)]; kernel_rfl) | (rw [if_neg (by decide +kernel)]; exact ⟨rfl, rfl⟩))
    (fun os started H enc _ F => by rw [OpenClaim.pre_eq_preRow]; exact lifted os started H enc F)
theorem plain (f : FuncId) (fn : Func) (hf : Tryd.pinned.checked.prog.funcNamed "fenestra/fenestralaw05.ParamKnown" = some f) (hfn : Tryd.pinned.checked.prog.funcs[f]? = some fn) :
    false = Tryd.pinned.checked.prog.looks [] ∧ ∀ (j : Nat) t, fn.params[j]? = some t → Tryd.pinned.checked.prog.wantsStandIn t = false := by
  obtain rfl : f = 6 := Option.some.inj ((show Tryd.prog.funcNamed "fenestra/fenestralaw05.ParamKnown" = some 6 by kernel_rfl).symm.trans hf) |>.symm
  obtain rfl : fn = Tryd.f6 := (Option.some.inj (Tryd.func6.symm.trans hfn)).symm
  refine ⟨by kernel_rfl, fun j t ht => ?_⟩
  have hall : (Tryd.f6.params.toList.all fun t => !Tryd.prog.wantsStandIn t) = true := by kernel_rfl
  have := List.all_eq_true.1 hall t (Array.mem_def.1 (Array.mem_of_getElem? ht))
  have h2 : Tryd.prog.wantsStandIn t = false := by simpa using this
  exact h2
theorem proved : Rows.ParamKnownCardSaid :=
  Claim7.holds_tied_plain_at .later [] _ _ _ _ said (fun _ h => by cases h) (by kernel_rfl) (fun _ h => by cases h) paramKnown_row_tie rfl ⟨rfl, rfl⟩ (by kernel_rfl) rfl plain (by kernel_rfl)
#print axioms proved
end Go.Proofs.YtadmkfclgpbebaaDoor.paramKnownDone
