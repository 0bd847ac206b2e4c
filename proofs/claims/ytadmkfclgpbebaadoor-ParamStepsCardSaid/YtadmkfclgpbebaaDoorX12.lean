/- The law ParamSteps: for every input the call returns true, and the arguments read behind it as they read before. No condition. -/
import Derived.Test.YtadmkfclgpbebaaDoorX11
import Derived.Test.YtadmkfclgpbebaaDoorCards
import Derived.Test.YtadmkfclgpbebaaDoorTie
import Derived.WalkKit
import Derived.ProofKit
import Derived.OpenShut
import Derived.Below
import Derived.Carry
import Derived.Lib.SmallJoins
import Derived.Deep.DeepHandedRow
import Derived.Lib.LaidTab
import Derived.MakeChecks
namespace Go.Proofs.YtadmkfclgpbebaaDoor
set_option linter.all false
open Go Go.Sx
set_option maxRecDepth 100000
set_option linter.unusedVariables false
set_option linter.unusedSimpArgs false
theorem step_none (l:Rws) (c:Int):(stepS l c).2=0∨(stepS l c).1=none:=by
 unfold stepS
 split
 ·exact .inr rfl
 split
 ·split
  ·exact .inl rfl
  ·split
   ·exact .inl rfl
   ·split
    ·exact .inl rfl
    ·exact .inr rfl
 ·split
  ·exact .inl rfl
  ·split
   ·exact .inl rfl
   ·split
    ·exact .inr rfl
    ·split
     ·exact .inl rfl
     ·exact .inr rfl
theorem E1_map (l:List (Option (List Int))):(l.map E1).map el=l.map el:=by
 rw [List.map_map]
 exact List.map_congr_left fun p _=>rfl
theorem rst_same (l:Rws) (c:Int):(rstS l c).2=(stepS l c).2∧sameP (stepS l c).1 (rstS l c).1=true∧(el (stepS l c).1).length≤1000000000∧(el (rstS l c).1).length≤1000000000∧(∀ p ∈ el (stepS l c).1,(el p).length≤1000000000)∧∀ p ∈ el (rstS l c).1,(el p).length≤1000000000:=by
 have hv:=vl_c (vl_step l c)
 unfold rstS
 by_cases h:(stepS l c).2≠0
 ·rw [if_pos h]
  rcases step_none l c with h1|h1
  ·exact absurd h1 h
  ·rw [h1]; exact ⟨rfl,rfl,Nat.zero_le _,Nat.zero_le _,(fun p hp=>by cases hp),fun p hp=>by cases hp⟩
 ·rw [if_neg h]
  have h0:(stepS l c).2=0:=Classical.not_not.1 h
  refine ⟨h0.symm,decide_eq_true ?_,hv.1,by rw [el_some,List.length_map]; exact hv.1,hv.2,fun p hp=>?_⟩
  ·rw [el_some,E1_map]
  ·rw [el_some] at hp
   obtain ⟨q,hq,rfl⟩:=List.mem_map.1 hp
   exact hv.2 q hq
set_option maxHeartbeats 20000000
theorem short_lens (l:Rws):(el (shortF l)).length≤1000000000∧∀ p ∈ el (shortF l),(el p).length≤1000000000:=by
 unfold shortF
 rw [el_catS]
 refine ⟨by show ([]++_).length≤1000000000; rw [List.nil_append,el_some,List.length_map,List.length_take]; omega,fun p hp=>?_⟩
 have hp:p ∈ ((el l).take 20).map cutP:=by simpa [el] using hp
 obtain ⟨q,_,rfl⟩:=List.mem_map.1 hp
 unfold cutP
 rw [el_subS,List.length_take]
 omega
theorem lens_of {l:Rws} (h:checkS l=0):(el l).length≤1000000000∧∀ p ∈ el l,(el p).length≤1000000000:=by
 rcases check_bd l with h1|⟨_,h2,h3⟩
 ·omega
 ·exact ⟨by omega,fun p hp=>by have:=(h3 p hp).2.1; omega⟩
noncomputable def U_pst:List (FuncId × FnC):=(15,conF Tryd.prog [] wks_s [.s 8])::(14,conF Tryd.prog [.s 11,.s 11] rsame_s [.s 8])::(13,ownF Tryd.prog [.s 11,.s 4] rstp_s 11 47 [.s 3])::(12,conF Tryd.prog [.s 11,.s 4] stp_s [.s 11,.s 3])::(11,conF Tryd.prog [.a [11,11]] row_s [.s 11])::(10,conF Tryd.prog [.s 11] sh_s [.s 11])::L0
theorem U_pst_ok {G:Nat→Option Obj} (hst:StartOk Tryd.prog G gl H0 n0):ConsOk Tryd.prog G gl U_pst:=(.cons (wks_c hst) (.cons (rsame_c hst) (.consO (rstp_c hst) (.cons (stp_c hst) (.cons (row_c hst) (.cons (sh_c hst) .nil))))))
def pst_s:List U→Option (Nat × List U)
 | [u_l,u_pa,u_ma,.int .u8 c]=>(decS rP u_l).bind fun l=>(decS rU u_pa).bind fun pa=>(decS rB u_ma).bind fun ma=>if (el l).length≤140737488351232∧((el ma).length≤140737488351232∧(el pa).length≤140737488351232∧(∀ m ∈ el ma,0≤m∧m≤255)∧(∀ q ∈ el pa,0≤q∧q≤65535))∧0≤c∧c≤255 then some (0,[.bool (true)]) else none
 | _=>none
theorem pst_s_e (l:(Option (List (Option (List Int))))) (pa:(Option (List Int))) (ma:(Option (List Int))) (c:Int) (hc:(el l).length≤140737488351232∧((el ma).length≤140737488351232∧(el pa).length≤140737488351232∧(∀ m ∈ el ma,0≤m∧m≤255)∧(∀ q ∈ el pa,0≤q∧q≤65535))∧0≤c∧c≤255):pst_s [encS rP l,encS rU pa,encS rB ma,.int .u8 c]=some (0,[.bool (true)]):=by
 simp only [pst_s,decS_enc,Option.bind_some]
 exact if_pos hc
def pst_t:Tr:=.fn sh_s [h 0 11] 1 <| .fn row_s [h 1 11,h 2 11] 1 <| .lt 4 (.bin .rem) [h 3 4,.int .u8 (10)] <| .lt 4 (.bin .add) [.int .u8 (48),h 6 4] <| .fn stp_s [h 4 11,h 3 4] 2 <| .fn rstp_s [h 4 11,h 3 4] 2 <| .lt 8 (.bin .neq) [h 9 3,h 11 3] <| .br 12 (.ret [.bool false]) (.fn rsame_s [h 8 11,h 10 11] 1 <| .lt 8 (.un .not) [h 13 8] <| .br 14 (.ret [.bool false]) (.fn stp_s [h 4 11,h 7 4] 2 <| .fn rstp_s [h 4 11,h 7 4] 2 <| .lt 8 (.bin .neq) [h 16 3,h 18 3] <| .br 19 (.ret [.bool false]) (.fn rsame_s [h 15 11,h 17 11] 1 <| .lt 8 (.un .not) [h 20 8] <| .br 21 (.ret [.bool false]) (.fn stp_s [h 4 11,.int .u8 (58)] 2 <| .fn rstp_s [h 4 11,.int .u8 (58)] 2 <| .lt 8 (.bin .neq) [h 23 3,h 25 3] <| .br 26 (.ret [.bool false]) (.fn rsame_s [h 22 11,h 24 11] 1 <| .lt 8 (.un .not) [h 27 8] <| .br 28 (.ret [.bool false]) (.fn stp_s [h 4 11,.int .u8 (59)] 2 <| .fn rstp_s [h 4 11,.int .u8 (59)] 2 <| .lt 8 (.bin .neq) [h 30 3,h 32 3] <| .br 33 (.ret [.bool false]) (.fn rsame_s [h 29 11,h 31 11] 1 <| .lt 8 (.un .not) [h 34 8] <| .br 35 (.ret [.bool false]) (.fn stp_s [h 4 11,.int .u8 (57)] 2 <| .fn rstp_s [h 4 11,.int .u8 (57)] 2 <| .lt 8 (.bin .neq) [h 37 3,h 39 3] <| .br 40 (.ret [.bool false]) (.fn rsame_s [h 36 11,h 38 11] 1 <| .lt 8 (.un .not) [h 41 8] <| .br 42 (.ret [.bool false]) (.lt 4 (.bin .rem) [h 3 4,.int .u8 (10)] <| .lt 4 (.bin .add) [.int .u8 (48),h 43 4] <| .fn stp_s [h 5 11,h 3 4] 2 <| .fn rstp_s [h 5 11,h 3 4] 2 <| .lt 8 (.bin .neq) [h 46 3,h 48 3] <| .br 49 (.ret [.bool false]) (.fn rsame_s [h 45 11,h 47 11] 1 <| .lt 8 (.un .not) [h 50 8] <| .br 51 (.ret [.bool false]) (.fn stp_s [h 5 11,h 44 4] 2 <| .fn rstp_s [h 5 11,h 44 4] 2 <| .lt 8 (.bin .neq) [h 53 3,h 55 3] <| .br 56 (.ret [.bool false]) (.fn rsame_s [h 52 11,h 54 11] 1 <| .lt 8 (.un .not) [h 57 8] <| .br 58 (.ret [.bool false]) (.fn stp_s [h 5 11,.int .u8 (58)] 2 <| .fn rstp_s [h 5 11,.int .u8 (58)] 2 <| .lt 8 (.bin .neq) [h 60 3,h 62 3] <| .br 63 (.ret [.bool false]) (.fn rsame_s [h 59 11,h 61 11] 1 <| .lt 8 (.un .not) [h 64 8] <| .br 65 (.ret [.bool false]) (.fn stp_s [h 5 11,.int .u8 (59)] 2 <| .fn rstp_s [h 5 11,.int .u8 (59)] 2 <| .lt 8 (.bin .neq) [h 67 3,h 69 3] <| .br 70 (.ret [.bool false]) (.fn rsame_s [h 66 11,h 68 11] 1 <| .lt 8 (.un .not) [h 71 8] <| .br 72 (.ret [.bool false]) (.fn stp_s [h 5 11,.int .u8 (57)] 2 <| .fn rstp_s [h 5 11,.int .u8 (57)] 2 <| .lt 8 (.bin .neq) [h 74 3,h 76 3] <| .br 77 (.ret [.bool false]) (.fn rsame_s [h 73 11,h 75 11] 1 <| .lt 8 (.un .not) [h 78 8] <| .br 79 (.ret [.bool false]) (.fn wks_s [] 1 <| .ret [h 80 8]))))))))))))))))))))
theorem pst_c {G:Nat→Option Obj} (hst:StartOk Tryd.prog G gl H0 n0):ConOk Tryd.prog G 3 [.s 11,.a [11,11],.s 4] pst_s [.s 8]:=by
 refine con_of_tree (C:=cx U_pst P_rwl) (d:=60) pst_t (cxg (U_pst_ok hst) (P_rwl_ok hst)) hst ⟨Tryd.f3,_,Tryd.func3,rfl⟩ (by kernel_rfl) (by kernel_rfl) ?_
 intro us outs hs
 unfold pst_s at hs
 split at hs
 ·skip
  rename_i u_l u_pa u_ma c
  have hq_l:=Option.bind_eq_some_iff.1 hs
  clear hs
  obtain ⟨l,hd_l,hs⟩:=hq_l
  replace hd_l:=decS_eq hd_l
  subst hd_l
  have hq_pa:=Option.bind_eq_some_iff.1 hs
  clear hs
  obtain ⟨pa,hd_pa,hs⟩:=hq_pa
  replace hd_pa:=decS_eq hd_pa
  subst hd_pa
  have hq_ma:=Option.bind_eq_some_iff.1 hs
  clear hs
  obtain ⟨ma,hd_ma,hs⟩:=hq_ma
  replace hd_ma:=decS_eq hd_ma
  subst hd_ma
  split at hs
  ·rename_i hc
   cases hs
   have la:=short_lens l
   have lo:=lens_of (row_ok hc.2.1.2.2.1 hc.2.1.2.2.2)
   unfold pst_t
   refine s0 (.cons 3 _ (.cons 2 _ (.cons 1 _ (.cons 0 _ (.nil))))) rfl (by simp [Ev.ok,Ev.len]) ?_
   refine s31 (sh_s_e _) rfl ?_
   refine s31 (row_s_e _ _ hc.2.1) rfl ?_
   first|refine s1 (ev_remW (by omega) (by omega)) rfl rfl rfl ?_|refine s1 (ev_rem _ _ _ (by omega)) rfl rfl rfl ?_
   first|refine s1 (ev_addW (wrap8 (by omega) (by omega))) rfl rfl rfl ?_|refine s1 (ev_add _ _ _) rfl rfl rfl ?_
   refine s32 (stp_s_e _ _ (by first|exact la|exact lo)) rfl rfl ?_
   refine s32 (rstp_s_e _ _ (by first|exact ⟨la,by omega⟩|exact ⟨lo,by omega⟩)) rfl rfl ?_
   refine s1 (ev_neq _ _ _) rfl rfl rfl ?_
   refine s4 rfl (fun g0=>?_) fun g0=>?_
   ·refine s7 [.bool _] rfl ?_
    first|rfl|(exfalso; exact absurd (rst_same _ _).1.symm (by assumption))|(exfalso; exact absurd (of_decide_eq_true (rst_same _ _).2.1) (by assumption))
   refine s31 (rsame_s_e _ _ (rst_same _ _).2.2) rfl ?_
   first|refine s1 (ev_notD _) rfl rfl rfl ?_|refine s1 (ev_not _) rfl rfl rfl ?_
   first|refine s4 rfl (fun g1=>?_) (fun g1=>?_)|refine s4B rfl (fun g1=>?_) (fun g1=>?_)
   ·refine s7 [.bool _] rfl ?_
    first|rfl|(exfalso; exact absurd (rst_same _ _).1.symm (by assumption))|(exfalso; exact absurd (of_decide_eq_true (rst_same _ _).2.1) (by assumption))
   refine s32 (stp_s_e _ _ (by first|exact la|exact lo)) rfl rfl ?_
   refine s32 (rstp_s_e _ _ (by first|exact ⟨la,by omega⟩|exact ⟨lo,by omega⟩)) rfl rfl ?_
   refine s1 (ev_neq _ _ _) rfl rfl rfl ?_
   refine s4 rfl (fun g2=>?_) fun g2=>?_
   ·refine s7 [.bool _] rfl ?_
    first|rfl|(exfalso; exact absurd (rst_same _ _).1.symm (by assumption))|(exfalso; exact absurd (of_decide_eq_true (rst_same _ _).2.1) (by assumption))
   refine s31 (rsame_s_e _ _ (rst_same _ _).2.2) rfl ?_
   first|refine s1 (ev_notD _) rfl rfl rfl ?_|refine s1 (ev_not _) rfl rfl rfl ?_
   first|refine s4 rfl (fun g3=>?_) (fun g3=>?_)|refine s4B rfl (fun g3=>?_) (fun g3=>?_)
   ·refine s7 [.bool _] rfl ?_
    first|rfl|(exfalso; exact absurd (rst_same _ _).1.symm (by assumption))|(exfalso; exact absurd (of_decide_eq_true (rst_same _ _).2.1) (by assumption))
   refine s32 (stp_s_e _ _ (by first|exact la|exact lo)) rfl rfl ?_
   refine s32 (rstp_s_e _ _ (by first|exact ⟨la,by omega⟩|exact ⟨lo,by omega⟩)) rfl rfl ?_
   refine s1 (ev_neq _ _ _) rfl rfl rfl ?_
   refine s4 rfl (fun g4=>?_) fun g4=>?_
   ·refine s7 [.bool _] rfl ?_
    first|rfl|(exfalso; exact absurd (rst_same _ _).1.symm (by assumption))|(exfalso; exact absurd (of_decide_eq_true (rst_same _ _).2.1) (by assumption))
   refine s31 (rsame_s_e _ _ (rst_same _ _).2.2) rfl ?_
   first|refine s1 (ev_notD _) rfl rfl rfl ?_|refine s1 (ev_not _) rfl rfl rfl ?_
   first|refine s4 rfl (fun g5=>?_) (fun g5=>?_)|refine s4B rfl (fun g5=>?_) (fun g5=>?_)
   ·refine s7 [.bool _] rfl ?_
    first|rfl|(exfalso; exact absurd (rst_same _ _).1.symm (by assumption))|(exfalso; exact absurd (of_decide_eq_true (rst_same _ _).2.1) (by assumption))
   refine s32 (stp_s_e _ _ (by first|exact la|exact lo)) rfl rfl ?_
   refine s32 (rstp_s_e _ _ (by first|exact ⟨la,by omega⟩|exact ⟨lo,by omega⟩)) rfl rfl ?_
   refine s1 (ev_neq _ _ _) rfl rfl rfl ?_
   refine s4 rfl (fun g6=>?_) fun g6=>?_
   ·refine s7 [.bool _] rfl ?_
    first|rfl|(exfalso; exact absurd (rst_same _ _).1.symm (by assumption))|(exfalso; exact absurd (of_decide_eq_true (rst_same _ _).2.1) (by assumption))
   refine s31 (rsame_s_e _ _ (rst_same _ _).2.2) rfl ?_
   first|refine s1 (ev_notD _) rfl rfl rfl ?_|refine s1 (ev_not _) rfl rfl rfl ?_
   first|refine s4 rfl (fun g7=>?_) (fun g7=>?_)|refine s4B rfl (fun g7=>?_) (fun g7=>?_)
   ·refine s7 [.bool _] rfl ?_
    first|rfl|(exfalso; exact absurd (rst_same _ _).1.symm (by assumption))|(exfalso; exact absurd (of_decide_eq_true (rst_same _ _).2.1) (by assumption))
   refine s32 (stp_s_e _ _ (by first|exact la|exact lo)) rfl rfl ?_
   refine s32 (rstp_s_e _ _ (by first|exact ⟨la,by omega⟩|exact ⟨lo,by omega⟩)) rfl rfl ?_
   refine s1 (ev_neq _ _ _) rfl rfl rfl ?_
   refine s4 rfl (fun g8=>?_) fun g8=>?_
   ·refine s7 [.bool _] rfl ?_
    first|rfl|(exfalso; exact absurd (rst_same _ _).1.symm (by assumption))|(exfalso; exact absurd (of_decide_eq_true (rst_same _ _).2.1) (by assumption))
   refine s31 (rsame_s_e _ _ (rst_same _ _).2.2) rfl ?_
   first|refine s1 (ev_notD _) rfl rfl rfl ?_|refine s1 (ev_not _) rfl rfl rfl ?_
   first|refine s4 rfl (fun g9=>?_) (fun g9=>?_)|refine s4B rfl (fun g9=>?_) (fun g9=>?_)
   ·refine s7 [.bool _] rfl ?_
    first|rfl|(exfalso; exact absurd (rst_same _ _).1.symm (by assumption))|(exfalso; exact absurd (of_decide_eq_true (rst_same _ _).2.1) (by assumption))
   first|refine s1 (ev_remW (by omega) (by omega)) rfl rfl rfl ?_|refine s1 (ev_rem _ _ _ (by omega)) rfl rfl rfl ?_
   first|refine s1 (ev_addW (wrap8 (by omega) (by omega))) rfl rfl rfl ?_|refine s1 (ev_add _ _ _) rfl rfl rfl ?_
   refine s32 (stp_s_e _ _ (by first|exact la|exact lo)) rfl rfl ?_
   refine s32 (rstp_s_e _ _ (by first|exact ⟨la,by omega⟩|exact ⟨lo,by omega⟩)) rfl rfl ?_
   refine s1 (ev_neq _ _ _) rfl rfl rfl ?_
   refine s4 rfl (fun g10=>?_) fun g10=>?_
   ·refine s7 [.bool _] rfl ?_
    first|rfl|(exfalso; exact absurd (rst_same _ _).1.symm (by assumption))|(exfalso; exact absurd (of_decide_eq_true (rst_same _ _).2.1) (by assumption))
   refine s31 (rsame_s_e _ _ (rst_same _ _).2.2) rfl ?_
   first|refine s1 (ev_notD _) rfl rfl rfl ?_|refine s1 (ev_not _) rfl rfl rfl ?_
   first|refine s4 rfl (fun g11=>?_) (fun g11=>?_)|refine s4B rfl (fun g11=>?_) (fun g11=>?_)
   ·refine s7 [.bool _] rfl ?_
    first|rfl|(exfalso; exact absurd (rst_same _ _).1.symm (by assumption))|(exfalso; exact absurd (of_decide_eq_true (rst_same _ _).2.1) (by assumption))
   refine s32 (stp_s_e _ _ (by first|exact la|exact lo)) rfl rfl ?_
   refine s32 (rstp_s_e _ _ (by first|exact ⟨la,by omega⟩|exact ⟨lo,by omega⟩)) rfl rfl ?_
   refine s1 (ev_neq _ _ _) rfl rfl rfl ?_
   refine s4 rfl (fun g12=>?_) fun g12=>?_
   ·refine s7 [.bool _] rfl ?_
    first|rfl|(exfalso; exact absurd (rst_same _ _).1.symm (by assumption))|(exfalso; exact absurd (of_decide_eq_true (rst_same _ _).2.1) (by assumption))
   refine s31 (rsame_s_e _ _ (rst_same _ _).2.2) rfl ?_
   first|refine s1 (ev_notD _) rfl rfl rfl ?_|refine s1 (ev_not _) rfl rfl rfl ?_
   first|refine s4 rfl (fun g13=>?_) (fun g13=>?_)|refine s4B rfl (fun g13=>?_) (fun g13=>?_)
   ·refine s7 [.bool _] rfl ?_
    first|rfl|(exfalso; exact absurd (rst_same _ _).1.symm (by assumption))|(exfalso; exact absurd (of_decide_eq_true (rst_same _ _).2.1) (by assumption))
   refine s32 (stp_s_e _ _ (by first|exact la|exact lo)) rfl rfl ?_
   refine s32 (rstp_s_e _ _ (by first|exact ⟨la,by omega⟩|exact ⟨lo,by omega⟩)) rfl rfl ?_
   refine s1 (ev_neq _ _ _) rfl rfl rfl ?_
   refine s4 rfl (fun g14=>?_) fun g14=>?_
   ·refine s7 [.bool _] rfl ?_
    first|rfl|(exfalso; exact absurd (rst_same _ _).1.symm (by assumption))|(exfalso; exact absurd (of_decide_eq_true (rst_same _ _).2.1) (by assumption))
   refine s31 (rsame_s_e _ _ (rst_same _ _).2.2) rfl ?_
   first|refine s1 (ev_notD _) rfl rfl rfl ?_|refine s1 (ev_not _) rfl rfl rfl ?_
   first|refine s4 rfl (fun g15=>?_) (fun g15=>?_)|refine s4B rfl (fun g15=>?_) (fun g15=>?_)
   ·refine s7 [.bool _] rfl ?_
    first|rfl|(exfalso; exact absurd (rst_same _ _).1.symm (by assumption))|(exfalso; exact absurd (of_decide_eq_true (rst_same _ _).2.1) (by assumption))
   refine s32 (stp_s_e _ _ (by first|exact la|exact lo)) rfl rfl ?_
   refine s32 (rstp_s_e _ _ (by first|exact ⟨la,by omega⟩|exact ⟨lo,by omega⟩)) rfl rfl ?_
   refine s1 (ev_neq _ _ _) rfl rfl rfl ?_
   refine s4 rfl (fun g16=>?_) fun g16=>?_
   ·refine s7 [.bool _] rfl ?_
    first|rfl|(exfalso; exact absurd (rst_same _ _).1.symm (by assumption))|(exfalso; exact absurd (of_decide_eq_true (rst_same _ _).2.1) (by assumption))
   refine s31 (rsame_s_e _ _ (rst_same _ _).2.2) rfl ?_
   first|refine s1 (ev_notD _) rfl rfl rfl ?_|refine s1 (ev_not _) rfl rfl rfl ?_
   first|refine s4 rfl (fun g17=>?_) (fun g17=>?_)|refine s4B rfl (fun g17=>?_) (fun g17=>?_)
   ·refine s7 [.bool _] rfl ?_
    first|rfl|(exfalso; exact absurd (rst_same _ _).1.symm (by assumption))|(exfalso; exact absurd (of_decide_eq_true (rst_same _ _).2.1) (by assumption))
   refine s32 (stp_s_e _ _ (by first|exact la|exact lo)) rfl rfl ?_
   refine s32 (rstp_s_e _ _ (by first|exact ⟨la,by omega⟩|exact ⟨lo,by omega⟩)) rfl rfl ?_
   refine s1 (ev_neq _ _ _) rfl rfl rfl ?_
   refine s4 rfl (fun g18=>?_) fun g18=>?_
   ·refine s7 [.bool _] rfl ?_
    first|rfl|(exfalso; exact absurd (rst_same _ _).1.symm (by assumption))|(exfalso; exact absurd (of_decide_eq_true (rst_same _ _).2.1) (by assumption))
   refine s31 (rsame_s_e _ _ (rst_same _ _).2.2) rfl ?_
   first|refine s1 (ev_notD _) rfl rfl rfl ?_|refine s1 (ev_not _) rfl rfl rfl ?_
   first|refine s4 rfl (fun g19=>?_) (fun g19=>?_)|refine s4B rfl (fun g19=>?_) (fun g19=>?_)
   ·refine s7 [.bool _] rfl ?_
    first|rfl|(exfalso; exact absurd (rst_same _ _).1.symm (by assumption))|(exfalso; exact absurd (of_decide_eq_true (rst_same _ _).2.1) (by assumption))
   refine s31 rfl rfl ?_
   refine s7 [.bool _] rfl ?_
   first|rfl|(exfalso; exact absurd (rst_same _ _).1.symm (by assumption))|(exfalso; exact absurd (of_decide_eq_true (rst_same _ _).2.1) (by assumption))
  ·cases hs
 ·cases hs
end Go.Proofs.YtadmkfclgpbebaaDoor

namespace Go.Proofs.YtadmkfclgpbebaaDoor.paramStepsDone
set_option linter.all false
open Go Go.Sx Go.ChangeShapes Go.WideShapes Go.ChangeAt Go.RowKit
set_option linter.unusedVariables false
set_option maxRecDepth 100000
theorem start {W:World} (h:laidMetH Tryd.prog Rows.paramStepsRow.laid W):StartOk Tryd.prog (fun k=>W.heap[k]?) gl H0 n0:=by
 rw [MakeChecks.laidMetH_plain _ _ _ (by kernel_rfl)] at h
 have r2:RowAt W 2 [.int .u8 (0),.int .u8 (1),.int .u8 (28),.int .u8 (2),.int .u8 (29),.int .u8 (14),.int .u8 (24),.int .u8 (3),.int .u8 (30),.int .u8 (22),.int .u8 (20),.int .u8 (15),.int .u8 (25),.int .u8 (17),.int .u8 (4),.int .u8 (8),.int .u8 (31),.int .u8 (27),.int .u8 (13),.int .u8 (23),.int .u8 (21),.int .u8 (19),.int .u8 (16),.int .u8 (7),.int .u8 (26),.int .u8 (12),.int .u8 (18),.int .u8 (6),.int .u8 (11),.int .u8 (5),.int .u8 (10),.int .u8 (9)]:=rowAt_data (by kernel_rfl) (laid_row (n := "math/bits.deBruijn32tab") (d:=Rows.laid_math_bits_deBruijn32tab) (g:=2) (k:=6) (t:=117) h (List.mem_of_getElem? (i:=0) rfl) (by kernel_rfl) (by kernel_rfl) (by kernel_rfl))
 have r3:RowAt W 3 [.int .u8 (0),.int .u8 (1),.int .u8 (56),.int .u8 (2),.int .u8 (57),.int .u8 (49),.int .u8 (28),.int .u8 (3),.int .u8 (61),.int .u8 (58),.int .u8 (42),.int .u8 (50),.int .u8 (38),.int .u8 (29),.int .u8 (17),.int .u8 (4),.int .u8 (62),.int .u8 (47),.int .u8 (59),.int .u8 (36),.int .u8 (45),.int .u8 (43),.int .u8 (51),.int .u8 (22),.int .u8 (53),.int .u8 (39),.int .u8 (33),.int .u8 (30),.int .u8 (24),.int .u8 (18),.int .u8 (12),.int .u8 (5),.int .u8 (63),.int .u8 (55),.int .u8 (48),.int .u8 (27),.int .u8 (60),.int .u8 (41),.int .u8 (37),.int .u8 (16),.int .u8 (46),.int .u8 (35),.int .u8 (44),.int .u8 (21),.int .u8 (52),.int .u8 (32),.int .u8 (23),.int .u8 (11),.int .u8 (54),.int .u8 (26),.int .u8 (40),.int .u8 (15),.int .u8 (34),.int .u8 (20),.int .u8 (31),.int .u8 (10),.int .u8 (25),.int .u8 (14),.int .u8 (19),.int .u8 (9),.int .u8 (13),.int .u8 (8),.int .u8 (7),.int .u8 (6)]:=rowAt_data (by kernel_rfl) (laid_row (n := "math/bits.deBruijn64tab") (d:=Rows.laid_math_bits_deBruijn64tab) (g:=3) (k:=6) (t:=118) h (List.mem_of_getElem? (i:=1) rfl) (by kernel_rfl) (by kernel_rfl) (by kernel_rfl))
 have r1:RowAt W 1 [.int .u64 (1),.int .u64 (10),.int .u64 (100),.int .u64 (1000),.int .u64 (10000),.int .u64 (100000),.int .u64 (1000000),.int .u64 (10000000),.int .u64 (100000000),.int .u64 (1000000000),.int .u64 (10000000000),.int .u64 (100000000000),.int .u64 (1000000000000),.int .u64 (10000000000000),.int .u64 (100000000000000),.int .u64 (1000000000000000),.int .u64 (10000000000000000),.int .u64 (100000000000000000),.int .u64 (1000000000000000000),.int .u64 (10000000000000000000)]:=rowAt_data (by kernel_rfl) (laid_row (n := "internal/strconv.uint64pow10") (d:=Rows.laid_internal_strconv_uint64pow10) (g:=1) (k:=6) (t:=113) h (List.mem_of_getElem? (i:=2) rfl) (by kernel_rfl) (by kernel_rfl) (by kernel_rfl))
 have hs:gl≤W.heap.size:=by
  obtain ⟨C,T,fz,e,_⟩:=r3
  have:=(Array.getElem?_eq_some_iff.1 e).1
  show 4≤_
  omega
 refine start_of hs (by decide) ?_ ?_
 ·have e:(rows0.all fun r=>Nat.blt r.1 gl)=true:=by kernel_rfl
  exact fun r hr=>Nat.le_of_ble_eq_true (List.all_eq_true.1 e r hr)
 ·intro r hr
  unfold rows0 at hr
  rcases List.mem_cons.1 hr with rfl|hr
  ·exact r2
  rcases List.mem_cons.1 hr with rfl|hr
  ·exact r3
  rcases List.mem_cons.1 hr with rfl|hr
  ·exact r1
  cases hr
theorem own:ownKnob Tryd.prog.godebug=none:=by kernel_rfl
theorem laidOut:laidOutB Tryd.prog=true:=by kernel_rfl
noncomputable def low:Nat:=(World.holding Tryd.prog default ⟨#[],#[.slice none 0 0,.agg #[.slice none 0 0,.slice none 0 0],.int .u8 0],[]⟩).heap.size
noncomputable def put (g:Nat) (cs:Array Value) (h:Array Obj):Array Obj:=h.modify g fun
 | .cells _ t frozen=>.cells cs t frozen
 | o=>o
noncomputable def laidWorld (os:Os):World :=
 let w0:=World.holding Tryd.prog os ⟨#[],#[.slice none 0 0,.agg #[.slice none 0 0,.slice none 0 0],.int .u8 0],[]⟩
 { w0 with heap:=(put 1 (rows0.getD 2 (0,[])).2.toArray (put 3 (rows0.getD 1 (0,[])).2.toArray (put 2 (rows0.getD 0 (0,[])).2.toArray w0.heap))) }
theorem laid_met (os:Os):laidMet Tryd.prog Rows.paramStepsRow.laid ((laidWorld os).forCall (fun _ _=>0) ⟨#[],#[.slice none 0 0,.agg #[.slice none 0 0,.slice none 0 0],.int .u8 0],[]⟩).memory :=
 laidMet_of_run' 8 (by kernel_rfl) (by kernel_rfl)
theorem reads (os:Os) {H:Type} (enc:TypeId × Value→H):∃ places,DataW.whole enc Tryd.prog ((laidWorld os).forCall (fun _ _=>0) ⟨#[],#[.slice none 0 0,.agg #[.slice none 0 0,.slice none 0 0],.int .u8 0],[]⟩).memory Tryd.f3.params.toList Rows.paramStepsSpec.vars false [.slice none 0 0,.agg #[.slice none 0 0,.slice none 0 0],.int .u8 0] 8=some ([.nil,.agg [.nil,.nil],.lit (.int .u8 0)],[],places) :=
 ⟨[],by kernel_rfl⟩
theorem contract (H:Type) (enc:TypeId × Value→H) (W:World) (base:Nat) (args:Array Value) (ds gs:List (DataW H)) (before:List MemPlace)
  (hval:∀ (j:Nat) t v,Tryd.f3.params[j]? = some t→args[j]? = some v→Value.okWide Tryd.prog W .any base t v)
  (hW:DataW.Whole enc Tryd.prog Tryd.f3.params.toList Rows.paramStepsSpec.vars false W args.toList ds gs before) (hL:laidMetH Tryd.prog Rows.paramStepsRow.laid W)
  (hwt:(DataW.weightsEach Tryd.prog (Tryd.f3.params.toList++(OpenSpec.ofChange Rows.paramStepsSpec).bare.plain.varTypes Tryd.prog) (ds++gs)).all (·≤reachBytes)=true) :
  Calls Tryd.prog 3 args W fun e W'=>∃ v,e=.returned v∧Rows.paramStepsSpec.post enc Tryd.prog Tryd.f3 false true false false W args v W':=by
 have hW':=hW
 obtain ⟨p,q,hA0,hV,rfl,hfz,hnd⟩:=hW
 have hA:DataW.TrodAll enc Tryd.prog W 0 (fun _=>true) true Tryd.f3.params.toList args.toList ds p:=hA0
 rw [Tryd.params3] at hA hval hwt
 obtain ⟨v0,vs0,d0,ds0,p0,q0,hargs,rfl,rfl,h0,tl0⟩:=trodAll_cons hA
 obtain ⟨v1,vs1,d1,ds1,p1,q1,rfl,rfl,rfl,h1,tl1⟩:=trodAll_cons tl0
 obtain ⟨v2,vs2,d2,ds2,p2,q2,rfl,rfl,rfl,h2,tl2⟩:=trodAll_cons tl1
 obtain ⟨rfl,rfl,rfl⟩:=trodAll_nil tl2
 obtain rfl:args=#[v0,v1,v2]:=by cases args; simp_all
 obtain ⟨rfl,rfl⟩:=trodVars_none hV
 have lt0:∀ x ∈ p0,x.block < W.heap.size:=by obtain ⟨m,hm⟩:=h0; exact DataW.trod_lt m _ _ _ hm
 have wl0:Light Tryd.prog 22 d0:=weightsEach_get (i:=0) hwt rfl rfl
 obtain ⟨a0,s0,q0⟩:=arg_s (c:=(cSl rP)) (RdC.slice' (r:=rP) (e:=47) 24 (by kernel_rfl) (by kernel_rfl) (by decide) (by kernel_rfl) (by decide) (RdR.of (k:=12) (ts:=[45]) (by kernel_rfl) (RdL.nil1 (RdC.slice' (r:=rI) (e:=3) 8 (by kernel_rfl) (by kernel_rfl) (by decide) (by kernel_rfl) (by decide) (RdR.of (k:=12) (ts:=[3]) (by kernel_rfl) (RdL.nil1 (RdC.i64 (by kernel_rfl)))))))) (by kernel_rfl) (hval 0 22 v0 rfl rfl) h0 wl0
 try simp only at q0
 have lt1:∀ x ∈ p1,x.block < W.heap.size:=by obtain ⟨m,hm⟩:=h1; exact DataW.trod_lt m _ _ _ hm
 have wl1:Light Tryd.prog 26 d1:=weightsEach_get (i:=1) hwt rfl rfl
 obtain ⟨⟨a1_0,a1_1⟩,s1,q1⟩:=arg_a (r:=(rC (cSl rU) (r1 (cSl rB)))) (tg:=[11,11]) (RdR.of (k:=12) (ts:=[23,24]) (by kernel_rfl) (RdL.cons (RdC.slice' (r:=rU) (e:=60) 2 (by kernel_rfl) (by kernel_rfl) (by decide) (by kernel_rfl) (by decide) (RdR.of (k:=12) (ts:=[60]) (by kernel_rfl) (RdL.nil1 (RdC.u16 (by kernel_rfl))))) (RdL.nil1 (RdC.slice' (r:=rB) (e:=5) 1 (by kernel_rfl) (by kernel_rfl) (by decide) (by kernel_rfl) (by decide) (RdR.of (k:=12) (ts:=[5]) (by kernel_rfl) (RdL.nil1 (RdC.u8 (by kernel_rfl)))))))) (fun _=>by simp only [rC,r1,List.map_cons,List.map_nil,cSl,cInt,cBool,cStr,tagS]; rfl) (okWide_agg (by kernel_rfl) (hval 1 26 v1 rfl rfl)) h1 wl1
 try simp only at q1
 have lt2:∀ x ∈ p2,x.block < W.heap.size:=by obtain ⟨m,hm⟩:=h2; exact DataW.trod_lt m _ _ _ hm
 have wl2:Light Tryd.prog 5 d2:=weightsEach_get (i:=2) hwt rfl rfl
 obtain ⟨a2,s2,q2⟩:=arg_s (c:=(cInt .u8)) (RdC.u8 (by kernel_rfl)) (by kernel_rfl) (hval 2 5 v2 rfl rfl) h2 wl2
 try simp only at q2
 clear hA0
 simp only [List.append_nil] at hW'
 have hsh:ShL (hpOf W) [.s 11,.a [11,11],.s 4] [encS rP a0,encS rU a1_0,encS rB a1_1,.int .u8 a2] [v0,v1,v2]:=(.cons s0 (.cons s1 (.cons s2 .nil)))
 obtain ⟨_,hc⟩:=pst_c (start hL) [encS rP a0,encS rU a1_0,encS rB a1_1,.int .u8 a2] [.bool true] W _ (hpOf W) hsh (pst_s_e _ _ _ _ ⟨q0.1,⟨q1.2.1,q1.1.1,q1.2.2,q1.1.2⟩,q2.1,q2.2⟩) (fun k o h=>h) (fun k o h=>h)
 refine hc.mono fun e W' ⟨r,R',hr,he,hg,_⟩=>?_
 have hrv:=val_of_shL (vs2:=[.bool true]) hr rfl
 subst hrv
 subst he
 have bel:Below W.heap.size W W':=⟨hg.os.1,hg.os.2.1,hg.os.2.2,hg.size,hg.keep⟩
 exact ⟨_,rfl,_,_,_,[],_,[],hW',trodAll_mk1 (shut_bool Tryd.underlying4 _),(trodAll_cons_mk (Below.trod laidOut (by kernel_rfl) (of_decide_eq_true (by kernel_rfl)) h0 bel lt0) (trodAll_cons_mk (Below.trod laidOut (by kernel_rfl) (of_decide_eq_true (by kernel_rfl)) h1 bel lt1) (trodAll_cons_mk (Below.trod laidOut (by kernel_rfl) (of_decide_eq_true (by kernel_rfl)) h2 bel lt2) trodAll_mk0))),rfl,hg.kept _,fun h=>by cases h⟩
theorem lifted (os:Os) (started:os.Started) (H:Type) (enc:TypeId × Value→H) (F:Stop.Interp) :
  ReturnsInHanded {} Tryd.checked os 3 .any ((OpenSpec.ofChange Rows.paramStepsSpec).preRow enc Tryd.prog Tryd.f3 Rows.paramStepsRow.domain false Rows.paramStepsRow.laid) (((OpenSpec.ofChange Rows.paramStepsSpec).at F).post enc Tryd.prog Tryd.f3 false true false false):=by
 obtain ⟨places,hx⟩:=reads os enc
 refine returnsInHanded_of_row (C:=Tryd.checked) (s:=OpenSpec.ofChange Rows.paramStepsSpec) own started (by kernel_rfl) Tryd.func3
  (witness_row_at (enc:=enc) (C:=Tryd.checked) false (laidWorld os) #[.slice none 0 0,.agg #[.slice none 0 0,.slice none 0 0],.int .u8 0] rfl (by kernel_rfl) (by kernel_rfl) (by kernel_rfl)
    (OpenSpec.preRow_of_cond 8 hx (by kernel_rfl) (fun k hk=>by cases hk) (by kernel_rfl) (laid_met os))) ?_
 intro W base args ds gs before hval hW _ _ hwt hL _ _
 exact contract H enc W base args ds gs before hval hW hL hwt
theorem said:Rows.ParamStepsSaid :=
 OpenClaim.holds_of_cond 3 Tryd.f3 rfl rfl rfl rfl rfl rfl rfl ⟨rfl,rfl,rfl,rfl,rfl⟩ rfl rfl rfl rfl rfl (by kernel_rfl) Tryd.func3 (by kernel_rfl)
  (of_decide_eq_true (by kernel_rfl)) (by unfold Func.isWrapper; first|(rw [if_pos (by decide +kernel)]; kernel_rfl)|(rw [if_neg (by decide +kernel)]; exact ⟨rfl,rfl⟩))
  (fun os started H enc _ F=>by rw [OpenClaim.pre_eq_preRow]; exact lifted os started H enc F)
theorem plain (f:FuncId) (fn:Func) (hf:Tryd.pinned.checked.prog.funcNamed "fenestra/fenestralaw05.ParamSteps"=some f) (hfn:Tryd.pinned.checked.prog.funcs[f]? = some fn) :
  false=Tryd.pinned.checked.prog.looks []∧∀ (j:Nat) t,fn.params[j]? = some t→Tryd.pinned.checked.prog.wantsStandIn t=false:=by
 obtain rfl:f=3:=Option.some.inj ((show Tryd.prog.funcNamed "fenestra/fenestralaw05.ParamSteps"=some 3 by kernel_rfl).symm.trans hf) |>.symm
 obtain rfl:fn=Tryd.f3:=(Option.some.inj (Tryd.func3.symm.trans hfn)).symm
 refine ⟨by kernel_rfl,fun j t ht=>?_⟩
 have hall:(Tryd.f3.params.toList.all fun t=>!Tryd.prog.wantsStandIn t)=true:=by kernel_rfl
 have:=List.all_eq_true.1 hall t (Array.mem_def.1 (Array.mem_of_getElem? ht))
 have h2:Tryd.prog.wantsStandIn t=false:=by simpa using this
 exact h2
theorem proved:Rows.ParamStepsCardSaid :=
 Claim7.holds_tied_plain_at .later [] _ _ _ _ said (fun _ h=>by cases h) (by kernel_rfl) (fun _ h=>by cases h) paramSteps_row_tie rfl ⟨rfl,rfl⟩ (by kernel_rfl) rfl plain (by kernel_rfl)
#print axioms proved
end Go.Proofs.YtadmkfclgpbebaaDoor.paramStepsDone
