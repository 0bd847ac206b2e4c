/- The law ParamParses: for every input the call returns true, and the arguments read behind it as they read before. No condition. -/
import Derived.Test.YtadmkfclgpbebaaDoorX9
namespace Go.Proofs.YtadmkfclgpbebaaDoor
set_option linter.all false
open Go Go.Sx
set_option maxRecDepth 100000
set_option linter.unusedVariables false
set_option linter.unusedSimpArgs false
def rwl_s:List U→Option (Nat × List U)
 | [u_l,u_out,.int .i64 i]=>(decS rP u_l).bind fun l=>(decS rP u_out).bind fun out=>if 0≤i∧i≤((el l).length:Int)∧((el out).length:Int)=i∧(el l).length≤100000000 then some (0,[encS rP (catS out (some ((el l).drop i.toNat)))]) else none
 | _=>none
theorem rwl_s_e (l:(Option (List (Option (List Int))))) (out:(Option (List (Option (List Int))))) (i:Int) (hc:0≤i∧i≤((el l).length:Int)∧((el out).length:Int)=i∧(el l).length≤100000000):rwl_s [encS rP l,encS rP out,.int .i64 i]=some (0,[encS rP (catS out (some ((el l).drop i.toNat)))]):=by
 simp only [rwl_s,decS_enc,Option.bind_some]
 exact if_pos hc
def rwl_D:LoopD:=⟨[(0,dat 5 0 11),(3,own 6 1 11),(4,h 2 3)],[(6,.sq 1 11 47 7),(5,.frz),(7,.frz)],3,[⟨.exit 0,[(3,own 8 0 11)],[(8,.sq 0 11 47 9),(9,.frz)],1⟩]⟩
noncomputable def rwl_B:Code:=(Tryd.f24.body).getD .skip
noncomputable def rwl_x:Code:=match codeAt [true,true,false,true,false] rwl_B with|some (.loop x)=>x|_=>.skip
theorem rwl_b:Tryd.f24.body=some rwl_B:=rfl
theorem rwl_p:codeAt [true,true,false,true,false] rwl_B=some (.loop rwl_x):=by kernel_rfl
def rwl_t:Tr:=.lt 3 (.len) [h 0 11] <| .lt 8 (.bin .lss) [h 2 3,h 3 3] <| .br 4 (.lt 8 (.inbs 1) [h 2 3,h 0 11] <| .br 5 (.dt 11 (.get 1 0) [h 0 11,h 2 3] <| .dt 11 (.snoc 1) [h 1 11,h 6 11] <| .lt 3 (.bin .add) [h 2 3,.int .i64 (1)] <| .ret [.int .i64 (-1),h 0 11,h 7 11,h 8 3]) (.no)) (.ret [.int .i64 (0),h 1 11])
def rwl_m:List U→Nat
 | [u_l,u_out,.int .i64 i]=>(match decS rP u_l with|some l=>(match decS rP u_out with|some out=>((el l).length - i).toNat|none=>0)|none=>0)
 | _=>0
theorem rwl_me (l:(Option (List (Option (List Int))))) (out:(Option (List (Option (List Int))))) (i:Int):rwl_m [encS rP l,encS rP out,.int .i64 i]=((el l).length - i).toNat:=by
 simp only [rwl_m,decS_enc]
theorem rwl_c {G:Nat→Option Obj} (hst:StartOk Tryd.prog G gl H0 n0):∀ (E:Nat→U) (base:Nat),@CodeOk ⟨E,G⟩ Tryd.prog base gl Tryd.f24.ntmps rwl_x (loopF Tryd.prog gl n0 10 rwl_D rwl_s):=by
 refine loop_ok (C:=cx L_prt P_pou) (dep:=60) (f:=24) (n0:=n0) (nB:=10) (H0:=H0) rwl_m rwl_t (cxg (L_prt_ok hst) (P_pou_ok hst)) hst Tryd.func24 rwl_b rwl_p (by kernel_rfl) (by kernel_rfl) (by kernel_rfl) ?_
 intro us d outs hs
 have hs0:=hs
 unfold rwl_s at hs
 split at hs
 ·skip
  rename_i u_l u_out i
  have hq_l:=Option.bind_eq_some_iff.1 hs
  clear hs
  obtain ⟨l,hd_l,hs⟩:=hq_l
  replace hd_l:=decS_eq hd_l
  subst hd_l
  have hq_out:=Option.bind_eq_some_iff.1 hs
  clear hs
  obtain ⟨out,hd_out,hs⟩:=hq_out
  replace hd_out:=decS_eq hd_out
  subst hd_out
  split at hs
  ·rename_i hc
   clear hs hs0
   refine ⟨rfl,?_⟩
   unfold rwl_t
   refine s0 (.cons 2 _ (.cons 1 _ (.cons 0 _ (.nil)))) rfl (by simp [Ev.ok,Ev.len]) ?_
   refine s1 (ev_lenS _ _) rfl rfl rfl ?_
   refine s1 (ev_lss _ _ _) rfl rfl rfl ?_
   refine s5 rfl (fun g0=>?_) fun g0=>?_
   ·refine s7 [.int .i64 _,encS rP _] rfl ?_
    refine leaf_exit (d:=0) ?_
    rw [rwl_s_e l out i hc,drop_end (el l) (by omega)]; rfl
   refine s1 (ev_inbsS rfl) rfl rfl rfl ?_
   refine s5 rfl (fun g1=>?_) fun g1=>?_
   ·refine s8 ?_
    first|omega|(simp_all; done)|(simp_all; omega)
   refine s2 (r:=rI) (ev_getS rfl (by omega) (by omega) rfl) rfl rfl ?_
   refine s2 (r:=rP) (ev_snocR rfl rfl (by decide) (by omega)) rfl rfl ?_
   first|refine s1 (ev_addW (wrap64 (by omega) (by omega))) rfl rfl rfl ?_|refine s1 (ev_add _ _ _) rfl rfl rfl ?_
   refine s7 [.int .i64 _,encS rP _,encS rP _,.int .i64 _] rfl ?_
   refine leaf_back ?_ ?_
   ·rw [rwl_s_e l out i hc,drop_step (el l) (by omega) (by omega),← catS_cons]
    exact rwl_s_e _ _ _ ⟨by omega,by omega,by simp [el_some]; omega,hc.2.2.2⟩
   ·rw [rwl_me,rwl_me]; omega
  ·cases hs
 ·cases hs
noncomputable def P_rwl:List LpE:=(24,([true,true,false,true,false],loopF Tryd.prog gl n0 10 rwl_D rwl_s))::P_pou
theorem P_rwl_ok {G:Nat→Option Obj} (hst:StartOk Tryd.prog G gl H0 n0):LpsOk Tryd.prog G gl P_rwl:=.cons Tryd.func24 rwl_b rwl_p (rwl_c hst) (P_pou_ok hst)
def rw_s:List U→Option (Nat × List U)
 | [u_l]=>(decS rP u_l).bind fun l=>if (el l).length≤100000000 then some (0,[encS rP (catS none (some (el l)))]) else none
 | _=>none
theorem rw_s_e (l:(Option (List (Option (List Int))))) (hc:(el l).length≤100000000):rw_s [encS rP l]=some (0,[encS rP (catS none (some (el l)))]):=by
 simp only [rw_s,decS_enc,Option.bind_some]
 exact if_pos hc
def rw_t:Tr:=.dt 11 (.nilw 1) [] <| .fn rwl_s [h 0 11,h 1 11,.int .i64 (0)] 1 <| .ret [h 2 11]
theorem rw_c {G:Nat→Option Obj} (hst:StartOk Tryd.prog G gl H0 n0):ConOk Tryd.prog G 24 [.s 11] rw_s [.s 11]:=by
 refine con_of_tree (C:=cx L_prt P_rwl) (d:=60) rw_t (cxg (L_prt_ok hst) (P_rwl_ok hst)) hst ⟨Tryd.f24,_,Tryd.func24,rfl⟩ (by kernel_rfl) (by kernel_rfl) ?_
 intro us outs hs
 unfold rw_s at hs
 split at hs
 ·skip
  rename_i u_l
  have hq_l:=Option.bind_eq_some_iff.1 hs
  clear hs
  obtain ⟨l,hd_l,hs⟩:=hq_l
  replace hd_l:=decS_eq hd_l
  subst hd_l
  split at hs
  ·rename_i hc
   cases hs
   unfold rw_t
   refine s0 (.cons 0 _ (.nil)) rfl (by simp [Ev.ok,Ev.len]) ?_
   refine s2 (r:=rP) (ev_nilwS rfl) rfl rfl ?_
   refine s31 (rwl_s_e l none 0 ⟨by decide,by omega,rfl,hc⟩) rfl ?_
   refine s7 [encS rP _] rfl ?_
   rfl
  ·cases hs
 ·cases hs
noncomputable def L_rw:List (FuncId × FnC):=(24,conF Tryd.prog [.s 11] rw_s [.s 11])::L_prt
theorem L_rw_ok {G:Nat→Option Obj} (hst:StartOk Tryd.prog G gl H0 n0):ConsOk Tryd.prog G gl L_rw:=.cons (rw_c hst) (L_prt_ok hst)
end Go.Proofs.YtadmkfclgpbebaaDoor

namespace Go.Proofs.YtadmkfclgpbebaaDoor
set_option linter.all false
open Go Go.Sx
set_option maxRecDepth 100000
set_option linter.unusedVariables false
set_option linter.unusedSimpArgs false
def rep_s:List U→Option (Nat × List U)
 | [.str s,.int .i64 c]=>if 0≤c∧c≤1000000000∧s.length * c.toNat≤1000000000 then some (0,[.str (Lib.repeatL s c.toNat)]) else none
 | _=>none
theorem rep_s_e (s:(List UInt8)) (c:Int) (hc:0≤c∧c≤1000000000∧s.length * c.toNat≤1000000000):rep_s [.str s,.int .i64 c]=some (0,[.str (Lib.repeatL s c.toNat)]):=if_pos hc
theorem rep_c {G:Nat→Option Obj} (hst:StartOk Tryd.prog G gl H0 n0):ConOk Tryd.prog G 19 [.s 9,.s 3] rep_s [.s 9]:=by
 intro us outs w vs R hsh hs hG hR
 unfold rep_s at hs
 split at hs
 ·skip
  rename_i s c
  split at hs
  ·rename_i hc
   cases hs
   have hv:=val_of_shL (vs2:=[.string ⟨⟨s⟩⟩,.int .i64 c]) hsh rfl
   subst hv
   refine con_end (vr:=[.string ⟨⟨Lib.repeatL s c.toNat⟩⟩]) Tryd.func19 rfl (by kernel_rfl) rfl ?_
   obtain ⟨k,rfl⟩:∃ k:Nat,c=k:=⟨c.toNat,by omega⟩
   rw [Int.toNat_natCast] at hc ⊢
   by_cases h0:k=0
   ·subst h0
    exact (Tryd.strings_Repeat_zero ⟨⟨s⟩⟩ w).mono fun e w' ⟨h1,h2⟩=>⟨h1,by subst h2; exact RowKit.Below.refl _ _⟩
   by_cases h1:k=1
   ·subst h1
    exact (Tryd.strings_Repeat_one ⟨⟨s⟩⟩ w).mono fun e w' ⟨h1,h2⟩=>⟨by rw [Lib.repeatL_one]; exact h1,by subst h2; exact RowKit.Below.refl _ _⟩
   by_cases h2:s=[]
   ·subst h2
    exact (Tryd.strings_Repeat_empty ⟨⟨[]⟩⟩ k w (by omega) (by omega) rfl).mono fun e w' ⟨h1,h2⟩=>⟨by rw [Lib.repeatL_nil]; exact h1,by subst h2; exact RowKit.Below.refl _ _⟩
   have h3:0 < s.length:=List.length_pos_iff.2 h2
   exact (Tryd.strings_Repeat_main ⟨⟨s⟩⟩ k w (by omega) (by omega) (by show s.length * k≤_; omega) h3).mono fun e w' ⟨h1,h2⟩=>⟨h1,h2⟩
  ·cases hs
 ·cases hs
noncomputable def L_rep:List (FuncId × FnC):=(19,conF Tryd.prog [.s 9,.s 3] rep_s [.s 9])::L_rw
theorem L_rep_ok {G:Nat→Option Obj} (hst:StartOk Tryd.prog G gl H0 n0):ConsOk Tryd.prog G gl L_rep:=.cons (rep_c hst) (L_rw_ok hst)
end Go.Proofs.YtadmkfclgpbebaaDoor

namespace Go.Proofs.YtadmkfclgpbebaaDoor
set_option linter.all false
open Go Go.Sx
set_option maxRecDepth 100000
set_option linter.unusedVariables false
set_option linter.unusedSimpArgs false
def wks_s:List U→Option (Nat × List U)
 | []=>some (0,[.bool (true)])
 | _=>none
def wks_t:Tr:=.fn prs_s [.string ⟨⟨[49,59,50,58,51]⟩⟩] 2 <| .lt 8 (.bin .eql) [h 1 3,.int .i64 (0)] <| .br 2 (.dt 11 (.mk 1) [.int .i64 (1)] <| .dt 11 (.mk 1) [.int .i64 (2),.int .i64 (3)] <| .dt 11 (.mk 1) [h 3 11,h 4 11] <| .fn rw_s [h 5 11] 1 <| .fn rsame_s [h 0 11,h 6 11] 1 <| .br 7 (.fn prs_s [.string ⟨⟨[]⟩⟩] 2 <| .lt 8 (.bin .eql) [h 9 3,.int .i64 (0)] <| .br 10 (.dt 11 (.nilw 1) [] <| .fn rw_s [h 11 11] 1 <| .fn rsame_s [h 8 11,h 12 11] 1 <| .br 13 (.fn prs_s [.string ⟨⟨[59]⟩⟩] 2 <| .lt 8 (.bin .eql) [h 15 3,.int .i64 (0)] <| .br 16 (.dt 11 (.mk 1) [.int .i64 (-1)] <| .dt 11 (.mk 1) [.int .i64 (-1)] <| .dt 11 (.mk 1) [h 17 11,h 18 11] <| .fn rw_s [h 19 11] 1 <| .fn rsame_s [h 14 11,h 20 11] 1 <| .br 21 (.fn prs_s [.string ⟨⟨[48,48,55]⟩⟩] 2 <| .lt 8 (.bin .eql) [h 23 3,.int .i64 (0)] <| .br 24 (.dt 11 (.mk 1) [.int .i64 (7)] <| .dt 11 (.mk 1) [h 25 11] <| .fn rw_s [h 26 11] 1 <| .fn rsame_s [h 22 11,h 27 11] 1 <| .br 28 (.fn prs_s [.string ⟨⟨[57,57,57,57,57]⟩⟩] 2 <| .lt 8 (.bin .eql) [h 30 3,.int .i64 (0)] <| .br 31 (.dt 11 (.mk 1) [.int .i64 (9999)] <| .dt 11 (.mk 1) [h 32 11] <| .fn rw_s [h 33 11] 1 <| .fn rsame_s [h 29 11,h 34 11] 1 <| .br 35 (.fn prs_s [.string ⟨⟨[52,58]⟩⟩] 2 <| .lt 8 (.bin .eql) [h 37 3,.int .i64 (0)] <| .br 38 (.dt 11 (.mk 1) [.int .i64 (4),.int .i64 (-1)] <| .dt 11 (.mk 1) [h 39 11] <| .fn rw_s [h 40 11] 1 <| .fn rsame_s [h 36 11,h 41 11] 1 <| .dt 11 (.mk 1) [.int .i64 (38),.int .i64 (2),.int .i64 (-1),.int .i64 (9),.int .i64 (8),.int .i64 (7)] <| .dt 11 (.mk 1) [.int .i64 (1)] <| .dt 11 (.mk 1) [h 43 11,h 44 11] <| .fn rw_s [h 45 11] 1 <| .fn prt_s [h 46 11] 2 <| .dt 11 (.mk 1) [.int .i64 (-1)] <| .dt 11 (.mk 1) [h 49 11] <| .fn rw_s [h 50 11] 1 <| .fn chk_s [h 51 11] 1 <| .lt 8 (.bin .eql) [h 52 3,.int .i64 (150)] <| .br 53 (.dt 11 (.mk 1) [.int .i64 (10000)] <| .dt 11 (.mk 1) [h 54 11] <| .fn rw_s [h 55 11] 1 <| .fn chk_s [h 56 11] 1 <| .lt 8 (.bin .eql) [h 57 3,.int .i64 (150)] <| .br 58 (.dt 11 (.nilw 1) [] <| .dt 11 (.mk 1) [h 59 11] <| .fn rw_s [h 60 11] 1 <| .fn chk_s [h 61 11] 1 <| .lt 8 (.bin .eql) [h 62 3,.int .i64 (150)] <| .dt 11 (.mk 1) [.int .i64 (5)] <| .dt 11 (.mk 1) [.int .i64 (-1)] <| .dt 11 (.mk 1) [h 64 11,h 65 11] <| .fn rw_s [h 66 11] 1 <| .fn val_s [h 67 11,.int .i64 (0),.int .i64 (9)] 1 <| .lt 8 (.bin .eql) [h 68 3,.int .i64 (5)] <| .br 69 (.fn val_s [h 67 11,.int .i64 (1),.int .i64 (9)] 1 <| .lt 8 (.bin .eql) [h 70 3,.int .i64 (9)] <| .br 71 (.fn val_s [h 67 11,.int .i64 (2),.int .i64 (9)] 1 <| .lt 8 (.bin .eql) [h 72 3,.int .i64 (9)] <| .br 42 (.lt 8 (.bin .eql) [h 47 9,.string ⟨⟨[51,56,58,50,58,58,57,58,56,58,55,59,49]⟩⟩] <| .br 74 (.lt 8 (.bin .eql) [h 48 3,.int .i64 (0)] <| .br 75 (.br 63 (.fn prs_s [.string ⟨⟨[49,97]⟩⟩] 2 <| .lt 8 (.bin .eql) [h 77 3,.int .i64 (6)] <| .br 78 (.lt 3 (.len) [h 76 11] <| .lt 8 (.bin .eql) [h 79 3,.int .i64 (0)] <| .br 80 (.fn rep_s [.string ⟨⟨[59]⟩⟩,.int .i64 (16)] 1 <| .fn prs_s [h 81 9] 2 <| .lt 8 (.bin .eql) [h 83 3,.int .i64 (3)] <| .br 84 (.lt 3 (.len) [h 82 11] <| .lt 8 (.bin .eql) [h 85 3,.int .i64 (0)] <| .br 86 (.fn prs_s [.string ⟨⟨[49,58,50,58,51,58,52,58,53,58,54,58]⟩⟩] 2 <| .lt 8 (.bin .eql) [h 88 3,.int .i64 (3)] <| .br 89 (.lt 3 (.len) [h 87 11] <| .lt 8 (.bin .eql) [h 90 3,.int .i64 (0)] <| .br 91 (.ret [h 73 8]) (.no)) (.no)) (.no)) (.no)) (.no)) (.no)) (.no)) (.no)) (.no)) (.no)) (.no)) (.no)) (.no)) (.no)) (.no)) (.no)) (.no)) (.no)) (.no)) (.no)) (.no)) (.no)) (.no)) (.no)) (.no)
theorem wks_c {G:Nat→Option Obj} (hst:StartOk Tryd.prog G gl H0 n0):ConOk Tryd.prog G 15 [] wks_s [.s 8]:=by
 refine con_of_tree (C:=cx L_rep P_rwl) (d:=60) wks_t (cxg (L_rep_ok hst) (P_rwl_ok hst)) hst ⟨Tryd.f15,_,Tryd.func15,rfl⟩ (by kernel_rfl) (by kernel_rfl) ?_
 intro us outs hs
 unfold wks_s at hs
 split at hs
 ·skip
  skip
  cases hs
  unfold wks_t
  refine s0 (.nil) rfl (by simp [Ev.ok,Ev.len]) ?_
  refine s32 (prs_s_e _) rfl rfl ?_
  refine s1 (ev_eql _ _ _) rfl rfl rfl ?_
  refine s5 rfl (fun g0=>?_) fun g0=>?_
  ·refine s8 ?_
   (refine absurd ?_ (by assumption); decide +kernel)
  refine s2 (r:=rI) (ev_mkS [_] rfl (by decide) rfl) rfl rfl ?_
  refine s2 (r:=rI) (ev_mkS [_,_] rfl (by decide) rfl) rfl rfl ?_
  refine s2 (r:=rP) (ev_mkS [_,_] rfl (by decide) rfl) rfl rfl ?_
  refine s31 (rw_s_e _ (by decide +kernel)) rfl ?_
  refine s31 (rsame_s_e _ _ (by decide +kernel)) rfl ?_
  first|refine s5 rfl (fun g1=>?_) (fun g1=>?_)|refine s5B rfl (fun g1=>?_) (fun g1=>?_)
  ·refine s8 ?_
   (refine absurd ?_ (by assumption); decide +kernel)
  refine s32 (prs_s_e _) rfl rfl ?_
  refine s1 (ev_eql _ _ _) rfl rfl rfl ?_
  refine s5 rfl (fun g2=>?_) fun g2=>?_
  ·refine s8 ?_
   (refine absurd ?_ (by assumption); decide +kernel)
  refine s2 (r:=rP) (ev_nilwS rfl) rfl rfl ?_
  refine s31 (rw_s_e _ (by decide +kernel)) rfl ?_
  refine s31 (rsame_s_e _ _ (by decide +kernel)) rfl ?_
  first|refine s5 rfl (fun g3=>?_) (fun g3=>?_)|refine s5B rfl (fun g3=>?_) (fun g3=>?_)
  ·refine s8 ?_
   (refine absurd ?_ (by assumption); decide +kernel)
  refine s32 (prs_s_e _) rfl rfl ?_
  refine s1 (ev_eql _ _ _) rfl rfl rfl ?_
  refine s5 rfl (fun g4=>?_) fun g4=>?_
  ·refine s8 ?_
   (refine absurd ?_ (by assumption); decide +kernel)
  refine s2 (r:=rI) (ev_mkS [_] rfl (by decide) rfl) rfl rfl ?_
  refine s2 (r:=rI) (ev_mkS [_] rfl (by decide) rfl) rfl rfl ?_
  refine s2 (r:=rP) (ev_mkS [_,_] rfl (by decide) rfl) rfl rfl ?_
  refine s31 (rw_s_e _ (by decide +kernel)) rfl ?_
  refine s31 (rsame_s_e _ _ (by decide +kernel)) rfl ?_
  first|refine s5 rfl (fun g5=>?_) (fun g5=>?_)|refine s5B rfl (fun g5=>?_) (fun g5=>?_)
  ·refine s8 ?_
   (refine absurd ?_ (by assumption); decide +kernel)
  refine s32 (prs_s_e _) rfl rfl ?_
  refine s1 (ev_eql _ _ _) rfl rfl rfl ?_
  refine s5 rfl (fun g6=>?_) fun g6=>?_
  ·refine s8 ?_
   (refine absurd ?_ (by assumption); decide +kernel)
  refine s2 (r:=rI) (ev_mkS [_] rfl (by decide) rfl) rfl rfl ?_
  refine s2 (r:=rP) (ev_mkS [_] rfl (by decide) rfl) rfl rfl ?_
  refine s31 (rw_s_e _ (by decide +kernel)) rfl ?_
  refine s31 (rsame_s_e _ _ (by decide +kernel)) rfl ?_
  first|refine s5 rfl (fun g7=>?_) (fun g7=>?_)|refine s5B rfl (fun g7=>?_) (fun g7=>?_)
  ·refine s8 ?_
   (refine absurd ?_ (by assumption); decide +kernel)
  refine s32 (prs_s_e _) rfl rfl ?_
  refine s1 (ev_eql _ _ _) rfl rfl rfl ?_
  refine s5 rfl (fun g8=>?_) fun g8=>?_
  ·refine s8 ?_
   (refine absurd ?_ (by assumption); decide +kernel)
  refine s2 (r:=rI) (ev_mkS [_] rfl (by decide) rfl) rfl rfl ?_
  refine s2 (r:=rP) (ev_mkS [_] rfl (by decide) rfl) rfl rfl ?_
  refine s31 (rw_s_e _ (by decide +kernel)) rfl ?_
  refine s31 (rsame_s_e _ _ (by decide +kernel)) rfl ?_
  first|refine s5 rfl (fun g9=>?_) (fun g9=>?_)|refine s5B rfl (fun g9=>?_) (fun g9=>?_)
  ·refine s8 ?_
   (refine absurd ?_ (by assumption); decide +kernel)
  refine s32 (prs_s_e _) rfl rfl ?_
  refine s1 (ev_eql _ _ _) rfl rfl rfl ?_
  refine s5 rfl (fun g10=>?_) fun g10=>?_
  ·refine s8 ?_
   (refine absurd ?_ (by assumption); decide +kernel)
  refine s2 (r:=rI) (ev_mkS [_,_] rfl (by decide) rfl) rfl rfl ?_
  refine s2 (r:=rP) (ev_mkS [_] rfl (by decide) rfl) rfl rfl ?_
  refine s31 (rw_s_e _ (by decide +kernel)) rfl ?_
  refine s31 (rsame_s_e _ _ (by decide +kernel)) rfl ?_
  refine s2 (r:=rI) (ev_mkS [_,_,_,_,_,_] rfl (by decide) rfl) rfl rfl ?_
  refine s2 (r:=rI) (ev_mkS [_] rfl (by decide) rfl) rfl rfl ?_
  refine s2 (r:=rP) (ev_mkS [_,_] rfl (by decide) rfl) rfl rfl ?_
  refine s31 (rw_s_e _ (by decide +kernel)) rfl ?_
  refine s32 (prt_s_e _ (by decide +kernel)) rfl rfl ?_
  refine s2 (r:=rI) (ev_mkS [_] rfl (by decide) rfl) rfl rfl ?_
  refine s2 (r:=rP) (ev_mkS [_] rfl (by decide) rfl) rfl rfl ?_
  refine s31 (rw_s_e _ (by decide +kernel)) rfl ?_
  refine s31 (chk_s_e _ (by decide +kernel)) rfl ?_
  refine s1 (ev_eql _ _ _) rfl rfl rfl ?_
  refine s5 rfl (fun g11=>?_) fun g11=>?_
  ·refine s8 ?_
   (refine absurd ?_ (by assumption); decide +kernel)
  refine s2 (r:=rI) (ev_mkS [_] rfl (by decide) rfl) rfl rfl ?_
  refine s2 (r:=rP) (ev_mkS [_] rfl (by decide) rfl) rfl rfl ?_
  refine s31 (rw_s_e _ (by decide +kernel)) rfl ?_
  refine s31 (chk_s_e _ (by decide +kernel)) rfl ?_
  refine s1 (ev_eql _ _ _) rfl rfl rfl ?_
  refine s5 rfl (fun g12=>?_) fun g12=>?_
  ·refine s8 ?_
   (refine absurd ?_ (by assumption); decide +kernel)
  refine s2 (r:=rI) (ev_nilwS rfl) rfl rfl ?_
  refine s2 (r:=rP) (ev_mkS [_] rfl (by decide) rfl) rfl rfl ?_
  refine s31 (rw_s_e _ (by decide +kernel)) rfl ?_
  refine s31 (chk_s_e _ (by decide +kernel)) rfl ?_
  refine s1 (ev_eql _ _ _) rfl rfl rfl ?_
  refine s2 (r:=rI) (ev_mkS [_] rfl (by decide) rfl) rfl rfl ?_
  refine s2 (r:=rI) (ev_mkS [_] rfl (by decide) rfl) rfl rfl ?_
  refine s2 (r:=rP) (ev_mkS [_,_] rfl (by decide) rfl) rfl rfl ?_
  refine s31 (rw_s_e _ (by decide +kernel)) rfl ?_
  refine s31 (val_s_e _ _ _ (by decide)) rfl ?_
  refine s1 (ev_eql _ _ _) rfl rfl rfl ?_
  refine s5 rfl (fun g13=>?_) fun g13=>?_
  ·refine s8 ?_
   (refine absurd ?_ (by assumption); decide +kernel)
  refine s31 (val_s_e _ _ _ (by decide)) rfl ?_
  refine s1 (ev_eql _ _ _) rfl rfl rfl ?_
  refine s5 rfl (fun g14=>?_) fun g14=>?_
  ·refine s8 ?_
   (refine absurd ?_ (by assumption); decide +kernel)
  refine s31 (val_s_e _ _ _ (by decide)) rfl ?_
  refine s1 (ev_eql _ _ _) rfl rfl rfl ?_
  first|refine s5 rfl (fun g15=>?_) (fun g15=>?_)|refine s5B rfl (fun g15=>?_) (fun g15=>?_)
  ·refine s8 ?_
   (refine absurd ?_ (by assumption); decide +kernel)
  refine s1 (ev_seq _ _) rfl rfl rfl ?_
  refine s5 rfl (fun g16=>?_) fun g16=>?_
  ·refine s8 ?_
   (refine absurd ?_ (by assumption); decide +kernel)
  refine s1 (ev_eql _ _ _) rfl rfl rfl ?_
  refine s5 rfl (fun g17=>?_) fun g17=>?_
  ·refine s8 ?_
   (refine absurd ?_ (by assumption); decide +kernel)
  refine s5 rfl (fun g18=>?_) fun g18=>?_
  ·refine s8 ?_
   (refine absurd ?_ (by assumption); decide +kernel)
  refine s32 (prs_s_e _) rfl rfl ?_
  refine s1 (ev_eql _ _ _) rfl rfl rfl ?_
  refine s5 rfl (fun g19=>?_) fun g19=>?_
  ·refine s8 ?_
   (refine absurd ?_ (by assumption); decide +kernel)
  refine s1 (ev_lenS _ _) rfl rfl rfl ?_
  refine s1 (ev_eql _ _ _) rfl rfl rfl ?_
  refine s5 rfl (fun g20=>?_) fun g20=>?_
  ·refine s8 ?_
   (refine absurd ?_ (by assumption); decide +kernel)
  refine s31 (rep_s_e _ _ (by decide)) rfl ?_
  refine s32 (prs_s_e _) rfl rfl ?_
  refine s1 (ev_eql _ _ _) rfl rfl rfl ?_
  refine s5 rfl (fun g21=>?_) fun g21=>?_
  ·refine s8 ?_
   (refine absurd ?_ (by assumption); decide +kernel)
  refine s1 (ev_lenS _ _) rfl rfl rfl ?_
  refine s1 (ev_eql _ _ _) rfl rfl rfl ?_
  refine s5 rfl (fun g22=>?_) fun g22=>?_
  ·refine s8 ?_
   (refine absurd ?_ (by assumption); decide +kernel)
  refine s32 (prs_s_e _) rfl rfl ?_
  refine s1 (ev_eql _ _ _) rfl rfl rfl ?_
  refine s5 rfl (fun g23=>?_) fun g23=>?_
  ·refine s8 ?_
   (refine absurd ?_ (by assumption); decide +kernel)
  refine s1 (ev_lenS _ _) rfl rfl rfl ?_
  refine s1 (ev_eql _ _ _) rfl rfl rfl ?_
  refine s4 rfl (fun g24=>?_) fun g24=>?_
  ·refine s7 [.bool _] rfl ?_
   exact congrArg (fun b=>[U.bool b]) (decide_eq_true (by decide +kernel))
  refine s8 ?_
  (refine absurd ?_ (by assumption); decide +kernel)
 ·cases hs
noncomputable def L_wks:List (FuncId × FnC):=(15,conF Tryd.prog [] wks_s [.s 8])::L_rep
theorem L_wks_ok {G:Nat→Option Obj} (hst:StartOk Tryd.prog G gl H0 n0):ConsOk Tryd.prog G gl L_wks:=.cons (wks_c hst) (L_rep_ok hst)
end Go.Proofs.YtadmkfclgpbebaaDoor

namespace Go.Proofs.YtadmkfclgpbebaaDoor
set_option linter.all false
open Go Go.Sx
theorem parE_app:∀ (s t:List UInt8) (l:Rws),parE l (s++t)=match parE l s with|none=>parE (parL l s) t|some e=>some e
 | [],t,l=>rfl
 | b::s,t,l=>by
   rw [List.cons_append]
   by_cases h:(stepS l b.toNat).2≠0
   ·rw [parE_so h,parE_so h]
   ·rw [parE_no h,parE_no h,parE_app s t]; rfl
theorem parL_app:∀ (s t:List UInt8) (l:Rws),parL l (s++t)=parL (parL l s) t
 | [],t,l=>rfl
 | b::s,t,l=>by rw [List.cons_append,parL_c,parL_c,parL_app s t]
def stOf (M:List (List Int)):Rws:=if M=[[-1]] then none else some (M.map some)
end Go.Proofs.YtadmkfclgpbebaaDoor
namespace Go.Proofs.YtadmkfclgpbebaaDoor
set_option linter.all false
open Go Go.Sx
structure OkM (M:List (List Int)):Prop where
 len:M.length≤16
 row:∀ p ∈ M,1≤p.length∧p.length≤6
 num:∀ p ∈ M,∀ n ∈ p,-1≤n∧n≤9999
theorem badP_ok {p:List Int} (h1:1≤p.length∧p.length≤6) (h2:∀ n ∈ p,-1≤n∧n≤9999):badP (some p)=false:=by
 unfold badP
 rw [el_some,Bool.or_eq_false_iff,Bool.or_eq_false_iff]
 refine ⟨decide_eq_false (by omega),decide_eq_false (by omega),?_⟩
 rw [List.any_eq_false]
 intro n hn
 rw [badI_f (by have:=h2 n hn; omega)]
 decide
theorem check_ok {M:List (List Int)} (h:OkM M) (hne:M≠[[-1]]):checkS (some (M.map some))=0:=by
 unfold checkS
 refine if_neg ?_
 rintro (h1|h1|h1)
 ·rw [el_some,List.length_map] at h1; have:=h.len; omega
 ·apply hne
  unfold emptyP at h1
  rw [el_some] at h1
  match M,h1 with
  | [p],h1 =>
    match p,h1 with
    | [n],h1=>simp [el] at h1; rw [h1]
    | [],h1=>simp [el] at h1
    | _::_::_,h1=>simp [el] at h1
  | [],h1=>simp at h1
  | _::_::_,h1=>simp at h1
 ·rw [el_some,List.any_map] at h1
  obtain ⟨p,hp,h2⟩:=List.any_eq_true.1 h1
  have:=badP_ok (h.row p hp) (h.num p hp)
  simp [this] at h2
theorem check_st {M:List (List Int)} (h:OkM M):checkS (stOf M)=0:=by
 unfold stOf
 split
 ·decide
 ·rename_i hne; exact check_ok h hne
end Go.Proofs.YtadmkfclgpbebaaDoor
namespace Go.Proofs.YtadmkfclgpbebaaDoor
set_option linter.all false
open Go Go.Sx
theorem allL_eq {α:Type} (l:Option (List α)):allL l=el l:=by
 show el (subS l 0 ((el l).length:Int).toNat)=_
 rw [el_subS,Int.toNat_natCast,Nat.sub_zero,List.drop_zero,List.take_length]
theorem cutL_app {α:Type} (F:List α) (x:α):cutL (some (F++[x]))=F:=by
 show el (subS (some (F++[x])) 0 (((F++[x]).length:Int) - 1).toNat)=_
 rw [el_subS,el_some,List.length_append,List.length_singleton,show (((F.length+1:Nat):Int) - 1).toNat=F.length by omega]
 simp
theorem lastP_app (F:List (Option (List Int))) (x:Option (List Int)):lastP (some (F++[x]))=x:=by
 show (F++[x]).getD (((F++[x]).length:Int) - 1).toNat default=x
 rw [List.length_append,List.length_singleton,show (((F.length+1:Nat):Int) - 1).toNat=F.length by omega]
 simp
theorem lastN_app (F:List Int) (x:Int):lastN (some (F++[x]))=x:=by
 show (F++[x]).getD (((F++[x]).length:Int) - 1).toNat default=x
 rw [List.length_append,List.length_singleton,show (((F.length+1:Nat):Int) - 1).toNat=F.length by omega]
 simp
theorem step_semi {M:List (List Int)} (h:OkM M) (hne:M≠[]) (hl:M.length < 16):stepS (stOf M) 59=(some ((M++[[-1]]).map some),0):=by
 have hc:=check_st h
 unfold stOf at hc ⊢
 split
 ·rename_i e; subst e
  rw [step_1 none 59 (by decide) (by decide) rfl]; rfl
 ·rename_i e
  rw [if_neg e] at hc
  have h0:0 < M.length:=List.length_pos_iff.2 hne
  rw [step_5 _ 59 hc (by rw [el_some,List.length_map]; omega) rfl (by rw [el_some,List.length_map]; omega),allL_eq,el_some,List.map_append]
  rfl
end Go.Proofs.YtadmkfclgpbebaaDoor
namespace Go.Proofs.YtadmkfclgpbebaaDoor
set_option linter.all false
open Go Go.Sx
theorem st_some {M:List (List Int)} (h:M≠[[-1]]):stOf M=some (M.map some):=if_neg h
theorem step_colon {F:List (List Int)} {p:List Int} (h:OkM (F++[p])) (hl:p.length < 6):stepS (stOf (F++[p])) 58=(some ((F++[p++[-1]]).map some),0):=by
 have hc:=check_st h
 unfold stOf at hc ⊢
 split
 ·rename_i e
  have h1:F=[]∧p=[-1]:=by
   cases F with
   | nil=>simpa using e
   | cons a F=>cases F <;> simp at e
  obtain ⟨rfl,rfl⟩:=h1
  rw [step_2 none 58 (by decide) (by decide) rfl]; rfl
 ·rename_i e
  rw [if_neg e] at hc
  have em:(F++[p]).map some=F.map some++[some p]:=by simp
  rw [em] at hc ⊢
  have hlp:lastP (some (F.map some++[some p]))=some p:=lastP_app _ _
  rw [step_6 _ 58 hc (by rw [el_some,List.length_append,List.length_singleton]; omega) rfl (by
   show ((el (lastP (some (F.map some++[some p])))).length:Int) < 6
   rw [hlp,el_some]; omega),hlp,cutL_app,allL_eq,el_some]
  simp
theorem step_dig {F:List (List Int)} {p:List Int} {n c:Int} (h:OkM (F++[p++[n]])) (hd:48≤c∧c≤57):stepS (stOf (F++[p++[n]])) c=(some ((F++[p++[digV n c]]).map some),0):=by
 have hc:=check_st h
 unfold stOf at hc ⊢
 split
 ·rename_i e
  have h1:F=[]∧p=[]∧n = -1:=by
   cases F with
   | nil =>
     cases p with
     | nil=>simpa using e
     | cons a p=>cases p <;> simp at e
   | cons a F=>cases F <;> simp at e
  obtain ⟨rfl,rfl,rfl⟩:=h1
  rw [step_3 none c (by decide) (by decide) hd]; rfl
 ·rename_i e
  rw [if_neg e] at hc
  have em:(F++[p++[n]]).map some=F.map some++[some (p++[n])]:=by simp
  rw [em] at hc ⊢
  have hlp:lastP (some (F.map some++[some (p++[n])]))=some (p++[n]):=lastP_app _ _
  rw [step_8 _ c hc (by rw [el_some,List.length_append,List.length_singleton]; omega) hd,hlp,cutL_app,cutL_app,lastN_app]
  simp
end Go.Proofs.YtadmkfclgpbebaaDoor

namespace Go.Proofs.YtadmkfclgpbebaaDoor
set_option linter.all false
open Go Go.Sx
theorem OkM.set {F:List (List Int)} {p:List Int} {n m:Int} (h:OkM (F++[p++[n]])) (hm : -1≤m∧m≤9999):OkM (F++[p++[m]]):=by
 have hl:=h.len
 refine ⟨by simpa using hl,fun q hq=>?_,fun q hq k hk=>?_⟩
 ·rcases List.mem_append.1 hq with hq|hq
  ·exact h.row q (List.mem_append_left _ hq)
  ·rw [List.mem_singleton.1 hq]
   have:=h.row (p++[n]) (List.mem_append_right _ (List.mem_singleton.2 rfl))
   simpa using this
 ·rcases List.mem_append.1 hq with hq|hq
  ·exact h.num q (List.mem_append_left _ hq) k hk
  ·rw [List.mem_singleton.1 hq] at hk
   rcases List.mem_append.1 hk with hk|hk
   ·exact h.num (p++[n]) (List.mem_append_right _ (List.mem_singleton.2 rfl)) k (List.mem_append_left _ hk)
   ·rw [List.mem_singleton.1 hk]; exact hm
theorem ne_m1 {F:List (List Int)} {p:List Int} {n:Int} (hn:n ≠ -1):F++[p++[n]]≠[[-1]]:=fun e=>by
 cases F with
 | nil=>cases p with
   | nil=>simp at e; exact hn e
   | cons a p=>cases p <;> simp at e
 | cons a F=>cases F <;> simp at e
theorem digit_nat (d:Nat) (h:d < 10):((UInt8.ofNat (48+d)).toNat:Int)=48+d:=by
 rw [UInt8.toNat_ofNat']
 omega
theorem num_read {F:List (List Int)} {p:List Int} (h:OkM (F++[p++[-1]])):∀ (u:Nat),u≤9999→parE (stOf (F++[p++[-1]])) (Lib.decDigits u)=none∧parL (stOf (F++[p++[-1]])) (Lib.decDigits u)=stOf (F++[p++[(u:Int)]]):=by
 intro u
 induction u using Nat.strongRecOn with
 | _ u ih =>
   intro hu
   have one:∀ (n:Int) (d:Nat),d < 10→OkM (F++[p++[n]])→parE (stOf (F++[p++[n]])) [UInt8.ofNat (48+d)]=none∧parL (stOf (F++[p++[n]])) [UInt8.ofNat (48+d)]=some ((F++[p++[digV n (48+d)]]).map some):=fun n d hd hn=>by
    have hs:=step_dig (c:=48+(d:Int)) hn ⟨by omega,by omega⟩
    refine ⟨?_,?_⟩
    ·rw [parE_no (by rw [digit_nat d hd,hs]; exact fun h=>h rfl)]; rfl
    ·rw [parL_c,digit_nat d hd,hs]; rfl
   by_cases hs:u < 10
   ·rw [Lib.decDigits_one hs]
    obtain ⟨a,b⟩:=one (-1) u hs h
    have e:digV (-1) (48+(u:Int))=u:=by unfold digV; omega
    refine ⟨a,?_⟩
    rw [b,e,st_some (ne_m1 (by omega))]
   ·obtain ⟨a,b⟩:=ih (u / 10) (by omega) (by omega)
    have hok:=OkM.set h (m:=((u / 10:Nat):Int)) ⟨by omega,by omega⟩
    obtain ⟨c,d⟩:=one ((u / 10:Nat):Int) (u % 10) (by omega) hok
    have e:digV ((u / 10:Nat):Int) (48+((u % 10:Nat):Int))=u:=by unfold digV; omega
    rw [show Lib.decDigits u=Lib.decDigits (u / 10)++[UInt8.ofNat (48+u % 10)] by rw [Lib.decDigits,dif_neg hs]]
    refine ⟨?_,?_⟩
    ·rw [parE_app,a,b]; exact c
    ·rw [parL_app,b,d,e,st_some (ne_m1 (by omega))]
end Go.Proofs.YtadmkfclgpbebaaDoor

namespace Go.Proofs.YtadmkfclgpbebaaDoor
set_option linter.all false
open Go Go.Sx
theorem part_read {F:List (List Int)} {p:List Int} (h:OkM (F++[p++[-1]])) {n:Int} (hn : -1≤n∧n≤9999):parE (stOf (F++[p++[-1]])) (partS n)=none∧parL (stOf (F++[p++[-1]])) (partS n)=stOf (F++[p++[n]]):=by
 unfold partS
 split
 ·rename_i e; subst e; exact ⟨rfl,rfl⟩
 ·obtain ⟨u,rfl⟩:∃ u:Nat,n=u:=⟨n.toNat,by omega⟩
  rw [Lib.itoa_nonneg]
  exact num_read h u (by omega)
theorem row_read {F:List (List Int)} {i:Int}:∀ (r q:List Int) (k:Int),1≤k→q≠[]→OkM (F++[q++r])→parE (stOf (F++[q])) (rowS i k r)=none∧parL (stOf (F++[q])) (rowS i k r)=stOf (F++[q++r])
 | [],q,k,_,_,_=>by rw [List.append_nil]; exact ⟨rfl,rfl⟩
 | n::r,q,k,hk,hq,h=>by
   have hrow:=h.row (q++n::r) (List.mem_append_right _ (List.mem_singleton.2 rfl))
   have hnum:=h.num (q++n::r) (List.mem_append_right _ (List.mem_singleton.2 rfl))
   have sub:∀ s:List Int,s≠[]→s.length≤6→(∀ x ∈ s,-1≤x∧x≤9999)→OkM (F++[s]):=fun s h1 h2 h3=>by
    have hl:=h.len
    refine ⟨by simpa using hl,fun t ht=>?_,fun t ht x hx=>?_⟩
    ·rcases List.mem_append.1 ht with ht|ht
     ·exact h.row t (List.mem_append_left _ ht)
     ·rw [List.mem_singleton.1 ht]; exact ⟨List.length_pos_iff.2 h1,h2⟩
    ·rcases List.mem_append.1 ht with ht|ht
     ·exact h.num t (List.mem_append_left _ ht) x hx
     ·rw [List.mem_singleton.1 ht] at hx; exact h3 x hx
   have hlen:q.length+(r.length+1)≤6:=by have:=hrow.2; simpa using this
   have hq1:=sub q hq (by omega) fun x hx=>hnum x (List.mem_append_left _ hx)
   have hq2:=sub (q++[-1]) (by simp) (by simp; omega) fun x hx=>by
    rcases List.mem_append.1 hx with hx|hx
    ·exact hnum x (List.mem_append_left _ hx)
    ·rw [List.mem_singleton.1 hx]; omega
   have hs:=step_colon hq1 (by omega)
   have hst:(some ((F++[q++[-1]]).map some):Rws)=stOf (F++[q++[-1]]):=(st_some fun e=>by
    cases F with
    | nil=>cases q with
      | nil=>exact hq rfl
      | cons a q=>cases q <;> simp at e
    | cons a F=>cases F <;> simp at e).symm
   obtain ⟨a,b⟩:=part_read hq2 (n:=n) (hnum n (by simp))
   obtain ⟨c,d⟩:=row_read r (q++[n]) (k+1) (by omega) (by simp) (by rw [List.append_assoc q [n] r]; exact h)
   have ha:aheadS i k=[58]:=by unfold aheadS; rw [if_neg (by omega)]
   rw [row_cons,ha,List.append_assoc]
   have h58:((58:UInt8).toNat:Int)=58:=rfl
   refine ⟨?_,?_⟩
   ·show parE _ (58::(partS n++rowS i (k+1) r))=none
    rw [parE_no (by rw [h58,hs]; exact fun h=>h rfl),h58,hs]
    show parE (some _) _=_
    rw [hst,parE_app,a,b]; exact c
   ·show parL _ (58::(partS n++rowS i (k+1) r))=_
    rw [parL_c,h58,hs]
    show parL (some _) _=_
    rw [hst,parL_app,b,d,List.append_assoc q [n] r]; rfl
end Go.Proofs.YtadmkfclgpbebaaDoor

namespace Go.Proofs.YtadmkfclgpbebaaDoor
set_option linter.all false
open Go Go.Sx
theorem OkM.left {A B:List (List Int)} (h:OkM (A++B)):OkM A :=
 ⟨by have:=h.len; rw [List.length_append] at this; omega,fun p hp=>h.row p (List.mem_append_left _ hp),fun p hp=>h.num p (List.mem_append_left _ hp)⟩
theorem OkM.snoc {F:List (List Int)} {p:List Int} (h:OkM F) (hl:F.length < 16) (h1:1≤p.length∧p.length≤6) (h2:∀ n ∈ p,-1≤n∧n≤9999):OkM (F++[p]):=by
 refine ⟨by simp; omega,fun q hq=>?_,fun q hq=>?_⟩
 ·rcases List.mem_append.1 hq with hq|hq
  ·exact h.row q hq
  ·rw [List.mem_singleton.1 hq]; exact h1
 ·rcases List.mem_append.1 hq with hq|hq
  ·exact h.num q hq
  ·rw [List.mem_singleton.1 hq]; exact h2
theorem m1_num:∀ n ∈ [(-1:Int)],-1≤n∧n≤9999:=fun n hn=>by rw [List.mem_singleton.1 hn]; omega
theorem st_snoc1 {F:List (List Int)} (hF:F≠[]):(some ((F++[[-1]]).map some):Rws)=stOf (F++[[]++[-1]]):=(st_some fun e=>by
 cases F with
 | nil=>exact hF rfl
 | cons a F=>cases F <;> simp at e).symm
theorem rows_read:∀ (ps:List (Option (List Int))) (F:List (List Int)) (j:Int),1≤j→F≠[]→OkM (F++ps.map el)→parE (stOf F) (rowsS j ps)=none∧parL (stOf F) (rowsS j ps)=stOf (F++ps.map el)
 | [],F,j,_,_,_=>by rw [List.map_nil,List.append_nil]; exact ⟨rfl,rfl⟩
 | p::ps,F,j,hj,hF,h=>by
   have hF1:=h.left
   have hlen:=h.len
   rw [List.length_append,List.length_map,List.length_cons] at hlen
   have hp1:=h.row (el p) (List.mem_append_right _ (by simp))
   have hp2:=h.num (el p) (List.mem_append_right _ (by simp))
   obtain ⟨n,r,e⟩:∃ n r,el p=n::r:=by
    cases hq:el p with
    | nil=>rw [hq] at hp1; simp at hp1
    | cons n r=>exact ⟨n,r,rfl⟩
   have hs:=step_semi hF1 hF (by omega)
   rw [st_snoc1 hF] at hs
   have h1:OkM (F++[[]++[-1]]):=hF1.snoc (by omega) ⟨Nat.le_refl 1,by decide⟩ m1_num
   rw [e] at hp2 hp1
   obtain ⟨a,b⟩:=part_read h1 (n:=n) (hp2 n (by simp))
   have h2:OkM (F++[[n]++r]):=hF1.snoc (by omega) hp1 hp2
   obtain ⟨c,d⟩:=row_read (i:=j) r [n] 1 (by omega) (by simp) h2
   have h3:OkM ((F++[n::r])++ps.map el):=by rw [List.append_assoc,← e]; exact h
   obtain ⟨f,g⟩:=rows_read ps (F++[n::r]) (j+1) (by omega) (by simp) h3
   have ha:aheadS j 0=[59]:=by unfold aheadS; rw [if_pos rfl,if_neg (by omega)]
   have ht:rowsS j (p::ps)=59::(partS n++(rowS j 1 r++rowsS (j+1) ps)):=by
    show rowS j 0 (el p)++rowsS (j+1) ps=_
    rw [e,row_cons,ha]; simp
   have h59:((59:UInt8).toNat:Int)=59:=rfl
   have hM:F++(p::ps).map el=(F++[n::r])++ps.map el:=by rw [List.map_cons,e]; simp
   rw [ht,hM]
   refine ⟨?_,?_⟩
   ·rw [parE_no (by rw [h59,hs]; exact fun h=>h rfl),h59,hs,parE_app,a,b]
    show parE (stOf (F++[[n]])) _=none
    rw [parE_app,c,d]; exact f
   ·rw [parL_c,h59,hs,parL_app,b]
    show parL (stOf (F++[[n]])) _=_
    rw [parL_app,d]; exact g
theorem ok_of {l:Rws} (h:checkS l=0):OkM ((el l).map el):=by
 rcases check_bd l with h1|⟨_,h2,h3⟩
 ·omega
 ·refine ⟨by simpa using h2,fun p hp=>?_,fun p hp=>?_⟩
  ·obtain ⟨q,hq,rfl⟩:=List.mem_map.1 hp
   exact ⟨(h3 q hq).1,(h3 q hq).2.1⟩
  ·obtain ⟨q,hq,rfl⟩:=List.mem_map.1 hp
   exact (h3 q hq).2.2
theorem ne_of {l:Rws} (h:checkS l=0):(el l).map el≠[[-1]]:=fun e=>by
 have he:emptyP l=true:=by
  unfold emptyP
  match hl:el l,e with
  | [p],e =>
    have e:el p=[-1]:=by simpa using e
    simp [e]
  | [],e=>simp at e
  | _::_::_,e=>simp at e
 unfold checkS at h
 rw [if_pos (.inr (.inl he))] at h
 omega
theorem back {l:Rws} (h:checkS l=0):(parseS (printS l).1).2=0∧(el (parseS (printS l).1).1).map el=(el l).map el:=by
 have hp:=print_1 l h
 have hlen:(rowsS 0 (el l)).length≤4096:=by
  rcases check_bd l with h1|⟨_,h2,h3⟩
  ·omega
  ·have:=rows_len (j:=0) fun p hp=>(h3 p hp).2
   omega
 have key:parE none (rowsS 0 (el l))=none∧(el (parL none (rowsS 0 (el l)))).map el=(el l).map el:=by
  have hok:=ok_of h
  have hne:=ne_of h
  cases hl:el l with
  | nil=>exact ⟨rfl,rfl⟩
  | cons p ps =>
    rw [hl] at hok hne
    have hp1:=hok.row (el p) (by simp)
    have hp2:=hok.num (el p) (by simp)
    obtain ⟨n,r,e⟩:∃ n r,el p=n::r:=by
     cases hq:el p with
     | nil=>rw [hq] at hp1; simp at hp1
     | cons n r=>exact ⟨n,r,rfl⟩
    rw [e] at hp1 hp2
    have h0:OkM ([]:List (List Int)):=⟨Nat.zero_le _,(fun p hp=>by cases hp),(fun p hp=>by cases hp)⟩
    obtain ⟨a,b⟩:=part_read (F:=[]) (p:=[]) (h0.snoc (by decide) ⟨Nat.le_refl 1,by decide⟩ m1_num) (n:=n) (hp2 n (by simp))
    obtain ⟨c,d⟩:=row_read (F:=[]) (i:=0) r [n] 1 (by omega) (by simp) (h0.snoc (by decide) hp1 hp2)
    have hM:(p::ps).map el=[n::r]++ps.map el:=by rw [List.map_cons,e]; rfl
    obtain ⟨f,g⟩:=rows_read ps [n::r] (0+1) (by omega) (by simp) (by rw [← hM]; exact hok)
    have ht:rowsS 0 (p::ps)=partS n++(rowS 0 1 r++rowsS (0+1) ps):=by
     show rowS 0 0 (el p)++rowsS (0+1) ps=_
     rw [e,row_cons]
     have ha:aheadS 0 0=[]:=rfl
     rw [ha]; simp
    have hst:(none:Rws)=stOf ([]++[[]++[-1]]):=rfl
    rw [ht,hst]
    refine ⟨?_,?_⟩
    ·rw [parE_app,a,b]
     show parE (stOf ([]++[[n]])) _=none
     rw [parE_app,c,d]; exact f
    ·rw [parL_app,b]
     show (el (parL (stOf ([]++[[n]])) _)).map el=_
     rw [parL_app,d]
     show (el (parL (stOf [n::r]) _)).map el=_
     rw [g,← hM,st_some hne,el_some,List.map_map]
     have:(el ∘ some:List Int→List Int)=id:=rfl
     rw [this,List.map_id]
 rw [hp]
 show (parseS (rowsS 0 (el l))).2=0∧_
 have hq:parseS (rowsS 0 (el l))=(parL none (rowsS 0 (el l)),0):=by
  unfold parseS
  rw [if_neg (by omega),key.1]
 rw [hq]
 exact ⟨rfl,key.2⟩
theorem rowN_len (parts:Option (List Int)):∀ (n:Nat) (k:Int),(rowN parts k n).length=n
 | 0,_=>rfl
 | n+1,k=>by rw [rowN,List.length_cons,rowN_len parts n]
theorem rowN_num {parts:Option (List Int)} (h:∀ q ∈ el parts,0≤q∧q≤65535):∀ (n:Nat) (k:Int),∀ x ∈ rowN parts k n,-1≤x∧x≤9999
 | 0,_,x,hx=>by cases hx
 | n+1,k,x,hx=>by
   rw [rowN] at hx
   rcases List.mem_cons.1 hx with rfl|hx
   ·unfold partN
    split
    ·have:=getB_bd (by decide) h k.toNat; omega
    ·omega
   ·exact rowN_num h n _ x hx
theorem rowsF_ok {parts:Option (List Int)} (h:∀ q ∈ el parts,0≤q∧q≤65535):∀ (ms:List Int) (k:Int),(∀ m ∈ ms,0≤m∧m≤255)→(rowsF parts k ms).length=ms.length∧∀ p ∈ rowsF parts k ms,1≤(el p).length∧(el p).length≤6∧∀ x ∈ el p,-1≤x∧x≤9999
 | [],k,_=>⟨rfl,fun p hp=>by cases hp⟩
 | m::ms,k,hm=>by
   obtain ⟨a,b⟩:=rowsF_ok h ms (k+(m % 6+1)) fun x hx=>hm x (List.mem_cons_of_mem _ hx)
   have hm0:=hm m List.mem_cons_self
   rw [rowsF]
   refine ⟨by rw [List.length_cons,a,List.length_cons],fun p hp=>?_⟩
   rcases List.mem_cons.1 hp with rfl|hp
   ·rw [el_some,rowN_len]
    exact ⟨by omega,by omega,rowN_num h _ _⟩
   ·exact b p hp
theorem row_ok {parts many:Option (List Int)} (h1:∀ m ∈ el many,0≤m∧m≤255) (h2:∀ q ∈ el parts,0≤q∧q≤65535):checkS (rowF parts many)=0:=by
 obtain ⟨a,b⟩:=rowsF_ok h2 ((el many).take 16) 0 fun m hm=>h1 m (List.mem_of_mem_take hm)
 have e:el (rowR parts many)=rowsF parts 0 ((el many).take 16):=by
  unfold rowR; rw [el_catS]; rfl
 have key:∀ l:Rws,(el l).length≤16→(∀ p ∈ el l,1≤(el p).length∧(el p).length≤6∧∀ x ∈ el p,-1≤x∧x≤9999)→emptyP l=false→checkS l=0:=fun l q1 q2 q3=>by
  unfold checkS
  refine if_neg ?_
  rintro (h|h|h)
  ·omega
  ·rw [q3] at h; cases h
  ·obtain ⟨p,hp,h⟩:=List.any_eq_true.1 h
   obtain ⟨q4,q5,q6⟩:=q2 p hp
   unfold badP at h
   simp only [Bool.or_eq_true,decide_eq_true_eq,List.any_eq_true] at h
   rcases h with h|h|⟨x,hx,h⟩
   ·omega
   ·omega
   ·rw [badI_f (by have:=q6 x hx; omega)] at h; cases h
 unfold rowF
 split
 ·decide
 ·rename_i hne
  refine key _ (by rw [e,a,List.length_take]; omega) (by rw [e]; exact b) ?_
  by_cases g1:((el (rowR parts many)).length:Int)=1
  ·by_cases g2:((el (at0 (el (rowR parts many)))).length:Int)=1
   ·rw [emptyP_1 _ g1 g2]
    exact decide_eq_false fun g3=>hne ⟨g1,g2,g3⟩
   ·exact emptyP_3 _ g1 g2
  ·exact emptyP_2 _ g1
end Go.Proofs.YtadmkfclgpbebaaDoor

namespace Go.Proofs.YtadmkfclgpbebaaDoor
set_option linter.all false
open Go Go.Sx
set_option maxRecDepth 100000
set_option linter.unusedVariables false
set_option linter.unusedSimpArgs false
theorem dig1 {n:Int} (h0:0≤n) (h:n < 10):Lib.decDigits n.toNat=[UInt8.ofNat (48+n).toNat]:=by
 rw [Lib.decDigits_one (by omega)]
 congr 2; omega
theorem dig2 {n:Int} (h0:0≤n) (h:¬n < 10):Lib.decDigits n.toNat=Lib.decDigits (n / 10).toNat++Lib.decDigits (n % 10).toNat:=by
 have h1:n.toNat / 10=(n / 10).toNat:=by omega
 have h2:n.toNat % 10=(n % 10).toNat:=by omega
 conv=>lhs; rw [Lib.decDigits,dif_neg (by omega)]
 rw [h1,h2,Lib.decDigits_one (i:=(n % 10).toNat) (by omega)]
theorem dig_len {n:Int} (h0:0≤n) (h:n < 9999999999):(Lib.decDigits n.toNat).length≤40:=by
 have:=Lib.itoa_length_le n (by omega) (by omega)
 rw [show n=(n.toNat:Int) by omega,Lib.itoa_nonneg] at this
 exact Nat.le_trans this (by decide)
noncomputable def U_dg0:List (FuncId × FnC):=L0
theorem U_dg0_ok {G:Nat→Option Obj} (hst:StartOk Tryd.prog G gl H0 n0):ConsOk Tryd.prog G gl U_dg0:=.nil
def dg0_s:List U→Option (Nat × List U)
 | [.int .i64 n]=>if 0≤n∧n < 10 then some (0,[.str (Lib.decDigits n.toNat)]) else none
 | _=>none
theorem dg0_s_e (n:Int) (hc:0≤n∧n < 10):dg0_s [.int .i64 n]=some (0,[.str (Lib.decDigits n.toNat)]):=if_pos hc
def dg0_t:Tr:=.lt 8 (.bin .lss) [h 0 3,.int .i64 (10)] <| .br 1 (.lt 3 (.bin .add) [.int .i64 (48),h 0 3] <| .lt 4 (.conv .u8) [h 2 3] <| .lt 9 (.mks) [h 3 4] <| .ret [h 4 9]) (.no)
theorem dg0_c {G:Nat→Option Obj} (hst:StartOk Tryd.prog G gl H0 n0):ConOk Tryd.prog G 20 [.s 3] dg0_s [.s 9]:=by
 refine con_of_tree (C:=cx U_dg0 P_rwl) (d:=1) dg0_t (cxg (U_dg0_ok hst) (P_rwl_ok hst)) hst ⟨Tryd.f20,_,Tryd.func20,rfl⟩ (by kernel_rfl) (by kernel_rfl) ?_
 intro us outs hs
 unfold dg0_s at hs
 split at hs
 ·skip
  rename_i n
  split at hs
  ·rename_i hc
   cases hs
   have hq:=dig_len (n:=n / 10) (by omega) (by omega)
   have hr:=dig_len (n:=n % 10) (by omega) (by omega)
   unfold dg0_t
   refine s0 (.cons 0 _ (.nil)) rfl (by simp [Ev.ok,Ev.len]) ?_
   refine s1 (ev_lss _ _ _) rfl rfl rfl ?_
   refine s5 rfl (fun g0=>?_) fun g0=>?_
   ·refine s8 ?_
    (exfalso; omega)
   first|refine s1 (ev_addW (wrap64 (by omega) (by omega))) rfl rfl rfl ?_|refine s1 (ev_add _ _ _) rfl rfl rfl ?_
   first|refine s1 (ev_convW (wrap8 (by omega) (by omega))) rfl rfl rfl ?_|refine s1 (ev_conv _ _ _) rfl rfl rfl ?_
   refine s1 (ev_mks [_] (by simp only [List.mem_cons,List.not_mem_nil,or_false,forall_eq_or_imp,forall_eq]; omega)) rfl rfl rfl ?_
   refine s7 [.str _] rfl ?_
   first|(rw [dig1 hc.1 g0]; rfl)|(rw [dig2 hc.1 g0]; rfl)|(rw [dig2 hc.1 g0])|(exfalso; omega)
  ·cases hs
 ·cases hs
noncomputable def L_dg0:List (FuncId × FnC):=(20,conF Tryd.prog [.s 3] dg0_s [.s 9])::L_wks
theorem L_dg0_ok {G:Nat→Option Obj} (hst:StartOk Tryd.prog G gl H0 n0):ConsOk Tryd.prog G gl L_dg0:=.cons (dg0_c hst) (L_wks_ok hst)
noncomputable def U_dg1:List (FuncId × FnC):=(20,conF Tryd.prog [.s 3] dg0_s [.s 9])::L0
theorem U_dg1_ok {G:Nat→Option Obj} (hst:StartOk Tryd.prog G gl H0 n0):ConsOk Tryd.prog G gl U_dg1:=(.cons (dg0_c hst) .nil)
def dg1_s:List U→Option (Nat × List U)
 | [.int .i64 n]=>if 0≤n∧n < 100 then some (0,[.str (Lib.decDigits n.toNat)]) else none
 | _=>none
theorem dg1_s_e (n:Int) (hc:0≤n∧n < 100):dg1_s [.int .i64 n]=some (0,[.str (Lib.decDigits n.toNat)]):=if_pos hc
def dg1_t:Tr:=.lt 8 (.bin .lss) [h 0 3,.int .i64 (10)] <| .br 1 (.lt 3 (.bin .add) [.int .i64 (48),h 0 3] <| .lt 4 (.conv .u8) [h 2 3] <| .lt 9 (.mks) [h 3 4] <| .ret [h 4 9]) (.lt 3 (.bin .quo) [h 0 3,.int .i64 (10)] <| .fn dg0_s [h 2 3] 1 <| .lt 3 (.bin .rem) [h 0 3,.int .i64 (10)] <| .fn dg0_s [h 4 3] 1 <| .lt 9 (.bin .add) [h 3 9,h 5 9] <| .ret [h 6 9])
theorem dg1_c {G:Nat→Option Obj} (hst:StartOk Tryd.prog G gl H0 n0):ConOk Tryd.prog G 20 [.s 3] dg1_s [.s 9]:=by
 refine con_of_tree (C:=cx U_dg1 P_rwl) (d:=60) dg1_t (cxg (U_dg1_ok hst) (P_rwl_ok hst)) hst ⟨Tryd.f20,_,Tryd.func20,rfl⟩ (by kernel_rfl) (by kernel_rfl) ?_
 intro us outs hs
 unfold dg1_s at hs
 split at hs
 ·skip
  rename_i n
  split at hs
  ·rename_i hc
   cases hs
   have hq:=dig_len (n:=n / 10) (by omega) (by omega)
   have hr:=dig_len (n:=n % 10) (by omega) (by omega)
   unfold dg1_t
   refine s0 (.cons 0 _ (.nil)) rfl (by simp [Ev.ok,Ev.len]) ?_
   refine s1 (ev_lss _ _ _) rfl rfl rfl ?_
   refine s4 rfl (fun g0=>?_) fun g0=>?_
   ·first|refine s1 (ev_addW (wrap64 (by omega) (by omega))) rfl rfl rfl ?_|refine s1 (ev_add _ _ _) rfl rfl rfl ?_
    first|refine s1 (ev_convW (wrap8 (by omega) (by omega))) rfl rfl rfl ?_|refine s1 (ev_conv _ _ _) rfl rfl rfl ?_
    refine s1 (ev_mks [_] (by simp only [List.mem_cons,List.not_mem_nil,or_false,forall_eq_or_imp,forall_eq]; omega)) rfl rfl rfl ?_
    refine s7 [.str _] rfl ?_
    first|(rw [dig1 hc.1 g0]; rfl)|(rw [dig2 hc.1 g0]; rfl)|(rw [dig2 hc.1 g0])|(exfalso; omega)
   first|refine s1 (ev_quoW (by omega) (by omega) (wrap64 (by omega) (by omega))) rfl rfl rfl ?_|refine s1 (ev_quo _ _ _ (by omega)) rfl rfl rfl ?_
   refine s31 (dg0_s_e _ (by omega)) rfl ?_
   first|refine s1 (ev_remW (by omega) (by omega)) rfl rfl rfl ?_|refine s1 (ev_rem _ _ _ (by omega)) rfl rfl rfl ?_
   refine s31 (dg0_s_e _ (by omega)) rfl ?_
   refine s1 (ev_cat _ _ (by omega)) rfl rfl rfl ?_
   refine s7 [.str _] rfl ?_
   first|(rw [dig1 hc.1 g0]; rfl)|(rw [dig2 hc.1 g0]; rfl)|(rw [dig2 hc.1 g0])|(exfalso; omega)
  ·cases hs
 ·cases hs
noncomputable def L_dg1:List (FuncId × FnC):=(20,conF Tryd.prog [.s 3] dg1_s [.s 9])::L_dg0
theorem L_dg1_ok {G:Nat→Option Obj} (hst:StartOk Tryd.prog G gl H0 n0):ConsOk Tryd.prog G gl L_dg1:=.cons (dg1_c hst) (L_dg0_ok hst)
noncomputable def U_dg2:List (FuncId × FnC):=(20,conF Tryd.prog [.s 3] dg1_s [.s 9])::L0
theorem U_dg2_ok {G:Nat→Option Obj} (hst:StartOk Tryd.prog G gl H0 n0):ConsOk Tryd.prog G gl U_dg2:=(.cons (dg1_c hst) .nil)
def dg2_s:List U→Option (Nat × List U)
 | [.int .i64 n]=>if 0≤n∧n < 1000 then some (0,[.str (Lib.decDigits n.toNat)]) else none
 | _=>none
theorem dg2_s_e (n:Int) (hc:0≤n∧n < 1000):dg2_s [.int .i64 n]=some (0,[.str (Lib.decDigits n.toNat)]):=if_pos hc
def dg2_t:Tr:=.lt 8 (.bin .lss) [h 0 3,.int .i64 (10)] <| .br 1 (.lt 3 (.bin .add) [.int .i64 (48),h 0 3] <| .lt 4 (.conv .u8) [h 2 3] <| .lt 9 (.mks) [h 3 4] <| .ret [h 4 9]) (.lt 3 (.bin .quo) [h 0 3,.int .i64 (10)] <| .fn dg1_s [h 2 3] 1 <| .lt 3 (.bin .rem) [h 0 3,.int .i64 (10)] <| .fn dg1_s [h 4 3] 1 <| .lt 9 (.bin .add) [h 3 9,h 5 9] <| .ret [h 6 9])
theorem dg2_c {G:Nat→Option Obj} (hst:StartOk Tryd.prog G gl H0 n0):ConOk Tryd.prog G 20 [.s 3] dg2_s [.s 9]:=by
 refine con_of_tree (C:=cx U_dg2 P_rwl) (d:=60) dg2_t (cxg (U_dg2_ok hst) (P_rwl_ok hst)) hst ⟨Tryd.f20,_,Tryd.func20,rfl⟩ (by kernel_rfl) (by kernel_rfl) ?_
 intro us outs hs
 unfold dg2_s at hs
 split at hs
 ·skip
  rename_i n
  split at hs
  ·rename_i hc
   cases hs
   have hq:=dig_len (n:=n / 10) (by omega) (by omega)
   have hr:=dig_len (n:=n % 10) (by omega) (by omega)
   unfold dg2_t
   refine s0 (.cons 0 _ (.nil)) rfl (by simp [Ev.ok,Ev.len]) ?_
   refine s1 (ev_lss _ _ _) rfl rfl rfl ?_
   refine s4 rfl (fun g0=>?_) fun g0=>?_
   ·first|refine s1 (ev_addW (wrap64 (by omega) (by omega))) rfl rfl rfl ?_|refine s1 (ev_add _ _ _) rfl rfl rfl ?_
    first|refine s1 (ev_convW (wrap8 (by omega) (by omega))) rfl rfl rfl ?_|refine s1 (ev_conv _ _ _) rfl rfl rfl ?_
    refine s1 (ev_mks [_] (by simp only [List.mem_cons,List.not_mem_nil,or_false,forall_eq_or_imp,forall_eq]; omega)) rfl rfl rfl ?_
    refine s7 [.str _] rfl ?_
    first|(rw [dig1 hc.1 g0]; rfl)|(rw [dig2 hc.1 g0]; rfl)|(rw [dig2 hc.1 g0])|(exfalso; omega)
   first|refine s1 (ev_quoW (by omega) (by omega) (wrap64 (by omega) (by omega))) rfl rfl rfl ?_|refine s1 (ev_quo _ _ _ (by omega)) rfl rfl rfl ?_
   refine s31 (dg1_s_e _ (by omega)) rfl ?_
   first|refine s1 (ev_remW (by omega) (by omega)) rfl rfl rfl ?_|refine s1 (ev_rem _ _ _ (by omega)) rfl rfl rfl ?_
   refine s31 (dg1_s_e _ (by omega)) rfl ?_
   refine s1 (ev_cat _ _ (by omega)) rfl rfl rfl ?_
   refine s7 [.str _] rfl ?_
   first|(rw [dig1 hc.1 g0]; rfl)|(rw [dig2 hc.1 g0]; rfl)|(rw [dig2 hc.1 g0])|(exfalso; omega)
  ·cases hs
 ·cases hs
noncomputable def L_dg2:List (FuncId × FnC):=(20,conF Tryd.prog [.s 3] dg2_s [.s 9])::L_dg1
theorem L_dg2_ok {G:Nat→Option Obj} (hst:StartOk Tryd.prog G gl H0 n0):ConsOk Tryd.prog G gl L_dg2:=.cons (dg2_c hst) (L_dg1_ok hst)
noncomputable def U_dg3:List (FuncId × FnC):=(20,conF Tryd.prog [.s 3] dg2_s [.s 9])::L0
theorem U_dg3_ok {G:Nat→Option Obj} (hst:StartOk Tryd.prog G gl H0 n0):ConsOk Tryd.prog G gl U_dg3:=(.cons (dg2_c hst) .nil)
def dg3_s:List U→Option (Nat × List U)
 | [.int .i64 n]=>if 0≤n∧n < 10000 then some (0,[.str (Lib.decDigits n.toNat)]) else none
 | _=>none
theorem dg3_s_e (n:Int) (hc:0≤n∧n < 10000):dg3_s [.int .i64 n]=some (0,[.str (Lib.decDigits n.toNat)]):=if_pos hc
def dg3_t:Tr:=.lt 8 (.bin .lss) [h 0 3,.int .i64 (10)] <| .br 1 (.lt 3 (.bin .add) [.int .i64 (48),h 0 3] <| .lt 4 (.conv .u8) [h 2 3] <| .lt 9 (.mks) [h 3 4] <| .ret [h 4 9]) (.lt 3 (.bin .quo) [h 0 3,.int .i64 (10)] <| .fn dg2_s [h 2 3] 1 <| .lt 3 (.bin .rem) [h 0 3,.int .i64 (10)] <| .fn dg2_s [h 4 3] 1 <| .lt 9 (.bin .add) [h 3 9,h 5 9] <| .ret [h 6 9])
theorem dg3_c {G:Nat→Option Obj} (hst:StartOk Tryd.prog G gl H0 n0):ConOk Tryd.prog G 20 [.s 3] dg3_s [.s 9]:=by
 refine con_of_tree (C:=cx U_dg3 P_rwl) (d:=60) dg3_t (cxg (U_dg3_ok hst) (P_rwl_ok hst)) hst ⟨Tryd.f20,_,Tryd.func20,rfl⟩ (by kernel_rfl) (by kernel_rfl) ?_
 intro us outs hs
 unfold dg3_s at hs
 split at hs
 ·skip
  rename_i n
  split at hs
  ·rename_i hc
   cases hs
   have hq:=dig_len (n:=n / 10) (by omega) (by omega)
   have hr:=dig_len (n:=n % 10) (by omega) (by omega)
   unfold dg3_t
   refine s0 (.cons 0 _ (.nil)) rfl (by simp [Ev.ok,Ev.len]) ?_
   refine s1 (ev_lss _ _ _) rfl rfl rfl ?_
   refine s4 rfl (fun g0=>?_) fun g0=>?_
   ·first|refine s1 (ev_addW (wrap64 (by omega) (by omega))) rfl rfl rfl ?_|refine s1 (ev_add _ _ _) rfl rfl rfl ?_
    first|refine s1 (ev_convW (wrap8 (by omega) (by omega))) rfl rfl rfl ?_|refine s1 (ev_conv _ _ _) rfl rfl rfl ?_
    refine s1 (ev_mks [_] (by simp only [List.mem_cons,List.not_mem_nil,or_false,forall_eq_or_imp,forall_eq]; omega)) rfl rfl rfl ?_
    refine s7 [.str _] rfl ?_
    first|(rw [dig1 hc.1 g0]; rfl)|(rw [dig2 hc.1 g0]; rfl)|(rw [dig2 hc.1 g0])|(exfalso; omega)
   first|refine s1 (ev_quoW (by omega) (by omega) (wrap64 (by omega) (by omega))) rfl rfl rfl ?_|refine s1 (ev_quo _ _ _ (by omega)) rfl rfl rfl ?_
   refine s31 (dg2_s_e _ (by omega)) rfl ?_
   first|refine s1 (ev_remW (by omega) (by omega)) rfl rfl rfl ?_|refine s1 (ev_rem _ _ _ (by omega)) rfl rfl rfl ?_
   refine s31 (dg2_s_e _ (by omega)) rfl ?_
   refine s1 (ev_cat _ _ (by omega)) rfl rfl rfl ?_
   refine s7 [.str _] rfl ?_
   first|(rw [dig1 hc.1 g0]; rfl)|(rw [dig2 hc.1 g0]; rfl)|(rw [dig2 hc.1 g0])|(exfalso; omega)
  ·cases hs
 ·cases hs
noncomputable def L_dg3:List (FuncId × FnC):=(20,conF Tryd.prog [.s 3] dg3_s [.s 9])::L_dg2
theorem L_dg3_ok {G:Nat→Option Obj} (hst:StartOk Tryd.prog G gl H0 n0):ConsOk Tryd.prog G gl L_dg3:=.cons (dg3_c hst) (L_dg2_ok hst)
noncomputable def U_dg4:List (FuncId × FnC):=(20,conF Tryd.prog [.s 3] dg3_s [.s 9])::L0
theorem U_dg4_ok {G:Nat→Option Obj} (hst:StartOk Tryd.prog G gl H0 n0):ConsOk Tryd.prog G gl U_dg4:=(.cons (dg3_c hst) .nil)
def dg4_s:List U→Option (Nat × List U)
 | [.int .i64 n]=>if 0≤n∧n < 100000 then some (0,[.str (Lib.decDigits n.toNat)]) else none
 | _=>none
theorem dg4_s_e (n:Int) (hc:0≤n∧n < 100000):dg4_s [.int .i64 n]=some (0,[.str (Lib.decDigits n.toNat)]):=if_pos hc
def dg4_t:Tr:=.lt 8 (.bin .lss) [h 0 3,.int .i64 (10)] <| .br 1 (.lt 3 (.bin .add) [.int .i64 (48),h 0 3] <| .lt 4 (.conv .u8) [h 2 3] <| .lt 9 (.mks) [h 3 4] <| .ret [h 4 9]) (.lt 3 (.bin .quo) [h 0 3,.int .i64 (10)] <| .fn dg3_s [h 2 3] 1 <| .lt 3 (.bin .rem) [h 0 3,.int .i64 (10)] <| .fn dg3_s [h 4 3] 1 <| .lt 9 (.bin .add) [h 3 9,h 5 9] <| .ret [h 6 9])
theorem dg4_c {G:Nat→Option Obj} (hst:StartOk Tryd.prog G gl H0 n0):ConOk Tryd.prog G 20 [.s 3] dg4_s [.s 9]:=by
 refine con_of_tree (C:=cx U_dg4 P_rwl) (d:=60) dg4_t (cxg (U_dg4_ok hst) (P_rwl_ok hst)) hst ⟨Tryd.f20,_,Tryd.func20,rfl⟩ (by kernel_rfl) (by kernel_rfl) ?_
 intro us outs hs
 unfold dg4_s at hs
 split at hs
 ·skip
  rename_i n
  split at hs
  ·rename_i hc
   cases hs
   have hq:=dig_len (n:=n / 10) (by omega) (by omega)
   have hr:=dig_len (n:=n % 10) (by omega) (by omega)
   unfold dg4_t
   refine s0 (.cons 0 _ (.nil)) rfl (by simp [Ev.ok,Ev.len]) ?_
   refine s1 (ev_lss _ _ _) rfl rfl rfl ?_
   refine s4 rfl (fun g0=>?_) fun g0=>?_
   ·first|refine s1 (ev_addW (wrap64 (by omega) (by omega))) rfl rfl rfl ?_|refine s1 (ev_add _ _ _) rfl rfl rfl ?_
    first|refine s1 (ev_convW (wrap8 (by omega) (by omega))) rfl rfl rfl ?_|refine s1 (ev_conv _ _ _) rfl rfl rfl ?_
    refine s1 (ev_mks [_] (by simp only [List.mem_cons,List.not_mem_nil,or_false,forall_eq_or_imp,forall_eq]; omega)) rfl rfl rfl ?_
    refine s7 [.str _] rfl ?_
    first|(rw [dig1 hc.1 g0]; rfl)|(rw [dig2 hc.1 g0]; rfl)|(rw [dig2 hc.1 g0])|(exfalso; omega)
   first|refine s1 (ev_quoW (by omega) (by omega) (wrap64 (by omega) (by omega))) rfl rfl rfl ?_|refine s1 (ev_quo _ _ _ (by omega)) rfl rfl rfl ?_
   refine s31 (dg3_s_e _ (by omega)) rfl ?_
   first|refine s1 (ev_remW (by omega) (by omega)) rfl rfl rfl ?_|refine s1 (ev_rem _ _ _ (by omega)) rfl rfl rfl ?_
   refine s31 (dg3_s_e _ (by omega)) rfl ?_
   refine s1 (ev_cat _ _ (by omega)) rfl rfl rfl ?_
   refine s7 [.str _] rfl ?_
   first|(rw [dig1 hc.1 g0]; rfl)|(rw [dig2 hc.1 g0]; rfl)|(rw [dig2 hc.1 g0])|(exfalso; omega)
  ·cases hs
 ·cases hs
noncomputable def L_dg4:List (FuncId × FnC):=(20,conF Tryd.prog [.s 3] dg4_s [.s 9])::L_dg3
theorem L_dg4_ok {G:Nat→Option Obj} (hst:StartOk Tryd.prog G gl H0 n0):ConsOk Tryd.prog G gl L_dg4:=.cons (dg4_c hst) (L_dg3_ok hst)
noncomputable def U_dg5:List (FuncId × FnC):=(20,conF Tryd.prog [.s 3] dg4_s [.s 9])::L0
theorem U_dg5_ok {G:Nat→Option Obj} (hst:StartOk Tryd.prog G gl H0 n0):ConsOk Tryd.prog G gl U_dg5:=(.cons (dg4_c hst) .nil)
def dg5_s:List U→Option (Nat × List U)
 | [.int .i64 n]=>if 0≤n∧n < 1000000 then some (0,[.str (Lib.decDigits n.toNat)]) else none
 | _=>none
theorem dg5_s_e (n:Int) (hc:0≤n∧n < 1000000):dg5_s [.int .i64 n]=some (0,[.str (Lib.decDigits n.toNat)]):=if_pos hc
def dg5_t:Tr:=.lt 8 (.bin .lss) [h 0 3,.int .i64 (10)] <| .br 1 (.lt 3 (.bin .add) [.int .i64 (48),h 0 3] <| .lt 4 (.conv .u8) [h 2 3] <| .lt 9 (.mks) [h 3 4] <| .ret [h 4 9]) (.lt 3 (.bin .quo) [h 0 3,.int .i64 (10)] <| .fn dg4_s [h 2 3] 1 <| .lt 3 (.bin .rem) [h 0 3,.int .i64 (10)] <| .fn dg4_s [h 4 3] 1 <| .lt 9 (.bin .add) [h 3 9,h 5 9] <| .ret [h 6 9])
theorem dg5_c {G:Nat→Option Obj} (hst:StartOk Tryd.prog G gl H0 n0):ConOk Tryd.prog G 20 [.s 3] dg5_s [.s 9]:=by
 refine con_of_tree (C:=cx U_dg5 P_rwl) (d:=60) dg5_t (cxg (U_dg5_ok hst) (P_rwl_ok hst)) hst ⟨Tryd.f20,_,Tryd.func20,rfl⟩ (by kernel_rfl) (by kernel_rfl) ?_
 intro us outs hs
 unfold dg5_s at hs
 split at hs
 ·skip
  rename_i n
  split at hs
  ·rename_i hc
   cases hs
   have hq:=dig_len (n:=n / 10) (by omega) (by omega)
   have hr:=dig_len (n:=n % 10) (by omega) (by omega)
   unfold dg5_t
   refine s0 (.cons 0 _ (.nil)) rfl (by simp [Ev.ok,Ev.len]) ?_
   refine s1 (ev_lss _ _ _) rfl rfl rfl ?_
   refine s4 rfl (fun g0=>?_) fun g0=>?_
   ·first|refine s1 (ev_addW (wrap64 (by omega) (by omega))) rfl rfl rfl ?_|refine s1 (ev_add _ _ _) rfl rfl rfl ?_
    first|refine s1 (ev_convW (wrap8 (by omega) (by omega))) rfl rfl rfl ?_|refine s1 (ev_conv _ _ _) rfl rfl rfl ?_
    refine s1 (ev_mks [_] (by simp only [List.mem_cons,List.not_mem_nil,or_false,forall_eq_or_imp,forall_eq]; omega)) rfl rfl rfl ?_
    refine s7 [.str _] rfl ?_
    first|(rw [dig1 hc.1 g0]; rfl)|(rw [dig2 hc.1 g0]; rfl)|(rw [dig2 hc.1 g0])|(exfalso; omega)
   first|refine s1 (ev_quoW (by omega) (by omega) (wrap64 (by omega) (by omega))) rfl rfl rfl ?_|refine s1 (ev_quo _ _ _ (by omega)) rfl rfl rfl ?_
   refine s31 (dg4_s_e _ (by omega)) rfl ?_
   first|refine s1 (ev_remW (by omega) (by omega)) rfl rfl rfl ?_|refine s1 (ev_rem _ _ _ (by omega)) rfl rfl rfl ?_
   refine s31 (dg4_s_e _ (by omega)) rfl ?_
   refine s1 (ev_cat _ _ (by omega)) rfl rfl rfl ?_
   refine s7 [.str _] rfl ?_
   first|(rw [dig1 hc.1 g0]; rfl)|(rw [dig2 hc.1 g0]; rfl)|(rw [dig2 hc.1 g0])|(exfalso; omega)
  ·cases hs
 ·cases hs
noncomputable def L_dg5:List (FuncId × FnC):=(20,conF Tryd.prog [.s 3] dg5_s [.s 9])::L_dg4
theorem L_dg5_ok {G:Nat→Option Obj} (hst:StartOk Tryd.prog G gl H0 n0):ConsOk Tryd.prog G gl L_dg5:=.cons (dg5_c hst) (L_dg4_ok hst)
noncomputable def U_dg6:List (FuncId × FnC):=(20,conF Tryd.prog [.s 3] dg5_s [.s 9])::L0
theorem U_dg6_ok {G:Nat→Option Obj} (hst:StartOk Tryd.prog G gl H0 n0):ConsOk Tryd.prog G gl U_dg6:=(.cons (dg5_c hst) .nil)
def dg6_s:List U→Option (Nat × List U)
 | [.int .i64 n]=>if 0≤n∧n < 10000000 then some (0,[.str (Lib.decDigits n.toNat)]) else none
 | _=>none
theorem dg6_s_e (n:Int) (hc:0≤n∧n < 10000000):dg6_s [.int .i64 n]=some (0,[.str (Lib.decDigits n.toNat)]):=if_pos hc
def dg6_t:Tr:=.lt 8 (.bin .lss) [h 0 3,.int .i64 (10)] <| .br 1 (.lt 3 (.bin .add) [.int .i64 (48),h 0 3] <| .lt 4 (.conv .u8) [h 2 3] <| .lt 9 (.mks) [h 3 4] <| .ret [h 4 9]) (.lt 3 (.bin .quo) [h 0 3,.int .i64 (10)] <| .fn dg5_s [h 2 3] 1 <| .lt 3 (.bin .rem) [h 0 3,.int .i64 (10)] <| .fn dg5_s [h 4 3] 1 <| .lt 9 (.bin .add) [h 3 9,h 5 9] <| .ret [h 6 9])
theorem dg6_c {G:Nat→Option Obj} (hst:StartOk Tryd.prog G gl H0 n0):ConOk Tryd.prog G 20 [.s 3] dg6_s [.s 9]:=by
 refine con_of_tree (C:=cx U_dg6 P_rwl) (d:=60) dg6_t (cxg (U_dg6_ok hst) (P_rwl_ok hst)) hst ⟨Tryd.f20,_,Tryd.func20,rfl⟩ (by kernel_rfl) (by kernel_rfl) ?_
 intro us outs hs
 unfold dg6_s at hs
 split at hs
 ·skip
  rename_i n
  split at hs
  ·rename_i hc
   cases hs
   have hq:=dig_len (n:=n / 10) (by omega) (by omega)
   have hr:=dig_len (n:=n % 10) (by omega) (by omega)
   unfold dg6_t
   refine s0 (.cons 0 _ (.nil)) rfl (by simp [Ev.ok,Ev.len]) ?_
   refine s1 (ev_lss _ _ _) rfl rfl rfl ?_
   refine s4 rfl (fun g0=>?_) fun g0=>?_
   ·first|refine s1 (ev_addW (wrap64 (by omega) (by omega))) rfl rfl rfl ?_|refine s1 (ev_add _ _ _) rfl rfl rfl ?_
    first|refine s1 (ev_convW (wrap8 (by omega) (by omega))) rfl rfl rfl ?_|refine s1 (ev_conv _ _ _) rfl rfl rfl ?_
    refine s1 (ev_mks [_] (by simp only [List.mem_cons,List.not_mem_nil,or_false,forall_eq_or_imp,forall_eq]; omega)) rfl rfl rfl ?_
    refine s7 [.str _] rfl ?_
    first|(rw [dig1 hc.1 g0]; rfl)|(rw [dig2 hc.1 g0]; rfl)|(rw [dig2 hc.1 g0])|(exfalso; omega)
   first|refine s1 (ev_quoW (by omega) (by omega) (wrap64 (by omega) (by omega))) rfl rfl rfl ?_|refine s1 (ev_quo _ _ _ (by omega)) rfl rfl rfl ?_
   refine s31 (dg5_s_e _ (by omega)) rfl ?_
   first|refine s1 (ev_remW (by omega) (by omega)) rfl rfl rfl ?_|refine s1 (ev_rem _ _ _ (by omega)) rfl rfl rfl ?_
   refine s31 (dg5_s_e _ (by omega)) rfl ?_
   refine s1 (ev_cat _ _ (by omega)) rfl rfl rfl ?_
   refine s7 [.str _] rfl ?_
   first|(rw [dig1 hc.1 g0]; rfl)|(rw [dig2 hc.1 g0]; rfl)|(rw [dig2 hc.1 g0])|(exfalso; omega)
  ·cases hs
 ·cases hs
noncomputable def L_dg6:List (FuncId × FnC):=(20,conF Tryd.prog [.s 3] dg6_s [.s 9])::L_dg5
theorem L_dg6_ok {G:Nat→Option Obj} (hst:StartOk Tryd.prog G gl H0 n0):ConsOk Tryd.prog G gl L_dg6:=.cons (dg6_c hst) (L_dg5_ok hst)
noncomputable def U_dg7:List (FuncId × FnC):=(20,conF Tryd.prog [.s 3] dg6_s [.s 9])::L0
theorem U_dg7_ok {G:Nat→Option Obj} (hst:StartOk Tryd.prog G gl H0 n0):ConsOk Tryd.prog G gl U_dg7:=(.cons (dg6_c hst) .nil)
def dg7_s:List U→Option (Nat × List U)
 | [.int .i64 n]=>if 0≤n∧n < 100000000 then some (0,[.str (Lib.decDigits n.toNat)]) else none
 | _=>none
theorem dg7_s_e (n:Int) (hc:0≤n∧n < 100000000):dg7_s [.int .i64 n]=some (0,[.str (Lib.decDigits n.toNat)]):=if_pos hc
def dg7_t:Tr:=.lt 8 (.bin .lss) [h 0 3,.int .i64 (10)] <| .br 1 (.lt 3 (.bin .add) [.int .i64 (48),h 0 3] <| .lt 4 (.conv .u8) [h 2 3] <| .lt 9 (.mks) [h 3 4] <| .ret [h 4 9]) (.lt 3 (.bin .quo) [h 0 3,.int .i64 (10)] <| .fn dg6_s [h 2 3] 1 <| .lt 3 (.bin .rem) [h 0 3,.int .i64 (10)] <| .fn dg6_s [h 4 3] 1 <| .lt 9 (.bin .add) [h 3 9,h 5 9] <| .ret [h 6 9])
theorem dg7_c {G:Nat→Option Obj} (hst:StartOk Tryd.prog G gl H0 n0):ConOk Tryd.prog G 20 [.s 3] dg7_s [.s 9]:=by
 refine con_of_tree (C:=cx U_dg7 P_rwl) (d:=60) dg7_t (cxg (U_dg7_ok hst) (P_rwl_ok hst)) hst ⟨Tryd.f20,_,Tryd.func20,rfl⟩ (by kernel_rfl) (by kernel_rfl) ?_
 intro us outs hs
 unfold dg7_s at hs
 split at hs
 ·skip
  rename_i n
  split at hs
  ·rename_i hc
   cases hs
   have hq:=dig_len (n:=n / 10) (by omega) (by omega)
   have hr:=dig_len (n:=n % 10) (by omega) (by omega)
   unfold dg7_t
   refine s0 (.cons 0 _ (.nil)) rfl (by simp [Ev.ok,Ev.len]) ?_
   refine s1 (ev_lss _ _ _) rfl rfl rfl ?_
   refine s4 rfl (fun g0=>?_) fun g0=>?_
   ·first|refine s1 (ev_addW (wrap64 (by omega) (by omega))) rfl rfl rfl ?_|refine s1 (ev_add _ _ _) rfl rfl rfl ?_
    first|refine s1 (ev_convW (wrap8 (by omega) (by omega))) rfl rfl rfl ?_|refine s1 (ev_conv _ _ _) rfl rfl rfl ?_
    refine s1 (ev_mks [_] (by simp only [List.mem_cons,List.not_mem_nil,or_false,forall_eq_or_imp,forall_eq]; omega)) rfl rfl rfl ?_
    refine s7 [.str _] rfl ?_
    first|(rw [dig1 hc.1 g0]; rfl)|(rw [dig2 hc.1 g0]; rfl)|(rw [dig2 hc.1 g0])|(exfalso; omega)
   first|refine s1 (ev_quoW (by omega) (by omega) (wrap64 (by omega) (by omega))) rfl rfl rfl ?_|refine s1 (ev_quo _ _ _ (by omega)) rfl rfl rfl ?_
   refine s31 (dg6_s_e _ (by omega)) rfl ?_
   first|refine s1 (ev_remW (by omega) (by omega)) rfl rfl rfl ?_|refine s1 (ev_rem _ _ _ (by omega)) rfl rfl rfl ?_
   refine s31 (dg6_s_e _ (by omega)) rfl ?_
   refine s1 (ev_cat _ _ (by omega)) rfl rfl rfl ?_
   refine s7 [.str _] rfl ?_
   first|(rw [dig1 hc.1 g0]; rfl)|(rw [dig2 hc.1 g0]; rfl)|(rw [dig2 hc.1 g0])|(exfalso; omega)
  ·cases hs
 ·cases hs
noncomputable def L_dg7:List (FuncId × FnC):=(20,conF Tryd.prog [.s 3] dg7_s [.s 9])::L_dg6
theorem L_dg7_ok {G:Nat→Option Obj} (hst:StartOk Tryd.prog G gl H0 n0):ConsOk Tryd.prog G gl L_dg7:=.cons (dg7_c hst) (L_dg6_ok hst)
noncomputable def U_dg8:List (FuncId × FnC):=(20,conF Tryd.prog [.s 3] dg7_s [.s 9])::L0
theorem U_dg8_ok {G:Nat→Option Obj} (hst:StartOk Tryd.prog G gl H0 n0):ConsOk Tryd.prog G gl U_dg8:=(.cons (dg7_c hst) .nil)
def dg8_s:List U→Option (Nat × List U)
 | [.int .i64 n]=>if 0≤n∧n < 1000000000 then some (0,[.str (Lib.decDigits n.toNat)]) else none
 | _=>none
theorem dg8_s_e (n:Int) (hc:0≤n∧n < 1000000000):dg8_s [.int .i64 n]=some (0,[.str (Lib.decDigits n.toNat)]):=if_pos hc
def dg8_t:Tr:=.lt 8 (.bin .lss) [h 0 3,.int .i64 (10)] <| .br 1 (.lt 3 (.bin .add) [.int .i64 (48),h 0 3] <| .lt 4 (.conv .u8) [h 2 3] <| .lt 9 (.mks) [h 3 4] <| .ret [h 4 9]) (.lt 3 (.bin .quo) [h 0 3,.int .i64 (10)] <| .fn dg7_s [h 2 3] 1 <| .lt 3 (.bin .rem) [h 0 3,.int .i64 (10)] <| .fn dg7_s [h 4 3] 1 <| .lt 9 (.bin .add) [h 3 9,h 5 9] <| .ret [h 6 9])
theorem dg8_c {G:Nat→Option Obj} (hst:StartOk Tryd.prog G gl H0 n0):ConOk Tryd.prog G 20 [.s 3] dg8_s [.s 9]:=by
 refine con_of_tree (C:=cx U_dg8 P_rwl) (d:=60) dg8_t (cxg (U_dg8_ok hst) (P_rwl_ok hst)) hst ⟨Tryd.f20,_,Tryd.func20,rfl⟩ (by kernel_rfl) (by kernel_rfl) ?_
 intro us outs hs
 unfold dg8_s at hs
 split at hs
 ·skip
  rename_i n
  split at hs
  ·rename_i hc
   cases hs
   have hq:=dig_len (n:=n / 10) (by omega) (by omega)
   have hr:=dig_len (n:=n % 10) (by omega) (by omega)
   unfold dg8_t
   refine s0 (.cons 0 _ (.nil)) rfl (by simp [Ev.ok,Ev.len]) ?_
   refine s1 (ev_lss _ _ _) rfl rfl rfl ?_
   refine s4 rfl (fun g0=>?_) fun g0=>?_
   ·first|refine s1 (ev_addW (wrap64 (by omega) (by omega))) rfl rfl rfl ?_|refine s1 (ev_add _ _ _) rfl rfl rfl ?_
    first|refine s1 (ev_convW (wrap8 (by omega) (by omega))) rfl rfl rfl ?_|refine s1 (ev_conv _ _ _) rfl rfl rfl ?_
    refine s1 (ev_mks [_] (by simp only [List.mem_cons,List.not_mem_nil,or_false,forall_eq_or_imp,forall_eq]; omega)) rfl rfl rfl ?_
    refine s7 [.str _] rfl ?_
    first|(rw [dig1 hc.1 g0]; rfl)|(rw [dig2 hc.1 g0]; rfl)|(rw [dig2 hc.1 g0])|(exfalso; omega)
   first|refine s1 (ev_quoW (by omega) (by omega) (wrap64 (by omega) (by omega))) rfl rfl rfl ?_|refine s1 (ev_quo _ _ _ (by omega)) rfl rfl rfl ?_
   refine s31 (dg7_s_e _ (by omega)) rfl ?_
   first|refine s1 (ev_remW (by omega) (by omega)) rfl rfl rfl ?_|refine s1 (ev_rem _ _ _ (by omega)) rfl rfl rfl ?_
   refine s31 (dg7_s_e _ (by omega)) rfl ?_
   refine s1 (ev_cat _ _ (by omega)) rfl rfl rfl ?_
   refine s7 [.str _] rfl ?_
   first|(rw [dig1 hc.1 g0]; rfl)|(rw [dig2 hc.1 g0]; rfl)|(rw [dig2 hc.1 g0])|(exfalso; omega)
  ·cases hs
 ·cases hs
noncomputable def L_dg8:List (FuncId × FnC):=(20,conF Tryd.prog [.s 3] dg8_s [.s 9])::L_dg7
theorem L_dg8_ok {G:Nat→Option Obj} (hst:StartOk Tryd.prog G gl H0 n0):ConsOk Tryd.prog G gl L_dg8:=.cons (dg8_c hst) (L_dg7_ok hst)
noncomputable def U_dg9:List (FuncId × FnC):=(20,conF Tryd.prog [.s 3] dg8_s [.s 9])::L0
theorem U_dg9_ok {G:Nat→Option Obj} (hst:StartOk Tryd.prog G gl H0 n0):ConsOk Tryd.prog G gl U_dg9:=(.cons (dg8_c hst) .nil)
def dg9_s:List U→Option (Nat × List U)
 | [.int .i64 n]=>if 0≤n∧n < 10000000000 then some (0,[.str (Lib.decDigits n.toNat)]) else none
 | _=>none
theorem dg9_s_e (n:Int) (hc:0≤n∧n < 10000000000):dg9_s [.int .i64 n]=some (0,[.str (Lib.decDigits n.toNat)]):=if_pos hc
def dg9_t:Tr:=.lt 8 (.bin .lss) [h 0 3,.int .i64 (10)] <| .br 1 (.lt 3 (.bin .add) [.int .i64 (48),h 0 3] <| .lt 4 (.conv .u8) [h 2 3] <| .lt 9 (.mks) [h 3 4] <| .ret [h 4 9]) (.lt 3 (.bin .quo) [h 0 3,.int .i64 (10)] <| .fn dg8_s [h 2 3] 1 <| .lt 3 (.bin .rem) [h 0 3,.int .i64 (10)] <| .fn dg8_s [h 4 3] 1 <| .lt 9 (.bin .add) [h 3 9,h 5 9] <| .ret [h 6 9])
theorem dg9_c {G:Nat→Option Obj} (hst:StartOk Tryd.prog G gl H0 n0):ConOk Tryd.prog G 20 [.s 3] dg9_s [.s 9]:=by
 refine con_of_tree (C:=cx U_dg9 P_rwl) (d:=60) dg9_t (cxg (U_dg9_ok hst) (P_rwl_ok hst)) hst ⟨Tryd.f20,_,Tryd.func20,rfl⟩ (by kernel_rfl) (by kernel_rfl) ?_
 intro us outs hs
 unfold dg9_s at hs
 split at hs
 ·skip
  rename_i n
  split at hs
  ·rename_i hc
   cases hs
   have hq:=dig_len (n:=n / 10) (by omega) (by omega)
   have hr:=dig_len (n:=n % 10) (by omega) (by omega)
   unfold dg9_t
   refine s0 (.cons 0 _ (.nil)) rfl (by simp [Ev.ok,Ev.len]) ?_
   refine s1 (ev_lss _ _ _) rfl rfl rfl ?_
   refine s4 rfl (fun g0=>?_) fun g0=>?_
   ·first|refine s1 (ev_addW (wrap64 (by omega) (by omega))) rfl rfl rfl ?_|refine s1 (ev_add _ _ _) rfl rfl rfl ?_
    first|refine s1 (ev_convW (wrap8 (by omega) (by omega))) rfl rfl rfl ?_|refine s1 (ev_conv _ _ _) rfl rfl rfl ?_
    refine s1 (ev_mks [_] (by simp only [List.mem_cons,List.not_mem_nil,or_false,forall_eq_or_imp,forall_eq]; omega)) rfl rfl rfl ?_
    refine s7 [.str _] rfl ?_
    first|(rw [dig1 hc.1 g0]; rfl)|(rw [dig2 hc.1 g0]; rfl)|(rw [dig2 hc.1 g0])|(exfalso; omega)
   first|refine s1 (ev_quoW (by omega) (by omega) (wrap64 (by omega) (by omega))) rfl rfl rfl ?_|refine s1 (ev_quo _ _ _ (by omega)) rfl rfl rfl ?_
   refine s31 (dg8_s_e _ (by omega)) rfl ?_
   first|refine s1 (ev_remW (by omega) (by omega)) rfl rfl rfl ?_|refine s1 (ev_rem _ _ _ (by omega)) rfl rfl rfl ?_
   refine s31 (dg8_s_e _ (by omega)) rfl ?_
   refine s1 (ev_cat _ _ (by omega)) rfl rfl rfl ?_
   refine s7 [.str _] rfl ?_
   first|(rw [dig1 hc.1 g0]; rfl)|(rw [dig2 hc.1 g0]; rfl)|(rw [dig2 hc.1 g0])|(exfalso; omega)
  ·cases hs
 ·cases hs
noncomputable def L_dg9:List (FuncId × FnC):=(20,conF Tryd.prog [.s 3] dg9_s [.s 9])::L_dg8
theorem L_dg9_ok {G:Nat→Option Obj} (hst:StartOk Tryd.prog G gl H0 n0):ConsOk Tryd.prog G gl L_dg9:=.cons (dg9_c hst) (L_dg8_ok hst)
end Go.Proofs.YtadmkfclgpbebaaDoor

namespace Go.Proofs.YtadmkfclgpbebaaDoor
set_option linter.all false
open Go Go.Sx
set_option maxRecDepth 100000
set_option linter.unusedVariables false
set_option linter.unusedSimpArgs false
theorem rpi_pre {p:Option (List Int)} {k:Int} (hk:0≤k) (h:∀ n ∈ el p,-1≤n∧n≤9999):¬k < ((el p).length:Int) ∨ -1≤(el p).getD k.toNat default∧(el p).getD k.toNat default≤9999 ∧
  rowS 0 k ((el p).drop k.toNat)=aheadS 0 k++partS ((el p).getD k.toNat default)++rowS 0 (k+1) ((el p).drop (k+1).toNat):=by
 by_cases hkm:k < ((el p).length:Int)
 ·obtain ⟨a,b⟩:=all_get h hk hkm
  exact .inr ⟨a,b,by rw [drop_step (el p) hk hkm,row_cons]⟩
 ·exact .inl hkm
theorem part_dig {n:Int} (h:0≤n):partS n=Lib.decDigits n.toNat:=by
 unfold partS
 rw [if_neg (by omega),show n=(n.toNat:Int) by omega,Lib.itoa_nonneg,Int.toNat_natCast]
theorem part_none {n:Int} (h : -1≤n) (h1:¬0≤n):partS n=[]:=if_pos (by omega)
theorem ahead_k {k:Int} (h:0 < k):aheadS 0 k=[58]:=if_neg (by omega)
theorem ahead_0 {k:Int} (h0:0≤k) (h:¬0 < k):aheadS 0 k=[]:=by
 unfold aheadS
 rw [if_pos (by omega),if_pos rfl]
def rpi_s:List U→Option (Nat × List U)
 | [u_l,.str s,.int .i64 i,.int .i64 k]=>(decS rP u_l).bind fun l=>if 0≤i∧i < ((el l).length:Int)∧0≤k∧k≤((el ((el l).getD i.toNat default)).length:Int)∧(el ((el l).getD i.toNat default)).length≤1000000∧s.length+(rowS 0 k ((el ((el l).getD i.toNat default)).drop k.toNat)).length≤100000000∧∀ n ∈ (el ((el l).getD i.toNat default)),-1≤n∧n≤9999 then some (0,[encS rP l,.str (s++rowS 0 k ((el ((el l).getD i.toNat default)).drop k.toNat)),.int .i64 i]) else none
 | _=>none
theorem rpi_s_e (l:(Option (List (Option (List Int))))) (s:(List UInt8)) (i:Int) (k:Int) (hc:0≤i∧i < ((el l).length:Int)∧0≤k∧k≤((el ((el l).getD i.toNat default)).length:Int)∧(el ((el l).getD i.toNat default)).length≤1000000∧s.length+(rowS 0 k ((el ((el l).getD i.toNat default)).drop k.toNat)).length≤100000000∧∀ n ∈ (el ((el l).getD i.toNat default)),-1≤n∧n≤9999):rpi_s [encS rP l,.str s,.int .i64 i,.int .i64 k]=some (0,[encS rP l,.str (s++rowS 0 k ((el ((el l).getD i.toNat default)).drop k.toNat)),.int .i64 i]):=by
 simp only [rpi_s,decS_enc,Option.bind_some]
 exact if_pos hc
def rpi_D:LoopD:=⟨[(0,dat 5 0 11),(4,h 1 9),(5,h 2 3),(6,h 3 3)],[(5,.frz)],4,[⟨.exit 2,[(0,dat 6 0 11),(4,h 1 9),(5,h 2 3)],[(6,.frz)],3⟩]⟩
noncomputable def rpi_B:Code:=(Tryd.f16.body).getD .skip
noncomputable def rpi_x:Code:=match codeAt [true,true,true,false,true,false,false,true,false,false,true,true,false] rpi_B with|some (.loop x)=>x|_=>.skip
theorem rpi_b:Tryd.f16.body=some rpi_B:=rfl
theorem rpi_p:codeAt [true,true,true,false,true,false,false,true,false,false,true,true,false] rpi_B=some (.loop rpi_x):=by kernel_rfl
def rpi_t:Tr:=.lt 8 (.inbs 1) [h 2 3,h 0 11] <| .br 4 (.dt 11 (.get 1 0) [h 0 11,h 2 3] <| .lt 3 (.len) [h 5 11] <| .lt 8 (.bin .lss) [h 3 3,h 6 3] <| .br 7 (.lt 8 (.bin .gtr) [h 3 3,.int .i64 (0)] <| .br 8 (.lt 9 (.bin .add) [h 1 9,.string ⟨⟨[58]⟩⟩] <| .lt 8 (.inbs 1) [h 2 3,h 0 11] <| .br 10 (.dt 11 (.get 1 0) [h 0 11,h 2 3] <| .lt 8 (.inbs 1) [h 3 3,h 11 11] <| .br 12 (.lt 3 (.get 1 0) [h 11 11,h 3 3] <| .lt 8 (.bin .geq) [h 13 3,.int .i64 (0)] <| .br 14 (.lt 8 (.inbs 1) [h 2 3,h 0 11] <| .br 15 (.dt 11 (.get 1 0) [h 0 11,h 2 3] <| .lt 8 (.inbs 1) [h 3 3,h 16 11] <| .br 17 (.lt 3 (.get 1 0) [h 16 11,h 3 3] <| .fn dg9_s [h 18 3] 1 <| .lt 9 (.bin .add) [h 9 9,h 19 9] <| .lt 3 (.bin .add) [h 3 3,.int .i64 (1)] <| .ret [.int .i64 (-1),h 0 11,h 20 9,h 2 3,h 21 3]) (.no)) (.no)) (.lt 3 (.bin .add) [h 3 3,.int .i64 (1)] <| .ret [.int .i64 (-1),h 0 11,h 9 9,h 2 3,h 15 3])) (.no)) (.no)) (.lt 8 (.inbs 1) [h 2 3,h 0 11] <| .br 9 (.dt 11 (.get 1 0) [h 0 11,h 2 3] <| .lt 8 (.inbs 1) [h 3 3,h 10 11] <| .br 11 (.lt 3 (.get 1 0) [h 10 11,h 3 3] <| .lt 8 (.bin .geq) [h 12 3,.int .i64 (0)] <| .br 13 (.lt 8 (.inbs 1) [h 2 3,h 0 11] <| .br 14 (.dt 11 (.get 1 0) [h 0 11,h 2 3] <| .lt 8 (.inbs 1) [h 3 3,h 15 11] <| .br 16 (.lt 3 (.get 1 0) [h 15 11,h 3 3] <| .fn dg9_s [h 17 3] 1 <| .lt 9 (.bin .add) [h 1 9,h 18 9] <| .lt 3 (.bin .add) [h 3 3,.int .i64 (1)] <| .ret [.int .i64 (-1),h 0 11,h 19 9,h 2 3,h 20 3]) (.no)) (.no)) (.lt 3 (.bin .add) [h 3 3,.int .i64 (1)] <| .ret [.int .i64 (-1),h 0 11,h 1 9,h 2 3,h 14 3])) (.no)) (.no))) (.ret [.int .i64 (0),h 0 11,h 1 9,h 2 3])) (.no)
def rpi_m:List U→Nat
 | [u_l,.str s,.int .i64 i,.int .i64 k]=>(match decS rP u_l with|some l=>((el ((el l).getD i.toNat default)).length - k).toNat|none=>0)
 | _=>0
theorem rpi_me (l:(Option (List (Option (List Int))))) (s:(List UInt8)) (i:Int) (k:Int):rpi_m [encS rP l,.str s,.int .i64 i,.int .i64 k]=((el ((el l).getD i.toNat default)).length - k).toNat:=by
 simp only [rpi_m,decS_enc]
theorem rpi_c {G:Nat→Option Obj} (hst:StartOk Tryd.prog G gl H0 n0):∀ (E:Nat→U) (base:Nat),@CodeOk ⟨E,G⟩ Tryd.prog base gl Tryd.f16.ntmps rpi_x (loopF Tryd.prog gl n0 7 rpi_D rpi_s):=by
 refine loop_ok (C:=cx L_dg9 P_rwl) (dep:=60) (f:=16) (n0:=n0) (nB:=7) (H0:=H0) rpi_m rpi_t (cxg (L_dg9_ok hst) (P_rwl_ok hst)) hst Tryd.func16 rpi_b rpi_p (by kernel_rfl) (by kernel_rfl) (by kernel_rfl) ?_
 intro us d outs hs
 have hs0:=hs
 unfold rpi_s at hs
 split at hs
 ·skip
  rename_i u_l s i k
  have hq_l:=Option.bind_eq_some_iff.1 hs
  clear hs
  obtain ⟨l,hd_l,hs⟩:=hq_l
  replace hd_l:=decS_eq hd_l
  subst hd_l
  split at hs
  ·rename_i hc
   clear hs hs0
   have hr:=rpi_pre (k:=k) hc.2.2.1 hc.2.2.2.2.2.2
   have hl:=fun h=>congrArg List.length (hr.resolve_left (fun q=>q h)).2.2
   simp only [List.length_append] at hl
   refine ⟨rfl,?_⟩
   unfold rpi_t
   refine s0 (.cons 3 _ (.cons 2 _ (.cons 1 _ (.cons 0 _ (.nil))))) rfl (by simp [Ev.ok,Ev.len]) ?_
   refine s1 (ev_inbsS rfl) rfl rfl rfl ?_
   refine s5 rfl (fun g0=>?_) fun g0=>?_
   ·refine s8 ?_
    first|omega|(simp_all; done)|(simp_all; omega)
   refine s2 (r:=rI) (ev_getS rfl (by omega) (by omega) rfl) rfl rfl ?_
   refine s1 (ev_lenS _ _) rfl rfl rfl ?_
   refine s1 (ev_lss _ _ _) rfl rfl rfl ?_
   refine s5 rfl (fun g1=>?_) fun g1=>?_
   ·refine s7 [.int .i64 _,encS rP _,.str _,.int .i64 _] rfl ?_
    refine leaf_exit (d:=0) ?_
    rw [rpi_s_e l s i k hc,drop_end (i:=k) (el ((el l).getD i.toNat default)) (by omega)]; simp [rowS]
   refine s1 (ev_gtr _ _ _) rfl rfl rfl ?_
   refine s4 rfl (fun g2=>?_) fun g2=>?_
   ·refine s1 (ev_cat _ _ (by first|(show s.length+1≤1000000000; omega)|(have hl2:=hl (by omega); rw [part_dig (by omega)] at hl2; first|omega|(simp only [List.length_append,List.length_cons,List.length_nil]; omega)|(simp only [List.length_append,List.length_cons,List.length_nil]; omega)))) rfl rfl rfl ?_
    refine s1 (ev_inbsS rfl) rfl rfl rfl ?_
    refine s5 rfl (fun g3=>?_) fun g3=>?_
    ·refine s8 ?_
     first|omega|(simp_all; done)|(simp_all; omega)
    refine s2 (r:=rI) (ev_getS rfl (by omega) (by omega) rfl) rfl rfl ?_
    refine s1 (ev_inbsS rfl) rfl rfl rfl ?_
    refine s5 rfl (fun g4=>?_) fun g4=>?_
    ·refine s8 ?_
     first|omega|(simp_all; done)|(simp_all; omega)
    refine s1 (u:=.int .i64 _) (ev_getS rfl (by omega) (by omega) rfl) rfl rfl rfl ?_
    refine s1 (ev_geq _ _ _) rfl rfl rfl ?_
    refine s4 rfl (fun g5=>?_) fun g5=>?_
    ·refine s1 (ev_inbsS rfl) rfl rfl rfl ?_
     refine s5 rfl (fun g6=>?_) fun g6=>?_
     ·refine s8 ?_
      first|omega|(simp_all; done)|(simp_all; omega)
     refine s2 (r:=rI) (ev_getS rfl (by omega) (by omega) rfl) rfl rfl ?_
     refine s1 (ev_inbsS rfl) rfl rfl rfl ?_
     refine s5 rfl (fun g7=>?_) fun g7=>?_
     ·refine s8 ?_
      first|omega|(simp_all; done)|(simp_all; omega)
     refine s1 (u:=.int .i64 _) (ev_getS rfl (by omega) (by omega) rfl) rfl rfl rfl ?_
     refine s31 (dg9_s_e _ (by omega)) rfl ?_
     refine s1 (ev_cat _ _ (by first|(show s.length+1≤1000000000; omega)|(have hl2:=hl (by omega); rw [part_dig (by omega)] at hl2; first|omega|(simp only [List.length_append,List.length_cons,List.length_nil]; omega)|(simp only [List.length_append,List.length_cons,List.length_nil]; omega)))) rfl rfl rfl ?_
     first|refine s1 (ev_addW (wrap64 (by omega) (by omega))) rfl rfl rfl ?_|refine s1 (ev_add _ _ _) rfl rfl rfl ?_
     refine s7 [.int .i64 _,encS rP _,.str _,.int .i64 _,.int .i64 _] rfl ?_
     refine leaf_back ?_ ?_
     ·have hr2:=(hr.resolve_left (fun q=>q (by omega))).2.2
      have hl2:=hl (by omega)
      rw [rpi_s_e l s i k hc,hr2]
      have hb : -1≤((el ((el l).getD i.toNat default))).getD k.toNat default:=by omega
      first
       | (rw [part_dig (by omega),ahead_k (by omega)] at hl2 ⊢
          rw [rpi_s_e _ _ _ _ ⟨hc.1,hc.2.1,by omega,by omega,hc.2.2.2.2.1,by simp only [List.length_append,List.length_cons,List.length_nil] at hl2 ⊢; omega,hc.2.2.2.2.2.2⟩]
          simp only [List.append_assoc]; done)
       | (rw [part_dig (by omega),ahead_0 hc.2.2.1 (by omega)] at hl2 ⊢
          rw [rpi_s_e _ _ _ _ ⟨hc.1,hc.2.1,by omega,by omega,hc.2.2.2.2.1,by simp only [List.length_append,List.length_cons,List.length_nil] at hl2 ⊢; omega,hc.2.2.2.2.2.2⟩]
          simp only [List.append_assoc,List.nil_append]; done)
       | (rw [part_none hb (by omega),ahead_k (by omega)] at hl2 ⊢
          rw [rpi_s_e _ _ _ _ ⟨hc.1,hc.2.1,by omega,by omega,hc.2.2.2.2.1,by simp only [List.length_append,List.length_cons,List.length_nil] at hl2 ⊢; omega,hc.2.2.2.2.2.2⟩]
          simp only [List.append_assoc,List.nil_append]; done)
       | (rw [part_none hb (by omega),ahead_0 hc.2.2.1 (by omega)] at hl2 ⊢
          rw [rpi_s_e _ _ _ _ ⟨hc.1,hc.2.1,by omega,by omega,hc.2.2.2.2.1,by simp only [List.length_append,List.length_cons,List.length_nil] at hl2 ⊢; omega,hc.2.2.2.2.2.2⟩]
          simp only [List.append_assoc,List.nil_append]; done)
     ·rw [rpi_me,rpi_me]; omega
    first|refine s1 (ev_addW (wrap64 (by omega) (by omega))) rfl rfl rfl ?_|refine s1 (ev_add _ _ _) rfl rfl rfl ?_
    refine s7 [.int .i64 _,encS rP _,.str _,.int .i64 _,.int .i64 _] rfl ?_
    refine leaf_back ?_ ?_
    ·have hr2:=(hr.resolve_left (fun q=>q (by omega))).2.2
     have hl2:=hl (by omega)
     rw [rpi_s_e l s i k hc,hr2]
     have hb : -1≤((el ((el l).getD i.toNat default))).getD k.toNat default:=by omega
     first
      | (rw [part_dig (by omega),ahead_k (by omega)] at hl2 ⊢
         rw [rpi_s_e _ _ _ _ ⟨hc.1,hc.2.1,by omega,by omega,hc.2.2.2.2.1,by simp only [List.length_append,List.length_cons,List.length_nil] at hl2 ⊢; omega,hc.2.2.2.2.2.2⟩]
         simp only [List.append_assoc]; done)
      | (rw [part_dig (by omega),ahead_0 hc.2.2.1 (by omega)] at hl2 ⊢
         rw [rpi_s_e _ _ _ _ ⟨hc.1,hc.2.1,by omega,by omega,hc.2.2.2.2.1,by simp only [List.length_append,List.length_cons,List.length_nil] at hl2 ⊢; omega,hc.2.2.2.2.2.2⟩]
         simp only [List.append_assoc,List.nil_append]; done)
      | (rw [part_none hb (by omega),ahead_k (by omega)] at hl2 ⊢
         rw [rpi_s_e _ _ _ _ ⟨hc.1,hc.2.1,by omega,by omega,hc.2.2.2.2.1,by simp only [List.length_append,List.length_cons,List.length_nil] at hl2 ⊢; omega,hc.2.2.2.2.2.2⟩]
         simp only [List.append_assoc,List.nil_append]; done)
      | (rw [part_none hb (by omega),ahead_0 hc.2.2.1 (by omega)] at hl2 ⊢
         rw [rpi_s_e _ _ _ _ ⟨hc.1,hc.2.1,by omega,by omega,hc.2.2.2.2.1,by simp only [List.length_append,List.length_cons,List.length_nil] at hl2 ⊢; omega,hc.2.2.2.2.2.2⟩]
         simp only [List.append_assoc,List.nil_append]; done)
    ·rw [rpi_me,rpi_me]; omega
   refine s1 (ev_inbsS rfl) rfl rfl rfl ?_
   refine s5 rfl (fun g3=>?_) fun g3=>?_
   ·refine s8 ?_
    first|omega|(simp_all; done)|(simp_all; omega)
   refine s2 (r:=rI) (ev_getS rfl (by omega) (by omega) rfl) rfl rfl ?_
   refine s1 (ev_inbsS rfl) rfl rfl rfl ?_
   refine s5 rfl (fun g4=>?_) fun g4=>?_
   ·refine s8 ?_
    first|omega|(simp_all; done)|(simp_all; omega)
   refine s1 (u:=.int .i64 _) (ev_getS rfl (by omega) (by omega) rfl) rfl rfl rfl ?_
   refine s1 (ev_geq _ _ _) rfl rfl rfl ?_
   refine s4 rfl (fun g5=>?_) fun g5=>?_
   ·refine s1 (ev_inbsS rfl) rfl rfl rfl ?_
    refine s5 rfl (fun g6=>?_) fun g6=>?_
    ·refine s8 ?_
     first|omega|(simp_all; done)|(simp_all; omega)
    refine s2 (r:=rI) (ev_getS rfl (by omega) (by omega) rfl) rfl rfl ?_
    refine s1 (ev_inbsS rfl) rfl rfl rfl ?_
    refine s5 rfl (fun g7=>?_) fun g7=>?_
    ·refine s8 ?_
     first|omega|(simp_all; done)|(simp_all; omega)
    refine s1 (u:=.int .i64 _) (ev_getS rfl (by omega) (by omega) rfl) rfl rfl rfl ?_
    refine s31 (dg9_s_e _ (by omega)) rfl ?_
    refine s1 (ev_cat _ _ (by first|(show s.length+1≤1000000000; omega)|(have hl2:=hl (by omega); rw [part_dig (by omega)] at hl2; first|omega|(simp only [List.length_append,List.length_cons,List.length_nil]; omega)|(simp only [List.length_append,List.length_cons,List.length_nil]; omega)))) rfl rfl rfl ?_
    first|refine s1 (ev_addW (wrap64 (by omega) (by omega))) rfl rfl rfl ?_|refine s1 (ev_add _ _ _) rfl rfl rfl ?_
    refine s7 [.int .i64 _,encS rP _,.str _,.int .i64 _,.int .i64 _] rfl ?_
    refine leaf_back ?_ ?_
    ·have hr2:=(hr.resolve_left (fun q=>q (by omega))).2.2
     have hl2:=hl (by omega)
     rw [rpi_s_e l s i k hc,hr2]
     have hb : -1≤((el ((el l).getD i.toNat default))).getD k.toNat default:=by omega
     first
      | (rw [part_dig (by omega),ahead_k (by omega)] at hl2 ⊢
         rw [rpi_s_e _ _ _ _ ⟨hc.1,hc.2.1,by omega,by omega,hc.2.2.2.2.1,by simp only [List.length_append,List.length_cons,List.length_nil] at hl2 ⊢; omega,hc.2.2.2.2.2.2⟩]
         simp only [List.append_assoc]; done)
      | (rw [part_dig (by omega),ahead_0 hc.2.2.1 (by omega)] at hl2 ⊢
         rw [rpi_s_e _ _ _ _ ⟨hc.1,hc.2.1,by omega,by omega,hc.2.2.2.2.1,by simp only [List.length_append,List.length_cons,List.length_nil] at hl2 ⊢; omega,hc.2.2.2.2.2.2⟩]
         simp only [List.append_assoc,List.nil_append]; done)
      | (rw [part_none hb (by omega),ahead_k (by omega)] at hl2 ⊢
         rw [rpi_s_e _ _ _ _ ⟨hc.1,hc.2.1,by omega,by omega,hc.2.2.2.2.1,by simp only [List.length_append,List.length_cons,List.length_nil] at hl2 ⊢; omega,hc.2.2.2.2.2.2⟩]
         simp only [List.append_assoc,List.nil_append]; done)
      | (rw [part_none hb (by omega),ahead_0 hc.2.2.1 (by omega)] at hl2 ⊢
         rw [rpi_s_e _ _ _ _ ⟨hc.1,hc.2.1,by omega,by omega,hc.2.2.2.2.1,by simp only [List.length_append,List.length_cons,List.length_nil] at hl2 ⊢; omega,hc.2.2.2.2.2.2⟩]
         simp only [List.append_assoc,List.nil_append]; done)
    ·rw [rpi_me,rpi_me]; omega
   first|refine s1 (ev_addW (wrap64 (by omega) (by omega))) rfl rfl rfl ?_|refine s1 (ev_add _ _ _) rfl rfl rfl ?_
   refine s7 [.int .i64 _,encS rP _,.str _,.int .i64 _,.int .i64 _] rfl ?_
   refine leaf_back ?_ ?_
   ·have hr2:=(hr.resolve_left (fun q=>q (by omega))).2.2
    have hl2:=hl (by omega)
    rw [rpi_s_e l s i k hc,hr2]
    have hb : -1≤((el ((el l).getD i.toNat default))).getD k.toNat default:=by omega
    first
     | (rw [part_dig (by omega),ahead_k (by omega)] at hl2 ⊢
        rw [rpi_s_e _ _ _ _ ⟨hc.1,hc.2.1,by omega,by omega,hc.2.2.2.2.1,by simp only [List.length_append,List.length_cons,List.length_nil] at hl2 ⊢; omega,hc.2.2.2.2.2.2⟩]
        simp only [List.append_assoc]; done)
     | (rw [part_dig (by omega),ahead_0 hc.2.2.1 (by omega)] at hl2 ⊢
        rw [rpi_s_e _ _ _ _ ⟨hc.1,hc.2.1,by omega,by omega,hc.2.2.2.2.1,by simp only [List.length_append,List.length_cons,List.length_nil] at hl2 ⊢; omega,hc.2.2.2.2.2.2⟩]
        simp only [List.append_assoc,List.nil_append]; done)
     | (rw [part_none hb (by omega),ahead_k (by omega)] at hl2 ⊢
        rw [rpi_s_e _ _ _ _ ⟨hc.1,hc.2.1,by omega,by omega,hc.2.2.2.2.1,by simp only [List.length_append,List.length_cons,List.length_nil] at hl2 ⊢; omega,hc.2.2.2.2.2.2⟩]
        simp only [List.append_assoc,List.nil_append]; done)
     | (rw [part_none hb (by omega),ahead_0 hc.2.2.1 (by omega)] at hl2 ⊢
        rw [rpi_s_e _ _ _ _ ⟨hc.1,hc.2.1,by omega,by omega,hc.2.2.2.2.1,by simp only [List.length_append,List.length_cons,List.length_nil] at hl2 ⊢; omega,hc.2.2.2.2.2.2⟩]
        simp only [List.append_assoc,List.nil_append]; done)
   ·rw [rpi_me,rpi_me]; omega
  ·cases hs
 ·cases hs
noncomputable def P_rpi:List LpE:=(16,([true,true,true,false,true,false,false,true,false,false,true,true,false],loopF Tryd.prog gl n0 7 rpi_D rpi_s))::P_rwl
theorem P_rpi_ok {G:Nat→Option Obj} (hst:StartOk Tryd.prog G gl H0 n0):LpsOk Tryd.prog G gl P_rpi:=.cons Tryd.func16 rpi_b rpi_p (rpi_c hst) (P_rwl_ok hst)
end Go.Proofs.YtadmkfclgpbebaaDoor

namespace Go.Proofs.YtadmkfclgpbebaaDoor
set_option linter.all false
open Go Go.Sx
set_option maxRecDepth 100000
set_option linter.unusedVariables false
set_option linter.unusedSimpArgs false
theorem rowS_i {i:Int}:∀ {r:List Int} {k:Int},0 < k→rowS i k r=rowS 0 k r
 | [],_,_=>rfl
 | n::r,k,hk=>by
   rw [row_cons,row_cons,rowS_i (r:=r) (k:=k+1) (by omega)]
   unfold aheadS
   rw [if_neg (by omega),if_neg (by omega)]
theorem rowS_0 {i:Int} (hi:0 < i) {r:List Int} (hr:1≤r.length):rowS i 0 r=[59]++rowS 0 0 r:=by
 match r,hr with
 | n::r,_ =>
   rw [row_cons,row_cons,rowS_i (r:=r) (k:=0+1) (by omega)]
   have h1:aheadS i 0=[59]:=by
    unfold aheadS
    rw [if_pos rfl,if_neg (by omega)]
   have h2:aheadS 0 0=[]:=rfl
   rw [h1,h2]; simp
theorem rpo_pre {l:Option (List (Option (List Int)))} {i:Int} (hi:0≤i) (h:∀ p ∈ el l,1≤(el p).length∧(el p).length≤6∧∀ n ∈ el p,-1≤n∧n≤9999):¬i < ((el l).length:Int)∨1≤(el ((el l).getD i.toNat default)).length∧(el ((el l).getD i.toNat default)).length≤6 ∧
  ((0 < i∧rowsS i ((el l).drop i.toNat)=[59]++(rowS 0 0 (el ((el l).getD i.toNat default))++rowsS (i+1) ((el l).drop (i+1).toNat))∧(rowsS i ((el l).drop i.toNat)).length=1+(rowS 0 0 (el ((el l).getD i.toNat default))).length+(rowsS (i+1) ((el l).drop (i+1).toNat)).length) ∨
   (i=0∧rowsS i ((el l).drop i.toNat)=rowS 0 0 (el ((el l).getD i.toNat default))++rowsS (i+1) ((el l).drop (i+1).toNat)∧(rowsS i ((el l).drop i.toNat)).length=(rowS 0 0 (el ((el l).getD i.toNat default))).length+(rowsS (i+1) ((el l).drop (i+1).toNat)).length)):=by
 by_cases hkm:i < ((el l).length:Int)
 ·obtain ⟨a,b,_⟩:=all_get h hi hkm
  have e:rowsS i ((el l).drop i.toNat)=rowS i 0 (el ((el l).getD i.toNat default))++rowsS (i+1) ((el l).drop (i+1).toNat):=by rw [drop_step (el l) hi hkm]; rfl
  refine .inr ⟨a,b,?_⟩
  by_cases h0:0 < i
  ·rw [rowS_0 h0 a,List.append_assoc] at e
   exact .inl ⟨h0,e,by rw [e]; simp only [List.length_append,List.length_singleton]; omega⟩
  ·have h1:i=0:=by omega
   refine .inr ⟨h1,?_⟩
   have e2:rowS i 0 (el ((el l).getD i.toNat default))=rowS 0 0 (el ((el l).getD i.toNat default)):=by rw [h1]
   rw [e2] at e
   exact ⟨e,by rw [e,List.length_append]⟩
 ·exact .inl hkm
theorem drop_00 {α:Type} (l:List α):l.drop (0:Int).toNat=l:=rfl
def rpo_s:List U→Option (Nat × List U)
 | [u_l,.str s,.int .i64 i]=>(decS rP u_l).bind fun l=>if 0≤i∧i≤((el l).length:Int)∧(el l).length≤1000000∧s.length+(rowsS i ((el l).drop i.toNat)).length≤100000000∧∀ p ∈ el l,1≤(el p).length∧(el p).length≤6∧∀ n ∈ el p,-1≤n∧n≤9999 then some (0,[.str (s++rowsS i ((el l).drop i.toNat))]) else none
 | _=>none
theorem rpo_s_e (l:(Option (List (Option (List Int))))) (s:(List UInt8)) (i:Int) (hc:0≤i∧i≤((el l).length:Int)∧(el l).length≤1000000∧s.length+(rowsS i ((el l).drop i.toNat)).length≤100000000∧∀ p ∈ el l,1≤(el p).length∧(el p).length≤6∧∀ n ∈ el p,-1≤n∧n≤9999):rpo_s [encS rP l,.str s,.int .i64 i]=some (0,[.str (s++rowsS i ((el l).drop i.toNat))]):=by
 simp only [rpo_s,decS_enc,Option.bind_some]
 exact if_pos hc
def rpo_D:LoopD:=⟨[(0,dat 5 0 11),(4,h 1 9),(5,h 2 3)],[(5,.frz)],3,[⟨.exit 0,[(4,h 0 9)],[],1⟩]⟩
noncomputable def rpo_B:Code:=(Tryd.f16.body).getD .skip
noncomputable def rpo_x:Code:=match codeAt [true,true,true,false,true,false] rpo_B with|some (.loop x)=>x|_=>.skip
theorem rpo_b:Tryd.f16.body=some rpo_B:=rfl
theorem rpo_p:codeAt [true,true,true,false,true,false] rpo_B=some (.loop rpo_x):=by kernel_rfl
def rpo_t:Tr:=.lt 3 (.len) [h 0 11] <| .lt 8 (.bin .lss) [h 2 3,h 3 3] <| .br 4 (.lt 8 (.bin .gtr) [h 2 3,.int .i64 (0)] <| .br 5 (.lt 9 (.bin .add) [h 1 9,.string ⟨⟨[59]⟩⟩] <| .fn rpi_s [h 0 11,h 6 9,h 2 3,.int .i64 (0)] 3 <| .lt 3 (.bin .add) [h 9 3,.int .i64 (1)] <| .ret [.int .i64 (-1),h 7 11,h 8 9,h 10 3]) (.fn rpi_s [h 0 11,h 1 9,h 2 3,.int .i64 (0)] 3 <| .lt 3 (.bin .add) [h 8 3,.int .i64 (1)] <| .ret [.int .i64 (-1),h 6 11,h 7 9,h 9 3])) (.ret [.int .i64 (0),h 1 9])
def rpo_m:List U→Nat
 | [u_l,.str s,.int .i64 i]=>(match decS rP u_l with|some l=>((el l).length - i).toNat|none=>0)
 | _=>0
theorem rpo_me (l:(Option (List (Option (List Int))))) (s:(List UInt8)) (i:Int):rpo_m [encS rP l,.str s,.int .i64 i]=((el l).length - i).toNat:=by
 simp only [rpo_m,decS_enc]
theorem rpo_c {G:Nat→Option Obj} (hst:StartOk Tryd.prog G gl H0 n0):∀ (E:Nat→U) (base:Nat),@CodeOk ⟨E,G⟩ Tryd.prog base gl Tryd.f16.ntmps rpo_x (loopF Tryd.prog gl n0 6 rpo_D rpo_s):=by
 refine loop_ok (C:=cx L_dg9 P_rpi) (dep:=60) (f:=16) (n0:=n0) (nB:=6) (H0:=H0) rpo_m rpo_t (cxg (L_dg9_ok hst) (P_rpi_ok hst)) hst Tryd.func16 rpo_b rpo_p (by kernel_rfl) (by kernel_rfl) (by kernel_rfl) ?_
 intro us d outs hs
 have hs0:=hs
 unfold rpo_s at hs
 split at hs
 ·skip
  rename_i u_l s i
  have hq_l:=Option.bind_eq_some_iff.1 hs
  clear hs
  obtain ⟨l,hd_l,hs⟩:=hq_l
  replace hd_l:=decS_eq hd_l
  subst hd_l
  split at hs
  ·rename_i hc
   clear hs hs0
   have hr:=rpo_pre (i:=i) hc.1 hc.2.2.2.2
   refine ⟨rfl,?_⟩
   unfold rpo_t
   refine s0 (.cons 2 _ (.cons 1 _ (.cons 0 _ (.nil)))) rfl (by simp [Ev.ok,Ev.len]) ?_
   refine s1 (ev_lenS _ _) rfl rfl rfl ?_
   refine s1 (ev_lss _ _ _) rfl rfl rfl ?_
   refine s5 rfl (fun g0=>?_) fun g0=>?_
   ·refine s7 [.int .i64 _,.str _] rfl ?_
    refine leaf_exit (d:=0) ?_
    rw [rpo_s_e l s i hc,drop_end (i:=i) (el l) (by omega)]; simp [rowsS]
   refine s1 (ev_gtr _ _ _) rfl rfl rfl ?_
   refine s4 rfl (fun g1=>?_) fun g1=>?_
   ·refine s1 (ev_cat _ _ (by show s.length+1≤1000000000; omega)) rfl rfl rfl ?_
    refine s3 (rpi_s_e _ _ _ _ ⟨hc.1,by omega,by omega,by omega,by omega,by first|(rw [drop_00]; omega)|(rw [drop_00,List.length_append]; show s.length+1+(rowS 0 0 (el ((el l).getD i.toNat default))).length≤100000000; omega),(all_get hc.2.2.2.2 hc.1 (by omega)).2.2⟩) rfl ?_
    show Tr.sav _ _ (.cons 9 _ (.cons 8 _ (.cons 7 _ _)))
    first|refine s1 (ev_addW (wrap64 (by omega) (by omega))) rfl rfl rfl ?_|refine s1 (ev_add _ _ _) rfl rfl rfl ?_
    refine s7 [.int .i64 _,encS rP _,.str _,.int .i64 _] rfl ?_
    refine leaf_back ?_ ?_
    ·obtain ⟨_,_,⟨h0,e1,e2⟩|⟨h0,e1,e2⟩⟩:=hr.resolve_left (fun q=>q (by omega))
     ·first
       | (exfalso; omega)
       | (rw [rpo_s_e l s i hc,e1]
          refine (rpo_s_e _ _ _ ⟨by omega,by omega,hc.2.2.1,by rw [drop_00,List.length_append,List.length_append]; show s.length+1+(rowS 0 0 (el ((el l).getD i.toNat default))).length+_≤100000000; omega,hc.2.2.2.2⟩).trans ?_
          rw [drop_00,List.append_assoc,List.append_assoc])
     ·first
       | (exfalso; omega)
       | (rw [rpo_s_e l s i hc,e1]
          refine (rpo_s_e _ _ _ ⟨by omega,by omega,hc.2.2.1,by rw [drop_00,List.length_append]; omega,hc.2.2.2.2⟩).trans ?_
          rw [drop_00,List.append_assoc])
    ·rw [rpo_me,rpo_me]; omega
   refine s3 (rpi_s_e _ _ _ _ ⟨hc.1,by omega,by omega,by omega,by omega,by first|(rw [drop_00]; omega)|(rw [drop_00,List.length_append]; show s.length+1+(rowS 0 0 (el ((el l).getD i.toNat default))).length≤100000000; omega),(all_get hc.2.2.2.2 hc.1 (by omega)).2.2⟩) rfl ?_
   show Tr.sav _ _ (.cons 8 _ (.cons 7 _ (.cons 6 _ _)))
   first|refine s1 (ev_addW (wrap64 (by omega) (by omega))) rfl rfl rfl ?_|refine s1 (ev_add _ _ _) rfl rfl rfl ?_
   refine s7 [.int .i64 _,encS rP _,.str _,.int .i64 _] rfl ?_
   refine leaf_back ?_ ?_
   ·obtain ⟨_,_,⟨h0,e1,e2⟩|⟨h0,e1,e2⟩⟩:=hr.resolve_left (fun q=>q (by omega))
    ·first
      | (exfalso; omega)
      | (rw [rpo_s_e l s i hc,e1]
         refine (rpo_s_e _ _ _ ⟨by omega,by omega,hc.2.2.1,by rw [drop_00,List.length_append,List.length_append]; show s.length+1+(rowS 0 0 (el ((el l).getD i.toNat default))).length+_≤100000000; omega,hc.2.2.2.2⟩).trans ?_
         rw [drop_00,List.append_assoc,List.append_assoc])
    ·first
      | (exfalso; omega)
      | (rw [rpo_s_e l s i hc,e1]
         refine (rpo_s_e _ _ _ ⟨by omega,by omega,hc.2.2.1,by rw [drop_00,List.length_append]; omega,hc.2.2.2.2⟩).trans ?_
         rw [drop_00,List.append_assoc])
   ·rw [rpo_me,rpo_me]; omega
  ·cases hs
 ·cases hs
noncomputable def P_rpo:List LpE:=(16,([true,true,true,false,true,false],loopF Tryd.prog gl n0 6 rpo_D rpo_s))::P_rpi
theorem P_rpo_ok {G:Nat→Option Obj} (hst:StartOk Tryd.prog G gl H0 n0):LpsOk Tryd.prog G gl P_rpo:=.cons Tryd.func16 rpo_b rpo_p (rpo_c hst) (P_rpi_ok hst)
end Go.Proofs.YtadmkfclgpbebaaDoor

namespace Go.Proofs.YtadmkfclgpbebaaDoor
set_option linter.all false
open Go Go.Sx
set_option maxRecDepth 100000
set_option linter.unusedVariables false
set_option linter.unusedSimpArgs false
def rprt_s:List U→Option (Nat × List U)
 | [u_l]=>(decS rP u_l).bind fun l=>if (el l).length≤1000000000∧∀ p ∈ el l,(el p).length≤1000000000 then some (0,[.str ((printS l).1),.int .i64 ((printS l).2)]) else none
 | _=>none
theorem rprt_s_e (l:(Option (List (Option (List Int))))) (hc:(el l).length≤1000000000∧∀ p ∈ el l,(el p).length≤1000000000):rprt_s [encS rP l]=some (0,[.str ((printS l).1),.int .i64 ((printS l).2)]):=by
 simp only [rprt_s,decS_enc,Option.bind_some]
 exact if_pos hc
def rprt_t:Tr:=.fn rchk_s [h 0 11] 1 <| .lt 8 (.bin .neq) [h 1 3,.int .i64 (0)] <| .br 2 (.ret [.string ⟨⟨[]⟩⟩,.int .i64 (150)]) (.fn rpo_s [h 0 11,.string ⟨⟨[]⟩⟩,.int .i64 (0)] 1 <| .ret [h 3 9,.int .i64 (0)])
theorem rprt_c {G:Nat→Option Obj} (hst:StartOk Tryd.prog G gl H0 n0):ConOk Tryd.prog G 16 [.s 11] rprt_s [.s 9,.s 3]:=by
 refine con_of_tree (C:=cx L_dg9 P_rpo) (d:=60) rprt_t (cxg (L_dg9_ok hst) (P_rpo_ok hst)) hst ⟨Tryd.f16,_,Tryd.func16,rfl⟩ (by kernel_rfl) (by kernel_rfl) ?_
 intro us outs hs
 unfold rprt_s at hs
 split at hs
 ·skip
  rename_i u_l
  have hq_l:=Option.bind_eq_some_iff.1 hs
  clear hs
  obtain ⟨l,hd_l,hs⟩:=hq_l
  replace hd_l:=decS_eq hd_l
  subst hd_l
  split at hs
  ·rename_i hc
   cases hs
   have hb:=check_bd l
   unfold rprt_t
   refine s0 (.cons 0 _ (.nil)) rfl (by simp [Ev.ok,Ev.len]) ?_
   refine s31 (rchk_s_e _ (by omega)) rfl ?_
   refine s1 (ev_neq _ _ _) rfl rfl rfl ?_
   refine s4 rfl (fun g0=>?_) fun g0=>?_
   ·refine s7 [.str _,.int .i64 _] rfl ?_
    first|(rw [print_0 l (by omega),show checkS l=150 by omega]; done)|(rw [print_1 l (by omega)]; rfl)|(rw [print_1 l (by omega),show el l=[] from List.length_eq_zero_iff.1 (by omega)]; rfl)
   refine s31 (rpo_s_e _ _ _ (by rcases hb with h1|⟨h1,h2,h3⟩ <;> first|(exfalso; omega)|exact ⟨by omega,by omega,by omega,by have:=rows_len (j:=0) (fun p hp=>(h3 p hp).2); rw [drop_00]; show 0+_≤_; omega,h3⟩)) rfl ?_
   refine s7 [.str _,.int .i64 _] rfl ?_
   first|(rw [print_0 l (by omega),show checkS l=150 by omega]; done)|(rw [print_1 l (by omega)]; rfl)|(rw [print_1 l (by omega),show el l=[] from List.length_eq_zero_iff.1 (by omega)]; rfl)
  ·cases hs
 ·cases hs
end Go.Proofs.YtadmkfclgpbebaaDoor
