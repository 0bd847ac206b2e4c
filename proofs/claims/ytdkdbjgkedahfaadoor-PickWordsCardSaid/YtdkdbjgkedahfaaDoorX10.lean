/- The law PickWords: for every input the call returns true, and the arguments read behind it as they read before. No condition. -/
import Derived.Test.YtdkdbjgkedahfaaDoorX9
namespace Go.Proofs.YtdkdbjgkedahfaaDoor
set_option linter.all false
open Go Go.Sx
set_option maxRecDepth 100000
set_option linter.unusedVariables false
set_option linter.unusedSimpArgs false
def rin_l:List U→Option (Nat × List U)
 | [u_l,.int .i64 c,.int .i64 i]=>(decS rQ u_l).bind fun l=>if 0≤i∧i≤((el l).length:Int)∧((el l).length:Int)≤1000 then way01 (bU (((el l).drop i.toNat).any (inB c))) [] (fun _=>[]) else none
 | _=>none
theorem rin_l_e (l:(Option (List (Int × Int)))) (c:Int) (i:Int) (hc:0≤i∧i≤((el l).length:Int)∧((el l).length:Int)≤1000):rin_l [encS rQ l,.int .i64 c,.int .i64 i]=way01 (bU (((el l).drop i.toNat).any (inB c))) [] (fun _=>[]):=by
 simp only [rin_l,decS_enc,Option.bind_some]
 exact if_pos hc
def rin_D:LoopD:=⟨[(0,dat 4 0 12),(1,h 1 3),(5,h 2 3)],[(4,.frz)],3,[⟨.exit 0,[],[],0⟩,⟨.ret,[(4,.bool true)],[],0⟩]⟩
noncomputable def rin_B:Code:=(Tryd.f99.body).getD .skip
noncomputable def rin_x:Code:=match codeAt [true,false,true,false] rin_B with|some (.loop x)=>x|_=>.skip
theorem rin_b:Tryd.f99.body=some rin_B:=rfl
theorem rin_p:codeAt [true,false,true,false] rin_B=some (.loop rin_x):=by kernel_rfl
def rin_t:Tr:=.lt 3 (.len) [h 0 12] <| .lt 8 (.bin .lss) [h 2 3,h 3 3] <| .br 4 (.lt 8 (.inbs 2) [h 2 3,h 0 12] <| .br 5 (.lt 3 (.get 2 0) [h 0 12,h 2 3] <| .lt 8 (.bin .geq) [h 1 3,h 6 3] <| .br 7 (.lt 8 (.inbs 2) [h 2 3,h 0 12] <| .br 8 (.lt 3 (.get 2 1) [h 0 12,h 2 3] <| .lt 8 (.bin .leq) [h 1 3,h 9 3] <| .br 10 (.ret [.int .i64 (1)]) (.lt 3 (.bin .add) [h 2 3,.int .i64 (1)] <| .ret [.int .i64 (-1),h 0 12,h 1 3,h 11 3])) (.no)) (.lt 3 (.bin .add) [h 2 3,.int .i64 (1)] <| .ret [.int .i64 (-1),h 0 12,h 1 3,h 8 3])) (.no)) (.ret [.int .i64 (0)])
def rin_m:List U→Nat
 | [u_l,.int .i64 c,.int .i64 i]=>(match decS rQ u_l with|some l=>(((el l).length:Int) - i).toNat|none=>0)
 | _=>0
theorem rin_me (l:(Option (List (Int × Int)))) (c:Int) (i:Int):rin_m [encS rQ l,.int .i64 c,.int .i64 i]=(((el l).length:Int) - i).toNat:=by
 simp only [rin_m,decS_enc]
theorem rin_c {G:Nat→Option Obj} (hst:StartOk Tryd.prog G gl H0 n0):∀ (E:Nat→U) (base:Nat),@CodeOk ⟨E,G⟩ Tryd.prog base gl Tryd.f99.ntmps rin_x (loopF Tryd.prog gl n0 5 rin_D rin_l):=by
 refine loop_ok (C:=cx L_wrd P_wfd) (dep:=60) (f:=99) (n0:=n0) (nB:=5) (H0:=H0) rin_m rin_t (cxg (L_wrd_ok hst) (P_wfd_ok hst)) hst Tryd.func99 rin_b rin_p (by kernel_rfl) (by kernel_rfl) (by kernel_rfl) ?_
 intro us d outs hs
 have hs0:=hs
 unfold rin_l at hs
 split at hs
 ·skip
  rename_i u_l c i
  have hq_l:=Option.bind_eq_some_iff.1 hs
  clear hs
  obtain ⟨l,hd_l,hs⟩:=hq_l
  replace hd_l:=decS_eq hd_l
  subst hd_l
  split at hs
  ·rename_i hc
   clear hs hs0
   refine ⟨rfl,?_⟩
   unfold rin_t
   refine s0 (.cons 2 _ (.cons 1 _ (.cons 0 _ (.nil)))) rfl (by simp [Ev.ok,Ev.len]) ?_
   refine s1 (ev_lenS _ _) rfl rfl rfl ?_
   refine s1 (ev_lss _ _ _) rfl rfl rfl ?_
   refine s5 rfl (fun g0=>?_) fun g0=>?_
   ·refine s7 [.int .i64 _] rfl ?_
    refine leaf_exit (d:=0) ?_
    rw [rin_l_e l c i hc,any_end (by omega)]; rfl
   refine s1 (ev_inbsS rfl) rfl rfl rfl ?_
   refine s5 rfl (fun g1=>?_) fun g1=>?_
   ·refine s8 ?_
    first|omega|(trace_state; done)
   refine s1 (u:=.int .i64 _) (ev_getS rfl (by omega) (by omega) rfl) rfl rfl rfl ?_
   refine s1 (ev_geq _ _ _) rfl rfl rfl ?_
   refine s4 rfl (fun g2=>?_) fun g2=>?_
   ·refine s1 (ev_inbsS rfl) rfl rfl rfl ?_
    refine s5 rfl (fun g3=>?_) fun g3=>?_
    ·refine s8 ?_
     first|omega|(trace_state; done)
    refine s1 (u:=.int .i64 _) (ev_getS rfl (by omega) (by omega) rfl) rfl rfl rfl ?_
    refine s1 (ev_leq _ _ _) rfl rfl rfl ?_
    refine s4 rfl (fun g4=>?_) fun g4=>?_
    ·refine s7 [.int .i64 _] rfl ?_
     refine leaf_exit (d:=1) ?_
     rw [rin_l_e l c i hc,any_t (i:=i) (by omega) (by omega) (inB_t (by assumption) (by assumption))]; rfl
    first|refine s1 (ev_addW (wrap64 (by omega) (by omega))) rfl rfl rfl ?_|refine s1 (ev_add _ _ _) rfl rfl rfl ?_
    refine s7 [.int .i64 _,encS rQ _,.int .i64 _,.int .i64 _] rfl ?_
    refine leaf_back ?_ ?_
    ·rw [rin_l_e l c i hc,any_f (i:=i) (by omega) (by omega) (inB_f (by omega))]; exact rin_l_e l c (i+1) ⟨by omega,by omega,hc.2.2⟩
    ·rw [rin_me,rin_me]; omega
   first|refine s1 (ev_addW (wrap64 (by omega) (by omega))) rfl rfl rfl ?_|refine s1 (ev_add _ _ _) rfl rfl rfl ?_
   refine s7 [.int .i64 _,encS rQ _,.int .i64 _,.int .i64 _] rfl ?_
   refine leaf_back ?_ ?_
   ·rw [rin_l_e l c i hc,any_f (i:=i) (by omega) (by omega) (inB_f (by omega))]; exact rin_l_e l c (i+1) ⟨by omega,by omega,hc.2.2⟩
   ·rw [rin_me,rin_me]; omega
  ·cases hs
 ·cases hs
noncomputable def P_rin:List LpE:=(99,([true,false,true,false],loopF Tryd.prog gl n0 5 rin_D rin_l))::P_wfd
theorem P_rin_ok {G:Nat→Option Obj} (hst:StartOk Tryd.prog G gl H0 n0):LpsOk Tryd.prog G gl P_rin:=.cons Tryd.func99 rin_b rin_p (rin_c hst) (P_wfd_ok hst)
theorem rz_any (c:Int):((el (some ([(768,879),(1155,1161),(1425,1469),(1552,1562),(1611,1631),(6832,6911),(7616,7679),(8203,8207),(8400,8447),(65024,65039),(65056,65071)]:List (Int × Int)))).drop (0:Int).toNat).any (inB c)=true↔inM c:=by
 unfold inM
 show List.any _ _=true↔_
 simp [el_some,inB]
theorem rt_any (c:Int):((el (some ([(4352,4447),(11904,12350),(12353,13311),(13312,19903),(19968,40959),(40960,42191),(44032,55203),(63744,64255),(65072,65135),(65280,65376),(65504,65510),(127744,128591),(128640,128767),(129280,129535),(131072,262141)]:List (Int × Int)))).drop (0:Int).toNat).any (inB c)=true↔inW c:=by
 unfold inW
 show List.any _ _=true↔_
 simp only [drop_zero',el_some,List.any_cons,List.any_nil,inB,Bool.or_false,Bool.or_eq_true,Bool.and_eq_true,decide_eq_true_eq]
 constructor <;> intro h <;> omega
noncomputable def U_rwd:List (FuncId × FnC):=L0
theorem U_rwd_ok {G:Nat→Option Obj} (hst:StartOk Tryd.prog G gl H0 n0):ConsOk Tryd.prog G gl U_rwd:=.nil
def rwd_s:List U→Option (Nat × List U)
 | [.int .i64 c]=>some (0,[.int .i64 (widS c)])
 | _=>none
theorem rwd_s_e (c:Int):rwd_s [.int .i64 c]=some (0,[.int .i64 (widS c)]):=rfl
def rwd_t:Tr:=.lt 8 (.bin .geq) [h 0 3,.int .i64 (0)] <| .br 1 (.lt 8 (.bin .leq) [h 0 3,.int .i64 (1114111)] <| .br 2 (.lt 8 (.bin .lss) [h 0 3,.int .i64 (55296)] <| .br 3 (.lt 8 (.bin .lss) [h 0 3,.int .i64 (32)] <| .br 4 (.ret [.int .i64 (-1)]) (.lt 8 (.bin .geq) [h 0 3,.int .i64 (127)] <| .br 5 (.lt 8 (.bin .lss) [h 0 3,.int .i64 (160)] <| .br 6 (.ret [.int .i64 (-1)]) (.dt 12 (.mk 2) [.int .i64 (768),.int .i64 (879),.int .i64 (1155),.int .i64 (1161),.int .i64 (1425),.int .i64 (1469),.int .i64 (1552),.int .i64 (1562),.int .i64 (1611),.int .i64 (1631),.int .i64 (6832),.int .i64 (6911),.int .i64 (7616),.int .i64 (7679),.int .i64 (8203),.int .i64 (8207),.int .i64 (8400),.int .i64 (8447),.int .i64 (65024),.int .i64 (65039),.int .i64 (65056),.int .i64 (65071)] <| .lp rin_l [h 7 12,h 0 3,.int .i64 (0)] 0 0 (.dt 12 (.mk 2) [.int .i64 (4352),.int .i64 (4447),.int .i64 (11904),.int .i64 (12350),.int .i64 (12353),.int .i64 (13311),.int .i64 (13312),.int .i64 (19903),.int .i64 (19968),.int .i64 (40959),.int .i64 (40960),.int .i64 (42191),.int .i64 (44032),.int .i64 (55203),.int .i64 (63744),.int .i64 (64255),.int .i64 (65072),.int .i64 (65135),.int .i64 (65280),.int .i64 (65376),.int .i64 (65504),.int .i64 (65510),.int .i64 (127744),.int .i64 (128591),.int .i64 (128640),.int .i64 (128767),.int .i64 (129280),.int .i64 (129535),.int .i64 (131072),.int .i64 (262141)] <| .lp rin_l [h 8 12,h 0 3,.int .i64 (0)] 0 0 (.ret [.int .i64 (1)]) (.lp rin_l [h 8 12,h 0 3,.int .i64 (0)] 1 0 (.ret [.int .i64 (2)]) (.no))) (.lp rin_l [h 7 12,h 0 3,.int .i64 (0)] 1 0 (.ret [.int .i64 (0)]) (.no)))) (.dt 12 (.mk 2) [.int .i64 (768),.int .i64 (879),.int .i64 (1155),.int .i64 (1161),.int .i64 (1425),.int .i64 (1469),.int .i64 (1552),.int .i64 (1562),.int .i64 (1611),.int .i64 (1631),.int .i64 (6832),.int .i64 (6911),.int .i64 (7616),.int .i64 (7679),.int .i64 (8203),.int .i64 (8207),.int .i64 (8400),.int .i64 (8447),.int .i64 (65024),.int .i64 (65039),.int .i64 (65056),.int .i64 (65071)] <| .lp rin_l [h 6 12,h 0 3,.int .i64 (0)] 0 0 (.dt 12 (.mk 2) [.int .i64 (4352),.int .i64 (4447),.int .i64 (11904),.int .i64 (12350),.int .i64 (12353),.int .i64 (13311),.int .i64 (13312),.int .i64 (19903),.int .i64 (19968),.int .i64 (40959),.int .i64 (40960),.int .i64 (42191),.int .i64 (44032),.int .i64 (55203),.int .i64 (63744),.int .i64 (64255),.int .i64 (65072),.int .i64 (65135),.int .i64 (65280),.int .i64 (65376),.int .i64 (65504),.int .i64 (65510),.int .i64 (127744),.int .i64 (128591),.int .i64 (128640),.int .i64 (128767),.int .i64 (129280),.int .i64 (129535),.int .i64 (131072),.int .i64 (262141)] <| .lp rin_l [h 7 12,h 0 3,.int .i64 (0)] 0 0 (.ret [.int .i64 (1)]) (.lp rin_l [h 7 12,h 0 3,.int .i64 (0)] 1 0 (.ret [.int .i64 (2)]) (.no))) (.lp rin_l [h 6 12,h 0 3,.int .i64 (0)] 1 0 (.ret [.int .i64 (0)]) (.no))))) (.lt 8 (.bin .gtr) [h 0 3,.int .i64 (57343)] <| .lt 8 (.un .not) [h 4 8] <| .br 5 (.ret [.int .i64 (-1)]) (.lt 8 (.bin .lss) [h 0 3,.int .i64 (32)] <| .br 6 (.ret [.int .i64 (-1)]) (.lt 8 (.bin .geq) [h 0 3,.int .i64 (127)] <| .br 7 (.lt 8 (.bin .lss) [h 0 3,.int .i64 (160)] <| .br 8 (.ret [.int .i64 (-1)]) (.dt 12 (.mk 2) [.int .i64 (768),.int .i64 (879),.int .i64 (1155),.int .i64 (1161),.int .i64 (1425),.int .i64 (1469),.int .i64 (1552),.int .i64 (1562),.int .i64 (1611),.int .i64 (1631),.int .i64 (6832),.int .i64 (6911),.int .i64 (7616),.int .i64 (7679),.int .i64 (8203),.int .i64 (8207),.int .i64 (8400),.int .i64 (8447),.int .i64 (65024),.int .i64 (65039),.int .i64 (65056),.int .i64 (65071)] <| .lp rin_l [h 9 12,h 0 3,.int .i64 (0)] 0 0 (.dt 12 (.mk 2) [.int .i64 (4352),.int .i64 (4447),.int .i64 (11904),.int .i64 (12350),.int .i64 (12353),.int .i64 (13311),.int .i64 (13312),.int .i64 (19903),.int .i64 (19968),.int .i64 (40959),.int .i64 (40960),.int .i64 (42191),.int .i64 (44032),.int .i64 (55203),.int .i64 (63744),.int .i64 (64255),.int .i64 (65072),.int .i64 (65135),.int .i64 (65280),.int .i64 (65376),.int .i64 (65504),.int .i64 (65510),.int .i64 (127744),.int .i64 (128591),.int .i64 (128640),.int .i64 (128767),.int .i64 (129280),.int .i64 (129535),.int .i64 (131072),.int .i64 (262141)] <| .lp rin_l [h 10 12,h 0 3,.int .i64 (0)] 0 0 (.ret [.int .i64 (1)]) (.lp rin_l [h 10 12,h 0 3,.int .i64 (0)] 1 0 (.ret [.int .i64 (2)]) (.no))) (.lp rin_l [h 9 12,h 0 3,.int .i64 (0)] 1 0 (.ret [.int .i64 (0)]) (.no)))) (.dt 12 (.mk 2) [.int .i64 (768),.int .i64 (879),.int .i64 (1155),.int .i64 (1161),.int .i64 (1425),.int .i64 (1469),.int .i64 (1552),.int .i64 (1562),.int .i64 (1611),.int .i64 (1631),.int .i64 (6832),.int .i64 (6911),.int .i64 (7616),.int .i64 (7679),.int .i64 (8203),.int .i64 (8207),.int .i64 (8400),.int .i64 (8447),.int .i64 (65024),.int .i64 (65039),.int .i64 (65056),.int .i64 (65071)] <| .lp rin_l [h 8 12,h 0 3,.int .i64 (0)] 0 0 (.dt 12 (.mk 2) [.int .i64 (4352),.int .i64 (4447),.int .i64 (11904),.int .i64 (12350),.int .i64 (12353),.int .i64 (13311),.int .i64 (13312),.int .i64 (19903),.int .i64 (19968),.int .i64 (40959),.int .i64 (40960),.int .i64 (42191),.int .i64 (44032),.int .i64 (55203),.int .i64 (63744),.int .i64 (64255),.int .i64 (65072),.int .i64 (65135),.int .i64 (65280),.int .i64 (65376),.int .i64 (65504),.int .i64 (65510),.int .i64 (127744),.int .i64 (128591),.int .i64 (128640),.int .i64 (128767),.int .i64 (129280),.int .i64 (129535),.int .i64 (131072),.int .i64 (262141)] <| .lp rin_l [h 9 12,h 0 3,.int .i64 (0)] 0 0 (.ret [.int .i64 (1)]) (.lp rin_l [h 9 12,h 0 3,.int .i64 (0)] 1 0 (.ret [.int .i64 (2)]) (.no))) (.lp rin_l [h 8 12,h 0 3,.int .i64 (0)] 1 0 (.ret [.int .i64 (0)]) (.no))))))) (.ret [.int .i64 (-1)])) (.ret [.int .i64 (-1)])
theorem rwd_c {G:Nat→Option Obj} (hst:StartOk Tryd.prog G gl H0 n0):ConOk Tryd.prog G 89 [.s 3] rwd_s [.s 3]:=by
 refine con_of_tree (C:=cx U_rwd P_rin) (d:=60) rwd_t (cxg (U_rwd_ok hst) (P_rin_ok hst)) hst ⟨Tryd.f89,_,Tryd.func89,rfl⟩ (by kernel_rfl) (by kernel_rfl) ?_
 intro us outs hs
 unfold rwd_s at hs
 split at hs
 ·skip
  rename_i c
  cases hs
  unfold rwd_t
  refine s0 (.cons 0 _ (.nil)) rfl (by simp [Ev.ok,Ev.len]) ?_
  refine s1 (ev_geq _ _ _) rfl rfl rfl ?_
  refine s5 rfl (fun g0=>?_) fun g0=>?_
  ·refine s7 [.int .i64 _] rfl ?_
   refine congrArg (fun z=>[U.int .i64 z]) ?_; symm; first|exact wdl_a (by unfold okU; omega)|exact wdl_b (by unfold okU; omega) (bU_t (by assumption) (rz_any c))|exact wdl_c (by unfold okU; omega) (bU_f (by assumption) (rz_any c)) (bU_t (by assumption) (rt_any c))|exact wdl_d (by unfold okU; omega) (bU_f (by assumption) (rz_any c)) (bU_f (by assumption) (rt_any c))|(trace_state; done)
  refine s1 (ev_leq _ _ _) rfl rfl rfl ?_
  refine s5 rfl (fun g1=>?_) fun g1=>?_
  ·refine s7 [.int .i64 _] rfl ?_
   refine congrArg (fun z=>[U.int .i64 z]) ?_; symm; first|exact wdl_a (by unfold okU; omega)|exact wdl_b (by unfold okU; omega) (bU_t (by assumption) (rz_any c))|exact wdl_c (by unfold okU; omega) (bU_f (by assumption) (rz_any c)) (bU_t (by assumption) (rt_any c))|exact wdl_d (by unfold okU; omega) (bU_f (by assumption) (rz_any c)) (bU_f (by assumption) (rt_any c))|(trace_state; done)
  refine s1 (ev_lss _ _ _) rfl rfl rfl ?_
  refine s4 rfl (fun g2=>?_) fun g2=>?_
  ·refine s1 (ev_lss _ _ _) rfl rfl rfl ?_
   refine s4 rfl (fun g3=>?_) fun g3=>?_
   ·refine s7 [.int .i64 _] rfl ?_
    refine congrArg (fun z=>[U.int .i64 z]) ?_; symm; first|exact wdl_a (by unfold okU; omega)|exact wdl_b (by unfold okU; omega) (bU_t (by assumption) (rz_any c))|exact wdl_c (by unfold okU; omega) (bU_f (by assumption) (rz_any c)) (bU_t (by assumption) (rt_any c))|exact wdl_d (by unfold okU; omega) (bU_f (by assumption) (rz_any c)) (bU_f (by assumption) (rt_any c))|(trace_state; done)
   refine s1 (ev_geq _ _ _) rfl rfl rfl ?_
   refine s4 rfl (fun g4=>?_) fun g4=>?_
   ·refine s1 (ev_lss _ _ _) rfl rfl rfl ?_
    refine s4 rfl (fun g5=>?_) fun g5=>?_
    ·refine s7 [.int .i64 _] rfl ?_
     refine congrArg (fun z=>[U.int .i64 z]) ?_; symm; first|exact wdl_a (by unfold okU; omega)|exact wdl_b (by unfold okU; omega) (bU_t (by assumption) (rz_any c))|exact wdl_c (by unfold okU; omega) (bU_f (by assumption) (rz_any c)) (bU_t (by assumption) (rt_any c))|exact wdl_d (by unfold okU; omega) (bU_f (by assumption) (rz_any c)) (bU_f (by assumption) (rt_any c))|(trace_state; done)
    refine s2 (r:=rQ) (ev_mkS [(_,_),(_,_),(_,_),(_,_),(_,_),(_,_),(_,_),(_,_),(_,_),(_,_),(_,_)] rfl (by decide) rfl) rfl rfl ?_
    refine s6 (rin_l_e _ _ 0 ⟨by decide,by decide,by decide⟩) rfl (fun _=>rfl) (fun g6=>?_) (fun v6 g6=>?_)
    ·show Tr.sav _ _ _
     refine s2 (r:=rQ) (ev_mkS [(_,_),(_,_),(_,_),(_,_),(_,_),(_,_),(_,_),(_,_),(_,_),(_,_),(_,_),(_,_),(_,_),(_,_),(_,_)] rfl (by decide) rfl) rfl rfl ?_
     refine s6 (rin_l_e _ _ 0 ⟨by decide,by decide,by decide⟩) rfl (fun _=>rfl) (fun g7=>?_) (fun v7 g7=>?_)
     ·show Tr.sav _ _ _
      refine s7 [.int .i64 _] rfl ?_
      refine congrArg (fun z=>[U.int .i64 z]) ?_; symm; first|exact wdl_a (by unfold okU; omega)|exact wdl_b (by unfold okU; omega) (bU_t (by assumption) (rz_any c))|exact wdl_c (by unfold okU; omega) (bU_f (by assumption) (rz_any c)) (bU_t (by assumption) (rt_any c))|exact wdl_d (by unfold okU; omega) (bU_f (by assumption) (rz_any c)) (bU_f (by assumption) (rt_any c))|(trace_state; done)
     show Tr.sav _ _ _
     refine s7 [.int .i64 _] rfl ?_
     refine congrArg (fun z=>[U.int .i64 z]) ?_; symm; first|exact wdl_a (by unfold okU; omega)|exact wdl_b (by unfold okU; omega) (bU_t (by assumption) (rz_any c))|exact wdl_c (by unfold okU; omega) (bU_f (by assumption) (rz_any c)) (bU_t (by assumption) (rt_any c))|exact wdl_d (by unfold okU; omega) (bU_f (by assumption) (rz_any c)) (bU_f (by assumption) (rt_any c))|(trace_state; done)
    show Tr.sav _ _ _
    refine s7 [.int .i64 _] rfl ?_
    refine congrArg (fun z=>[U.int .i64 z]) ?_; symm; first|exact wdl_a (by unfold okU; omega)|exact wdl_b (by unfold okU; omega) (bU_t (by assumption) (rz_any c))|exact wdl_c (by unfold okU; omega) (bU_f (by assumption) (rz_any c)) (bU_t (by assumption) (rt_any c))|exact wdl_d (by unfold okU; omega) (bU_f (by assumption) (rz_any c)) (bU_f (by assumption) (rt_any c))|(trace_state; done)
   refine s2 (r:=rQ) (ev_mkS [(_,_),(_,_),(_,_),(_,_),(_,_),(_,_),(_,_),(_,_),(_,_),(_,_),(_,_)] rfl (by decide) rfl) rfl rfl ?_
   refine s6 (rin_l_e _ _ 0 ⟨by decide,by decide,by decide⟩) rfl (fun _=>rfl) (fun g5=>?_) (fun v5 g5=>?_)
   ·show Tr.sav _ _ _
    refine s2 (r:=rQ) (ev_mkS [(_,_),(_,_),(_,_),(_,_),(_,_),(_,_),(_,_),(_,_),(_,_),(_,_),(_,_),(_,_),(_,_),(_,_),(_,_)] rfl (by decide) rfl) rfl rfl ?_
    refine s6 (rin_l_e _ _ 0 ⟨by decide,by decide,by decide⟩) rfl (fun _=>rfl) (fun g6=>?_) (fun v6 g6=>?_)
    ·show Tr.sav _ _ _
     refine s7 [.int .i64 _] rfl ?_
     refine congrArg (fun z=>[U.int .i64 z]) ?_; symm; first|exact wdl_a (by unfold okU; omega)|exact wdl_b (by unfold okU; omega) (bU_t (by assumption) (rz_any c))|exact wdl_c (by unfold okU; omega) (bU_f (by assumption) (rz_any c)) (bU_t (by assumption) (rt_any c))|exact wdl_d (by unfold okU; omega) (bU_f (by assumption) (rz_any c)) (bU_f (by assumption) (rt_any c))|(trace_state; done)
    show Tr.sav _ _ _
    refine s7 [.int .i64 _] rfl ?_
    refine congrArg (fun z=>[U.int .i64 z]) ?_; symm; first|exact wdl_a (by unfold okU; omega)|exact wdl_b (by unfold okU; omega) (bU_t (by assumption) (rz_any c))|exact wdl_c (by unfold okU; omega) (bU_f (by assumption) (rz_any c)) (bU_t (by assumption) (rt_any c))|exact wdl_d (by unfold okU; omega) (bU_f (by assumption) (rz_any c)) (bU_f (by assumption) (rt_any c))|(trace_state; done)
   show Tr.sav _ _ _
   refine s7 [.int .i64 _] rfl ?_
   refine congrArg (fun z=>[U.int .i64 z]) ?_; symm; first|exact wdl_a (by unfold okU; omega)|exact wdl_b (by unfold okU; omega) (bU_t (by assumption) (rz_any c))|exact wdl_c (by unfold okU; omega) (bU_f (by assumption) (rz_any c)) (bU_t (by assumption) (rt_any c))|exact wdl_d (by unfold okU; omega) (bU_f (by assumption) (rz_any c)) (bU_f (by assumption) (rt_any c))|(trace_state; done)
  refine s1 (ev_gtr _ _ _) rfl rfl rfl ?_
  refine s1 (ev_notD _) rfl rfl rfl ?_
  refine s4 rfl (fun g3=>?_) fun g3=>?_
  ·refine s7 [.int .i64 _] rfl ?_
   refine congrArg (fun z=>[U.int .i64 z]) ?_; symm; first|exact wdl_a (by unfold okU; omega)|exact wdl_b (by unfold okU; omega) (bU_t (by assumption) (rz_any c))|exact wdl_c (by unfold okU; omega) (bU_f (by assumption) (rz_any c)) (bU_t (by assumption) (rt_any c))|exact wdl_d (by unfold okU; omega) (bU_f (by assumption) (rz_any c)) (bU_f (by assumption) (rt_any c))|(trace_state; done)
  refine s1 (ev_lss _ _ _) rfl rfl rfl ?_
  refine s4 rfl (fun g4=>?_) fun g4=>?_
  ·refine s7 [.int .i64 _] rfl ?_
   refine congrArg (fun z=>[U.int .i64 z]) ?_; symm; first|exact wdl_a (by unfold okU; omega)|exact wdl_b (by unfold okU; omega) (bU_t (by assumption) (rz_any c))|exact wdl_c (by unfold okU; omega) (bU_f (by assumption) (rz_any c)) (bU_t (by assumption) (rt_any c))|exact wdl_d (by unfold okU; omega) (bU_f (by assumption) (rz_any c)) (bU_f (by assumption) (rt_any c))|(trace_state; done)
  refine s1 (ev_geq _ _ _) rfl rfl rfl ?_
  refine s4 rfl (fun g5=>?_) fun g5=>?_
  ·refine s1 (ev_lss _ _ _) rfl rfl rfl ?_
   refine s4 rfl (fun g6=>?_) fun g6=>?_
   ·refine s7 [.int .i64 _] rfl ?_
    refine congrArg (fun z=>[U.int .i64 z]) ?_; symm; first|exact wdl_a (by unfold okU; omega)|exact wdl_b (by unfold okU; omega) (bU_t (by assumption) (rz_any c))|exact wdl_c (by unfold okU; omega) (bU_f (by assumption) (rz_any c)) (bU_t (by assumption) (rt_any c))|exact wdl_d (by unfold okU; omega) (bU_f (by assumption) (rz_any c)) (bU_f (by assumption) (rt_any c))|(trace_state; done)
   refine s2 (r:=rQ) (ev_mkS [(_,_),(_,_),(_,_),(_,_),(_,_),(_,_),(_,_),(_,_),(_,_),(_,_),(_,_)] rfl (by decide) rfl) rfl rfl ?_
   refine s6 (rin_l_e _ _ 0 ⟨by decide,by decide,by decide⟩) rfl (fun _=>rfl) (fun g7=>?_) (fun v7 g7=>?_)
   ·show Tr.sav _ _ _
    refine s2 (r:=rQ) (ev_mkS [(_,_),(_,_),(_,_),(_,_),(_,_),(_,_),(_,_),(_,_),(_,_),(_,_),(_,_),(_,_),(_,_),(_,_),(_,_)] rfl (by decide) rfl) rfl rfl ?_
    refine s6 (rin_l_e _ _ 0 ⟨by decide,by decide,by decide⟩) rfl (fun _=>rfl) (fun g8=>?_) (fun v8 g8=>?_)
    ·show Tr.sav _ _ _
     refine s7 [.int .i64 _] rfl ?_
     refine congrArg (fun z=>[U.int .i64 z]) ?_; symm; first|exact wdl_a (by unfold okU; omega)|exact wdl_b (by unfold okU; omega) (bU_t (by assumption) (rz_any c))|exact wdl_c (by unfold okU; omega) (bU_f (by assumption) (rz_any c)) (bU_t (by assumption) (rt_any c))|exact wdl_d (by unfold okU; omega) (bU_f (by assumption) (rz_any c)) (bU_f (by assumption) (rt_any c))|(trace_state; done)
    show Tr.sav _ _ _
    refine s7 [.int .i64 _] rfl ?_
    refine congrArg (fun z=>[U.int .i64 z]) ?_; symm; first|exact wdl_a (by unfold okU; omega)|exact wdl_b (by unfold okU; omega) (bU_t (by assumption) (rz_any c))|exact wdl_c (by unfold okU; omega) (bU_f (by assumption) (rz_any c)) (bU_t (by assumption) (rt_any c))|exact wdl_d (by unfold okU; omega) (bU_f (by assumption) (rz_any c)) (bU_f (by assumption) (rt_any c))|(trace_state; done)
   show Tr.sav _ _ _
   refine s7 [.int .i64 _] rfl ?_
   refine congrArg (fun z=>[U.int .i64 z]) ?_; symm; first|exact wdl_a (by unfold okU; omega)|exact wdl_b (by unfold okU; omega) (bU_t (by assumption) (rz_any c))|exact wdl_c (by unfold okU; omega) (bU_f (by assumption) (rz_any c)) (bU_t (by assumption) (rt_any c))|exact wdl_d (by unfold okU; omega) (bU_f (by assumption) (rz_any c)) (bU_f (by assumption) (rt_any c))|(trace_state; done)
  refine s2 (r:=rQ) (ev_mkS [(_,_),(_,_),(_,_),(_,_),(_,_),(_,_),(_,_),(_,_),(_,_),(_,_),(_,_)] rfl (by decide) rfl) rfl rfl ?_
  refine s6 (rin_l_e _ _ 0 ⟨by decide,by decide,by decide⟩) rfl (fun _=>rfl) (fun g6=>?_) (fun v6 g6=>?_)
  ·show Tr.sav _ _ _
   refine s2 (r:=rQ) (ev_mkS [(_,_),(_,_),(_,_),(_,_),(_,_),(_,_),(_,_),(_,_),(_,_),(_,_),(_,_),(_,_),(_,_),(_,_),(_,_)] rfl (by decide) rfl) rfl rfl ?_
   refine s6 (rin_l_e _ _ 0 ⟨by decide,by decide,by decide⟩) rfl (fun _=>rfl) (fun g7=>?_) (fun v7 g7=>?_)
   ·show Tr.sav _ _ _
    refine s7 [.int .i64 _] rfl ?_
    refine congrArg (fun z=>[U.int .i64 z]) ?_; symm; first|exact wdl_a (by unfold okU; omega)|exact wdl_b (by unfold okU; omega) (bU_t (by assumption) (rz_any c))|exact wdl_c (by unfold okU; omega) (bU_f (by assumption) (rz_any c)) (bU_t (by assumption) (rt_any c))|exact wdl_d (by unfold okU; omega) (bU_f (by assumption) (rz_any c)) (bU_f (by assumption) (rt_any c))|(trace_state; done)
   show Tr.sav _ _ _
   refine s7 [.int .i64 _] rfl ?_
   refine congrArg (fun z=>[U.int .i64 z]) ?_; symm; first|exact wdl_a (by unfold okU; omega)|exact wdl_b (by unfold okU; omega) (bU_t (by assumption) (rz_any c))|exact wdl_c (by unfold okU; omega) (bU_f (by assumption) (rz_any c)) (bU_t (by assumption) (rt_any c))|exact wdl_d (by unfold okU; omega) (bU_f (by assumption) (rz_any c)) (bU_f (by assumption) (rt_any c))|(trace_state; done)
  show Tr.sav _ _ _
  refine s7 [.int .i64 _] rfl ?_
  refine congrArg (fun z=>[U.int .i64 z]) ?_; symm; first|exact wdl_a (by unfold okU; omega)|exact wdl_b (by unfold okU; omega) (bU_t (by assumption) (rz_any c))|exact wdl_c (by unfold okU; omega) (bU_f (by assumption) (rz_any c)) (bU_t (by assumption) (rt_any c))|exact wdl_d (by unfold okU; omega) (bU_f (by assumption) (rz_any c)) (bU_f (by assumption) (rt_any c))|(trace_state; done)
 ·cases hs
end Go.Proofs.YtdkdbjgkedahfaaDoor

namespace Go.Proofs.YtdkdbjgkedahfaaDoor
set_option linter.all false
open Go Go.Sx
set_option maxRecDepth 100000
set_option linter.unusedVariables false
set_option linter.unusedSimpArgs false
theorem lt8 {i:Int} (h0:0≤i) (h1:i < 8):i=0∨i=1∨i=2∨i=3∨i=4∨i=5∨i=6∨i=7:=by omega
@[irreducible] def sgM0 (b:Int):Int:=if b / 8 % 8=5 then 768 else if b / 8 % 4=1 then 769 else 0
@[irreducible] def sgM1 (b:Int):Int:=if b / 8 % 8=5 then 8400 else 0
@[irreducible] def sgB (b:Int):Int:=([32,97,122,233,20013,128512,65533,69]:List Int).getD (b % 8).toNat 0
@[irreducible] def sgW (b:Int):Int:=widS (([32,97,122,233,20013,128512,65533,69]:List Int).getD (b % 8).toNat 0) - 1
@[irreducible] def sgA0 (s:Int):Int:=([0,0,1,0,17,0,2,255]:List Int).getD (s % 8).toNat 0
@[irreducible] def sgA1 (s:Int):Int:=([0,0,0,0,0,3,0,5]:List Int).getD (s % 8).toNat 0
@[irreducible] def sgA2 (s:Int):Int:=([0,0,0,0,2,0,0,0]:List Int).getD (s % 8).toNat 0
@[irreducible] def sgA3 (s:Int):Int:=([0,0,0,0,1056816,0,0,0]:List Int).getD (s % 8).toNat 0
@[irreducible] def sgA4 (s:Int):Int:=([0,0,0,1,0,0,2,0]:List Int).getD (s % 8).toNat 0
@[irreducible] def sgA5 (s:Int):Int:=([0,0,0,4,0,0,16777215,0]:List Int).getD (s % 8).toNat 0
@[irreducible] def sgA6 (s:Int):Int:=([0,0,0,0,0,1,0,0]:List Int).getD (s % 8).toNat 0
@[irreducible] def sgA7 (s:Int):Int:=([0,0,0,0,0,200,0,0]:List Int).getD (s % 8).toNat 0
def sgnS (b s:Int):Cel:=(sgB b,sgM0 b,sgM1 b,sgW b,sgA0 s,sgA1 s,sgA2 s,sgA3 s,sgA4 s,sgA5 s,sgA6 s,sgA7 s)
theorem base_in {b:Int} (h0:0≤b):let c:=([32,97,122,233,20013,128512,65533,69]:List Int).getD (b % 8).toNat 0; (c=32∨c=97∨c=122∨c=233∨c=20013∨c=128512∨c=65533∨c=69)∧1≤widS c∧widS c≤2:=by
 rcases lt8 (Int.emod_nonneg b (by decide:(8:Int)≠0)) (Int.emod_lt_of_pos b (by decide)) with h|h|h|h|h|h|h|h <;> rw [h] <;> decide
noncomputable def U_sgn:List (FuncId × FnC):=(89,conF Tryd.prog [.s 3] rwd_s [.s 3])::L0
theorem U_sgn_ok {G:Nat→Option Obj} (hst:StartOk Tryd.prog G gl H0 n0):ConsOk Tryd.prog G gl U_sgn:=(.cons (rwd_c hst) .nil)
def sgn_s:List U→Option (Nat × List U)
 | [.int .u8 b,.int .u8 s]=>if 0≤b∧b≤255∧0≤s∧s≤255 then some (0,[.int .i64 (sgB b),.int .i64 (sgM0 b),.int .i64 (sgM1 b),.int .i64 (sgW b),.int .i64 (sgA0 s),.int .i64 (sgA1 s),.int .i64 (sgA2 s),.int .i64 (sgA3 s),.int .i64 (sgA4 s),.int .i64 (sgA5 s),.int .i64 (sgA6 s),.int .i64 (sgA7 s)]) else none
 | _=>none
theorem sgn_s_e (b:Int) (s:Int) (hc:0≤b∧b≤255∧0≤s∧s≤255):sgn_s [.int .u8 b,.int .u8 s]=some (0,[.int .i64 (sgB b),.int .i64 (sgM0 b),.int .i64 (sgM1 b),.int .i64 (sgW b),.int .i64 (sgA0 s),.int .i64 (sgA1 s),.int .i64 (sgA2 s),.int .i64 (sgA3 s),.int .i64 (sgA4 s),.int .i64 (sgA5 s),.int .i64 (sgA6 s),.int .i64 (sgA7 s)]):=if_pos hc
def sgn_t:Tr:=.lt 4 (.bin .rem) [h 0 4,.int .u8 (8)] <| .lt 8 (.inb) [h 2 4,.int .i64 (8)] <| .br 3 (.lt 3 (.sel) [h 2 4,.int .i64 (32),.int .i64 (97),.int .i64 (122),.int .i64 (233),.int .i64 (20013),.int .i64 (128512),.int .i64 (65533),.int .i64 (69)] <| .lt 4 (.bin .rem) [h 1 4,.int .u8 (8)] <| .lt 8 (.inb) [h 5 4,.int .i64 (8)] <| .br 6 (.lt 3 (.sel) [h 5 4,.int .i64 (0),.int .i64 (0),.int .i64 (1),.int .i64 (0),.int .i64 (17),.int .i64 (0),.int .i64 (2),.int .i64 (255)] <| .lt 3 (.sel) [h 5 4,.int .i64 (0),.int .i64 (0),.int .i64 (0),.int .i64 (0),.int .i64 (0),.int .i64 (3),.int .i64 (0),.int .i64 (5)] <| .lt 3 (.sel) [h 5 4,.int .i64 (0),.int .i64 (0),.int .i64 (0),.int .i64 (0),.int .i64 (2),.int .i64 (0),.int .i64 (0),.int .i64 (0)] <| .lt 3 (.sel) [h 5 4,.int .i64 (0),.int .i64 (0),.int .i64 (0),.int .i64 (0),.int .i64 (1056816),.int .i64 (0),.int .i64 (0),.int .i64 (0)] <| .lt 3 (.sel) [h 5 4,.int .i64 (0),.int .i64 (0),.int .i64 (0),.int .i64 (1),.int .i64 (0),.int .i64 (0),.int .i64 (2),.int .i64 (0)] <| .lt 3 (.sel) [h 5 4,.int .i64 (0),.int .i64 (0),.int .i64 (0),.int .i64 (4),.int .i64 (0),.int .i64 (0),.int .i64 (16777215),.int .i64 (0)] <| .lt 3 (.sel) [h 5 4,.int .i64 (0),.int .i64 (0),.int .i64 (0),.int .i64 (0),.int .i64 (0),.int .i64 (1),.int .i64 (0),.int .i64 (0)] <| .lt 3 (.sel) [h 5 4,.int .i64 (0),.int .i64 (0),.int .i64 (0),.int .i64 (0),.int .i64 (0),.int .i64 (200),.int .i64 (0),.int .i64 (0)] <| .fn rwd_s [h 4 3] 1 <| .lt 3 (.bin .sub) [h 15 3,.int .i64 (1)] <| .lt 4 (.bin .quo) [h 0 4,.int .u8 (8)] <| .lt 4 (.bin .rem) [h 17 4,.int .u8 (4)] <| .lt 8 (.bin .eql) [h 18 4,.int .u8 (1)] <| .br 19 (.lt 4 (.bin .quo) [h 0 4,.int .u8 (8)] <| .lt 4 (.bin .rem) [h 20 4,.int .u8 (8)] <| .lt 8 (.bin .eql) [h 21 4,.int .u8 (5)] <| .br 22 (.ret [h 4 3,.int .i64 (768),.int .i64 (8400),h 16 3,h 7 3,h 8 3,h 9 3,h 10 3,h 11 3,h 12 3,h 13 3,h 14 3]) (.ret [h 4 3,.int .i64 (769),.int .i64 (0),h 16 3,h 7 3,h 8 3,h 9 3,h 10 3,h 11 3,h 12 3,h 13 3,h 14 3])) (.lt 4 (.bin .quo) [h 0 4,.int .u8 (8)] <| .lt 4 (.bin .rem) [h 20 4,.int .u8 (8)] <| .lt 8 (.bin .eql) [h 21 4,.int .u8 (5)] <| .br 22 (.ret [h 4 3,.int .i64 (768),.int .i64 (8400),h 16 3,h 7 3,h 8 3,h 9 3,h 10 3,h 11 3,h 12 3,h 13 3,h 14 3]) (.ret [h 4 3,.int .i64 (0),.int .i64 (0),h 16 3,h 7 3,h 8 3,h 9 3,h 10 3,h 11 3,h 12 3,h 13 3,h 14 3]))) (.no)) (.no)
theorem sgn_c {G:Nat→Option Obj} (hst:StartOk Tryd.prog G gl H0 n0):ConOk Tryd.prog G 73 [.s 4,.s 4] sgn_s [.a [3,3,3,3,3,3,3,3,3,3,3,3]]:=by
 refine con_of_tree (C:=cx U_sgn P_rin) (d:=60) sgn_t (cxg (U_sgn_ok hst) (P_rin_ok hst)) hst ⟨Tryd.f73,_,Tryd.func73,rfl⟩ (by kernel_rfl) (by kernel_rfl) ?_
 intro us outs hs
 unfold sgn_s at hs
 split at hs
 ·skip
  rename_i b s
  split at hs
  ·rename_i hc
   cases hs
   have bi:=base_in (b:=b) (by omega)
   simp only [] at bi
   unfold sgn_t
   refine s0 (.cons 1 _ (.cons 0 _ (.nil))) rfl (by simp [Ev.ok,Ev.len]) ?_
   first|refine s1 (ev_remW (by omega) (by omega)) rfl rfl rfl ?_|refine s1 (ev_rem _ _ _ (by omega)) rfl rfl rfl ?_
   refine s1 (ev_inb _ _ _ _) rfl rfl rfl ?_
   refine s5 rfl (fun g0=>?_) fun g0=>?_
   ·refine s8 ?_
    first|omega|(trace_state; done)
   refine s1 (ev_selI [32,97,122,233,20013,128512,65533,69] (by omega) (by show _ < ((8:Nat):Int); omega)) rfl rfl rfl ?_
   first|refine s1 (ev_remW (by omega) (by omega)) rfl rfl rfl ?_|refine s1 (ev_rem _ _ _ (by omega)) rfl rfl rfl ?_
   refine s1 (ev_inb _ _ _ _) rfl rfl rfl ?_
   refine s5 rfl (fun g1=>?_) fun g1=>?_
   ·refine s8 ?_
    first|omega|(trace_state; done)
   refine s1 (ev_selI [0,0,1,0,17,0,2,255] (by omega) (by show _ < ((8:Nat):Int); omega)) rfl rfl rfl ?_
   refine s1 (ev_selI [0,0,0,0,0,3,0,5] (by omega) (by show _ < ((8:Nat):Int); omega)) rfl rfl rfl ?_
   refine s1 (ev_selI [0,0,0,0,2,0,0,0] (by omega) (by show _ < ((8:Nat):Int); omega)) rfl rfl rfl ?_
   refine s1 (ev_selI [0,0,0,0,1056816,0,0,0] (by omega) (by show _ < ((8:Nat):Int); omega)) rfl rfl rfl ?_
   refine s1 (ev_selI [0,0,0,1,0,0,2,0] (by omega) (by show _ < ((8:Nat):Int); omega)) rfl rfl rfl ?_
   refine s1 (ev_selI [0,0,0,4,0,0,16777215,0] (by omega) (by show _ < ((8:Nat):Int); omega)) rfl rfl rfl ?_
   refine s1 (ev_selI [0,0,0,0,0,1,0,0] (by omega) (by show _ < ((8:Nat):Int); omega)) rfl rfl rfl ?_
   refine s1 (ev_selI [0,0,0,0,0,200,0,0] (by omega) (by show _ < ((8:Nat):Int); omega)) rfl rfl rfl ?_
   refine s31 (rwd_s_e _) rfl ?_
   first|refine s1 (ev_subW (wrap64 (by omega) (by omega))) rfl rfl rfl ?_|refine s1 (ev_sub _ _ _) rfl rfl rfl ?_
   first|refine s1 (ev_quoW (by omega) (by omega) (wrap8 (by omega) (by omega))) rfl rfl rfl ?_|refine s1 (ev_quo _ _ _ (by omega)) rfl rfl rfl ?_
   first|refine s1 (ev_remW (by omega) (by omega)) rfl rfl rfl ?_|refine s1 (ev_rem _ _ _ (by omega)) rfl rfl rfl ?_
   refine s1 (ev_eql _ _ _) rfl rfl rfl ?_
   refine s4 rfl (fun g2=>?_) fun g2=>?_
   ·first|refine s1 (ev_quoW (by omega) (by omega) (wrap8 (by omega) (by omega))) rfl rfl rfl ?_|refine s1 (ev_quo _ _ _ (by omega)) rfl rfl rfl ?_
    first|refine s1 (ev_remW (by omega) (by omega)) rfl rfl rfl ?_|refine s1 (ev_rem _ _ _ (by omega)) rfl rfl rfl ?_
    refine s1 (ev_eql _ _ _) rfl rfl rfl ?_
    refine s4 rfl (fun g3=>?_) fun g3=>?_
    ·refine s7 [.int .i64 _,.int .i64 _,.int .i64 _,.int .i64 _,.int .i64 _,.int .i64 _,.int .i64 _,.int .i64 _,.int .i64 _,.int .i64 _,.int .i64 _,.int .i64 _] rfl ?_
     first|(unfold sgM0 sgM1 sgB sgW sgA0 sgA1 sgA2 sgA3 sgA4 sgA5 sgA6 sgA7; rw [if_pos (by omega),if_pos (by omega)])|(unfold sgM0 sgM1 sgB sgW sgA0 sgA1 sgA2 sgA3 sgA4 sgA5 sgA6 sgA7; rw [if_neg (by omega),if_pos (by omega),if_neg (by omega)])|(unfold sgM0 sgM1 sgB sgW sgA0 sgA1 sgA2 sgA3 sgA4 sgA5 sgA6 sgA7; rw [if_neg (by omega),if_neg (by omega),if_neg (by omega)])|(trace_state; done)
    refine s7 [.int .i64 _,.int .i64 _,.int .i64 _,.int .i64 _,.int .i64 _,.int .i64 _,.int .i64 _,.int .i64 _,.int .i64 _,.int .i64 _,.int .i64 _,.int .i64 _] rfl ?_
    first|(unfold sgM0 sgM1 sgB sgW sgA0 sgA1 sgA2 sgA3 sgA4 sgA5 sgA6 sgA7; rw [if_pos (by omega),if_pos (by omega)])|(unfold sgM0 sgM1 sgB sgW sgA0 sgA1 sgA2 sgA3 sgA4 sgA5 sgA6 sgA7; rw [if_neg (by omega),if_pos (by omega),if_neg (by omega)])|(unfold sgM0 sgM1 sgB sgW sgA0 sgA1 sgA2 sgA3 sgA4 sgA5 sgA6 sgA7; rw [if_neg (by omega),if_neg (by omega),if_neg (by omega)])|(trace_state; done)
   first|refine s1 (ev_quoW (by omega) (by omega) (wrap8 (by omega) (by omega))) rfl rfl rfl ?_|refine s1 (ev_quo _ _ _ (by omega)) rfl rfl rfl ?_
   first|refine s1 (ev_remW (by omega) (by omega)) rfl rfl rfl ?_|refine s1 (ev_rem _ _ _ (by omega)) rfl rfl rfl ?_
   refine s1 (ev_eql _ _ _) rfl rfl rfl ?_
   refine s4 rfl (fun g3=>?_) fun g3=>?_
   ·refine s7 [.int .i64 _,.int .i64 _,.int .i64 _,.int .i64 _,.int .i64 _,.int .i64 _,.int .i64 _,.int .i64 _,.int .i64 _,.int .i64 _,.int .i64 _,.int .i64 _] rfl ?_
    first|(unfold sgM0 sgM1 sgB sgW sgA0 sgA1 sgA2 sgA3 sgA4 sgA5 sgA6 sgA7; rw [if_pos (by omega),if_pos (by omega)])|(unfold sgM0 sgM1 sgB sgW sgA0 sgA1 sgA2 sgA3 sgA4 sgA5 sgA6 sgA7; rw [if_neg (by omega),if_pos (by omega),if_neg (by omega)])|(unfold sgM0 sgM1 sgB sgW sgA0 sgA1 sgA2 sgA3 sgA4 sgA5 sgA6 sgA7; rw [if_neg (by omega),if_neg (by omega),if_neg (by omega)])|(trace_state; done)
   refine s7 [.int .i64 _,.int .i64 _,.int .i64 _,.int .i64 _,.int .i64 _,.int .i64 _,.int .i64 _,.int .i64 _,.int .i64 _,.int .i64 _,.int .i64 _,.int .i64 _] rfl ?_
   first|(unfold sgM0 sgM1 sgB sgW sgA0 sgA1 sgA2 sgA3 sgA4 sgA5 sgA6 sgA7; rw [if_pos (by omega),if_pos (by omega)])|(unfold sgM0 sgM1 sgB sgW sgA0 sgA1 sgA2 sgA3 sgA4 sgA5 sgA6 sgA7; rw [if_neg (by omega),if_pos (by omega),if_neg (by omega)])|(unfold sgM0 sgM1 sgB sgW sgA0 sgA1 sgA2 sgA3 sgA4 sgA5 sgA6 sgA7; rw [if_neg (by omega),if_neg (by omega),if_neg (by omega)])|(trace_state; done)
  ·cases hs
 ·cases hs
end Go.Proofs.YtdkdbjgkedahfaaDoor

namespace Go.Proofs.YtdkdbjgkedahfaaDoor
set_option linter.all false
open Go Go.Sx
set_option maxRecDepth 100000
set_option linter.unusedVariables false
set_option linter.unusedSimpArgs false
set_option maxHeartbeats 4000000
theorem catS_cons {α:Type} (x:Option (List α)) (a:α) (r:List α):catS (some (el x++[a])) (some r)=catS x (some (a::r)):=by
 cases r with
 | nil=>rfl
 | cons b r=>simp [catS,el]
theorem getB_bd {l:List Int} (h:∀ x ∈ l,0≤x∧x≤255) (i:Nat):0≤l.getD i default∧l.getD i default≤255:=by
 rw [List.getD_eq_getElem?_getD]
 cases hi:l[i]? with
 | none=>decide
 | some m=>exact h m (List.mem_of_getElem? hi)
def blkC (c:Cel):Cel:=(32,0,0,0,c.2.2.2.2)
def secC (c:Cel):Cel:=(0,0,0,2,c.2.2.2.2)
def sgnA (b:List Int) (i:Int):Cel:=if i < (b.length:Int) then sgnS (b.getD i.toNat default) (b.getD i.toNat default / 32) else (32,0,0,0,0,0,0,0,0,0,0,0)
def rowF (b:List Int):Nat→Int→List Cel
 | 0,_=>[]
 | 1,i=>[if wdC (sgnA b i)=1 then blkC (sgnA b i) else sgnA b i]
 | n+2,i=>if wdC (sgnA b i)=1 then sgnA b i::secC (sgnA b i)::rowF b n (i+1) else sgnA b i::rowF b (n+1) (i+1)
theorem sgnA_in {b:List Int} {i:Int} (h:i < (b.length:Int)):sgnA b i=sgnS (b.getD i.toNat default) (b.getD i.toNat default / 32):=if_pos h
theorem sgnA_out {b:List Int} {i:Int} (h:¬i < (b.length:Int)):sgnA b i=(32,0,0,0,0,0,0,0,0,0,0,0):=if_neg h
theorem rowF_n {b:List Int} {room i:Int} {c:Cel} (h0:0 < room) (hc:sgnA b i=c) (hw:wdC c≠1):rowF b room.toNat i=c::rowF b (room - 1).toNat (i+1):=by
 subst hc
 by_cases h1:room=1
 ·subst h1; show [_]=[_]; rw [if_neg hw]
 ·rw [show room.toNat=(room - 2).toNat+2 by omega,show (room - 1).toNat=(room - 2).toNat+1 by omega,rowF,if_neg hw]
theorem rowF_w {b:List Int} {room i:Int} {c:Cel} (h0:1 < room) (hc:sgnA b i=c) (hw:wdC c=1):rowF b room.toNat i=c::secC c::rowF b (room - 2).toNat (i+1):=by
 subst hc
 rw [show room.toNat=(room - 2).toNat+2 by omega,rowF,if_pos hw]
theorem rowF_b {b:List Int} {room i:Int} {c:Cel} (h0:room=1) (hc:sgnA b i=c) (hw:wdC c=1):rowF b room.toNat i=blkC c::rowF b (room - 1).toNat (i+1):=by
 subst hc; subst h0; show [_]=[_]; rw [if_pos hw]
theorem rowF_0 {b:List Int} {room i:Int} (h0:room≤0):rowF b room.toNat i=[]:=by
 rw [show room.toNat=0 by omega]; rfl
noncomputable def U_drl:List (FuncId × FnC):=(73,conF Tryd.prog [.s 4,.s 4] sgn_s [.a [3,3,3,3,3,3,3,3,3,3,3,3]])::L0
theorem U_drl_ok {G:Nat→Option Obj} (hst:StartOk Tryd.prog G gl H0 n0):ConsOk Tryd.prog G gl U_drl:=(.cons (sgn_c hst) .nil)
def drl_s:List U→Option (Nat × List U)
 | [.int .i64 cols,u_out,.int .i64 i,.int .u8 dc,u_b,.bool wr,.bool zz]=>(decS rCl u_out).bind fun out=>(decS rB u_b).bind fun b=>if 2≤cols∧cols≤80∧((el out).length:Int)≤cols∧0≤i∧i≤((el out).length:Int)∧(∀ x ∈ el b,0≤x∧x≤255)∧(el b).length≤140737488351232 then some (0,[encS rCl (catS out (some (rowF (el b) (cols - ((el out).length:Int)).toNat i))),.int .u8 dc,encS rB b,.bool wr,.bool zz]) else none
 | _=>none
theorem drl_s_e (cols:Int) (out:(Option (List (Int × Int × Int × Int × Int × Int × Int × Int × Int × Int × Int × Int)))) (i:Int) (dc:Int) (b:(Option (List Int))) (wr:Bool) (zz:Bool) (hc:2≤cols∧cols≤80∧((el out).length:Int)≤cols∧0≤i∧i≤((el out).length:Int)∧(∀ x ∈ el b,0≤x∧x≤255)∧(el b).length≤140737488351232):drl_s [.int .i64 cols,encS rCl out,.int .i64 i,.int .u8 dc,encS rB b,.bool wr,.bool zz]=some (0,[encS rCl (catS out (some (rowF (el b) (cols - ((el out).length:Int)).toNat i))),.int .u8 dc,encS rB b,.bool wr,.bool zz]):=by
 simp only [drl_s,decS_enc,Option.bind_some]
 exact if_pos hc
def drl_D:LoopD:=⟨[(1,.pointer (some ⟨4,0,none⟩)),(2,.pointer (some ⟨5,0,none⟩)),(3,h 0 3),(4,own 6 1 22),(5,h 2 3)],[(4,.cells 101 [h 3 4,dat 8 4 11,h 5 8]),(5,.cells 27 [.slice none 0 0,h 6 8]),(6,.sq 1 22 60 7),(7,.frz),(8,.frz)],7,[⟨.exit 0,[(1,.pointer (some ⟨4,0,none⟩)),(2,.pointer (some ⟨5,0,none⟩)),(4,own 9 0 22)],[(4,.cells 101 [h 1 4,dat 11 2 11,h 3 8]),(5,.cells 27 [.slice none 0 0,h 4 8]),(9,.sq 0 22 60 10),(10,.frz),(11,.frz)],5⟩]⟩
noncomputable def drl_B:Code:=(Tryd.f52.body).getD .skip
noncomputable def drl_x:Code:=match codeAt [true,true,true,false,true,false] drl_B with|some (.loop x)=>x|_=>.skip
theorem drl_b:Tryd.f52.body=some drl_B:=rfl
theorem drl_p:codeAt [true,true,true,false,true,false] drl_B=some (.loop drl_x):=by kernel_rfl
def drl_t:Tr:=.lt 3 (.len) [h 1 22] <| .lt 8 (.bin .lss) [h 7 3,h 0 3] <| .br 8 (.lt 3 (.len) [h 4 11] <| .lt 8 (.bin .lss) [h 2 3,h 9 3] <| .br 10 (.lt 8 (.inbs 1) [h 2 3,h 4 11] <| .br 11 (.lt 4 (.get 1 0) [h 4 11,h 2 3] <| .lt 8 (.inbs 1) [h 2 3,h 4 11] <| .br 13 (.lt 4 (.get 1 0) [h 4 11,h 2 3] <| .lt 4 (.bin .quo) [h 14 4,.int .u8 (32)] <| .fn sgn_s [h 12 4,h 15 4] 12 <| .lt 8 (.bin .eql) [h 19 3,.int .i64 (1)] <| .br 28 (.lt 3 (.bin .sub) [h 0 3,.int .i64 (1)] <| .lt 8 (.bin .eql) [h 7 3,h 29 3] <| .br 30 (.dt 22 (.snoc 12) [h 1 22,.int .i64 (32),.int .i64 (0),.int .i64 (0),.int .i64 (0),h 20 3,h 21 3,h 22 3,h 23 3,h 24 3,h 25 3,h 26 3,h 27 3] <| .lt 3 (.bin .add) [h 2 3,.int .i64 (1)] <| .ret [.int .i64 (-1),h 0 3,h 31 22,h 32 3,h 3 4,h 4 11,h 5 8,h 6 8]) (.dt 22 (.snoc 12) [h 1 22,h 16 3,h 17 3,h 18 3,h 19 3,h 20 3,h 21 3,h 22 3,h 23 3,h 24 3,h 25 3,h 26 3,h 27 3] <| .lt 8 (.bin .eql) [h 19 3,.int .i64 (1)] <| .br 32 (.dt 22 (.snoc 12) [h 31 22,.int .i64 (0),.int .i64 (0),.int .i64 (0),.int .i64 (2),h 20 3,h 21 3,h 22 3,h 23 3,h 24 3,h 25 3,h 26 3,h 27 3] <| .lt 3 (.bin .add) [h 2 3,.int .i64 (1)] <| .ret [.int .i64 (-1),h 0 3,h 33 22,h 34 3,h 3 4,h 4 11,h 5 8,h 6 8]) (.lt 3 (.bin .add) [h 2 3,.int .i64 (1)] <| .ret [.int .i64 (-1),h 0 3,h 31 22,h 33 3,h 3 4,h 4 11,h 5 8,h 6 8]))) (.dt 22 (.snoc 12) [h 1 22,h 16 3,h 17 3,h 18 3,h 19 3,h 20 3,h 21 3,h 22 3,h 23 3,h 24 3,h 25 3,h 26 3,h 27 3] <| .lt 8 (.bin .eql) [h 19 3,.int .i64 (1)] <| .br 30 (.dt 22 (.snoc 12) [h 29 22,.int .i64 (0),.int .i64 (0),.int .i64 (0),.int .i64 (2),h 20 3,h 21 3,h 22 3,h 23 3,h 24 3,h 25 3,h 26 3,h 27 3] <| .lt 3 (.bin .add) [h 2 3,.int .i64 (1)] <| .ret [.int .i64 (-1),h 0 3,h 31 22,h 32 3,h 3 4,h 4 11,h 5 8,h 6 8]) (.lt 3 (.bin .add) [h 2 3,.int .i64 (1)] <| .ret [.int .i64 (-1),h 0 3,h 29 22,h 31 3,h 3 4,h 4 11,h 5 8,h 6 8]))) (.no)) (.no)) (.dt 22 (.snoc 12) [h 1 22,.int .i64 (32),.int .i64 (0),.int .i64 (0),.int .i64 (0),.int .i64 (0),.int .i64 (0),.int .i64 (0),.int .i64 (0),.int .i64 (0),.int .i64 (0),.int .i64 (0),.int .i64 (0)] <| .lt 3 (.bin .add) [h 2 3,.int .i64 (1)] <| .ret [.int .i64 (-1),h 0 3,h 11 22,h 12 3,h 3 4,h 4 11,h 5 8,h 6 8])) (.ret [.int .i64 (0),h 1 22,h 3 4,h 4 11,h 5 8,h 6 8])
def drl_m:List U→Nat
 | [.int .i64 cols,u_out,.int .i64 i,.int .u8 dc,u_b,.bool wr,.bool zz]=>(match decS rCl u_out with|some out=>(match decS rB u_b with|some b=>(cols - ((el out).length:Int)).toNat|none=>0)|none=>0)
 | _=>0
theorem drl_me (cols:Int) (out:(Option (List (Int × Int × Int × Int × Int × Int × Int × Int × Int × Int × Int × Int)))) (i:Int) (dc:Int) (b:(Option (List Int))) (wr:Bool) (zz:Bool):drl_m [.int .i64 cols,encS rCl out,.int .i64 i,.int .u8 dc,encS rB b,.bool wr,.bool zz]=(cols - ((el out).length:Int)).toNat:=by
 simp only [drl_m,decS_enc]
theorem drl_c {G:Nat→Option Obj} (hst:StartOk Tryd.prog G gl H0 n0):∀ (E:Nat→U) (base:Nat),@CodeOk ⟨E,G⟩ Tryd.prog base gl Tryd.f52.ntmps drl_x (loopF Tryd.prog gl n0 12 drl_D drl_s):=by
 refine loop_ok (C:=cx U_drl P_rin) (dep:=60) (f:=52) (n0:=n0) (nB:=12) (H0:=H0) drl_m drl_t (cxg (U_drl_ok hst) (P_rin_ok hst)) hst Tryd.func52 drl_b drl_p (by kernel_rfl) (by kernel_rfl) (by kernel_rfl) ?_
 intro us d outs hs
 have hs0:=hs
 unfold drl_s at hs
 split at hs
 ·skip
  rename_i cols u_out i dc u_b wr zz
  have hq_out:=Option.bind_eq_some_iff.1 hs
  clear hs
  obtain ⟨out,hd_out,hs⟩:=hq_out
  replace hd_out:=decS_eq hd_out
  subst hd_out
  have hq_b:=Option.bind_eq_some_iff.1 hs
  clear hs
  obtain ⟨b,hd_b,hs⟩:=hq_b
  replace hd_b:=decS_eq hd_b
  subst hd_b
  split at hs
  ·rename_i hc
   clear hs hs0
   have hb:=getB_bd hc.2.2.2.2.2.1 i.toNat
   refine ⟨rfl,?_⟩
   unfold drl_t
   refine s0 (.cons 6 _ (.cons 5 _ (.cons 4 _ (.cons 3 _ (.cons 2 _ (.cons 1 _ (.cons 0 _ (.nil)))))))) rfl (by simp [Ev.ok,Ev.len]) ?_
   refine s1 (ev_lenS _ _) rfl rfl rfl ?_
   refine s1 (ev_lss _ _ _) rfl rfl rfl ?_
   refine s5 rfl (fun g0=>?_) fun g0=>?_
   ·refine s7 [.int .i64 _,encS rCl _,.int .u8 _,encS rB _,.bool _,.bool _] rfl ?_
    refine leaf_exit (d:=0) ?_
    rw [drl_s_e _ _ _ _ _ _ _ hc,rowF_0 (by omega)]; rfl
   refine s1 (ev_lenS _ _) rfl rfl rfl ?_
   refine s1 (ev_lss _ _ _) rfl rfl rfl ?_
   refine s4 rfl (fun g1=>?_) fun g1=>?_
   ·refine s1 (ev_inbsS rfl) rfl rfl rfl ?_
    refine s5 rfl (fun g2=>?_) fun g2=>?_
    ·refine s8 ?_
     first|omega|(trace_state; done)
    refine s1 (u:=.int .u8 _) (ev_getS rfl (by omega) (by omega) rfl) rfl rfl rfl ?_
    refine s1 (ev_inbsS rfl) rfl rfl rfl ?_
    refine s5 rfl (fun g3=>?_) fun g3=>?_
    ·refine s8 ?_
     first|omega|(trace_state; done)
    refine s1 (u:=.int .u8 _) (ev_getS rfl (by omega) (by omega) rfl) rfl rfl rfl ?_
    first|refine s1 (ev_quoW (by omega) (by omega) (wrap8 (by omega) (by omega))) rfl rfl rfl ?_|refine s1 (ev_quo _ _ _ (by omega)) rfl rfl rfl ?_
    refine s3 (sgn_s_e _ _ ⟨by omega,by omega,by omega,by omega⟩) rfl ?_
    show Tr.sav _ _ (.cons 27 _ (.cons 26 _ (.cons 25 _ (.cons 24 _ (.cons 23 _ (.cons 22 _ (.cons 21 _ (.cons 20 _ (.cons 19 _ (.cons 18 _ (.cons 17 _ (.cons 16 _ _))))))))))))
    refine s1 (ev_eql _ _ _) rfl rfl rfl ?_
    refine s4 rfl (fun g4=>?_) fun g4=>?_
    ·first|refine s1 (ev_subW (wrap64 (by omega) (by omega))) rfl rfl rfl ?_|refine s1 (ev_sub _ _ _) rfl rfl rfl ?_
     refine s1 (ev_eql _ _ _) rfl rfl rfl ?_
     refine s4 rfl (fun g5=>?_) fun g5=>?_
     ·refine s2 (r:=rCl) (ev_snocR (a:=(_,_,_,_,_,_,_,_,_,_,_,_)) rfl rfl (by decide) (by first|omega|simp only [el_some,List.length_append,List.length_cons,List.length_nil]; omega)) rfl rfl ?_
      first|refine s1 (ev_addW (wrap64 (by omega) (by omega))) rfl rfl rfl ?_|refine s1 (ev_add _ _ _) rfl rfl rfl ?_
      refine s7 [.int .i64 _,.int .i64 _,encS rCl _,.int .i64 _,.int .u8 _,encS rB _,.bool _,.bool _] rfl ?_
      refine leaf_back ?_ ?_
      ·first
        | (have e:=rowF_w (b:=el b) (room:=cols - ((el out).length:Int)) (i:=i) (by omega) (sgnA_in (by assumption)) (by assumption); rw [drl_s_e _ _ _ _ _ _ _ hc,e,← catS_cons,← catS_cons]; refine (drl_s_e _ _ _ _ _ _ _ ⟨hc.1,hc.2.1,(by first|omega|(simp only [el_some,List.length_append,List.length_cons,List.length_nil]; omega)),(by first|omega|(simp only [el_some,List.length_append,List.length_cons,List.length_nil]; omega)),(by first|omega|(simp only [el_some,List.length_append,List.length_cons,List.length_nil]; omega)),hc.2.2.2.2.2⟩).trans ?_; exact congrArg (fun n:Nat=>some (0,[encS rCl (catS (some _) (some (rowF (el b) n (i+1)))),_,_,_,_])) (by simp only [el_some,List.length_append,List.length_cons,List.length_nil]; omega))
        | (have e:=rowF_b (b:=el b) (room:=cols - ((el out).length:Int)) (i:=i) (by omega) (sgnA_in (by assumption)) (by assumption); rw [drl_s_e _ _ _ _ _ _ _ hc,e,← catS_cons]; refine (drl_s_e _ _ _ _ _ _ _ ⟨hc.1,hc.2.1,(by first|omega|(simp only [el_some,List.length_append,List.length_cons,List.length_nil]; omega)),(by first|omega|(simp only [el_some,List.length_append,List.length_cons,List.length_nil]; omega)),(by first|omega|(simp only [el_some,List.length_append,List.length_cons,List.length_nil]; omega)),hc.2.2.2.2.2⟩).trans ?_; exact congrArg (fun n:Nat=>some (0,[encS rCl (catS (some _) (some (rowF (el b) n (i+1)))),_,_,_,_])) (by simp only [el_some,List.length_append,List.length_cons,List.length_nil]; omega))
        | (have e:=rowF_n (b:=el b) (room:=cols - ((el out).length:Int)) (i:=i) (by omega) (sgnA_in (by assumption)) (by assumption); rw [drl_s_e _ _ _ _ _ _ _ hc,e,← catS_cons]; refine (drl_s_e _ _ _ _ _ _ _ ⟨hc.1,hc.2.1,(by first|omega|(simp only [el_some,List.length_append,List.length_cons,List.length_nil]; omega)),(by first|omega|(simp only [el_some,List.length_append,List.length_cons,List.length_nil]; omega)),(by first|omega|(simp only [el_some,List.length_append,List.length_cons,List.length_nil]; omega)),hc.2.2.2.2.2⟩).trans ?_; exact congrArg (fun n:Nat=>some (0,[encS rCl (catS (some _) (some (rowF (el b) n (i+1)))),_,_,_,_])) (by simp only [el_some,List.length_append,List.length_cons,List.length_nil]; omega))
        | (have e:=rowF_n (b:=el b) (room:=cols - ((el out).length:Int)) (i:=i) (by omega) (sgnA_out (by assumption)) (by decide); rw [drl_s_e _ _ _ _ _ _ _ hc,e,← catS_cons]; refine (drl_s_e _ _ _ _ _ _ _ ⟨hc.1,hc.2.1,(by first|omega|(simp only [el_some,List.length_append,List.length_cons,List.length_nil]; omega)),(by first|omega|(simp only [el_some,List.length_append,List.length_cons,List.length_nil]; omega)),(by first|omega|(simp only [el_some,List.length_append,List.length_cons,List.length_nil]; omega)),hc.2.2.2.2.2⟩).trans ?_; exact congrArg (fun n:Nat=>some (0,[encS rCl (catS (some _) (some (rowF (el b) n (i+1)))),_,_,_,_])) (by simp only [el_some,List.length_append,List.length_cons,List.length_nil]; omega))
        | (trace_state; done)
      ·rw [drl_me,drl_me]; simp only [el_some,List.length_append,List.length_cons,List.length_nil]; omega
     refine s2 (r:=rCl) (ev_snocR (a:=(_,_,_,_,_,_,_,_,_,_,_,_)) rfl rfl (by decide) (by first|omega|simp only [el_some,List.length_append,List.length_cons,List.length_nil]; omega)) rfl rfl ?_
     refine s1 (ev_eql _ _ _) rfl rfl rfl ?_
     refine s4 rfl (fun g6=>?_) fun g6=>?_
     ·refine s2 (r:=rCl) (ev_snocR (a:=(_,_,_,_,_,_,_,_,_,_,_,_)) rfl rfl (by decide) (by first|omega|simp only [el_some,List.length_append,List.length_cons,List.length_nil]; omega)) rfl rfl ?_
      first|refine s1 (ev_addW (wrap64 (by omega) (by omega))) rfl rfl rfl ?_|refine s1 (ev_add _ _ _) rfl rfl rfl ?_
      refine s7 [.int .i64 _,.int .i64 _,encS rCl _,.int .i64 _,.int .u8 _,encS rB _,.bool _,.bool _] rfl ?_
      refine leaf_back ?_ ?_
      ·first
        | (have e:=rowF_w (b:=el b) (room:=cols - ((el out).length:Int)) (i:=i) (by omega) (sgnA_in (by assumption)) (by assumption); rw [drl_s_e _ _ _ _ _ _ _ hc,e,← catS_cons,← catS_cons]; refine (drl_s_e _ _ _ _ _ _ _ ⟨hc.1,hc.2.1,(by first|omega|(simp only [el_some,List.length_append,List.length_cons,List.length_nil]; omega)),(by first|omega|(simp only [el_some,List.length_append,List.length_cons,List.length_nil]; omega)),(by first|omega|(simp only [el_some,List.length_append,List.length_cons,List.length_nil]; omega)),hc.2.2.2.2.2⟩).trans ?_; exact congrArg (fun n:Nat=>some (0,[encS rCl (catS (some _) (some (rowF (el b) n (i+1)))),_,_,_,_])) (by simp only [el_some,List.length_append,List.length_cons,List.length_nil]; omega))
        | (have e:=rowF_b (b:=el b) (room:=cols - ((el out).length:Int)) (i:=i) (by omega) (sgnA_in (by assumption)) (by assumption); rw [drl_s_e _ _ _ _ _ _ _ hc,e,← catS_cons]; refine (drl_s_e _ _ _ _ _ _ _ ⟨hc.1,hc.2.1,(by first|omega|(simp only [el_some,List.length_append,List.length_cons,List.length_nil]; omega)),(by first|omega|(simp only [el_some,List.length_append,List.length_cons,List.length_nil]; omega)),(by first|omega|(simp only [el_some,List.length_append,List.length_cons,List.length_nil]; omega)),hc.2.2.2.2.2⟩).trans ?_; exact congrArg (fun n:Nat=>some (0,[encS rCl (catS (some _) (some (rowF (el b) n (i+1)))),_,_,_,_])) (by simp only [el_some,List.length_append,List.length_cons,List.length_nil]; omega))
        | (have e:=rowF_n (b:=el b) (room:=cols - ((el out).length:Int)) (i:=i) (by omega) (sgnA_in (by assumption)) (by assumption); rw [drl_s_e _ _ _ _ _ _ _ hc,e,← catS_cons]; refine (drl_s_e _ _ _ _ _ _ _ ⟨hc.1,hc.2.1,(by first|omega|(simp only [el_some,List.length_append,List.length_cons,List.length_nil]; omega)),(by first|omega|(simp only [el_some,List.length_append,List.length_cons,List.length_nil]; omega)),(by first|omega|(simp only [el_some,List.length_append,List.length_cons,List.length_nil]; omega)),hc.2.2.2.2.2⟩).trans ?_; exact congrArg (fun n:Nat=>some (0,[encS rCl (catS (some _) (some (rowF (el b) n (i+1)))),_,_,_,_])) (by simp only [el_some,List.length_append,List.length_cons,List.length_nil]; omega))
        | (have e:=rowF_n (b:=el b) (room:=cols - ((el out).length:Int)) (i:=i) (by omega) (sgnA_out (by assumption)) (by decide); rw [drl_s_e _ _ _ _ _ _ _ hc,e,← catS_cons]; refine (drl_s_e _ _ _ _ _ _ _ ⟨hc.1,hc.2.1,(by first|omega|(simp only [el_some,List.length_append,List.length_cons,List.length_nil]; omega)),(by first|omega|(simp only [el_some,List.length_append,List.length_cons,List.length_nil]; omega)),(by first|omega|(simp only [el_some,List.length_append,List.length_cons,List.length_nil]; omega)),hc.2.2.2.2.2⟩).trans ?_; exact congrArg (fun n:Nat=>some (0,[encS rCl (catS (some _) (some (rowF (el b) n (i+1)))),_,_,_,_])) (by simp only [el_some,List.length_append,List.length_cons,List.length_nil]; omega))
        | (trace_state; done)
      ·rw [drl_me,drl_me]; simp only [el_some,List.length_append,List.length_cons,List.length_nil]; omega
     first|refine s1 (ev_addW (wrap64 (by omega) (by omega))) rfl rfl rfl ?_|refine s1 (ev_add _ _ _) rfl rfl rfl ?_
     refine s7 [.int .i64 _,.int .i64 _,encS rCl _,.int .i64 _,.int .u8 _,encS rB _,.bool _,.bool _] rfl ?_
     refine leaf_back ?_ ?_
     ·first
       | (have e:=rowF_w (b:=el b) (room:=cols - ((el out).length:Int)) (i:=i) (by omega) (sgnA_in (by assumption)) (by assumption); rw [drl_s_e _ _ _ _ _ _ _ hc,e,← catS_cons,← catS_cons]; refine (drl_s_e _ _ _ _ _ _ _ ⟨hc.1,hc.2.1,(by first|omega|(simp only [el_some,List.length_append,List.length_cons,List.length_nil]; omega)),(by first|omega|(simp only [el_some,List.length_append,List.length_cons,List.length_nil]; omega)),(by first|omega|(simp only [el_some,List.length_append,List.length_cons,List.length_nil]; omega)),hc.2.2.2.2.2⟩).trans ?_; exact congrArg (fun n:Nat=>some (0,[encS rCl (catS (some _) (some (rowF (el b) n (i+1)))),_,_,_,_])) (by simp only [el_some,List.length_append,List.length_cons,List.length_nil]; omega))
       | (have e:=rowF_b (b:=el b) (room:=cols - ((el out).length:Int)) (i:=i) (by omega) (sgnA_in (by assumption)) (by assumption); rw [drl_s_e _ _ _ _ _ _ _ hc,e,← catS_cons]; refine (drl_s_e _ _ _ _ _ _ _ ⟨hc.1,hc.2.1,(by first|omega|(simp only [el_some,List.length_append,List.length_cons,List.length_nil]; omega)),(by first|omega|(simp only [el_some,List.length_append,List.length_cons,List.length_nil]; omega)),(by first|omega|(simp only [el_some,List.length_append,List.length_cons,List.length_nil]; omega)),hc.2.2.2.2.2⟩).trans ?_; exact congrArg (fun n:Nat=>some (0,[encS rCl (catS (some _) (some (rowF (el b) n (i+1)))),_,_,_,_])) (by simp only [el_some,List.length_append,List.length_cons,List.length_nil]; omega))
       | (have e:=rowF_n (b:=el b) (room:=cols - ((el out).length:Int)) (i:=i) (by omega) (sgnA_in (by assumption)) (by assumption); rw [drl_s_e _ _ _ _ _ _ _ hc,e,← catS_cons]; refine (drl_s_e _ _ _ _ _ _ _ ⟨hc.1,hc.2.1,(by first|omega|(simp only [el_some,List.length_append,List.length_cons,List.length_nil]; omega)),(by first|omega|(simp only [el_some,List.length_append,List.length_cons,List.length_nil]; omega)),(by first|omega|(simp only [el_some,List.length_append,List.length_cons,List.length_nil]; omega)),hc.2.2.2.2.2⟩).trans ?_; exact congrArg (fun n:Nat=>some (0,[encS rCl (catS (some _) (some (rowF (el b) n (i+1)))),_,_,_,_])) (by simp only [el_some,List.length_append,List.length_cons,List.length_nil]; omega))
       | (have e:=rowF_n (b:=el b) (room:=cols - ((el out).length:Int)) (i:=i) (by omega) (sgnA_out (by assumption)) (by decide); rw [drl_s_e _ _ _ _ _ _ _ hc,e,← catS_cons]; refine (drl_s_e _ _ _ _ _ _ _ ⟨hc.1,hc.2.1,(by first|omega|(simp only [el_some,List.length_append,List.length_cons,List.length_nil]; omega)),(by first|omega|(simp only [el_some,List.length_append,List.length_cons,List.length_nil]; omega)),(by first|omega|(simp only [el_some,List.length_append,List.length_cons,List.length_nil]; omega)),hc.2.2.2.2.2⟩).trans ?_; exact congrArg (fun n:Nat=>some (0,[encS rCl (catS (some _) (some (rowF (el b) n (i+1)))),_,_,_,_])) (by simp only [el_some,List.length_append,List.length_cons,List.length_nil]; omega))
       | (trace_state; done)
     ·rw [drl_me,drl_me]; simp only [el_some,List.length_append,List.length_cons,List.length_nil]; omega
    refine s2 (r:=rCl) (ev_snocR (a:=(_,_,_,_,_,_,_,_,_,_,_,_)) rfl rfl (by decide) (by first|omega|simp only [el_some,List.length_append,List.length_cons,List.length_nil]; omega)) rfl rfl ?_
    refine s1 (ev_eql _ _ _) rfl rfl rfl ?_
    refine s4 rfl (fun g5=>?_) fun g5=>?_
    ·refine s2 (r:=rCl) (ev_snocR (a:=(_,_,_,_,_,_,_,_,_,_,_,_)) rfl rfl (by decide) (by first|omega|simp only [el_some,List.length_append,List.length_cons,List.length_nil]; omega)) rfl rfl ?_
     first|refine s1 (ev_addW (wrap64 (by omega) (by omega))) rfl rfl rfl ?_|refine s1 (ev_add _ _ _) rfl rfl rfl ?_
     refine s7 [.int .i64 _,.int .i64 _,encS rCl _,.int .i64 _,.int .u8 _,encS rB _,.bool _,.bool _] rfl ?_
     refine leaf_back ?_ ?_
     ·first
       | (have e:=rowF_w (b:=el b) (room:=cols - ((el out).length:Int)) (i:=i) (by omega) (sgnA_in (by assumption)) (by assumption); rw [drl_s_e _ _ _ _ _ _ _ hc,e,← catS_cons,← catS_cons]; refine (drl_s_e _ _ _ _ _ _ _ ⟨hc.1,hc.2.1,(by first|omega|(simp only [el_some,List.length_append,List.length_cons,List.length_nil]; omega)),(by first|omega|(simp only [el_some,List.length_append,List.length_cons,List.length_nil]; omega)),(by first|omega|(simp only [el_some,List.length_append,List.length_cons,List.length_nil]; omega)),hc.2.2.2.2.2⟩).trans ?_; exact congrArg (fun n:Nat=>some (0,[encS rCl (catS (some _) (some (rowF (el b) n (i+1)))),_,_,_,_])) (by simp only [el_some,List.length_append,List.length_cons,List.length_nil]; omega))
       | (have e:=rowF_b (b:=el b) (room:=cols - ((el out).length:Int)) (i:=i) (by omega) (sgnA_in (by assumption)) (by assumption); rw [drl_s_e _ _ _ _ _ _ _ hc,e,← catS_cons]; refine (drl_s_e _ _ _ _ _ _ _ ⟨hc.1,hc.2.1,(by first|omega|(simp only [el_some,List.length_append,List.length_cons,List.length_nil]; omega)),(by first|omega|(simp only [el_some,List.length_append,List.length_cons,List.length_nil]; omega)),(by first|omega|(simp only [el_some,List.length_append,List.length_cons,List.length_nil]; omega)),hc.2.2.2.2.2⟩).trans ?_; exact congrArg (fun n:Nat=>some (0,[encS rCl (catS (some _) (some (rowF (el b) n (i+1)))),_,_,_,_])) (by simp only [el_some,List.length_append,List.length_cons,List.length_nil]; omega))
       | (have e:=rowF_n (b:=el b) (room:=cols - ((el out).length:Int)) (i:=i) (by omega) (sgnA_in (by assumption)) (by assumption); rw [drl_s_e _ _ _ _ _ _ _ hc,e,← catS_cons]; refine (drl_s_e _ _ _ _ _ _ _ ⟨hc.1,hc.2.1,(by first|omega|(simp only [el_some,List.length_append,List.length_cons,List.length_nil]; omega)),(by first|omega|(simp only [el_some,List.length_append,List.length_cons,List.length_nil]; omega)),(by first|omega|(simp only [el_some,List.length_append,List.length_cons,List.length_nil]; omega)),hc.2.2.2.2.2⟩).trans ?_; exact congrArg (fun n:Nat=>some (0,[encS rCl (catS (some _) (some (rowF (el b) n (i+1)))),_,_,_,_])) (by simp only [el_some,List.length_append,List.length_cons,List.length_nil]; omega))
       | (have e:=rowF_n (b:=el b) (room:=cols - ((el out).length:Int)) (i:=i) (by omega) (sgnA_out (by assumption)) (by decide); rw [drl_s_e _ _ _ _ _ _ _ hc,e,← catS_cons]; refine (drl_s_e _ _ _ _ _ _ _ ⟨hc.1,hc.2.1,(by first|omega|(simp only [el_some,List.length_append,List.length_cons,List.length_nil]; omega)),(by first|omega|(simp only [el_some,List.length_append,List.length_cons,List.length_nil]; omega)),(by first|omega|(simp only [el_some,List.length_append,List.length_cons,List.length_nil]; omega)),hc.2.2.2.2.2⟩).trans ?_; exact congrArg (fun n:Nat=>some (0,[encS rCl (catS (some _) (some (rowF (el b) n (i+1)))),_,_,_,_])) (by simp only [el_some,List.length_append,List.length_cons,List.length_nil]; omega))
       | (trace_state; done)
     ·rw [drl_me,drl_me]; simp only [el_some,List.length_append,List.length_cons,List.length_nil]; omega
    first|refine s1 (ev_addW (wrap64 (by omega) (by omega))) rfl rfl rfl ?_|refine s1 (ev_add _ _ _) rfl rfl rfl ?_
    refine s7 [.int .i64 _,.int .i64 _,encS rCl _,.int .i64 _,.int .u8 _,encS rB _,.bool _,.bool _] rfl ?_
    refine leaf_back ?_ ?_
    ·first
      | (have e:=rowF_w (b:=el b) (room:=cols - ((el out).length:Int)) (i:=i) (by omega) (sgnA_in (by assumption)) (by assumption); rw [drl_s_e _ _ _ _ _ _ _ hc,e,← catS_cons,← catS_cons]; refine (drl_s_e _ _ _ _ _ _ _ ⟨hc.1,hc.2.1,(by first|omega|(simp only [el_some,List.length_append,List.length_cons,List.length_nil]; omega)),(by first|omega|(simp only [el_some,List.length_append,List.length_cons,List.length_nil]; omega)),(by first|omega|(simp only [el_some,List.length_append,List.length_cons,List.length_nil]; omega)),hc.2.2.2.2.2⟩).trans ?_; exact congrArg (fun n:Nat=>some (0,[encS rCl (catS (some _) (some (rowF (el b) n (i+1)))),_,_,_,_])) (by simp only [el_some,List.length_append,List.length_cons,List.length_nil]; omega))
      | (have e:=rowF_b (b:=el b) (room:=cols - ((el out).length:Int)) (i:=i) (by omega) (sgnA_in (by assumption)) (by assumption); rw [drl_s_e _ _ _ _ _ _ _ hc,e,← catS_cons]; refine (drl_s_e _ _ _ _ _ _ _ ⟨hc.1,hc.2.1,(by first|omega|(simp only [el_some,List.length_append,List.length_cons,List.length_nil]; omega)),(by first|omega|(simp only [el_some,List.length_append,List.length_cons,List.length_nil]; omega)),(by first|omega|(simp only [el_some,List.length_append,List.length_cons,List.length_nil]; omega)),hc.2.2.2.2.2⟩).trans ?_; exact congrArg (fun n:Nat=>some (0,[encS rCl (catS (some _) (some (rowF (el b) n (i+1)))),_,_,_,_])) (by simp only [el_some,List.length_append,List.length_cons,List.length_nil]; omega))
      | (have e:=rowF_n (b:=el b) (room:=cols - ((el out).length:Int)) (i:=i) (by omega) (sgnA_in (by assumption)) (by assumption); rw [drl_s_e _ _ _ _ _ _ _ hc,e,← catS_cons]; refine (drl_s_e _ _ _ _ _ _ _ ⟨hc.1,hc.2.1,(by first|omega|(simp only [el_some,List.length_append,List.length_cons,List.length_nil]; omega)),(by first|omega|(simp only [el_some,List.length_append,List.length_cons,List.length_nil]; omega)),(by first|omega|(simp only [el_some,List.length_append,List.length_cons,List.length_nil]; omega)),hc.2.2.2.2.2⟩).trans ?_; exact congrArg (fun n:Nat=>some (0,[encS rCl (catS (some _) (some (rowF (el b) n (i+1)))),_,_,_,_])) (by simp only [el_some,List.length_append,List.length_cons,List.length_nil]; omega))
      | (have e:=rowF_n (b:=el b) (room:=cols - ((el out).length:Int)) (i:=i) (by omega) (sgnA_out (by assumption)) (by decide); rw [drl_s_e _ _ _ _ _ _ _ hc,e,← catS_cons]; refine (drl_s_e _ _ _ _ _ _ _ ⟨hc.1,hc.2.1,(by first|omega|(simp only [el_some,List.length_append,List.length_cons,List.length_nil]; omega)),(by first|omega|(simp only [el_some,List.length_append,List.length_cons,List.length_nil]; omega)),(by first|omega|(simp only [el_some,List.length_append,List.length_cons,List.length_nil]; omega)),hc.2.2.2.2.2⟩).trans ?_; exact congrArg (fun n:Nat=>some (0,[encS rCl (catS (some _) (some (rowF (el b) n (i+1)))),_,_,_,_])) (by simp only [el_some,List.length_append,List.length_cons,List.length_nil]; omega))
      | (trace_state; done)
    ·rw [drl_me,drl_me]; simp only [el_some,List.length_append,List.length_cons,List.length_nil]; omega
   refine s2 (r:=rCl) (ev_snocR (a:=(_,_,_,_,_,_,_,_,_,_,_,_)) rfl rfl (by decide) (by first|omega|simp only [el_some,List.length_append,List.length_cons,List.length_nil]; omega)) rfl rfl ?_
   first|refine s1 (ev_addW (wrap64 (by omega) (by omega))) rfl rfl rfl ?_|refine s1 (ev_add _ _ _) rfl rfl rfl ?_
   refine s7 [.int .i64 _,.int .i64 _,encS rCl _,.int .i64 _,.int .u8 _,encS rB _,.bool _,.bool _] rfl ?_
   refine leaf_back ?_ ?_
   ·first
     | (have e:=rowF_w (b:=el b) (room:=cols - ((el out).length:Int)) (i:=i) (by omega) (sgnA_in (by assumption)) (by assumption); rw [drl_s_e _ _ _ _ _ _ _ hc,e,← catS_cons,← catS_cons]; refine (drl_s_e _ _ _ _ _ _ _ ⟨hc.1,hc.2.1,(by first|omega|(simp only [el_some,List.length_append,List.length_cons,List.length_nil]; omega)),(by first|omega|(simp only [el_some,List.length_append,List.length_cons,List.length_nil]; omega)),(by first|omega|(simp only [el_some,List.length_append,List.length_cons,List.length_nil]; omega)),hc.2.2.2.2.2⟩).trans ?_; exact congrArg (fun n:Nat=>some (0,[encS rCl (catS (some _) (some (rowF (el b) n (i+1)))),_,_,_,_])) (by simp only [el_some,List.length_append,List.length_cons,List.length_nil]; omega))
     | (have e:=rowF_b (b:=el b) (room:=cols - ((el out).length:Int)) (i:=i) (by omega) (sgnA_in (by assumption)) (by assumption); rw [drl_s_e _ _ _ _ _ _ _ hc,e,← catS_cons]; refine (drl_s_e _ _ _ _ _ _ _ ⟨hc.1,hc.2.1,(by first|omega|(simp only [el_some,List.length_append,List.length_cons,List.length_nil]; omega)),(by first|omega|(simp only [el_some,List.length_append,List.length_cons,List.length_nil]; omega)),(by first|omega|(simp only [el_some,List.length_append,List.length_cons,List.length_nil]; omega)),hc.2.2.2.2.2⟩).trans ?_; exact congrArg (fun n:Nat=>some (0,[encS rCl (catS (some _) (some (rowF (el b) n (i+1)))),_,_,_,_])) (by simp only [el_some,List.length_append,List.length_cons,List.length_nil]; omega))
     | (have e:=rowF_n (b:=el b) (room:=cols - ((el out).length:Int)) (i:=i) (by omega) (sgnA_in (by assumption)) (by assumption); rw [drl_s_e _ _ _ _ _ _ _ hc,e,← catS_cons]; refine (drl_s_e _ _ _ _ _ _ _ ⟨hc.1,hc.2.1,(by first|omega|(simp only [el_some,List.length_append,List.length_cons,List.length_nil]; omega)),(by first|omega|(simp only [el_some,List.length_append,List.length_cons,List.length_nil]; omega)),(by first|omega|(simp only [el_some,List.length_append,List.length_cons,List.length_nil]; omega)),hc.2.2.2.2.2⟩).trans ?_; exact congrArg (fun n:Nat=>some (0,[encS rCl (catS (some _) (some (rowF (el b) n (i+1)))),_,_,_,_])) (by simp only [el_some,List.length_append,List.length_cons,List.length_nil]; omega))
     | (have e:=rowF_n (b:=el b) (room:=cols - ((el out).length:Int)) (i:=i) (by omega) (sgnA_out (by assumption)) (by decide); rw [drl_s_e _ _ _ _ _ _ _ hc,e,← catS_cons]; refine (drl_s_e _ _ _ _ _ _ _ ⟨hc.1,hc.2.1,(by first|omega|(simp only [el_some,List.length_append,List.length_cons,List.length_nil]; omega)),(by first|omega|(simp only [el_some,List.length_append,List.length_cons,List.length_nil]; omega)),(by first|omega|(simp only [el_some,List.length_append,List.length_cons,List.length_nil]; omega)),hc.2.2.2.2.2⟩).trans ?_; exact congrArg (fun n:Nat=>some (0,[encS rCl (catS (some _) (some (rowF (el b) n (i+1)))),_,_,_,_])) (by simp only [el_some,List.length_append,List.length_cons,List.length_nil]; omega))
     | (trace_state; done)
   ·rw [drl_me,drl_me]; simp only [el_some,List.length_append,List.length_cons,List.length_nil]; omega
  ·cases hs
 ·cases hs
noncomputable def P_drl:List LpE:=(52,([true,true,true,false,true,false],loopF Tryd.prog gl n0 12 drl_D drl_s))::P_rin
theorem P_drl_ok {G:Nat→Option Obj} (hst:StartOk Tryd.prog G gl H0 n0):LpsOk Tryd.prog G gl P_drl:=.cons Tryd.func52 drl_b drl_p (drl_c hst) (P_rin_ok hst)
end Go.Proofs.YtdkdbjgkedahfaaDoor

namespace Go.Proofs.YtdkdbjgkedahfaaDoor
set_option linter.all false
open Go Go.Sx
set_option maxRecDepth 100000
set_option linter.unusedVariables false
set_option linter.unusedSimpArgs false
def colD (dc:Int):Int:=2+dc % 79
def rowD (dc:Int) (b:Option (List Int)) (wr:Bool):Row:=(some (rowF (el b) (colD dc).toNat 0),wr)
theorem catF_some {b:List Int} {n i:Int} (h:0 < n):catS none (some (rowF b n.toNat i))=some (rowF b n.toNat i):=by
 obtain ⟨m,hm⟩:∃ m:Nat,n.toNat=m+1:=⟨n.toNat - 1,by omega⟩
 rw [hm]
 cases m with
 | zero=>rfl
 | succ m=>unfold rowF; split <;> rfl
theorem drl_0 {b:Option (List Int)} {cols dc:Int} {wr zz:Bool} (h0:2≤cols) (h1:cols≤80) (hb:∀ x ∈ el b,0≤x∧x≤255) (hn:(el b).length≤140737488351232):drl_s [.int .i64 cols,encS rCl none,.int .i64 0,.int .u8 dc,encS rB b,.bool wr,.bool zz]=some (0,[encS rCl (some (rowF (el b) cols.toNat 0)),.int .u8 dc,encS rB b,.bool wr,.bool zz]):=by
 refine (drl_s_e _ _ _ _ _ _ _ ⟨h0,h1,by show (0:Int)≤_; omega,by decide,by decide,hb,hn⟩).trans ?_
 rw [show cols - ((el (none:Option (List Cel))).length:Int)=cols from Int.sub_zero _,catF_some (by omega)]
noncomputable def U_drw:List (FuncId × FnC):=(73,conF Tryd.prog [.s 4,.s 4] sgn_s [.a [3,3,3,3,3,3,3,3,3,3,3,3]])::L0
theorem U_drw_ok {G:Nat→Option Obj} (hst:StartOk Tryd.prog G gl H0 n0):ConsOk Tryd.prog G gl U_drw:=(.cons (sgn_c hst) .nil)
def drw_s:List U→Option (Nat × List U)
 | [.int .u8 dc,u_b,.bool wr]=>(decS rB u_b).bind fun b=>if 0≤dc∧dc≤255∧(∀ x ∈ el b,0≤x∧x≤255)∧(el b).length≤140737488351232 then some (0,[encS rCl ((rowD dc b wr).1),.bool ((rowD dc b wr).2)]) else none
 | _=>none
theorem drw_s_e (dc:Int) (b:(Option (List Int))) (wr:Bool) (hc:0≤dc∧dc≤255∧(∀ x ∈ el b,0≤x∧x≤255)∧(el b).length≤140737488351232):drw_s [.int .u8 dc,encS rB b,.bool wr]=some (0,[encS rCl ((rowD dc b wr).1),.bool ((rowD dc b wr).2)]):=by
 simp only [drw_s,decS_enc,Option.bind_some]
 exact if_pos hc
def drw_t:Tr:=.lt 3 (.conv .i64) [h 0 4] <| .lt 3 (.bin .rem) [h 3 3,.int .i64 (79)] <| .lt 3 (.bin .add) [.int .i64 (2),h 4 3] <| .dt 22 (.nilw 12) [] <| .fn drl_s [h 5 3,h 6 22,.int .i64 (0),h 0 4,h 1 11,h 2 8,.bool false] 5 <| .ret [h 7 22,h 10 8]
theorem drw_c {G:Nat→Option Obj} (hst:StartOk Tryd.prog G gl H0 n0):ConOk Tryd.prog G 52 [.a [4,11,8]] drw_s [.a [22,8]]:=by
 refine con_of_tree (C:=cx U_drw P_drl) (d:=60) drw_t (cxg (U_drw_ok hst) (P_drl_ok hst)) hst ⟨Tryd.f52,_,Tryd.func52,rfl⟩ (by kernel_rfl) (by kernel_rfl) ?_
 intro us outs hs
 unfold drw_s at hs
 split at hs
 ·skip
  rename_i dc u_b wr
  have hq_b:=Option.bind_eq_some_iff.1 hs
  clear hs
  obtain ⟨b,hd_b,hs⟩:=hq_b
  replace hd_b:=decS_eq hd_b
  subst hd_b
  split at hs
  ·rename_i hc
   cases hs
   unfold drw_t
   refine s0 (.cons 2 _ (.cons 1 _ (.cons 0 _ (.nil)))) rfl (by simp [Ev.ok,Ev.len]) ?_
   first|refine s1 (ev_convW (wrap64 (by omega) (by omega))) rfl rfl rfl ?_|refine s1 (ev_conv _ _ _) rfl rfl rfl ?_
   first|refine s1 (ev_remW (by omega) (by omega)) rfl rfl rfl ?_|refine s1 (ev_rem _ _ _ (by omega)) rfl rfl rfl ?_
   first|refine s1 (ev_addW (wrap64 (by omega) (by omega))) rfl rfl rfl ?_|refine s1 (ev_add _ _ _) rfl rfl rfl ?_
   refine s2 (r:=rCl) (ev_nilwS rfl) rfl rfl ?_
   refine s3 (drl_0 (by omega) (by omega) hc.2.2.1 hc.2.2.2) rfl ?_
   show Tr.sav _ _ (.cons 11 _ (.cons 10 _ (.cons 9 _ (.cons 8 _ (.cons 7 _ _)))))
   refine s7 [encS rCl _,.bool _] rfl ?_
   first|rfl|(trace_state; done)
  ·cases hs
 ·cases hs
abbrev Drf:=Int × Option (List Int) × Bool
def okB (b:Option (List Int)):Prop:=(∀ x ∈ el b,0≤x∧x≤255)∧(el b).length≤140737488351232
def okD (l:Option (List Drf)):Prop:=(el l).length≤140737488351232∧∀ x ∈ el l,okB x.2.1
instance (b:Option (List Int)):Decidable (okB b):=by unfold okB; infer_instance
instance (l:Option (List Drf)):Decidable (okD l):=by unfold okD; infer_instance
def rowX (dc:Int) (x:Drf):Row:=rowD dc x.2.1 x.2.2
def rowsG (dc:Int) (l:List Drf):Nat→Int→List Row
 | 0,_=>[]
 | n+1,i=>rowX dc (l.getD i.toNat default)::rowsG dc l n (i+1)
def manyD (l:Option (List Drf)):Int:=max 1 (min ((el l).length:Int) 12)
theorem rowsG_step (dc:Int) (l:List Drf) {n i:Int} (h:i < n):rowsG dc l (n - i).toNat i=rowX dc (l.getD i.toNat default)::rowsG dc l (n - (i+1)).toNat (i+1):=by
 rw [show (n - i).toNat=(n - (i+1)).toNat+1 by omega]; rfl
theorem rowsG_end (dc:Int) (l:List Drf) {n i:Int} (h:n≤i):rowsG dc l (n - i).toNat i=[]:=by
 rw [show (n - i).toNat=0 by omega]; rfl
theorem okD_get {l:Option (List Drf)} (h:okD l) (i:Nat):okB ((el l).getD i default).2.1:=by
 rw [List.getD_eq_getElem?_getD]
 cases hi:(el l)[i]? with
 | none=>exact (by decide:okB none)
 | some m=>exact h.2 m (List.mem_of_getElem? hi)
theorem getD_out {l:List Drf} {i:Int} (h:¬i < (l.length:Int)):l.getD i.toNat default=default:=by
 rw [List.getD_eq_getElem?_getD,List.getElem?_eq_none (by omega)]; rfl
noncomputable def U_drs:List (FuncId × FnC):=(52,conF Tryd.prog [.a [4,11,8]] drw_s [.a [22,8]])::L0
theorem U_drs_ok {G:Nat→Option Obj} (hst:StartOk Tryd.prog G gl H0 n0):ConsOk Tryd.prog G gl U_drs:=(.cons (drw_c hst) .nil)
def drs_s:List U→Option (Nat × List U)
 | [u_out,.int .i64 i,.int .u8 dc,u_l]=>(decS rRw u_out).bind fun out=>(decS rDr u_l).bind fun l=>if 0≤i∧i≤manyD l∧((el out).length:Int)=i∧0≤dc∧dc≤255∧okD l then some (0,[encS rRw (catS out (some (rowsG dc (el l) (manyD l - i).toNat i)))]) else none
 | _=>none
theorem drs_s_e (out:(Option (List ((Option (List (Int × Int × Int × Int × Int × Int × Int × Int × Int × Int × Int × Int))) × Bool)))) (i:Int) (dc:Int) (l:(Option (List (Int × (Option (List Int)) × Bool)))) (hc:0≤i∧i≤manyD l∧((el out).length:Int)=i∧0≤dc∧dc≤255∧okD l):drs_s [encS rRw out,.int .i64 i,.int .u8 dc,encS rDr l]=some (0,[encS rRw (catS out (some (rowsG dc (el l) (manyD l - i).toNat i)))]):=by
 simp only [drs_s,decS_enc,Option.bind_some]
 exact if_pos hc
def drs_D:LoopD:=⟨[(1,.pointer (some ⟨4,0,none⟩)),(3,own 5 0 12),(4,h 1 3)],[(4,.cells 24 [h 2 4,dat 7 3 13]),(5,.sq 0 12 27 6),(6,.frz),(7,.frz)],4,[⟨.exit 0,[(3,own 8 0 12)],[(8,.sq 0 12 27 9),(9,.frz)],1⟩]⟩
noncomputable def drs_B:Code:=(Tryd.f22.body).getD .skip
noncomputable def drs_x:Code:=match codeAt [true,true,false,true,false] drs_B with|some (.loop x)=>x|_=>.skip
theorem drs_b:Tryd.f22.body=some drs_B:=rfl
theorem drs_p:codeAt [true,true,false,true,false] drs_B=some (.loop drs_x):=by kernel_rfl
def drs_t:Tr:=.lt 3 (.len) [h 3 13] <| .lt 3 (.min) [h 4 3,.int .i64 (12)] <| .lt 3 (.max) [.int .i64 (1),h 5 3] <| .lt 8 (.bin .lss) [h 1 3,h 6 3] <| .br 7 (.lt 8 (.bin .lss) [h 1 3,h 4 3] <| .br 8 (.lt 8 (.inbs 3) [h 1 3,h 3 13] <| .br 9 (.lt 4 (.get 3 0) [h 3 13,h 1 3] <| .dt 11 (.get 3 1) [h 3 13,h 1 3] <| .lt 8 (.get 3 2) [h 3 13,h 1 3] <| .fn drw_s [h 2 4,h 11 11,h 12 8] 2 <| .dt 12 (.snoc 2) [h 0 12,h 13 22,h 14 8] <| .lt 3 (.bin .add) [h 1 3,.int .i64 (1)] <| .ret [.int .i64 (-1),h 15 12,h 16 3,h 2 4,h 3 13]) (.no)) (.dt 11 (.nilw 1) [] <| .fn drw_s [h 2 4,h 9 11,.bool false] 2 <| .dt 12 (.snoc 2) [h 0 12,h 10 22,h 11 8] <| .lt 3 (.bin .add) [h 1 3,.int .i64 (1)] <| .ret [.int .i64 (-1),h 12 12,h 13 3,h 2 4,h 3 13])) (.ret [.int .i64 (0),h 0 12])
def drs_m:List U→Nat
 | [u_out,.int .i64 i,.int .u8 dc,u_l]=>(match decS rRw u_out with|some out=>(match decS rDr u_l with|some l=>(manyD l - i).toNat|none=>0)|none=>0)
 | _=>0
theorem drs_me (out:(Option (List ((Option (List (Int × Int × Int × Int × Int × Int × Int × Int × Int × Int × Int × Int))) × Bool)))) (i:Int) (dc:Int) (l:(Option (List (Int × (Option (List Int)) × Bool)))):drs_m [encS rRw out,.int .i64 i,.int .u8 dc,encS rDr l]=(manyD l - i).toNat:=by
 simp only [drs_m,decS_enc]
theorem drs_c {G:Nat→Option Obj} (hst:StartOk Tryd.prog G gl H0 n0):∀ (E:Nat→U) (base:Nat),@CodeOk ⟨E,G⟩ Tryd.prog base gl Tryd.f22.ntmps drs_x (loopF Tryd.prog gl n0 10 drs_D drs_s):=by
 refine loop_ok (C:=cx U_drs P_drl) (dep:=60) (f:=22) (n0:=n0) (nB:=10) (H0:=H0) drs_m drs_t (cxg (U_drs_ok hst) (P_drl_ok hst)) hst Tryd.func22 drs_b drs_p (by kernel_rfl) (by kernel_rfl) (by kernel_rfl) ?_
 intro us d outs hs
 have hs0:=hs
 unfold drs_s at hs
 split at hs
 ·skip
  rename_i u_out i dc u_l
  have hq_out:=Option.bind_eq_some_iff.1 hs
  clear hs
  obtain ⟨out,hd_out,hs⟩:=hq_out
  replace hd_out:=decS_eq hd_out
  subst hd_out
  have hq_l:=Option.bind_eq_some_iff.1 hs
  clear hs
  obtain ⟨l,hd_l,hs⟩:=hq_l
  replace hd_l:=decS_eq hd_l
  subst hd_l
  split at hs
  ·rename_i hc
   clear hs hs0
   have hm:manyD l=max 1 (min ((el l).length:Int) 12):=rfl
   have hl:=hc.2.2.2.2.2.1
   have hb:=okD_get hc.2.2.2.2.2 i.toNat
   refine ⟨rfl,?_⟩
   unfold drs_t
   refine s0 (.cons 3 _ (.cons 2 _ (.cons 1 _ (.cons 0 _ (.nil))))) rfl (by simp [Ev.ok,Ev.len]) ?_
   refine s1 (ev_lenS _ _) rfl rfl rfl ?_
   refine s1 (ev_min _ _ _ _) rfl rfl rfl ?_
   refine s1 (ev_max _ _ _ _) rfl rfl rfl ?_
   refine s1 (ev_lss _ _ _) rfl rfl rfl ?_
   refine s5 rfl (fun g0=>?_) fun g0=>?_
   ·refine s7 [.int .i64 _,encS rRw _] rfl ?_
    refine leaf_exit (d:=0) ?_
    rw [drs_s_e _ _ _ _ hc,rowsG_end _ _ (by omega)]; rfl
   refine s1 (ev_lss _ _ _) rfl rfl rfl ?_
   refine s4 rfl (fun g1=>?_) fun g1=>?_
   ·refine s1 (ev_inbsS rfl) rfl rfl rfl ?_
    refine s5 rfl (fun g2=>?_) fun g2=>?_
    ·refine s8 ?_
     first|omega|(trace_state; done)
    refine s1 (u:=.int .u8 _) (ev_getS rfl (by omega) (by omega) rfl) rfl rfl rfl ?_
    refine s2 (r:=rB) (ev_getS rfl (by omega) (by omega) rfl) rfl rfl ?_
    refine s1 (u:=.bool _) (ev_getS rfl (by omega) (by omega) rfl) rfl rfl rfl ?_
    refine s32 (drw_s_e _ _ _ ⟨by omega,by omega,by first|exact hb.1|(intro x hx; cases hx),by first|exact hb.2|decide⟩) rfl rfl ?_
    refine s2 (r:=rRw) (ev_snocR rfl rfl (by decide) (by first|omega|simp only [el_some,List.length_append,List.length_cons,List.length_nil]; omega)) rfl rfl ?_
    first|refine s1 (ev_addW (wrap64 (by omega) (by omega))) rfl rfl rfl ?_|refine s1 (ev_add _ _ _) rfl rfl rfl ?_
    refine s7 [.int .i64 _,encS rRw _,.int .i64 _,.int .u8 _,encS rDr _] rfl ?_
    refine leaf_back ?_ ?_
    ·rw [drs_s_e _ _ _ _ hc,rowsG_step dc (el l) (by omega),← catS_cons]
     refine (drs_s_e _ _ _ _ ⟨by omega,by omega,by simp only [el_some,List.length_append,List.length_cons,List.length_nil]; omega,hc.2.2.2⟩).trans ?_
     first|rfl|(rw [getD_out (by assumption)]; rfl)|(trace_state; done)
    ·rw [drs_me,drs_me]; omega
   refine s2 (r:=rB) (ev_nilwS rfl) rfl rfl ?_
   refine s32 (drw_s_e _ _ _ ⟨by omega,by omega,by first|exact hb.1|(intro x hx; cases hx),by first|exact hb.2|decide⟩) rfl rfl ?_
   refine s2 (r:=rRw) (ev_snocR rfl rfl (by decide) (by first|omega|simp only [el_some,List.length_append,List.length_cons,List.length_nil]; omega)) rfl rfl ?_
   first|refine s1 (ev_addW (wrap64 (by omega) (by omega))) rfl rfl rfl ?_|refine s1 (ev_add _ _ _) rfl rfl rfl ?_
   refine s7 [.int .i64 _,encS rRw _,.int .i64 _,.int .u8 _,encS rDr _] rfl ?_
   refine leaf_back ?_ ?_
   ·rw [drs_s_e _ _ _ _ hc,rowsG_step dc (el l) (by omega),← catS_cons]
    refine (drs_s_e _ _ _ _ ⟨by omega,by omega,by simp only [el_some,List.length_append,List.length_cons,List.length_nil]; omega,hc.2.2.2⟩).trans ?_
    first|rfl|(rw [getD_out (by assumption)]; rfl)|(trace_state; done)
   ·rw [drs_me,drs_me]; omega
  ·cases hs
 ·cases hs
noncomputable def P_drs:List LpE:=(22,([true,true,false,true,false],loopF Tryd.prog gl n0 10 drs_D drs_s))::P_drl
theorem P_drs_ok {G:Nat→Option Obj} (hst:StartOk Tryd.prog G gl H0 n0):LpsOk Tryd.prog G gl P_drs:=.cons Tryd.func22 drs_b drs_p (drs_c hst) (P_drl_ok hst)
def rowsD (dc:Int) (l:Option (List Drf)):Option (List Row):=some (rowsG dc (el l) (manyD l).toNat 0)
theorem drs_0 {dc:Int} {l:Option (List Drf)} (h0:0≤dc) (h1:dc≤255) (h:okD l):drs_s [encS rRw none,.int .i64 0,.int .u8 dc,encS rDr l]=some (0,[encS rRw (rowsD dc l)]):=by
 refine (drs_s_e none 0 dc l ⟨by decide,by unfold manyD; omega,rfl,h0,h1,h⟩).trans ?_
 rw [Int.sub_zero]
 unfold rowsD
 obtain ⟨m,hm⟩:∃ m:Nat,(manyD l).toNat=m+1:=⟨(manyD l).toNat - 1,by unfold manyD; omega⟩
 rw [hm]; rfl
noncomputable def U_drss:List (FuncId × FnC):=(52,conF Tryd.prog [.a [4,11,8]] drw_s [.a [22,8]])::L0
theorem U_drss_ok {G:Nat→Option Obj} (hst:StartOk Tryd.prog G gl H0 n0):ConsOk Tryd.prog G gl U_drss:=(.cons (drw_c hst) .nil)
def drss_s:List U→Option (Nat × List U)
 | [.int .u8 dc,u_l]=>(decS rDr u_l).bind fun l=>if 0≤dc∧dc≤255∧okD l then some (0,[encS rRw (rowsD dc l)]) else none
 | _=>none
theorem drss_s_e (dc:Int) (l:(Option (List (Int × (Option (List Int)) × Bool)))) (hc:0≤dc∧dc≤255∧okD l):drss_s [.int .u8 dc,encS rDr l]=some (0,[encS rRw (rowsD dc l)]):=by
 simp only [drss_s,decS_enc,Option.bind_some]
 exact if_pos hc
def drss_t:Tr:=.dt 12 (.nilw 2) [] <| .fn drs_s [h 2 12,.int .i64 (0),h 0 4,h 1 13] 1 <| .ret [h 3 12]
theorem drss_c {G:Nat→Option Obj} (hst:StartOk Tryd.prog G gl H0 n0):ConOk Tryd.prog G 22 [.a [4,13]] drss_s [.s 12]:=by
 refine con_of_tree (C:=cx U_drss P_drs) (d:=60) drss_t (cxg (U_drss_ok hst) (P_drs_ok hst)) hst ⟨Tryd.f22,_,Tryd.func22,rfl⟩ (by kernel_rfl) (by kernel_rfl) ?_
 intro us outs hs
 unfold drss_s at hs
 split at hs
 ·skip
  rename_i dc u_l
  have hq_l:=Option.bind_eq_some_iff.1 hs
  clear hs
  obtain ⟨l,hd_l,hs⟩:=hq_l
  replace hd_l:=decS_eq hd_l
  subst hd_l
  split at hs
  ·rename_i hc
   cases hs
   unfold drss_t
   refine s0 (.cons 1 _ (.cons 0 _ (.nil))) rfl (by simp [Ev.ok,Ev.len]) ?_
   refine s2 (r:=rRw) (ev_nilwS rfl) rfl rfl ?_
   refine s31 (drs_0 (by omega) (by omega) hc.2.2) rfl ?_
   refine s7 [encS rRw _] rfl ?_
   first|rfl|(trace_state; done)
  ·cases hs
 ·cases hs
end Go.Proofs.YtdkdbjgkedahfaaDoor

set_option linter.unusedSimpArgs false
set_option linter.unusedVariables false
namespace Go.Proofs.YtdkdbjgkedahfaaDoor
set_option linter.all false
open Go Go.Sx
theorem bk_spec {rows:Option (List Row)} {w own lo:Int}:∀ (n:Nat) (k r c:Int),(k - lo+1).toNat=n→lo≤k+1→∃ j,lo≤j∧j≤k+1∧(∀ i,j≤i→i≤k→clsK rows w i=own)∧(j=lo∨clsK rows w (j - 1)≠own)∧((j=k+1∧(bkN rows w own lo n k r c).2=(r,c))∨(j≤k∧(bkN rows w own lo n k r c).2=(j / w,j % w)))
 | 0,k,r,c,hn,hk=>⟨lo,Int.le_refl _,hk,fun i _ _=>by omega,.inl rfl,.inl ⟨by omega,rfl⟩⟩
 | n+1,k,r,c,hn,hk=>by
   unfold bkN
   rw [if_neg (by omega)]
   split
   ·rename_i h
    obtain ⟨j,h1,h2,h3,h4,h5⟩:=bk_spec (rows:=rows) (w:=w) (own:=own) (lo:=lo) n (k - 1) (k / w) (k % w) (by omega) (by omega)
    refine ⟨j,h1,by omega,fun i a b=>?_,h4,.inr ⟨by omega,?_⟩⟩
    ·by_cases hik:i=k
     ·rw [hik]; exact h
     ·exact h3 i a (by omega)
    ·rcases h5 with ⟨e,q⟩|⟨_,q⟩
     ·rw [q,e,show k - 1+1=k by omega]
     ·exact q
   ·rename_i h
    exact ⟨k+1,by omega,Int.le_refl _,fun i _ _=>by omega,.inr (by rw [show k+1 - 1=k by omega]; exact h),.inl ⟨rfl,rfl⟩⟩
theorem fw_spec {rows:Option (List Row)} {w own hi:Int}:∀ (n:Nat) (k r c:Int),(hi - k).toNat=n→k≤hi→∃ m,k - 1≤m∧m < hi∧(∀ i,k≤i→i≤m→clsK rows w i=own)∧(m+1=hi∨clsK rows w (m+1)≠own)∧((m=k - 1∧(fwN rows w own hi n k r c).2=(r,c))∨(k≤m∧(fwN rows w own hi n k r c).2=(m / w,m % w)))
 | 0,k,r,c,hn,hk=>⟨k - 1,Int.le_refl _,by omega,fun i _ _=>by omega,.inl (by omega),.inl ⟨rfl,rfl⟩⟩
 | n+1,k,r,c,hn,hk=>by
   unfold fwN
   rw [if_neg (by omega)]
   split
   ·rename_i h
    obtain ⟨j,h1,h2,h3,h4,h5⟩:=fw_spec (rows:=rows) (w:=w) (own:=own) (hi:=hi) n (k+1) (k / w) (k % w) (by omega) (by omega)
    refine ⟨j,by omega,h2,fun i a b=>?_,h4,.inr ⟨by omega,?_⟩⟩
    ·by_cases hik:i=k
     ·rw [hik]; exact h
     ·exact h3 i (by omega) b
    ·rcases h5 with ⟨e,q⟩|⟨_,q⟩
     ·rw [q,e,show k+1 - 1=k by omega]
     ·exact q
   ·rename_i h
    exact ⟨k - 1,Int.le_refl _,by omega,fun i _ _=>by omega,.inr (by rw [show k - 1+1=k by omega]; exact h),.inl ⟨rfl,rfl⟩⟩
structure Run (f:Int→Int) (lo hi k j m:Int):Prop where
 a:lo≤j
 b:j≤k
 c:k≤m
 d:m < hi
 e:∀ i,j≤i→i≤m→f i=f k
 l:j=lo∨f (j - 1)≠f k
 r:m+1=hi∨f (m+1)≠f k
theorem Run.same {f:Int→Int} {lo hi k j m i j' m':Int} (h:Run f lo hi k j m) (h':Run f lo hi i j' m') (h0:j≤i) (h1:i≤m):j'=j∧m'=m:=by
 have e:=h.e i h0 h1
 obtain ⟨a,b,c,d,q,l,r⟩:=h
 obtain ⟨a',b',c',d',q',l',r'⟩:=h'
 constructor
 ·by_cases x:j' < j
  ·rcases l with l|l
   ·omega
   ·exact absurd ((q' (j - 1) (by omega) (by omega)).trans e) l
  ·by_cases y:j < j'
   ·rcases l' with l'|l'
    ·omega
    ·exact absurd ((q (j' - 1) (by omega) (by omega)).trans e.symm) l'
   ·omega
 ·by_cases x:m < m'
  ·rcases r with r|r
   ·omega
   ·exact absurd ((q' (m+1) (by omega) (by omega)).trans e) r
  ·by_cases y:m' < m
   ·rcases r' with r'|r'
    ·omega
    ·exact absurd ((q (m'+1) (by omega) (by omega)).trans e.symm) r'
   ·omega
theorem Run.left {f:Int→Int} {lo hi k j m j' m':Int} (h:Run f lo hi k j m) (h':Run f lo hi (j - 1) j' m') (h0:lo < j):m'+1=j:=by
 obtain ⟨a,b,c,d,q,l,r⟩:=h
 obtain ⟨a',b',c',d',q',l',r'⟩:=h'
 rcases l with l|l
 ·omega
 ·by_cases x:j≤m'
  ·have:=q' j (by omega) x
   rw [q j (Int.le_refl _) (by omega)] at this
   exact absurd this.symm l
  ·omega
theorem Run.right {f:Int→Int} {lo hi k j m j' m':Int} (h:Run f lo hi k j m) (h':Run f lo hi (m+1) j' m') (h0:m+1 < hi):j'=m+1:=by
 obtain ⟨a,b,c,d,q,l,r⟩:=h
 obtain ⟨a',b',c',d',q',l',r'⟩:=h'
 rcases r with r|r
 ·omega
 ·by_cases x:j'≤m
  ·have:=q' m (by omega) (by omega)
   rw [q m (by omega) (Int.le_refl _)] at this
   exact absurd this.symm r
  ·omega
theorem wr_below {l:List Row}:∀ (k x:Nat),fstN l k≤x→x < k→(l.getD x default).2=true
 | 0,x,_,h=>by omega
 | k+1,x,h,h2=>by
   unfold fstN at h
   split at h
   ·rename_i g
    by_cases e:x=k
    ·rw [e]; exact g
    ·exact wr_below k x h (by omega)
   ·omega
theorem wr_above {l:List Row}:∀ (f i x:Nat),i≤x→x < lstN l f i→(l.getD x default).2=true∧x+1 < l.length
 | 0,i,x,h,h2=>by unfold lstN at h2; omega
 | f+1,i,x,h,h2=>by
   unfold lstN at h2
   split at h2
   ·rename_i g
    by_cases e:x=i
    ·rw [e]; exact g
    ·exact wr_above f (i+1) x (by omega) h2
   ·omega
theorem line_up {l:List Row} {r:Int} (h0:0≤r) (h1:r < (l.length:Int)):∀ (d:Nat),r+d≤lstS l r→fstS l (r+d)=fstS l r∧lstS l (r+d)=lstS l r
 | 0,_=>by simp
 | d+1,h=>by
   obtain ⟨a,b⟩:=line_up h0 h1 d (by omega)
   have w:=wr_above (l:=l) (l.length - r.toNat) r.toNat (r+d).toNat (by omega) (by unfold lstS at h; omega)
   rw [show r+((d+1:Nat):Int)=r+d+1 by omega]
   constructor
   ·rw [fstS_go (by omega) (by rw [show r+(d:Int)+1 - 1=r+d by omega]; exact w.1),show r+(d:Int)+1 - 1=r+d by omega,a]
   ·rw [← b]; exact (lstS_go (by omega) w.1 (by omega)).symm
theorem line_down {l:List Row} {r:Int} (h0:0≤r) (h1:r < (l.length:Int)):∀ (d:Nat),fstS l r≤r - d→fstS l (r - d)=fstS l r∧lstS l (r - d)=lstS l r
 | 0,_=>by simp
 | d+1,h=>by
   have hf:(0:Int)≤fstS l r:=by unfold fstS; omega
   obtain ⟨a,b⟩:=line_down h0 h1 d (by omega)
   have w:=wr_below (l:=l) r.toNat (r - (d+1)).toNat (by unfold fstS at h; omega) (by omega)
   rw [show r - ((d+1:Nat):Int)=r - (d+1) by omega]
   constructor
   ·rw [← a,fstS_go (i:=r - d) (by omega) (by rw [show r - (d:Int) - 1=r - (d+1) by omega]; exact w),show r - (d:Int) - 1=r - (d+1) by omega]
   ·rw [← b,lstS_go (i:=r - (d+1)) (by omega) w (by omega),show r - ((d:Int)+1)+1=r - d by omega]
theorem line_in {l:List Row} {r x:Int} (h0:0≤r) (h1:r < (l.length:Int)) (h2:fstS l r≤x) (h3:x≤lstS l r):fstS l x=fstS l r∧lstS l x=lstS l r:=by
 by_cases h:r≤x
 ·have:=line_up h0 h1 (x - r).toNat (by omega)
  rwa [show r+((x - r).toNat:Int)=x by omega] at this
 ·have:=line_down h0 h1 (r - x).toNat (by omega)
  rwa [show r - ((r - x).toNat:Int)=x by omega] at this
theorem div_in {k w f t:Int} (hw:0 < w) (h0:f * w≤k) (h1:k < (t+1) * w):f≤k / w∧k / w≤t:=by
 refine ⟨(Int.le_ediv_iff_mul_le hw).2 h0,?_⟩
 have:=(Int.ediv_lt_iff_lt_mul hw).2 h1
 omega
theorem div_mod (k w:Int):k / w * w+k % w=k:=by rw [Int.mul_comm]; exact Int.mul_ediv_add_emod k w
def loK (rows:Option (List Row)) (k:Int):Int:=fstS (el rows) (k / colN rows) * colN rows
def hiK (rows:Option (List Row)) (k:Int):Int:=(lstS (el rows) (k / colN rows)+1) * colN rows
theorem word_run {rows:Option (List Row)} {k:Int} (h:chkS rows=0) (h0:0≤k) (h1:k < ((el rows).length:Int) * colN rows):∃ j m,Run (clsK rows (colN rows)) (loK rows k) (hiK rows k) k j m∧wbkS rows (k / colN rows) (k % colN rows)=(j / colN rows,j % colN rows)∧wfdS rows (k / colN rows) (k % colN rows)=(m / colN rows,m % colN rows):=by
 have hc:=chk_col h
 have hr:=cell_bd h0 (by omega) h1
 have hf:=wf_of (rows:=rows) rfl h hr.1 hr.2.1 hr.2.2.1 hr.2.2.2
 have e:=div_mod k (colN rows)
 have k0:=hf.k0
 have k1:=hf.k1
 rw [e] at k0 k1
 obtain ⟨j,a1,a2,a3,a4,a5⟩:=bk_spec (rows:=rows) (w:=colN rows) (own:=clsK rows (colN rows) k) (lo:=loK rows k) (k - loK rows k+1).toNat k 0 0 rfl (by unfold loK; omega)
 obtain ⟨m,b1,b2,b3,b4,b5⟩:=fw_spec (rows:=rows) (w:=colN rows) (own:=clsK rows (colN rows) k) (hi:=hiK rows k) (hiK rows k - k).toNat k 0 0 rfl (by unfold hiK; omega)
 have hj:j≤k:=by
  by_cases q:j=k+1
  ·rcases a4 with x|x
   ·unfold loK at x; omega
   ·rw [q,show k+1 - 1=k by omega] at x; exact absurd rfl x
  ·omega
 have hm:k≤m:=by
  by_cases q:m=k - 1
  ·rcases b4 with x|x
   ·unfold hiK at x; omega
   ·rw [q,show k - 1+1=k by omega] at x; exact absurd rfl x
  ·omega
 refine ⟨j,m,⟨a1,hj,hm,b2,fun i x y=>?_,a4,b4⟩,?_,?_⟩
 ·by_cases z:i≤k
  ·exact a3 i x z
  ·exact b3 i (by omega) y
 ·unfold wbkS
  rw [e]
  rcases a5 with ⟨x,_⟩|⟨_,x⟩
  ·omega
  ·exact x
 ·unfold wfdS
  rw [e]
  rcases b5 with ⟨x,_⟩|⟨_,x⟩
  ·omega
  ·exact x
theorem lo_same {rows:Option (List Row)} {k i:Int} (h:chkS rows=0) (h0:0≤k) (h1:k < ((el rows).length:Int) * colN rows) (h2:loK rows k≤i) (h3:i < hiK rows k):loK rows i=loK rows k∧hiK rows i=hiK rows k∧0≤i∧i < ((el rows).length:Int) * colN rows:=by
 have hc:=chk_col h
 have hr:=cell_bd h0 (by omega) h1
 have hf:=wf_of (rows:=rows) rfl h hr.1 hr.2.1 hr.2.2.1 hr.2.2.2
 obtain ⟨a,b⟩:=div_in (by omega) h2 h3
 obtain ⟨e1,e2⟩:=line_in hr.1 hr.2.1 a b
 unfold loK hiK at *
 refine ⟨by rw [e1],by rw [e2],?_,?_⟩
 ·have:=Int.mul_nonneg hf.f0 (show (0:Int)≤colN rows by omega); omega
 ·have:=Int.mul_le_mul_of_nonneg_right (a:=lstS (el rows) (k / colN rows)+1) (b:=((el rows).length:Int)) (c:=colN rows) (by have:=hf.l1; omega) (by omega)
  omega
end Go.Proofs.YtdkdbjgkedahfaaDoor

set_option linter.unusedSimpArgs false
set_option linter.unusedVariables false
namespace Go.Proofs.YtdkdbjgkedahfaaDoor
set_option linter.all false
open Go Go.Sx
def okC (c:Cel):Prop:=celC c=0∧wdC c≠2∧aOk c
instance (c:Cel):Decidable (okC c):=by unfold okC; infer_instance
theorem sgn_all:∀ x ∈ List.range 256,okC (sgnS (x:Nat) ((x:Nat) / 32)):=by decide +kernel
theorem blank_ok:okC (32,0,0,0,0,0,0,0,0,0,0,0):=by decide +kernel
theorem sgnA_ok {b:List Int} (h:∀ x ∈ b,0≤x∧x≤255) (i:Int):okC (sgnA b i):=by
 have hb:=getB_bd h i.toNat
 unfold sgnA
 split
 ·have:=sgn_all (b.getD i.toNat default).toNat (List.mem_range.2 (by omega))
  rwa [show (((b.getD i.toNat default).toNat:Nat):Int)=b.getD i.toNat default by omega] at this
 ·exact blank_ok
theorem wid_32:widS 32=1:=by decide
theorem cel_sty {c:Cel} (h:celC c=0):styS (c.2.2.2.2.1) (c.2.2.2.2.2.1) (c.2.2.2.2.2.2.1) (c.2.2.2.2.2.2.2.1) (c.2.2.2.2.2.2.2.2.1) (c.2.2.2.2.2.2.2.2.2.1) (c.2.2.2.2.2.2.2.2.2.2.1) (c.2.2.2.2.2.2.2.2.2.2.2)=0:=by
 unfold celC celS at h
 split at h
 ·rename_i g; exact g.2
 ·cases h
theorem blk_ok {c:Cel} (h:okC c):celC (blkC c)=0∧wdC (blkC c)=0∧aOk (blkC c):=by
 refine ⟨?_,rfl,h.2.2⟩
 have e:styS _ _ _ _ _ _ _ _=0:=cel_sty h.1
 show celS 32 0 0 0 _ _ _ _ _ _ _ _=0
 unfold celS
 rw [if_pos ⟨by unfold fitP; rw [wid_32]; omega,e⟩]
theorem sec_ok {c:Cel} (h:okC c):celC (secC c)=0∧wdC (secC c)=2∧aOk (secC c):=by
 refine ⟨?_,rfl,h.2.2⟩
 have e:styS _ _ _ _ _ _ _ _=0:=cel_sty h.1
 show celS 0 0 0 2 _ _ _ _ _ _ _ _=0
 unfold celS
 rw [if_pos ⟨by unfold fitP; omega,e⟩]
theorem st_refl (c:Cel):stEq (secC c) c=true:=by
 show stEq (0,0,0,2,c.2.2.2.2) c=true
 unfold stEq; simp
theorem go_one {c l:Cel} {r:List Cel} (h:celC c=0) (h2:wdC c≠2) (hl:wdC l≠1):rowGo (c::r) l=rowGo r c:=by
 rw [rowGo,if_neg]
 rintro (q|q|q)
 ·exact q h
 ·rw [decide_eq_false hl,decide_eq_false h2] at q; exact q rfl
 ·exact h2 q.1
theorem go_two {c l:Cel} {r:List Cel} (h:okC c) (h2:wdC c=1) (hl:wdC l≠1):rowGo (c::secC c::r) l=rowGo r (secC c):=by
 rw [go_one h.1 (by omega) hl,rowGo,if_neg]
 have:=sec_ok h
 rintro (q|q|q)
 ·exact q this.1
 ·rw [decide_eq_true h2,decide_eq_true this.2.1] at q; exact q rfl
 ·rw [st_refl c] at q; cases q.2
theorem rowF_len (b:List Int):∀ (n:Nat) (i:Int),(rowF b n i).length=n
 | 0,_=>rfl
 | 1,_=>rfl
 | n+2,i=>by
   unfold rowF
   split
   ·simp [rowF_len b n (i+1)]
   ·simp [rowF_len b (n+1) (i+1)]
theorem rowF_go {b:List Int} (h:∀ x ∈ b,0≤x∧x≤255):∀ (n:Nat) (i:Int) (l:Cel),wdC l≠1→∃ c,rowGo (rowF b n i) l=some c∧wdC c≠1
 | 0,_,l,hl=>⟨l,rfl,hl⟩
 | 1,i,l,hl=>by
   have a:=sgnA_ok h i
   unfold rowF
   by_cases q:wdC (sgnA b i)=1
   ·rw [if_pos q]
    have z:=blk_ok a
    exact ⟨_,(go_one z.1 (by omega) hl).trans rfl,by omega⟩
   ·rw [if_neg q]
    exact ⟨_,(go_one a.1 a.2.1 hl).trans rfl,q⟩
 | n+2,i,l,hl=>by
   have a:=sgnA_ok h i
   unfold rowF
   by_cases q:wdC (sgnA b i)=1
   ·rw [if_pos q,go_two a q hl]
    exact rowF_go h n (i+1) _ (by have:=(sec_ok a).2.1; omega)
   ·rw [if_neg q,go_one a.1 a.2.1 hl]
    exact rowF_go h (n+1) (i+1) _ q
theorem rowF_a {b:List Int} (h:∀ x ∈ b,0≤x∧x≤255):∀ (n:Nat) (i:Int),∀ c ∈ rowF b n i,aOk c
 | 0,_,c,hc=>nomatch hc
 | 1,i,c,hc=>by
   have a:=sgnA_ok h i
   unfold rowF at hc
   split at hc
   ·rw [List.mem_singleton.1 hc]; exact (blk_ok a).2.2
   ·rw [List.mem_singleton.1 hc]; exact a.2.2
 | n+2,i,c,hc=>by
   have a:=sgnA_ok h i
   unfold rowF at hc
   split at hc
   ·rcases List.mem_cons.1 hc with e|e
    ·rw [e]; exact a.2.2
    ·rcases List.mem_cons.1 e with e|e
     ·rw [e]; exact (sec_ok a).2.2
     ·exact rowF_a h n (i+1) c e
   ·rcases List.mem_cons.1 hc with e|e
    ·rw [e]; exact a.2.2
    ·exact rowF_a h (n+1) (i+1) c e
theorem rowD_ok {dc:Int} {b:Option (List Int)} (h:okB b) (h0:0≤dc) (h1:dc≤255) (wr:Bool):rowS (el (rowD dc b wr).1)=0∧((el (rowD dc b wr).1).length:Int)=colD dc∧∀ c ∈ el (rowD dc b wr).1,aOk c:=by
 have hd:2≤colD dc∧colD dc≤80:=by unfold colD; omega
 have hn:((rowF (el b) (colD dc).toNat 0).length:Int)=colD dc:=by rw [rowF_len]; omega
 refine ⟨?_,hn,rowF_a h.1 _ _⟩
 obtain ⟨c,e,w⟩:=rowF_go h.1 (colD dc).toNat 0 (0,0,0,0,0,0,0,0,0,0,0,0) (by decide)
 show rowS (rowF (el b) (colD dc).toNat 0)=0
 unfold rowS
 rw [if_neg (by omega),e]
 exact if_neg w
theorem rowsG_mem {dc:Int} {l:List Drf}:∀ (n:Nat) (i:Int) (r:Row),r ∈ rowsG dc l n i→∃ k:Nat,r=rowX dc (l.getD k default)
 | 0,_,_,h=>nomatch h
 | n+1,i,r,h=>by
   rcases List.mem_cons.1 h with e|e
   ·exact ⟨i.toNat,e⟩
   ·exact rowsG_mem n (i+1) r e
theorem rowsG_len {dc:Int} {l:List Drf}:∀ (n:Nat) (i:Int),(rowsG dc l n i).length=n
 | 0,_=>rfl
 | n+1,i=>by simp [rowsG,rowsG_len n (i+1)]
theorem rowsD_ok {dc:Int} {l:Option (List Drf)} (h:okD l) (h0:0≤dc) (h1:dc≤255):chkS (rowsD dc l)=0∧aRows (rowsD dc l)∧colN (rowsD dc l)=colD dc:=by
 have hr:∀ r ∈ el (rowsD dc l),rowS (el r.1)=0∧((el r.1).length:Int)=colD dc∧∀ c ∈ el r.1,aOk c:=by
  intro r hr
  obtain ⟨k,rfl⟩:=rowsG_mem _ _ r hr
  exact rowD_ok (okD_get h k) h0 h1 _
 have hl:((el (rowsD dc l)).length:Int)=manyD l:=by
  show ((rowsG dc (el l) (manyD l).toNat 0).length:Int)=_
  rw [rowsG_len]; unfold manyD; omega
 have hm:1≤manyD l∧manyD l≤12:=by unfold manyD; omega
 have hc:colN (rowsD dc l)=colD dc:=by
  have:=hr _ (getD_mem (l:=el (rowsD dc l)) (i:=0) (by decide) (by omega))
  exact this.2.1
 refine ⟨?_,fun r h=>(hr r h).2.2,hc⟩
 unfold chkS
 rw [if_neg (by omega),if_neg]
 intro h
 obtain ⟨r,h2,h3⟩:=List.any_eq_true.1 h
 have:=hr r h2
 rw [badR_n (by omega) (by rw [hc]; omega)] at h3
 cases h3
end Go.Proofs.YtdkdbjgkedahfaaDoor

set_option linter.unusedSimpArgs false
set_option linter.unusedVariables false
namespace Go.Proofs.YtdkdbjgkedahfaaDoor
set_option linter.all false
open Go Go.Sx
def jK (rows:Option (List Row)) (k:Int):Int:=(wbkS rows (k / colN rows) (k % colN rows)).1 * colN rows+(wbkS rows (k / colN rows) (k % colN rows)).2
def mK (rows:Option (List Row)) (k:Int):Int:=(wfdS rows (k / colN rows) (k % colN rows)).1 * colN rows+(wfdS rows (k / colN rows) (k % colN rows)).2
def inK (rows:Option (List Row)) (k:Int):Prop:=chkS rows=0∧aRows rows∧0≤k∧k < ((el rows).length:Int) * colN rows
instance (rows:Option (List Row)) (k:Int):Decidable (inK rows k):=by unfold inK; infer_instance
theorem run_at {rows:Option (List Row)} {k:Int} (h:inK rows k):Run (clsK rows (colN rows)) (loK rows k) (hiK rows k) k (jK rows k) (mK rows k)∧wbkS rows (k / colN rows) (k % colN rows)=(jK rows k / colN rows,jK rows k % colN rows)∧wfdS rows (k / colN rows) (k % colN rows)=(mK rows k / colN rows,mK rows k % colN rows):=by
 obtain ⟨j,m,hr,e1,e2⟩:=word_run h.1 h.2.2.1 h.2.2.2
 have ej:jK rows k=j:=by unfold jK; rw [e1]; exact div_mod _ _
 have em:mK rows k=m:=by unfold mK; rw [e2]; exact div_mod _ _
 rw [ej,em]
 exact ⟨hr,e1,e2⟩
theorem in_of {rows:Option (List Row)} {k i:Int} (h:inK rows k) (h0:loK rows k≤i) (h1:i < hiK rows k):inK rows i∧loK rows i=loK rows k∧hiK rows i=hiK rows k:=by
 obtain ⟨a,b,c,d⟩:=lo_same h.1 h.2.2.1 h.2.2.2 h0 h1
 exact ⟨⟨h.1,h.2.1,c,d⟩,a,b⟩
theorem word_same {rows:Option (List Row)} {k i:Int} (h:inK rows k) (h0:jK rows k≤i) (h1:i≤mK rows k):inK rows i∧jK rows i=jK rows k∧mK rows i=mK rows k:=by
 have r:=(run_at h).1
 obtain ⟨hi,e1,e2⟩:=in_of (i:=i) h (by have:=r.a; omega) (by have:=r.d; omega)
 have r':=(run_at hi).1
 rw [e1,e2] at r'
 exact ⟨hi,r.same r' h0 h1⟩
theorem word_left {rows:Option (List Row)} {k:Int} (h:inK rows k) (h0:loK rows k < jK rows k):inK rows (jK rows k - 1)∧mK rows (jK rows k - 1)+1=jK rows k:=by
 have r:=(run_at h).1
 obtain ⟨hi,e1,e2⟩:=in_of (i:=jK rows k - 1) h (by omega) (by have:=r.b; have:=r.c; have:=r.d; omega)
 have r':=(run_at hi).1
 rw [e1,e2] at r'
 exact ⟨hi,r.left r' h0⟩
theorem word_right {rows:Option (List Row)} {k:Int} (h:inK rows k) (h0:mK rows k+1 < hiK rows k):inK rows (mK rows k+1)∧jK rows (mK rows k+1)=mK rows k+1:=by
 have r:=(run_at h).1
 obtain ⟨hi,e1,e2⟩:=in_of (i:=mK rows k+1) h (by have:=r.a; have:=r.b; have:=r.c; omega) h0
 have r':=(run_at hi).1
 rw [e1,e2] at r'
 exact ⟨hi,r.right r' h0⟩
theorem pos_at {rows:Option (List Row)} {k e:Int} (h:inK rows k) (he:e=0∨e=1):posE rows e (k / colN rows) (k % colN rows)=0:=by
 have hc:=chk_col h.1
 have hr:=cell_bd h.2.2.1 (by omega) h.2.2.2
 exact pos_c (fun q=>q h.1) (by omega)
theorem wrd_at {rows:Option (List Row)} {k W:Int} (h:inK rows k) (hW:W=colN rows):wrd_s [encS rRw rows,.int .i64 (k / W),.int .i64 (k % W)]=some (0,[.int .i64 (jK rows k / W),.int .i64 (jK rows k % W),.int .i64 (mK rows k / W),.int .i64 (mK rows k % W+1),.int .i64 0]):=by
 subst hW
 obtain ⟨_,e1,e2⟩:=run_at h
 refine (wrd_s_e _ _ _ h.2.1).trans ?_
 unfold ifE
 rw [pos_at h (.inr rfl),if_pos rfl,if_pos rfl,if_pos rfl,if_pos rfl,e1,e2]
theorem lne_at {rows:Option (List Row)} {k W:Int} (h:inK rows k) (hW:W=colN rows):lne_s [encS rRw rows,.int .i64 (k / W),.int .i64 (k % W)]=some (0,[.int .i64 (fstS (el rows) (k / W)),.int .i64 0,.int .i64 (lstS (el rows) (k / W)),.int .i64 W,.int .i64 0]):=by
 subst hW
 refine (lne_s_e _ _ _ h.2.1).trans ?_
 unfold ifE
 rw [pos_at h (.inl rfl),if_pos rfl,if_pos rfl,if_pos rfl]
theorem nums {rows:Option (List Row)} {k W:Int} (h:inK rows k) (hW:W=colN rows):2≤W∧W≤80∧1≤((el rows).length:Int)∧((el rows).length:Int)≤140∧0≤k∧k < ((el rows).length:Int) * W∧((el rows).length:Int) * W≤11200∧k / W * W+k % W=k∧0≤k / W∧k / W < ((el rows).length:Int)∧0≤k % W∧k % W < W∧0≤k / W * W:=by
 subst hW
 have hc:=chk_col h.1
 have hl:=chk_len h.1
 have hr:=cell_bd h.2.2.1 (by omega) h.2.2.2
 have e:=div_mod k (colN rows)
 have m:=mul_bd (a:=((el rows).length:Int)) (b:=colN rows) (A:=140) (B:=80) (by omega) (by omega) (by omega) (by omega)
 have n:=Int.mul_nonneg hr.1 (show (0:Int)≤colN rows by omega)
 have h0:=h.2.2.1
 have h1:=h.2.2.2
 exact ⟨by omega,by omega,by omega,by omega,h0,h1,by omega,e,hr.1,hr.2.1,hr.2.2.1,hr.2.2.2,n⟩
theorem numsW {rows:Option (List Row)} {k W:Int} (h:inK rows k) (hW:W=colN rows):fstS (el rows) (k / W) * W≤jK rows k∧jK rows k≤k∧k≤mK rows k∧mK rows k+1≤lstS (el rows) (k / W) * W+W∧0≤fstS (el rows) (k / W) * W∧0≤lstS (el rows) (k / W) * W∧lstS (el rows) (k / W) * W+W≤11200:=by
 subst hW
 obtain ⟨r,_,_⟩:=run_at h
 have hc:=chk_col h.1
 have hr:=cell_bd h.2.2.1 (by omega) h.2.2.2
 have hf:=wf_of (rows:=rows) rfl h.1 hr.1 hr.2.1 hr.2.2.1 hr.2.2.2
 have a:=r.a; have b:=r.b; have c:=r.c; have d:=r.d
 have f0:=hf.f0; have l0:=hf.l0; have l1:=hf.l1; have n1:=hf.n1
 have m:=mul_bd (a:=lstS (el rows) (k / colN rows)+1) (b:=colN rows) (A:=140) (B:=80) (by omega) (by omega) (by omega) (by omega)
 have p:=Int.mul_nonneg f0 (show (0:Int)≤colN rows by omega)
 have q:=Int.mul_nonneg (show 0≤lstS (el rows) (k / colN rows) by omega) (show (0:Int)≤colN rows by omega)
 unfold loK at a
 unfold hiK at d
 rw [Int.add_mul,Int.one_mul] at d m
 omega
theorem in_mod {rows:Option (List Row)} {n W:Int} (h:chkS rows=0) (ha:aRows rows) (hW:W=colN rows) (h0:0≤n):inK rows (n % (((el rows).length:Int) * W)):=by
 subst hW
 have hc:=chk_col h
 have hl:=chk_len h
 have m:=Int.mul_pos (a:=((el rows).length:Int)) (b:=colN rows) (by omega) (by omega)
 exact ⟨h,ha,Int.emod_nonneg _ (by omega),Int.emod_lt_of_pos _ m⟩
end Go.Proofs.YtdkdbjgkedahfaaDoor
