/- The law ParamParses: for every input the call returns true, and the arguments read behind it as they read before. No condition. -/
import Derived.Test.YtadmkfclgpbebaaDoorX8
namespace Go.Proofs.YtadmkfclgpbebaaDoor
set_option linter.all false
open Go Go.Sx
set_option maxRecDepth 100000
set_option linter.unusedVariables false
set_option linter.unusedSimpArgs false
abbrev Rws:=Option (List (Option (List Int)))
abbrev lastP (l:Rws):Option (List Int):=(el l).getD (((el l).length:Int) - 1).toNat default
abbrev lastN (p:Option (List Int)):Int:=(el p).getD (((el p).length:Int) - 1).toNat default
abbrev cutL {α:Type} (l:Option (List α)):List α:=el (subS l 0 (((el l).length:Int) - 1).toNat)
abbrev allL {α:Type} (l:Option (List α)):List α:=el (subS l 0 ((el l).length:Int).toNat)
def digV (n c:Int):Int:=min (max 0 n * 10+(c - 48)) 9999
def stepS (l:Rws) (c:Int):Rws × Int :=
 if checkS l≠0 then (none,checkS l) else
 if ((el l).length:Int)=0 then
  if c=59 then (some [some [-1],some [-1]],0)
  else if c=58 then (some [some [-1,-1]],0)
  else if 48≤c∧c≤57 then (some [some [digV (-1) c]],0)
  else (none,6)
 else if c=59∧((el l).length:Int) < 16 then (some (allL l++[some [-1]]),0)
 else if c=58∧((el (lastP l)).length:Int) < 6 then (some (cutL l++[some (allL (lastP l)++[-1])]),0)
 else if c=59∨c=58 then (none,3)
 else if 48≤c∧c≤57 then (some (cutL l++[some (cutL (lastP l)++[digV (lastN (lastP l)) c])]),0)
 else (none,6)
theorem check_bd (l:Rws):checkS l=150∨checkS l=0∧(el l).length≤16∧∀ p ∈ el l,1≤(el p).length∧(el p).length≤6∧∀ n ∈ el p,-1≤n∧n≤9999:=by
 unfold checkS
 by_cases h:16 < (el l).length∨emptyP l=true∨(el l).any badP=true
 ·exact .inl (if_pos h)
 ·refine .inr ⟨if_neg h,by omega,fun p hp=>?_⟩
  have hb:badP p=false:=by
   have h3:(el l).any badP=false:=by
    cases h4:(el l).any badP with
    | true=>exact absurd (.inr (.inr h4)) h
    | false=>rfl
   simpa using List.any_eq_false.1 h3 p hp
  unfold badP at hb
  rw [Bool.or_eq_false_iff,Bool.or_eq_false_iff] at hb
  obtain ⟨h1,h2,h3⟩:=hb
  have h1:=of_decide_eq_false h1
  have h2:=of_decide_eq_false h2
  refine ⟨by omega,by omega,fun n hn=>?_⟩
  have:=List.any_eq_false.1 h3 n hn
  have:¬(n < -1∨9999 < n):=fun hh=>this (badI_t hh)
  omega
theorem lastN_bd (p:Option (List Int)) (h1:1≤(el p).length) (h:∀ n ∈ el p,-1≤n∧n≤9999) : -1≤lastN p∧lastN p≤9999:=all_get h (by omega) (by omega)
theorem sub_len {α:Type} (x:Option (List α)) (i j:Nat):(el (subS x i j)).length≤(el x).length:=by rw [el_subS,List.length_take,List.length_drop]; omega
theorem check_lp (l:Rws) (h:∀ p ∈ el l,(el p).length≤1000000000):checkS l=150∨checkS l=0∧(el l).length≤16∧(((el l).length:Int)=0∨1≤(el (lastP l)).length∧(el (lastP l)).length≤6 ∧ -1≤lastN (lastP l)∧lastN (lastP l)≤9999):=by
 rcases check_bd l with h|⟨h1,h2,h3⟩
 ·exact .inl h
 ·refine .inr ⟨h1,h2,?_⟩
  by_cases h0:((el l).length:Int)=0
  ·exact .inl h0
  ·obtain ⟨a,b,c⟩:=all_get (i:=((el l).length:Int) - 1) h3 (by omega) (by omega)
   have d:=lastN_bd _ a c
   exact .inr ⟨a,b,d.1,d.2⟩
theorem step_0 (l:Rws) (c:Int) (h:checkS l≠0):stepS l c=(none,checkS l):=if_pos h
theorem step_1 (l:Rws) (c:Int) (h:checkS l=0) (h0:((el l).length:Int)=0) (h1:c=59):stepS l c=(some [some [-1],some [-1]],0):=by unfold stepS; rw [if_neg (by omega),if_pos h0,if_pos h1]
theorem step_2 (l:Rws) (c:Int) (h:checkS l=0) (h0:((el l).length:Int)=0) (h1:c=58):stepS l c=(some [some [-1,-1]],0):=by unfold stepS; rw [if_neg (by omega),if_pos h0,if_neg (by omega),if_pos h1]
theorem step_3 (l:Rws) (c:Int) (h:checkS l=0) (h0:((el l).length:Int)=0) (h1:48≤c∧c≤57):stepS l c=(some [some [digV (-1) c]],0):=by unfold stepS; rw [if_neg (by omega),if_pos h0,if_neg (by omega),if_neg (by omega),if_pos h1]
theorem step_4 (l:Rws) (c:Int) (h:checkS l=0) (h1:c < 48∨59 < c):stepS l c=(none,6):=by
 unfold stepS
 rw [if_neg (by omega)]
 by_cases h0:((el l).length:Int)=0
 ·rw [if_pos h0,if_neg (by omega),if_neg (by omega),if_neg (by omega)]
 ·rw [if_neg h0,if_neg (by omega),if_neg (by omega),if_neg (by omega),if_neg (by omega)]
theorem step_5 (l:Rws) (c:Int) (h:checkS l=0) (h0:¬((el l).length:Int)=0) (h1:c=59) (h2:((el l).length:Int) < 16):stepS l c=(some (allL l++[some [-1]]),0):=by unfold stepS; rw [if_neg (by omega),if_neg h0,if_pos ⟨h1,h2⟩]
theorem step_6 (l:Rws) (c:Int) (h:checkS l=0) (h0:¬((el l).length:Int)=0) (h1:c=58) (h2:((el ((el l).getD (((el l).length:Int) - 1).toNat default)).length:Int) < 6):stepS l c=(some (cutL l++[some (allL (lastP l)++[-1])]),0):=by unfold stepS; rw [if_neg (by omega),if_neg h0,if_neg (by omega),if_pos ⟨h1,h2⟩]
theorem step_7 (l:Rws) (c:Int) (h:checkS l=0) (h0:¬((el l).length:Int)=0) (h1:c=59∧¬((el l).length:Int) < 16∨c=58∧¬((el ((el l).getD (((el l).length:Int) - 1).toNat default)).length:Int) < 6):stepS l c=(none,3):=by unfold stepS; unfold lastP; rw [if_neg (by omega),if_neg h0,if_neg (by omega),if_neg (by omega),if_pos (by omega)]
theorem step_8 (l:Rws) (c:Int) (h:checkS l=0) (h0:¬((el l).length:Int)=0) (h1:48≤c∧c≤57):stepS l c=(some (cutL l++[some (cutL (lastP l)++[digV (lastN (lastP l)) c])]),0):=by unfold stepS; rw [if_neg (by omega),if_neg h0,if_neg (by omega),if_neg (by omega),if_neg (by omega),if_pos h1]
noncomputable def U_stp:List (FuncId × FnC):=(22,conF Tryd.prog [.s 11] chk_s [.s 3])::L0
theorem U_stp_ok {G:Nat→Option Obj} (hst:StartOk Tryd.prog G gl H0 n0):ConsOk Tryd.prog G gl U_stp:=(.cons (chk_c hst) .nil)
def stp_s:List U→Option (Nat × List U)
 | [u_l,.int .u8 c]=>(decS rP u_l).bind fun l=>if (el l).length≤1000000000∧∀ p ∈ el l,(el p).length≤1000000000 then some (0,[encS rP ((stepS l c).1),.int .i64 ((stepS l c).2)]) else none
 | _=>none
theorem stp_s_e (l:(Option (List (Option (List Int))))) (c:Int) (hc:(el l).length≤1000000000∧∀ p ∈ el l,(el p).length≤1000000000):stp_s [encS rP l,.int .u8 c]=some (0,[encS rP ((stepS l c).1),.int .i64 ((stepS l c).2)]):=by
 simp only [stp_s,decS_enc,Option.bind_some]
 exact if_pos hc
def stp_t:Tr:=.fn chk_s [h 0 11] 1 <| .lt 8 (.bin .neq) [h 2 3,.int .i64 (0)] <| .br 3 (.dt 11 (.nilw 1) [] <| .ret [h 4 11,h 2 3]) (.lt 3 (.len) [h 0 11] <| .lt 8 (.bin .eql) [h 4 3,.int .i64 (0)] <| .br 5 (.lt 8 (.bin .eql) [h 1 4,.int .u8 (59)] <| .br 6 (.dt 11 (.mk 1) [.int .i64 (-1)] <| .dt 11 (.mk 1) [.int .i64 (-1)] <| .dt 11 (.mk 1) [h 7 11,h 8 11] <| .ret [h 9 11,.int .i64 (0)]) (.lt 8 (.bin .eql) [h 1 4,.int .u8 (58)] <| .br 7 (.dt 11 (.mk 1) [.int .i64 (-1),.int .i64 (-1)] <| .dt 11 (.mk 1) [h 8 11] <| .ret [h 9 11,.int .i64 (0)]) (.lt 8 (.bin .eql) [h 1 4,.int .u8 (59)] <| .br 8 (.dt 11 (.nilw 1) [] <| .ret [h 9 11,.int .i64 (3)]) (.lt 8 (.bin .eql) [h 1 4,.int .u8 (58)] <| .br 9 (.dt 11 (.nilw 1) [] <| .ret [h 10 11,.int .i64 (3)]) (.lt 8 (.bin .geq) [h 1 4,.int .u8 (48)] <| .br 10 (.lt 8 (.bin .leq) [h 1 4,.int .u8 (57)] <| .br 11 (.lt 4 (.bin .sub) [h 1 4,.int .u8 (48)] <| .lt 3 (.conv .i64) [h 12 4] <| .lt 3 (.bin .add) [.int .i64 (0),h 13 3] <| .lt 3 (.min) [h 14 3,.int .i64 (9999)] <| .dt 11 (.mk 1) [h 15 3] <| .dt 11 (.mk 1) [h 16 11] <| .ret [h 17 11,.int .i64 (0)]) (.dt 11 (.nilw 1) [] <| .ret [h 12 11,.int .i64 (6)])) (.dt 11 (.nilw 1) [] <| .ret [h 11 11,.int .i64 (6)])))))) (.lt 3 (.bin .sub) [h 4 3,.int .i64 (1)] <| .lt 8 (.inbs 1) [h 6 3,h 0 11] <| .br 7 (.dt 11 (.get 1 0) [h 0 11,h 6 3] <| .lt 8 (.bin .eql) [h 1 4,.int .u8 (59)] <| .br 9 (.lt 8 (.bin .lss) [h 4 3,.int .i64 (16)] <| .br 10 (.dt 11 (.subs 1) [h 0 11,.int .i64 (0),h 4 3] <| .dt 11 (.mk 1) [.int .i64 (-1)] <| .dt 11 (.snoc 1) [h 11 11,h 12 11] <| .ret [h 13 11,.int .i64 (0)]) (.lt 8 (.bin .eql) [h 1 4,.int .u8 (58)] <| .br 11 (.lt 3 (.len) [h 8 11] <| .lt 8 (.bin .lss) [h 12 3,.int .i64 (6)] <| .br 13 (.dt 11 (.subs 1) [h 8 11,.int .i64 (0),h 12 3] <| .dt 11 (.snoc 1) [h 14 11,.int .i64 (-1)] <| .lt 3 (.bin .sub) [h 4 3,.int .i64 (1)] <| .dt 11 (.subs 1) [h 0 11,.int .i64 (0),h 16 3] <| .dt 11 (.snoc 1) [h 17 11,h 15 11] <| .ret [h 18 11,.int .i64 (0)]) (.lt 8 (.bin .eql) [h 1 4,.int .u8 (59)] <| .br 14 (.dt 11 (.nilw 1) [] <| .ret [h 15 11,.int .i64 (3)]) (.lt 8 (.bin .eql) [h 1 4,.int .u8 (58)] <| .br 15 (.dt 11 (.nilw 1) [] <| .ret [h 16 11,.int .i64 (3)]) (.lt 8 (.bin .geq) [h 1 4,.int .u8 (48)] <| .br 16 (.lt 8 (.bin .leq) [h 1 4,.int .u8 (57)] <| .br 17 (.lt 3 (.bin .sub) [h 12 3,.int .i64 (1)] <| .lt 8 (.inbs 1) [h 18 3,h 8 11] <| .br 19 (.lt 3 (.get 1 0) [h 8 11,h 18 3] <| .lt 3 (.max) [.int .i64 (0),h 20 3] <| .lt 3 (.bin .mul) [h 21 3,.int .i64 (10)] <| .lt 4 (.bin .sub) [h 1 4,.int .u8 (48)] <| .lt 3 (.conv .i64) [h 23 4] <| .lt 3 (.bin .add) [h 22 3,h 24 3] <| .lt 3 (.min) [h 25 3,.int .i64 (9999)] <| .lt 3 (.bin .sub) [h 12 3,.int .i64 (1)] <| .dt 11 (.subs 1) [h 8 11,.int .i64 (0),h 27 3] <| .dt 11 (.snoc 1) [h 28 11,h 26 3] <| .lt 3 (.bin .sub) [h 4 3,.int .i64 (1)] <| .dt 11 (.subs 1) [h 0 11,.int .i64 (0),h 30 3] <| .dt 11 (.snoc 1) [h 31 11,h 29 11] <| .ret [h 32 11,.int .i64 (0)]) (.no)) (.dt 11 (.nilw 1) [] <| .ret [h 18 11,.int .i64 (6)])) (.dt 11 (.nilw 1) [] <| .ret [h 17 11,.int .i64 (6)]))))) (.lt 8 (.bin .eql) [h 1 4,.int .u8 (59)] <| .br 12 (.dt 11 (.nilw 1) [] <| .ret [h 13 11,.int .i64 (3)]) (.lt 8 (.bin .eql) [h 1 4,.int .u8 (58)] <| .br 13 (.dt 11 (.nilw 1) [] <| .ret [h 14 11,.int .i64 (3)]) (.lt 8 (.bin .geq) [h 1 4,.int .u8 (48)] <| .br 14 (.lt 8 (.bin .leq) [h 1 4,.int .u8 (57)] <| .br 15 (.lt 3 (.len) [h 8 11] <| .lt 3 (.bin .sub) [h 16 3,.int .i64 (1)] <| .lt 8 (.inbs 1) [h 17 3,h 8 11] <| .br 18 (.lt 3 (.get 1 0) [h 8 11,h 17 3] <| .lt 3 (.max) [.int .i64 (0),h 19 3] <| .lt 3 (.bin .mul) [h 20 3,.int .i64 (10)] <| .lt 4 (.bin .sub) [h 1 4,.int .u8 (48)] <| .lt 3 (.conv .i64) [h 22 4] <| .lt 3 (.bin .add) [h 21 3,h 23 3] <| .lt 3 (.min) [h 24 3,.int .i64 (9999)] <| .lt 3 (.bin .sub) [h 16 3,.int .i64 (1)] <| .dt 11 (.subs 1) [h 8 11,.int .i64 (0),h 26 3] <| .dt 11 (.snoc 1) [h 27 11,h 25 3] <| .lt 3 (.bin .sub) [h 4 3,.int .i64 (1)] <| .dt 11 (.subs 1) [h 0 11,.int .i64 (0),h 29 3] <| .dt 11 (.snoc 1) [h 30 11,h 28 11] <| .ret [h 31 11,.int .i64 (0)]) (.no)) (.dt 11 (.nilw 1) [] <| .ret [h 16 11,.int .i64 (6)])) (.dt 11 (.nilw 1) [] <| .ret [h 15 11,.int .i64 (6)])))))) (.lt 8 (.bin .eql) [h 1 4,.int .u8 (58)] <| .br 10 (.lt 3 (.len) [h 8 11] <| .lt 8 (.bin .lss) [h 11 3,.int .i64 (6)] <| .br 12 (.dt 11 (.subs 1) [h 8 11,.int .i64 (0),h 11 3] <| .dt 11 (.snoc 1) [h 13 11,.int .i64 (-1)] <| .lt 3 (.bin .sub) [h 4 3,.int .i64 (1)] <| .dt 11 (.subs 1) [h 0 11,.int .i64 (0),h 15 3] <| .dt 11 (.snoc 1) [h 16 11,h 14 11] <| .ret [h 17 11,.int .i64 (0)]) (.lt 8 (.bin .eql) [h 1 4,.int .u8 (59)] <| .br 13 (.dt 11 (.nilw 1) [] <| .ret [h 14 11,.int .i64 (3)]) (.lt 8 (.bin .eql) [h 1 4,.int .u8 (58)] <| .br 14 (.dt 11 (.nilw 1) [] <| .ret [h 15 11,.int .i64 (3)]) (.lt 8 (.bin .geq) [h 1 4,.int .u8 (48)] <| .br 15 (.lt 8 (.bin .leq) [h 1 4,.int .u8 (57)] <| .br 16 (.lt 3 (.bin .sub) [h 11 3,.int .i64 (1)] <| .lt 8 (.inbs 1) [h 17 3,h 8 11] <| .br 18 (.lt 3 (.get 1 0) [h 8 11,h 17 3] <| .lt 3 (.max) [.int .i64 (0),h 19 3] <| .lt 3 (.bin .mul) [h 20 3,.int .i64 (10)] <| .lt 4 (.bin .sub) [h 1 4,.int .u8 (48)] <| .lt 3 (.conv .i64) [h 22 4] <| .lt 3 (.bin .add) [h 21 3,h 23 3] <| .lt 3 (.min) [h 24 3,.int .i64 (9999)] <| .lt 3 (.bin .sub) [h 11 3,.int .i64 (1)] <| .dt 11 (.subs 1) [h 8 11,.int .i64 (0),h 26 3] <| .dt 11 (.snoc 1) [h 27 11,h 25 3] <| .lt 3 (.bin .sub) [h 4 3,.int .i64 (1)] <| .dt 11 (.subs 1) [h 0 11,.int .i64 (0),h 29 3] <| .dt 11 (.snoc 1) [h 30 11,h 28 11] <| .ret [h 31 11,.int .i64 (0)]) (.no)) (.dt 11 (.nilw 1) [] <| .ret [h 17 11,.int .i64 (6)])) (.dt 11 (.nilw 1) [] <| .ret [h 16 11,.int .i64 (6)]))))) (.lt 8 (.bin .eql) [h 1 4,.int .u8 (59)] <| .br 11 (.dt 11 (.nilw 1) [] <| .ret [h 12 11,.int .i64 (3)]) (.lt 8 (.bin .eql) [h 1 4,.int .u8 (58)] <| .br 12 (.dt 11 (.nilw 1) [] <| .ret [h 13 11,.int .i64 (3)]) (.lt 8 (.bin .geq) [h 1 4,.int .u8 (48)] <| .br 13 (.lt 8 (.bin .leq) [h 1 4,.int .u8 (57)] <| .br 14 (.lt 3 (.len) [h 8 11] <| .lt 3 (.bin .sub) [h 15 3,.int .i64 (1)] <| .lt 8 (.inbs 1) [h 16 3,h 8 11] <| .br 17 (.lt 3 (.get 1 0) [h 8 11,h 16 3] <| .lt 3 (.max) [.int .i64 (0),h 18 3] <| .lt 3 (.bin .mul) [h 19 3,.int .i64 (10)] <| .lt 4 (.bin .sub) [h 1 4,.int .u8 (48)] <| .lt 3 (.conv .i64) [h 21 4] <| .lt 3 (.bin .add) [h 20 3,h 22 3] <| .lt 3 (.min) [h 23 3,.int .i64 (9999)] <| .lt 3 (.bin .sub) [h 15 3,.int .i64 (1)] <| .dt 11 (.subs 1) [h 8 11,.int .i64 (0),h 25 3] <| .dt 11 (.snoc 1) [h 26 11,h 24 3] <| .lt 3 (.bin .sub) [h 4 3,.int .i64 (1)] <| .dt 11 (.subs 1) [h 0 11,.int .i64 (0),h 28 3] <| .dt 11 (.snoc 1) [h 29 11,h 27 11] <| .ret [h 30 11,.int .i64 (0)]) (.no)) (.dt 11 (.nilw 1) [] <| .ret [h 15 11,.int .i64 (6)])) (.dt 11 (.nilw 1) [] <| .ret [h 14 11,.int .i64 (6)])))))) (.no)))
theorem stp_c {G:Nat→Option Obj} (hst:StartOk Tryd.prog G gl H0 n0):ConOk Tryd.prog G 12 [.s 11,.s 4] stp_s [.s 11,.s 3]:=by
 refine con_of_tree (C:=cx U_stp P_cpy) (d:=60) stp_t (cxg (U_stp_ok hst) (P_cpy_ok hst)) hst ⟨Tryd.f12,_,Tryd.func12,rfl⟩ (by kernel_rfl) (by kernel_rfl) ?_
 intro us outs hs
 unfold stp_s at hs
 split at hs
 ·skip
  rename_i u_l c
  have hq_l:=Option.bind_eq_some_iff.1 hs
  clear hs
  obtain ⟨l,hd_l,hs⟩:=hq_l
  replace hd_l:=decS_eq hd_l
  subst hd_l
  split at hs
  ·rename_i hc
   cases hs
   have hb:=check_lp l hc.2
   unfold lastP lastN at hb
   unfold stp_t
   refine s0 (.cons 1 _ (.cons 0 _ (.nil))) rfl (by simp [Ev.ok,Ev.len]) ?_
   refine s31 (chk_s_e _ (by omega)) rfl ?_
   refine s1 (ev_neq _ _ _) rfl rfl rfl ?_
   refine s4 rfl (fun g0=>?_) fun g0=>?_
   ·refine s2 (r:=rP) (ev_nilwS rfl) rfl rfl ?_
    refine s7 [encS rP _,.int .i64 _] rfl ?_
    first|(rw [step_0 l c (by omega)]; done)|(rw [step_1 l c (by omega) (by omega) (by omega)]; done)|(rw [step_2 l c (by omega) (by omega) (by omega)]; done)|(rw [step_3 l c (by omega) (by omega) (by omega)]; rfl)|(rw [step_4 l c (by omega) (by omega)]; done)|(rw [step_5 l c (by omega) (by omega) (by omega) (by omega)]; rfl)|(rw [step_6 l c (by omega) (by omega) (by omega) (by omega)]; rfl)|(rw [step_7 l c (by omega) (by omega) (by omega)]; done)|(rw [step_8 l c (by omega) (by omega) (by omega)]; rfl)
   refine s1 (ev_lenS _ _) rfl rfl rfl ?_
   refine s1 (ev_eql _ _ _) rfl rfl rfl ?_
   refine s4 rfl (fun g1=>?_) fun g1=>?_
   ·refine s1 (ev_eql _ _ _) rfl rfl rfl ?_
    refine s4 rfl (fun g2=>?_) fun g2=>?_
    ·refine s2 (r:=rI) (ev_mkS [_] rfl (by decide) rfl) rfl rfl ?_
     refine s2 (r:=rI) (ev_mkS [_] rfl (by decide) rfl) rfl rfl ?_
     refine s2 (r:=rP) (ev_mkS [_,_] rfl (by decide) rfl) rfl rfl ?_
     refine s7 [encS rP _,.int .i64 _] rfl ?_
     first|(rw [step_0 l c (by omega)]; done)|(rw [step_1 l c (by omega) (by omega) (by omega)]; done)|(rw [step_2 l c (by omega) (by omega) (by omega)]; done)|(rw [step_3 l c (by omega) (by omega) (by omega)]; rfl)|(rw [step_4 l c (by omega) (by omega)]; done)|(rw [step_5 l c (by omega) (by omega) (by omega) (by omega)]; rfl)|(rw [step_6 l c (by omega) (by omega) (by omega) (by omega)]; rfl)|(rw [step_7 l c (by omega) (by omega) (by omega)]; done)|(rw [step_8 l c (by omega) (by omega) (by omega)]; rfl)
    refine s1 (ev_eql _ _ _) rfl rfl rfl ?_
    refine s4 rfl (fun g3=>?_) fun g3=>?_
    ·refine s2 (r:=rI) (ev_mkS [_,_] rfl (by decide) rfl) rfl rfl ?_
     refine s2 (r:=rP) (ev_mkS [_] rfl (by decide) rfl) rfl rfl ?_
     refine s7 [encS rP _,.int .i64 _] rfl ?_
     first|(rw [step_0 l c (by omega)]; done)|(rw [step_1 l c (by omega) (by omega) (by omega)]; done)|(rw [step_2 l c (by omega) (by omega) (by omega)]; done)|(rw [step_3 l c (by omega) (by omega) (by omega)]; rfl)|(rw [step_4 l c (by omega) (by omega)]; done)|(rw [step_5 l c (by omega) (by omega) (by omega) (by omega)]; rfl)|(rw [step_6 l c (by omega) (by omega) (by omega) (by omega)]; rfl)|(rw [step_7 l c (by omega) (by omega) (by omega)]; done)|(rw [step_8 l c (by omega) (by omega) (by omega)]; rfl)
    refine s1 (ev_eql _ _ _) rfl rfl rfl ?_
    refine s4 rfl (fun g4=>?_) fun g4=>?_
    ·refine s2 (r:=rP) (ev_nilwS rfl) rfl rfl ?_
     refine s7 [encS rP _,.int .i64 _] rfl ?_
     first|(rw [step_0 l c (by omega)]; done)|(rw [step_1 l c (by omega) (by omega) (by omega)]; done)|(rw [step_2 l c (by omega) (by omega) (by omega)]; done)|(rw [step_3 l c (by omega) (by omega) (by omega)]; rfl)|(rw [step_4 l c (by omega) (by omega)]; done)|(rw [step_5 l c (by omega) (by omega) (by omega) (by omega)]; rfl)|(rw [step_6 l c (by omega) (by omega) (by omega) (by omega)]; rfl)|(rw [step_7 l c (by omega) (by omega) (by omega)]; done)|(rw [step_8 l c (by omega) (by omega) (by omega)]; rfl)
    refine s1 (ev_eql _ _ _) rfl rfl rfl ?_
    refine s4 rfl (fun g5=>?_) fun g5=>?_
    ·refine s2 (r:=rP) (ev_nilwS rfl) rfl rfl ?_
     refine s7 [encS rP _,.int .i64 _] rfl ?_
     first|(rw [step_0 l c (by omega)]; done)|(rw [step_1 l c (by omega) (by omega) (by omega)]; done)|(rw [step_2 l c (by omega) (by omega) (by omega)]; done)|(rw [step_3 l c (by omega) (by omega) (by omega)]; rfl)|(rw [step_4 l c (by omega) (by omega)]; done)|(rw [step_5 l c (by omega) (by omega) (by omega) (by omega)]; rfl)|(rw [step_6 l c (by omega) (by omega) (by omega) (by omega)]; rfl)|(rw [step_7 l c (by omega) (by omega) (by omega)]; done)|(rw [step_8 l c (by omega) (by omega) (by omega)]; rfl)
    refine s1 (ev_geq _ _ _) rfl rfl rfl ?_
    refine s4 rfl (fun g6=>?_) fun g6=>?_
    ·refine s1 (ev_leq _ _ _) rfl rfl rfl ?_
     refine s4 rfl (fun g7=>?_) fun g7=>?_
     ·first|refine s1 (ev_subW (wrap8 (by omega) (by omega))) rfl rfl rfl ?_|refine s1 (ev_sub _ _ _) rfl rfl rfl ?_
      first|refine s1 (ev_convW (wrap64 (by omega) (by omega))) rfl rfl rfl ?_|refine s1 (ev_conv _ _ _) rfl rfl rfl ?_
      first|refine s1 (ev_addW (wrap64 (by omega) (by omega))) rfl rfl rfl ?_|refine s1 (ev_add _ _ _) rfl rfl rfl ?_
      refine s1 (ev_min _ _ _ _) rfl rfl rfl ?_
      refine s2 (r:=rI) (ev_mkS [_] rfl (by decide) rfl) rfl rfl ?_
      refine s2 (r:=rP) (ev_mkS [_] rfl (by decide) rfl) rfl rfl ?_
      refine s7 [encS rP _,.int .i64 _] rfl ?_
      first|(rw [step_0 l c (by omega)]; done)|(rw [step_1 l c (by omega) (by omega) (by omega)]; done)|(rw [step_2 l c (by omega) (by omega) (by omega)]; done)|(rw [step_3 l c (by omega) (by omega) (by omega)]; rfl)|(rw [step_4 l c (by omega) (by omega)]; done)|(rw [step_5 l c (by omega) (by omega) (by omega) (by omega)]; rfl)|(rw [step_6 l c (by omega) (by omega) (by omega) (by omega)]; rfl)|(rw [step_7 l c (by omega) (by omega) (by omega)]; done)|(rw [step_8 l c (by omega) (by omega) (by omega)]; rfl)
     refine s2 (r:=rP) (ev_nilwS rfl) rfl rfl ?_
     refine s7 [encS rP _,.int .i64 _] rfl ?_
     first|(rw [step_0 l c (by omega)]; done)|(rw [step_1 l c (by omega) (by omega) (by omega)]; done)|(rw [step_2 l c (by omega) (by omega) (by omega)]; done)|(rw [step_3 l c (by omega) (by omega) (by omega)]; rfl)|(rw [step_4 l c (by omega) (by omega)]; done)|(rw [step_5 l c (by omega) (by omega) (by omega) (by omega)]; rfl)|(rw [step_6 l c (by omega) (by omega) (by omega) (by omega)]; rfl)|(rw [step_7 l c (by omega) (by omega) (by omega)]; done)|(rw [step_8 l c (by omega) (by omega) (by omega)]; rfl)
    refine s2 (r:=rP) (ev_nilwS rfl) rfl rfl ?_
    refine s7 [encS rP _,.int .i64 _] rfl ?_
    first|(rw [step_0 l c (by omega)]; done)|(rw [step_1 l c (by omega) (by omega) (by omega)]; done)|(rw [step_2 l c (by omega) (by omega) (by omega)]; done)|(rw [step_3 l c (by omega) (by omega) (by omega)]; rfl)|(rw [step_4 l c (by omega) (by omega)]; done)|(rw [step_5 l c (by omega) (by omega) (by omega) (by omega)]; rfl)|(rw [step_6 l c (by omega) (by omega) (by omega) (by omega)]; rfl)|(rw [step_7 l c (by omega) (by omega) (by omega)]; done)|(rw [step_8 l c (by omega) (by omega) (by omega)]; rfl)
   first|refine s1 (ev_subW (wrap64 (by omega) (by omega))) rfl rfl rfl ?_|refine s1 (ev_sub _ _ _) rfl rfl rfl ?_
   refine s1 (ev_inbsS rfl) rfl rfl rfl ?_
   refine s5 rfl (fun g2=>?_) fun g2=>?_
   ·refine s8 ?_
    first|omega|(simp_all; done)|(simp_all; omega)
   refine s2 (r:=rI) (ev_getS rfl (by omega) (by omega) rfl) rfl rfl ?_
   refine s1 (ev_eql _ _ _) rfl rfl rfl ?_
   refine s4 rfl (fun g3=>?_) fun g3=>?_
   ·refine s1 (ev_lss _ _ _) rfl rfl rfl ?_
    refine s4 rfl (fun g4=>?_) fun g4=>?_
    ·refine s2 (r:=rP) (ev_subsS rfl (by omega) (by omega) (by omega)) rfl rfl ?_
     refine s2 (r:=rI) (ev_mkS [_] rfl (by decide) rfl) rfl rfl ?_
     refine s2 (r:=rP) (ev_snocR rfl rfl (by decide) (by first|omega|exact Nat.lt_of_le_of_lt (sub_len _ _ _) (by omega)|exact Nat.le_trans (Nat.succ_le_succ (sub_len _ _ _)) (by omega))) rfl rfl ?_
     refine s7 [encS rP _,.int .i64 _] rfl ?_
     first|(rw [step_0 l c (by omega)]; done)|(rw [step_1 l c (by omega) (by omega) (by omega)]; done)|(rw [step_2 l c (by omega) (by omega) (by omega)]; done)|(rw [step_3 l c (by omega) (by omega) (by omega)]; rfl)|(rw [step_4 l c (by omega) (by omega)]; done)|(rw [step_5 l c (by omega) (by omega) (by omega) (by omega)]; rfl)|(rw [step_6 l c (by omega) (by omega) (by omega) (by omega)]; rfl)|(rw [step_7 l c (by omega) (by omega) (by omega)]; done)|(rw [step_8 l c (by omega) (by omega) (by omega)]; rfl)
    refine s1 (ev_eql _ _ _) rfl rfl rfl ?_
    refine s4 rfl (fun g5=>?_) fun g5=>?_
    ·refine s1 (ev_lenS _ _) rfl rfl rfl ?_
     refine s1 (ev_lss _ _ _) rfl rfl rfl ?_
     refine s4 rfl (fun g6=>?_) fun g6=>?_
     ·refine s2 (r:=rI) (ev_subsS rfl (by omega) (by omega) (by omega)) rfl rfl ?_
      refine s2 (r:=rI) (ev_snocR rfl rfl (by decide) (by first|omega|exact Nat.lt_of_le_of_lt (sub_len _ _ _) (by omega)|exact Nat.le_trans (Nat.succ_le_succ (sub_len _ _ _)) (by omega))) rfl rfl ?_
      first|refine s1 (ev_subW (wrap64 (by omega) (by omega))) rfl rfl rfl ?_|refine s1 (ev_sub _ _ _) rfl rfl rfl ?_
      refine s2 (r:=rP) (ev_subsS rfl (by omega) (by omega) (by omega)) rfl rfl ?_
      refine s2 (r:=rP) (ev_snocR rfl rfl (by decide) (by first|omega|exact Nat.lt_of_le_of_lt (sub_len _ _ _) (by omega)|exact Nat.le_trans (Nat.succ_le_succ (sub_len _ _ _)) (by omega))) rfl rfl ?_
      refine s7 [encS rP _,.int .i64 _] rfl ?_
      first|(rw [step_0 l c (by omega)]; done)|(rw [step_1 l c (by omega) (by omega) (by omega)]; done)|(rw [step_2 l c (by omega) (by omega) (by omega)]; done)|(rw [step_3 l c (by omega) (by omega) (by omega)]; rfl)|(rw [step_4 l c (by omega) (by omega)]; done)|(rw [step_5 l c (by omega) (by omega) (by omega) (by omega)]; rfl)|(rw [step_6 l c (by omega) (by omega) (by omega) (by omega)]; rfl)|(rw [step_7 l c (by omega) (by omega) (by omega)]; done)|(rw [step_8 l c (by omega) (by omega) (by omega)]; rfl)
     refine s1 (ev_eql _ _ _) rfl rfl rfl ?_
     refine s4 rfl (fun g7=>?_) fun g7=>?_
     ·refine s2 (r:=rP) (ev_nilwS rfl) rfl rfl ?_
      refine s7 [encS rP _,.int .i64 _] rfl ?_
      first|(rw [step_0 l c (by omega)]; done)|(rw [step_1 l c (by omega) (by omega) (by omega)]; done)|(rw [step_2 l c (by omega) (by omega) (by omega)]; done)|(rw [step_3 l c (by omega) (by omega) (by omega)]; rfl)|(rw [step_4 l c (by omega) (by omega)]; done)|(rw [step_5 l c (by omega) (by omega) (by omega) (by omega)]; rfl)|(rw [step_6 l c (by omega) (by omega) (by omega) (by omega)]; rfl)|(rw [step_7 l c (by omega) (by omega) (by omega)]; done)|(rw [step_8 l c (by omega) (by omega) (by omega)]; rfl)
     refine s1 (ev_eql _ _ _) rfl rfl rfl ?_
     refine s4 rfl (fun g8=>?_) fun g8=>?_
     ·refine s2 (r:=rP) (ev_nilwS rfl) rfl rfl ?_
      refine s7 [encS rP _,.int .i64 _] rfl ?_
      first|(rw [step_0 l c (by omega)]; done)|(rw [step_1 l c (by omega) (by omega) (by omega)]; done)|(rw [step_2 l c (by omega) (by omega) (by omega)]; done)|(rw [step_3 l c (by omega) (by omega) (by omega)]; rfl)|(rw [step_4 l c (by omega) (by omega)]; done)|(rw [step_5 l c (by omega) (by omega) (by omega) (by omega)]; rfl)|(rw [step_6 l c (by omega) (by omega) (by omega) (by omega)]; rfl)|(rw [step_7 l c (by omega) (by omega) (by omega)]; done)|(rw [step_8 l c (by omega) (by omega) (by omega)]; rfl)
     refine s1 (ev_geq _ _ _) rfl rfl rfl ?_
     refine s4 rfl (fun g9=>?_) fun g9=>?_
     ·refine s1 (ev_leq _ _ _) rfl rfl rfl ?_
      refine s4 rfl (fun g10=>?_) fun g10=>?_
      ·first|refine s1 (ev_subW (wrap64 (by omega) (by omega))) rfl rfl rfl ?_|refine s1 (ev_sub _ _ _) rfl rfl rfl ?_
       refine s1 (ev_inbsS rfl) rfl rfl rfl ?_
       refine s5 rfl (fun g11=>?_) fun g11=>?_
       ·refine s8 ?_
        first|omega|(simp_all; done)|(simp_all; omega)
       refine s1 (u:=.int .i64 _) (ev_getS rfl (by omega) (by omega) rfl) rfl rfl rfl ?_
       refine s1 (ev_max _ _ _ _) rfl rfl rfl ?_
       first|refine s1 (ev_mulW (wrap64 (by omega) (by omega))) rfl rfl rfl ?_|refine s1 (ev_mul _ _ _) rfl rfl rfl ?_
       first|refine s1 (ev_subW (wrap8 (by omega) (by omega))) rfl rfl rfl ?_|refine s1 (ev_sub _ _ _) rfl rfl rfl ?_
       first|refine s1 (ev_convW (wrap64 (by omega) (by omega))) rfl rfl rfl ?_|refine s1 (ev_conv _ _ _) rfl rfl rfl ?_
       first|refine s1 (ev_addW (wrap64 (by omega) (by omega))) rfl rfl rfl ?_|refine s1 (ev_add _ _ _) rfl rfl rfl ?_
       refine s1 (ev_min _ _ _ _) rfl rfl rfl ?_
       first|refine s1 (ev_subW (wrap64 (by omega) (by omega))) rfl rfl rfl ?_|refine s1 (ev_sub _ _ _) rfl rfl rfl ?_
       refine s2 (r:=rI) (ev_subsS rfl (by omega) (by omega) (by omega)) rfl rfl ?_
       refine s2 (r:=rI) (ev_snocR rfl rfl (by decide) (by first|omega|exact Nat.lt_of_le_of_lt (sub_len _ _ _) (by omega)|exact Nat.le_trans (Nat.succ_le_succ (sub_len _ _ _)) (by omega))) rfl rfl ?_
       first|refine s1 (ev_subW (wrap64 (by omega) (by omega))) rfl rfl rfl ?_|refine s1 (ev_sub _ _ _) rfl rfl rfl ?_
       refine s2 (r:=rP) (ev_subsS rfl (by omega) (by omega) (by omega)) rfl rfl ?_
       refine s2 (r:=rP) (ev_snocR rfl rfl (by decide) (by first|omega|exact Nat.lt_of_le_of_lt (sub_len _ _ _) (by omega)|exact Nat.le_trans (Nat.succ_le_succ (sub_len _ _ _)) (by omega))) rfl rfl ?_
       refine s7 [encS rP _,.int .i64 _] rfl ?_
       first|(rw [step_0 l c (by omega)]; done)|(rw [step_1 l c (by omega) (by omega) (by omega)]; done)|(rw [step_2 l c (by omega) (by omega) (by omega)]; done)|(rw [step_3 l c (by omega) (by omega) (by omega)]; rfl)|(rw [step_4 l c (by omega) (by omega)]; done)|(rw [step_5 l c (by omega) (by omega) (by omega) (by omega)]; rfl)|(rw [step_6 l c (by omega) (by omega) (by omega) (by omega)]; rfl)|(rw [step_7 l c (by omega) (by omega) (by omega)]; done)|(rw [step_8 l c (by omega) (by omega) (by omega)]; rfl)
      refine s2 (r:=rP) (ev_nilwS rfl) rfl rfl ?_
      refine s7 [encS rP _,.int .i64 _] rfl ?_
      first|(rw [step_0 l c (by omega)]; done)|(rw [step_1 l c (by omega) (by omega) (by omega)]; done)|(rw [step_2 l c (by omega) (by omega) (by omega)]; done)|(rw [step_3 l c (by omega) (by omega) (by omega)]; rfl)|(rw [step_4 l c (by omega) (by omega)]; done)|(rw [step_5 l c (by omega) (by omega) (by omega) (by omega)]; rfl)|(rw [step_6 l c (by omega) (by omega) (by omega) (by omega)]; rfl)|(rw [step_7 l c (by omega) (by omega) (by omega)]; done)|(rw [step_8 l c (by omega) (by omega) (by omega)]; rfl)
     refine s2 (r:=rP) (ev_nilwS rfl) rfl rfl ?_
     refine s7 [encS rP _,.int .i64 _] rfl ?_
     first|(rw [step_0 l c (by omega)]; done)|(rw [step_1 l c (by omega) (by omega) (by omega)]; done)|(rw [step_2 l c (by omega) (by omega) (by omega)]; done)|(rw [step_3 l c (by omega) (by omega) (by omega)]; rfl)|(rw [step_4 l c (by omega) (by omega)]; done)|(rw [step_5 l c (by omega) (by omega) (by omega) (by omega)]; rfl)|(rw [step_6 l c (by omega) (by omega) (by omega) (by omega)]; rfl)|(rw [step_7 l c (by omega) (by omega) (by omega)]; done)|(rw [step_8 l c (by omega) (by omega) (by omega)]; rfl)
    refine s1 (ev_eql _ _ _) rfl rfl rfl ?_
    refine s4 rfl (fun g6=>?_) fun g6=>?_
    ·refine s2 (r:=rP) (ev_nilwS rfl) rfl rfl ?_
     refine s7 [encS rP _,.int .i64 _] rfl ?_
     first|(rw [step_0 l c (by omega)]; done)|(rw [step_1 l c (by omega) (by omega) (by omega)]; done)|(rw [step_2 l c (by omega) (by omega) (by omega)]; done)|(rw [step_3 l c (by omega) (by omega) (by omega)]; rfl)|(rw [step_4 l c (by omega) (by omega)]; done)|(rw [step_5 l c (by omega) (by omega) (by omega) (by omega)]; rfl)|(rw [step_6 l c (by omega) (by omega) (by omega) (by omega)]; rfl)|(rw [step_7 l c (by omega) (by omega) (by omega)]; done)|(rw [step_8 l c (by omega) (by omega) (by omega)]; rfl)
    refine s1 (ev_eql _ _ _) rfl rfl rfl ?_
    refine s4 rfl (fun g7=>?_) fun g7=>?_
    ·refine s2 (r:=rP) (ev_nilwS rfl) rfl rfl ?_
     refine s7 [encS rP _,.int .i64 _] rfl ?_
     first|(rw [step_0 l c (by omega)]; done)|(rw [step_1 l c (by omega) (by omega) (by omega)]; done)|(rw [step_2 l c (by omega) (by omega) (by omega)]; done)|(rw [step_3 l c (by omega) (by omega) (by omega)]; rfl)|(rw [step_4 l c (by omega) (by omega)]; done)|(rw [step_5 l c (by omega) (by omega) (by omega) (by omega)]; rfl)|(rw [step_6 l c (by omega) (by omega) (by omega) (by omega)]; rfl)|(rw [step_7 l c (by omega) (by omega) (by omega)]; done)|(rw [step_8 l c (by omega) (by omega) (by omega)]; rfl)
    refine s1 (ev_geq _ _ _) rfl rfl rfl ?_
    refine s4 rfl (fun g8=>?_) fun g8=>?_
    ·refine s1 (ev_leq _ _ _) rfl rfl rfl ?_
     refine s4 rfl (fun g9=>?_) fun g9=>?_
     ·refine s1 (ev_lenS _ _) rfl rfl rfl ?_
      first|refine s1 (ev_subW (wrap64 (by omega) (by omega))) rfl rfl rfl ?_|refine s1 (ev_sub _ _ _) rfl rfl rfl ?_
      refine s1 (ev_inbsS rfl) rfl rfl rfl ?_
      refine s5 rfl (fun g10=>?_) fun g10=>?_
      ·refine s8 ?_
       first|omega|(simp_all; done)|(simp_all; omega)
      refine s1 (u:=.int .i64 _) (ev_getS rfl (by omega) (by omega) rfl) rfl rfl rfl ?_
      refine s1 (ev_max _ _ _ _) rfl rfl rfl ?_
      first|refine s1 (ev_mulW (wrap64 (by omega) (by omega))) rfl rfl rfl ?_|refine s1 (ev_mul _ _ _) rfl rfl rfl ?_
      first|refine s1 (ev_subW (wrap8 (by omega) (by omega))) rfl rfl rfl ?_|refine s1 (ev_sub _ _ _) rfl rfl rfl ?_
      first|refine s1 (ev_convW (wrap64 (by omega) (by omega))) rfl rfl rfl ?_|refine s1 (ev_conv _ _ _) rfl rfl rfl ?_
      first|refine s1 (ev_addW (wrap64 (by omega) (by omega))) rfl rfl rfl ?_|refine s1 (ev_add _ _ _) rfl rfl rfl ?_
      refine s1 (ev_min _ _ _ _) rfl rfl rfl ?_
      first|refine s1 (ev_subW (wrap64 (by omega) (by omega))) rfl rfl rfl ?_|refine s1 (ev_sub _ _ _) rfl rfl rfl ?_
      refine s2 (r:=rI) (ev_subsS rfl (by omega) (by omega) (by omega)) rfl rfl ?_
      refine s2 (r:=rI) (ev_snocR rfl rfl (by decide) (by first|omega|exact Nat.lt_of_le_of_lt (sub_len _ _ _) (by omega)|exact Nat.le_trans (Nat.succ_le_succ (sub_len _ _ _)) (by omega))) rfl rfl ?_
      first|refine s1 (ev_subW (wrap64 (by omega) (by omega))) rfl rfl rfl ?_|refine s1 (ev_sub _ _ _) rfl rfl rfl ?_
      refine s2 (r:=rP) (ev_subsS rfl (by omega) (by omega) (by omega)) rfl rfl ?_
      refine s2 (r:=rP) (ev_snocR rfl rfl (by decide) (by first|omega|exact Nat.lt_of_le_of_lt (sub_len _ _ _) (by omega)|exact Nat.le_trans (Nat.succ_le_succ (sub_len _ _ _)) (by omega))) rfl rfl ?_
      refine s7 [encS rP _,.int .i64 _] rfl ?_
      first|(rw [step_0 l c (by omega)]; done)|(rw [step_1 l c (by omega) (by omega) (by omega)]; done)|(rw [step_2 l c (by omega) (by omega) (by omega)]; done)|(rw [step_3 l c (by omega) (by omega) (by omega)]; rfl)|(rw [step_4 l c (by omega) (by omega)]; done)|(rw [step_5 l c (by omega) (by omega) (by omega) (by omega)]; rfl)|(rw [step_6 l c (by omega) (by omega) (by omega) (by omega)]; rfl)|(rw [step_7 l c (by omega) (by omega) (by omega)]; done)|(rw [step_8 l c (by omega) (by omega) (by omega)]; rfl)
     refine s2 (r:=rP) (ev_nilwS rfl) rfl rfl ?_
     refine s7 [encS rP _,.int .i64 _] rfl ?_
     first|(rw [step_0 l c (by omega)]; done)|(rw [step_1 l c (by omega) (by omega) (by omega)]; done)|(rw [step_2 l c (by omega) (by omega) (by omega)]; done)|(rw [step_3 l c (by omega) (by omega) (by omega)]; rfl)|(rw [step_4 l c (by omega) (by omega)]; done)|(rw [step_5 l c (by omega) (by omega) (by omega) (by omega)]; rfl)|(rw [step_6 l c (by omega) (by omega) (by omega) (by omega)]; rfl)|(rw [step_7 l c (by omega) (by omega) (by omega)]; done)|(rw [step_8 l c (by omega) (by omega) (by omega)]; rfl)
    refine s2 (r:=rP) (ev_nilwS rfl) rfl rfl ?_
    refine s7 [encS rP _,.int .i64 _] rfl ?_
    first|(rw [step_0 l c (by omega)]; done)|(rw [step_1 l c (by omega) (by omega) (by omega)]; done)|(rw [step_2 l c (by omega) (by omega) (by omega)]; done)|(rw [step_3 l c (by omega) (by omega) (by omega)]; rfl)|(rw [step_4 l c (by omega) (by omega)]; done)|(rw [step_5 l c (by omega) (by omega) (by omega) (by omega)]; rfl)|(rw [step_6 l c (by omega) (by omega) (by omega) (by omega)]; rfl)|(rw [step_7 l c (by omega) (by omega) (by omega)]; done)|(rw [step_8 l c (by omega) (by omega) (by omega)]; rfl)
   refine s1 (ev_eql _ _ _) rfl rfl rfl ?_
   refine s4 rfl (fun g4=>?_) fun g4=>?_
   ·refine s1 (ev_lenS _ _) rfl rfl rfl ?_
    refine s1 (ev_lss _ _ _) rfl rfl rfl ?_
    refine s4 rfl (fun g5=>?_) fun g5=>?_
    ·refine s2 (r:=rI) (ev_subsS rfl (by omega) (by omega) (by omega)) rfl rfl ?_
     refine s2 (r:=rI) (ev_snocR rfl rfl (by decide) (by first|omega|exact Nat.lt_of_le_of_lt (sub_len _ _ _) (by omega)|exact Nat.le_trans (Nat.succ_le_succ (sub_len _ _ _)) (by omega))) rfl rfl ?_
     first|refine s1 (ev_subW (wrap64 (by omega) (by omega))) rfl rfl rfl ?_|refine s1 (ev_sub _ _ _) rfl rfl rfl ?_
     refine s2 (r:=rP) (ev_subsS rfl (by omega) (by omega) (by omega)) rfl rfl ?_
     refine s2 (r:=rP) (ev_snocR rfl rfl (by decide) (by first|omega|exact Nat.lt_of_le_of_lt (sub_len _ _ _) (by omega)|exact Nat.le_trans (Nat.succ_le_succ (sub_len _ _ _)) (by omega))) rfl rfl ?_
     refine s7 [encS rP _,.int .i64 _] rfl ?_
     first|(rw [step_0 l c (by omega)]; done)|(rw [step_1 l c (by omega) (by omega) (by omega)]; done)|(rw [step_2 l c (by omega) (by omega) (by omega)]; done)|(rw [step_3 l c (by omega) (by omega) (by omega)]; rfl)|(rw [step_4 l c (by omega) (by omega)]; done)|(rw [step_5 l c (by omega) (by omega) (by omega) (by omega)]; rfl)|(rw [step_6 l c (by omega) (by omega) (by omega) (by omega)]; rfl)|(rw [step_7 l c (by omega) (by omega) (by omega)]; done)|(rw [step_8 l c (by omega) (by omega) (by omega)]; rfl)
    refine s1 (ev_eql _ _ _) rfl rfl rfl ?_
    refine s4 rfl (fun g6=>?_) fun g6=>?_
    ·refine s2 (r:=rP) (ev_nilwS rfl) rfl rfl ?_
     refine s7 [encS rP _,.int .i64 _] rfl ?_
     first|(rw [step_0 l c (by omega)]; done)|(rw [step_1 l c (by omega) (by omega) (by omega)]; done)|(rw [step_2 l c (by omega) (by omega) (by omega)]; done)|(rw [step_3 l c (by omega) (by omega) (by omega)]; rfl)|(rw [step_4 l c (by omega) (by omega)]; done)|(rw [step_5 l c (by omega) (by omega) (by omega) (by omega)]; rfl)|(rw [step_6 l c (by omega) (by omega) (by omega) (by omega)]; rfl)|(rw [step_7 l c (by omega) (by omega) (by omega)]; done)|(rw [step_8 l c (by omega) (by omega) (by omega)]; rfl)
    refine s1 (ev_eql _ _ _) rfl rfl rfl ?_
    refine s4 rfl (fun g7=>?_) fun g7=>?_
    ·refine s2 (r:=rP) (ev_nilwS rfl) rfl rfl ?_
     refine s7 [encS rP _,.int .i64 _] rfl ?_
     first|(rw [step_0 l c (by omega)]; done)|(rw [step_1 l c (by omega) (by omega) (by omega)]; done)|(rw [step_2 l c (by omega) (by omega) (by omega)]; done)|(rw [step_3 l c (by omega) (by omega) (by omega)]; rfl)|(rw [step_4 l c (by omega) (by omega)]; done)|(rw [step_5 l c (by omega) (by omega) (by omega) (by omega)]; rfl)|(rw [step_6 l c (by omega) (by omega) (by omega) (by omega)]; rfl)|(rw [step_7 l c (by omega) (by omega) (by omega)]; done)|(rw [step_8 l c (by omega) (by omega) (by omega)]; rfl)
    refine s1 (ev_geq _ _ _) rfl rfl rfl ?_
    refine s4 rfl (fun g8=>?_) fun g8=>?_
    ·refine s1 (ev_leq _ _ _) rfl rfl rfl ?_
     refine s4 rfl (fun g9=>?_) fun g9=>?_
     ·first|refine s1 (ev_subW (wrap64 (by omega) (by omega))) rfl rfl rfl ?_|refine s1 (ev_sub _ _ _) rfl rfl rfl ?_
      refine s1 (ev_inbsS rfl) rfl rfl rfl ?_
      refine s5 rfl (fun g10=>?_) fun g10=>?_
      ·refine s8 ?_
       first|omega|(simp_all; done)|(simp_all; omega)
      refine s1 (u:=.int .i64 _) (ev_getS rfl (by omega) (by omega) rfl) rfl rfl rfl ?_
      refine s1 (ev_max _ _ _ _) rfl rfl rfl ?_
      first|refine s1 (ev_mulW (wrap64 (by omega) (by omega))) rfl rfl rfl ?_|refine s1 (ev_mul _ _ _) rfl rfl rfl ?_
      first|refine s1 (ev_subW (wrap8 (by omega) (by omega))) rfl rfl rfl ?_|refine s1 (ev_sub _ _ _) rfl rfl rfl ?_
      first|refine s1 (ev_convW (wrap64 (by omega) (by omega))) rfl rfl rfl ?_|refine s1 (ev_conv _ _ _) rfl rfl rfl ?_
      first|refine s1 (ev_addW (wrap64 (by omega) (by omega))) rfl rfl rfl ?_|refine s1 (ev_add _ _ _) rfl rfl rfl ?_
      refine s1 (ev_min _ _ _ _) rfl rfl rfl ?_
      first|refine s1 (ev_subW (wrap64 (by omega) (by omega))) rfl rfl rfl ?_|refine s1 (ev_sub _ _ _) rfl rfl rfl ?_
      refine s2 (r:=rI) (ev_subsS rfl (by omega) (by omega) (by omega)) rfl rfl ?_
      refine s2 (r:=rI) (ev_snocR rfl rfl (by decide) (by first|omega|exact Nat.lt_of_le_of_lt (sub_len _ _ _) (by omega)|exact Nat.le_trans (Nat.succ_le_succ (sub_len _ _ _)) (by omega))) rfl rfl ?_
      first|refine s1 (ev_subW (wrap64 (by omega) (by omega))) rfl rfl rfl ?_|refine s1 (ev_sub _ _ _) rfl rfl rfl ?_
      refine s2 (r:=rP) (ev_subsS rfl (by omega) (by omega) (by omega)) rfl rfl ?_
      refine s2 (r:=rP) (ev_snocR rfl rfl (by decide) (by first|omega|exact Nat.lt_of_le_of_lt (sub_len _ _ _) (by omega)|exact Nat.le_trans (Nat.succ_le_succ (sub_len _ _ _)) (by omega))) rfl rfl ?_
      refine s7 [encS rP _,.int .i64 _] rfl ?_
      first|(rw [step_0 l c (by omega)]; done)|(rw [step_1 l c (by omega) (by omega) (by omega)]; done)|(rw [step_2 l c (by omega) (by omega) (by omega)]; done)|(rw [step_3 l c (by omega) (by omega) (by omega)]; rfl)|(rw [step_4 l c (by omega) (by omega)]; done)|(rw [step_5 l c (by omega) (by omega) (by omega) (by omega)]; rfl)|(rw [step_6 l c (by omega) (by omega) (by omega) (by omega)]; rfl)|(rw [step_7 l c (by omega) (by omega) (by omega)]; done)|(rw [step_8 l c (by omega) (by omega) (by omega)]; rfl)
     refine s2 (r:=rP) (ev_nilwS rfl) rfl rfl ?_
     refine s7 [encS rP _,.int .i64 _] rfl ?_
     first|(rw [step_0 l c (by omega)]; done)|(rw [step_1 l c (by omega) (by omega) (by omega)]; done)|(rw [step_2 l c (by omega) (by omega) (by omega)]; done)|(rw [step_3 l c (by omega) (by omega) (by omega)]; rfl)|(rw [step_4 l c (by omega) (by omega)]; done)|(rw [step_5 l c (by omega) (by omega) (by omega) (by omega)]; rfl)|(rw [step_6 l c (by omega) (by omega) (by omega) (by omega)]; rfl)|(rw [step_7 l c (by omega) (by omega) (by omega)]; done)|(rw [step_8 l c (by omega) (by omega) (by omega)]; rfl)
    refine s2 (r:=rP) (ev_nilwS rfl) rfl rfl ?_
    refine s7 [encS rP _,.int .i64 _] rfl ?_
    first|(rw [step_0 l c (by omega)]; done)|(rw [step_1 l c (by omega) (by omega) (by omega)]; done)|(rw [step_2 l c (by omega) (by omega) (by omega)]; done)|(rw [step_3 l c (by omega) (by omega) (by omega)]; rfl)|(rw [step_4 l c (by omega) (by omega)]; done)|(rw [step_5 l c (by omega) (by omega) (by omega) (by omega)]; rfl)|(rw [step_6 l c (by omega) (by omega) (by omega) (by omega)]; rfl)|(rw [step_7 l c (by omega) (by omega) (by omega)]; done)|(rw [step_8 l c (by omega) (by omega) (by omega)]; rfl)
   refine s1 (ev_eql _ _ _) rfl rfl rfl ?_
   refine s4 rfl (fun g5=>?_) fun g5=>?_
   ·refine s2 (r:=rP) (ev_nilwS rfl) rfl rfl ?_
    refine s7 [encS rP _,.int .i64 _] rfl ?_
    first|(rw [step_0 l c (by omega)]; done)|(rw [step_1 l c (by omega) (by omega) (by omega)]; done)|(rw [step_2 l c (by omega) (by omega) (by omega)]; done)|(rw [step_3 l c (by omega) (by omega) (by omega)]; rfl)|(rw [step_4 l c (by omega) (by omega)]; done)|(rw [step_5 l c (by omega) (by omega) (by omega) (by omega)]; rfl)|(rw [step_6 l c (by omega) (by omega) (by omega) (by omega)]; rfl)|(rw [step_7 l c (by omega) (by omega) (by omega)]; done)|(rw [step_8 l c (by omega) (by omega) (by omega)]; rfl)
   refine s1 (ev_eql _ _ _) rfl rfl rfl ?_
   refine s4 rfl (fun g6=>?_) fun g6=>?_
   ·refine s2 (r:=rP) (ev_nilwS rfl) rfl rfl ?_
    refine s7 [encS rP _,.int .i64 _] rfl ?_
    first|(rw [step_0 l c (by omega)]; done)|(rw [step_1 l c (by omega) (by omega) (by omega)]; done)|(rw [step_2 l c (by omega) (by omega) (by omega)]; done)|(rw [step_3 l c (by omega) (by omega) (by omega)]; rfl)|(rw [step_4 l c (by omega) (by omega)]; done)|(rw [step_5 l c (by omega) (by omega) (by omega) (by omega)]; rfl)|(rw [step_6 l c (by omega) (by omega) (by omega) (by omega)]; rfl)|(rw [step_7 l c (by omega) (by omega) (by omega)]; done)|(rw [step_8 l c (by omega) (by omega) (by omega)]; rfl)
   refine s1 (ev_geq _ _ _) rfl rfl rfl ?_
   refine s4 rfl (fun g7=>?_) fun g7=>?_
   ·refine s1 (ev_leq _ _ _) rfl rfl rfl ?_
    refine s4 rfl (fun g8=>?_) fun g8=>?_
    ·refine s1 (ev_lenS _ _) rfl rfl rfl ?_
     first|refine s1 (ev_subW (wrap64 (by omega) (by omega))) rfl rfl rfl ?_|refine s1 (ev_sub _ _ _) rfl rfl rfl ?_
     refine s1 (ev_inbsS rfl) rfl rfl rfl ?_
     refine s5 rfl (fun g9=>?_) fun g9=>?_
     ·refine s8 ?_
      first|omega|(simp_all; done)|(simp_all; omega)
     refine s1 (u:=.int .i64 _) (ev_getS rfl (by omega) (by omega) rfl) rfl rfl rfl ?_
     refine s1 (ev_max _ _ _ _) rfl rfl rfl ?_
     first|refine s1 (ev_mulW (wrap64 (by omega) (by omega))) rfl rfl rfl ?_|refine s1 (ev_mul _ _ _) rfl rfl rfl ?_
     first|refine s1 (ev_subW (wrap8 (by omega) (by omega))) rfl rfl rfl ?_|refine s1 (ev_sub _ _ _) rfl rfl rfl ?_
     first|refine s1 (ev_convW (wrap64 (by omega) (by omega))) rfl rfl rfl ?_|refine s1 (ev_conv _ _ _) rfl rfl rfl ?_
     first|refine s1 (ev_addW (wrap64 (by omega) (by omega))) rfl rfl rfl ?_|refine s1 (ev_add _ _ _) rfl rfl rfl ?_
     refine s1 (ev_min _ _ _ _) rfl rfl rfl ?_
     first|refine s1 (ev_subW (wrap64 (by omega) (by omega))) rfl rfl rfl ?_|refine s1 (ev_sub _ _ _) rfl rfl rfl ?_
     refine s2 (r:=rI) (ev_subsS rfl (by omega) (by omega) (by omega)) rfl rfl ?_
     refine s2 (r:=rI) (ev_snocR rfl rfl (by decide) (by first|omega|exact Nat.lt_of_le_of_lt (sub_len _ _ _) (by omega)|exact Nat.le_trans (Nat.succ_le_succ (sub_len _ _ _)) (by omega))) rfl rfl ?_
     first|refine s1 (ev_subW (wrap64 (by omega) (by omega))) rfl rfl rfl ?_|refine s1 (ev_sub _ _ _) rfl rfl rfl ?_
     refine s2 (r:=rP) (ev_subsS rfl (by omega) (by omega) (by omega)) rfl rfl ?_
     refine s2 (r:=rP) (ev_snocR rfl rfl (by decide) (by first|omega|exact Nat.lt_of_le_of_lt (sub_len _ _ _) (by omega)|exact Nat.le_trans (Nat.succ_le_succ (sub_len _ _ _)) (by omega))) rfl rfl ?_
     refine s7 [encS rP _,.int .i64 _] rfl ?_
     first|(rw [step_0 l c (by omega)]; done)|(rw [step_1 l c (by omega) (by omega) (by omega)]; done)|(rw [step_2 l c (by omega) (by omega) (by omega)]; done)|(rw [step_3 l c (by omega) (by omega) (by omega)]; rfl)|(rw [step_4 l c (by omega) (by omega)]; done)|(rw [step_5 l c (by omega) (by omega) (by omega) (by omega)]; rfl)|(rw [step_6 l c (by omega) (by omega) (by omega) (by omega)]; rfl)|(rw [step_7 l c (by omega) (by omega) (by omega)]; done)|(rw [step_8 l c (by omega) (by omega) (by omega)]; rfl)
    refine s2 (r:=rP) (ev_nilwS rfl) rfl rfl ?_
    refine s7 [encS rP _,.int .i64 _] rfl ?_
    first|(rw [step_0 l c (by omega)]; done)|(rw [step_1 l c (by omega) (by omega) (by omega)]; done)|(rw [step_2 l c (by omega) (by omega) (by omega)]; done)|(rw [step_3 l c (by omega) (by omega) (by omega)]; rfl)|(rw [step_4 l c (by omega) (by omega)]; done)|(rw [step_5 l c (by omega) (by omega) (by omega) (by omega)]; rfl)|(rw [step_6 l c (by omega) (by omega) (by omega) (by omega)]; rfl)|(rw [step_7 l c (by omega) (by omega) (by omega)]; done)|(rw [step_8 l c (by omega) (by omega) (by omega)]; rfl)
   refine s2 (r:=rP) (ev_nilwS rfl) rfl rfl ?_
   refine s7 [encS rP _,.int .i64 _] rfl ?_
   first|(rw [step_0 l c (by omega)]; done)|(rw [step_1 l c (by omega) (by omega) (by omega)]; done)|(rw [step_2 l c (by omega) (by omega) (by omega)]; done)|(rw [step_3 l c (by omega) (by omega) (by omega)]; rfl)|(rw [step_4 l c (by omega) (by omega)]; done)|(rw [step_5 l c (by omega) (by omega) (by omega) (by omega)]; rfl)|(rw [step_6 l c (by omega) (by omega) (by omega) (by omega)]; rfl)|(rw [step_7 l c (by omega) (by omega) (by omega)]; done)|(rw [step_8 l c (by omega) (by omega) (by omega)]; rfl)
  ·cases hs
 ·cases hs
noncomputable def L_stp:List (FuncId × FnC):=(12,conF Tryd.prog [.s 11,.s 4] stp_s [.s 11,.s 3])::L_cpd
theorem L_stp_ok {G:Nat→Option Obj} (hst:StartOk Tryd.prog G gl H0 n0):ConsOk Tryd.prog G gl L_stp:=.cons (stp_c hst) (L_cpd_ok hst)
end Go.Proofs.YtadmkfclgpbebaaDoor

namespace Go.Proofs.YtadmkfclgpbebaaDoor
set_option linter.all false
open Go Go.Sx
set_option maxRecDepth 100000
set_option linter.unusedVariables false
set_option linter.unusedSimpArgs false
def Vl (l:Rws):Prop:=(el l).length≤100∧∀ p ∈ el l,(el p).length≤100
instance (l:Rws):Decidable (Vl l):=by unfold Vl; infer_instance
theorem vl_none:Vl none:=⟨by decide,fun p hp=>by cases hp⟩
theorem vl_c {l:Rws} (h:Vl l):(el l).length≤1000000000∧∀ p ∈ el l,(el p).length≤1000000000:=⟨Nat.le_trans h.1 (by decide),fun p hp=>Nat.le_trans (h.2 p hp) (by decide)⟩
def parL:Rws→List UInt8→Rws
 | l,[]=>l
 | l,b::r=>parL (stepS l b.toNat).1 r
def parE:Rws→List UInt8→Option Int
 | _,[]=>none
 | l,b::r=>if (stepS l b.toNat).2≠0 then some (stepS l b.toNat).2 else parE (stepS l b.toNat).1 r
theorem drop_sb (s:List UInt8) {i:Int} (h0:0≤i) (h1:i < (s.length:Int)):s.drop i.toNat=s.getD i.toNat 0::s.drop (i+1).toNat:=drop_step s h0 h1
theorem vl_step (l:Rws) (c:Int):Vl (stepS l c).1:=by
 unfold stepS
 rcases check_bd l with h|⟨h1,h2,h3⟩
 ·rw [if_pos (by omega)]; exact vl_none
 rw [if_neg (by omega)]
 have hp:∀ p ∈ el l,(el p).length≤6:=fun p hp=>(h3 p hp).2.1
 have hsub:∀ i j,∀ p ∈ el (subS l i j),(el p).length≤6:=fun i j p hq=>by
  rw [el_subS] at hq
  exact hp p (List.mem_of_mem_drop (List.mem_of_mem_take hq))
 have hlast:(el (lastP l)).length≤6:=by
  by_cases h0:((el l).length:Int)=0
  ·unfold lastP
   have:el l=[]:=List.length_eq_zero_iff.1 (by omega)
   rw [this]; decide
  ·exact all_get (i:=((el l).length:Int) - 1) hp (by omega) (by omega)
 have happ:∀ i j (q:Option (List Int)),(el q).length≤7→Vl (some (el (subS l i j)++[q])):=fun i j q hq=>by
  refine ⟨?_,fun p hp=>?_⟩
  ·have:=sub_len l i j
   simp only [el_some,List.length_append,List.length_singleton]; omega
  ·rcases List.mem_append.1 hp with h|h
   ·have:=hsub i j p h; omega
   ·rw [List.mem_singleton.1 h]; omega
 split
 ·split
  ·exact ⟨by decide,by decide⟩
  ·split
   ·exact ⟨by decide,by decide⟩
   ·split
    ·exact ⟨Nat.le_of_ble_eq_true rfl,fun p hp=>by rw [List.mem_singleton.1 hp]; exact Nat.le_of_ble_eq_true rfl⟩
    ·exact vl_none
 ·split
  ·exact happ _ _ _ (by decide)
  ·split
   ·refine happ _ _ _ ?_
    have:(allL (lastP l)).length≤_:=sub_len (lastP l) 0 ((el (lastP l)).length:Int).toNat
    simp only [el_some,List.length_append,List.length_singleton]; omega
   ·split
    ·exact vl_none
    ·split
     ·refine happ _ _ _ ?_
      have:(cutL (lastP l)).length≤_:=sub_len (lastP l) 0 (((el (lastP l)).length:Int) - 1).toNat
      simp only [el_some,List.length_append,List.length_singleton]; omega
     ·exact vl_none
theorem parE_no {l:Rws} {b:UInt8} {r:List UInt8} (h:¬(stepS l b.toNat).2≠0):parE l (b::r)=parE (stepS l b.toNat).1 r:=if_neg h
theorem parE_so {l:Rws} {b:UInt8} {r:List UInt8} (h:(stepS l b.toNat).2≠0):parE l (b::r)=some (stepS l b.toNat).2:=if_pos h
theorem parL_c {l:Rws} {b:UInt8} {r:List UInt8}:parL l (b::r)=parL (stepS l b.toNat).1 r:=rfl
theorem drop_z (s:List UInt8) {i:Int} (h:(s.length:Int)≤i):s.drop i.toNat=[]:=List.drop_eq_nil_of_le (by omega)
noncomputable def U_psl:List (FuncId × FnC):=(12,conF Tryd.prog [.s 11,.s 4] stp_s [.s 11,.s 3])::L0
theorem U_psl_ok {G:Nat→Option Obj} (hst:StartOk Tryd.prog G gl H0 n0):ConsOk Tryd.prog G gl U_psl:=(.cons (stp_c hst) .nil)
def psl_l:List U→Option (Nat × List U)
 | [.str s,u_l,.int .i64 n,.int .i64 i]=>(decS rP u_l).bind fun l=>if n=(s.length:Int)∧0≤i∧i≤n∧n≤1000000000∧Vl l then way01 (parE l (s.drop i.toNat)) [encS rP (parL l (s.drop i.toNat))] (fun e=>[.int .i64 e]) else none
 | _=>none
theorem psl_l_e (s:(List UInt8)) (l:(Option (List (Option (List Int))))) (n:Int) (i:Int) (hc:n=(s.length:Int)∧0≤i∧i≤n∧n≤1000000000∧Vl l):psl_l [.str s,encS rP l,.int .i64 n,.int .i64 i]=way01 (parE l (s.drop i.toNat)) [encS rP (parL l (s.drop i.toNat))] (fun e=>[.int .i64 e]):=by
 simp only [psl_l,decS_enc,Option.bind_some]
 exact if_pos hc
def psl_D:LoopD:=⟨[(0,h 0 9),(2,dat 4 1 11),(9,h 2 3),(10,h 3 3)],[(4,.frz)],4,[⟨.exit 0,[(2,dat 5 0 11)],[(5,.frz)],1⟩,⟨.ret,[(2,.slice none 0 0),(3,h 0 3)],[],1⟩]⟩
noncomputable def psl_B:Code:=(Tryd.f17.body).getD .skip
noncomputable def psl_x:Code:=match codeAt [true,true,false,true,false] psl_B with|some (.loop x)=>x|_=>.skip
theorem psl_b:Tryd.f17.body=some psl_B:=rfl
theorem psl_p:codeAt [true,true,false,true,false] psl_B=some (.loop psl_x):=by kernel_rfl
def psl_t:Tr:=.lt 8 (.bin .lss) [h 3 3,h 2 3] <| .br 4 (.lt 4 (.idx) [h 0 9,h 3 3] <| .fn stp_s [h 1 11,h 5 4] 2 <| .lt 8 (.bin .neq) [h 7 3,.int .i64 (0)] <| .br 8 (.ret [.int .i64 (1),h 7 3]) (.lt 3 (.bin .add) [h 3 3,.int .i64 (1)] <| .ret [.int .i64 (-1),h 0 9,h 6 11,h 2 3,h 9 3])) (.ret [.int .i64 (0),h 1 11])
def psl_m:List U→Nat
 | [.str s,u_l,.int .i64 n,.int .i64 i]=>(match decS rP u_l with|some l=>(n - i).toNat|none=>0)
 | _=>0
theorem psl_me (s:(List UInt8)) (l:(Option (List (Option (List Int))))) (n:Int) (i:Int):psl_m [.str s,encS rP l,.int .i64 n,.int .i64 i]=(n - i).toNat:=by
 simp only [psl_m,decS_enc]
theorem psl_c {G:Nat→Option Obj} (hst:StartOk Tryd.prog G gl H0 n0):∀ (E:Nat→U) (base:Nat),@CodeOk ⟨E,G⟩ Tryd.prog base gl Tryd.f17.ntmps psl_x (loopF Tryd.prog gl n0 6 psl_D psl_l):=by
 refine loop_ok (C:=cx U_psl P_cpy) (dep:=60) (f:=17) (n0:=n0) (nB:=6) (H0:=H0) psl_m psl_t (cxg (U_psl_ok hst) (P_cpy_ok hst)) hst Tryd.func17 psl_b psl_p (by kernel_rfl) (by kernel_rfl) (by kernel_rfl) ?_
 intro us d outs hs
 have hs0:=hs
 unfold psl_l at hs
 split at hs
 ·skip
  rename_i s u_l n i
  have hq_l:=Option.bind_eq_some_iff.1 hs
  clear hs
  obtain ⟨l,hd_l,hs⟩:=hq_l
  replace hd_l:=decS_eq hd_l
  subst hd_l
  split at hs
  ·rename_i hc
   clear hs hs0
   refine ⟨rfl,?_⟩
   unfold psl_t
   refine s0 (.cons 3 _ (.cons 2 _ (.cons 1 _ (.cons 0 _ (.nil))))) rfl (by simp [Ev.ok,Ev.len]) ?_
   refine s1 (ev_lss _ _ _) rfl rfl rfl ?_
   refine s5 rfl (fun g0=>?_) fun g0=>?_
   ·refine s7 [.int .i64 _,encS rP _] rfl ?_
    refine leaf_exit (d:=0) ?_
    rw [psl_l_e s l n i hc,drop_z s (by omega)]; rfl
   refine s1 (ev_idx _ _ _ (by omega) (by omega)) rfl rfl rfl ?_
   refine s32 (stp_s_e _ _ (vl_c hc.2.2.2.2)) rfl rfl ?_
   refine s1 (ev_neq _ _ _) rfl rfl rfl ?_
   refine s4 rfl (fun g1=>?_) fun g1=>?_
   ·refine s7 [.int .i64 _,.int .i64 _] rfl ?_
    refine leaf_exit (d:=1) ?_
    rw [psl_l_e s l n i hc,drop_sb s hc.2.1 (by omega),parE_so (by first|exact g1|simpa using g1)]; rfl
   first|refine s1 (ev_addW (wrap64 (by omega) (by omega))) rfl rfl rfl ?_|refine s1 (ev_add _ _ _) rfl rfl rfl ?_
   refine s7 [.int .i64 _,.str _,encS rP _,.int .i64 _,.int .i64 _] rfl ?_
   refine leaf_back ?_ ?_
   ·rw [psl_l_e s _ n (i+1) ⟨hc.1,by omega,by omega,hc.2.2.2.1,vl_step _ _⟩,psl_l_e s l n i hc,drop_sb s hc.2.1 (by omega),parE_no (by first|exact g1|simpa using g1),parL_c]
   ·rw [psl_me,psl_me]; omega
  ·cases hs
 ·cases hs
noncomputable def P_psl:List LpE:=(17,([true,true,false,true,false],loopF Tryd.prog gl n0 6 psl_D psl_l))::P_cpy
theorem P_psl_ok {G:Nat→Option Obj} (hst:StartOk Tryd.prog G gl H0 n0):LpsOk Tryd.prog G gl P_psl:=.cons Tryd.func17 psl_b psl_p (psl_c hst) (P_cpy_ok hst)
def parseS (s:List UInt8):Rws × Int:=if 4096 < (s.length:Int) then (none,3) else match parE none s with
 | none=>(parL none s,0)
 | some e=>(none,e)
theorem drop0 (s:List UInt8):s.drop (0:Int).toNat=s:=rfl
theorem parse_a (s:List UInt8) (h:4096 < (s.length:Int)):parseS s=(none,3):=if_pos h
theorem parse_b (s:List UInt8) (h:¬4096 < (s.length:Int)) (g:parE none (s.drop (0:Int).toNat)=none):parseS s=(parL none (s.drop (0:Int).toNat),0):=by rw [drop0] at g ⊢; unfold parseS; rw [if_neg h,g]
theorem parse_c (s:List UInt8) (h:¬4096 < (s.length:Int)) {e:Int} (g:parE none (s.drop (0:Int).toNat)=some e):parseS s=(none,e):=by rw [drop0] at g; unfold parseS; rw [if_neg h,g]
def prs_s:List U→Option (Nat × List U)
 | [.str s]=>some (0,[encS rP ((parseS s).1),.int .i64 ((parseS s).2)])
 | _=>none
theorem prs_s_e (s:(List UInt8)):prs_s [.str s]=some (0,[encS rP ((parseS s).1),.int .i64 ((parseS s).2)]):=rfl
def prs_t:Tr:=.lt 3 (.len) [h 0 9] <| .lt 8 (.bin .gtr) [h 1 3,.int .i64 (4096)] <| .br 2 (.dt 11 (.nilw 1) [] <| .ret [h 3 11,.int .i64 (3)]) (.lt 3 (.len) [h 0 9] <| .dt 11 (.nilw 1) [] <| .lp psl_l [h 0 9,h 4 11,h 3 3,.int .i64 (0)] 0 1 (.ret [h 5 11,.int .i64 (0)]) (.lp psl_l [h 0 9,h 4 11,h 3 3,.int .i64 (0)] 1 1 (.dt 11 (.nilw 1) [] <| .ret [h 6 11,h 5 3]) (.no)))
theorem prs_c {G:Nat→Option Obj} (hst:StartOk Tryd.prog G gl H0 n0):ConOk Tryd.prog G 17 [.s 9] prs_s [.s 11,.s 3]:=by
 refine con_of_tree (C:=cx L_stp P_psl) (d:=60) prs_t (cxg (L_stp_ok hst) (P_psl_ok hst)) hst ⟨Tryd.f17,_,Tryd.func17,rfl⟩ (by kernel_rfl) (by kernel_rfl) ?_
 intro us outs hs
 unfold prs_s at hs
 split at hs
 ·skip
  rename_i s
  cases hs
  unfold prs_t
  refine s0 (.cons 0 _ (.nil)) rfl (by simp [Ev.ok,Ev.len]) ?_
  refine s1 (ev_len _) rfl rfl rfl ?_
  refine s1 (ev_gtr _ _ _) rfl rfl rfl ?_
  refine s4 rfl (fun g0=>?_) fun g0=>?_
  ·refine s2 (r:=rP) (ev_nilwS rfl) rfl rfl ?_
   refine s7 [encS rP _,.int .i64 _] rfl ?_
   first|(rw [parse_a s (by omega)]; done)|(rw [parse_b s (by omega) (by assumption)]; done)|(rw [parse_c s (by omega) (by assumption)]; done)
  refine s1 (ev_len _) rfl rfl rfl ?_
  refine s2 (r:=rP) (ev_nilwS rfl) rfl rfl ?_
  refine s6 (psl_l_e _ none _ _ ⟨rfl,by omega,by omega,by omega,vl_none⟩) rfl (fun _=>rfl) (fun g1=>?_) (fun v1 g1=>?_)
  ·show Tr.sav _ _ (.cons 5 _ _)
   refine s7 [encS rP _,.int .i64 _] rfl ?_
   first|(rw [parse_a s (by omega)]; done)|(rw [parse_b s (by omega) (by assumption)]; done)|(rw [parse_c s (by omega) (by assumption)]; done)
  show Tr.sav _ _ (.cons 5 _ _)
  refine s2 (r:=rP) (ev_nilwS rfl) rfl rfl ?_
  refine s7 [encS rP _,.int .i64 _] rfl ?_
  first|(rw [parse_a s (by omega)]; done)|(rw [parse_b s (by omega) (by assumption)]; done)|(rw [parse_c s (by omega) (by assumption)]; done)
 ·cases hs
noncomputable def L_prs:List (FuncId × FnC):=(17,conF Tryd.prog [.s 9] prs_s [.s 11,.s 3])::L_stp
theorem L_prs_ok {G:Nat→Option Obj} (hst:StartOk Tryd.prog G gl H0 n0):ConsOk Tryd.prog G gl L_prs:=.cons (prs_c hst) (L_stp_ok hst)
end Go.Proofs.YtadmkfclgpbebaaDoor

namespace Go.Proofs.YtadmkfclgpbebaaDoor
set_option linter.all false
open Go Go.Sx
set_option maxRecDepth 100000
set_option linter.unusedVariables false
set_option linter.unusedSimpArgs false
def ito_s:List U→Option (Nat × List U)
 | [.int .i64 n]=>if -9223372036854775808≤n∧n≤9223372036854775807 then some (0,[.str (Lib.itoa n)]) else none
 | _=>none
theorem ito_s_e (n:Int) (hc : -9223372036854775808≤n∧n≤9223372036854775807):ito_s [.int .i64 n]=some (0,[.str (Lib.itoa n)]):=if_pos hc
theorem ito_c {G:Nat→Option Obj} (hst:StartOk Tryd.prog G gl H0 n0):ConOk Tryd.prog G 61 [.s 3] ito_s [.s 9]:=by
 intro us outs w vs R hsh hs hG hR
 unfold ito_s at hs
 split at hs
 ·skip
  rename_i n
  split at hs
  ·rename_i hc
   cases hs
   have hv:=val_of_shL (vs2:=[.int .i64 n]) hsh rfl
   subst hv
   refine con_end (vr:=[.string ⟨⟨Lib.itoa n⟩⟩]) Tryd.func61 rfl (by kernel_rfl) rfl ?_
   refine (Tryd.strconv_Itoa n (by omega) (by omega) w (var_of_start (id:=1) hst hG (by decide) (by decide) (by kernel_rfl) (by kernel_rfl) (by kernel_rfl))).mono fun e w' ⟨h1,k,os,h2⟩=>⟨h1,?_⟩
   subst h2
   exact Go.Lib.below_grow _ w (Nat.le_refl _) k os
  ·cases hs
 ·cases hs
noncomputable def L_ito:List (FuncId × FnC):=(61,conF Tryd.prog [.s 3] ito_s [.s 9])::L_prs
theorem L_ito_ok {G:Nat→Option Obj} (hst:StartOk Tryd.prog G gl H0 n0):ConsOk Tryd.prog G gl L_ito:=.cons (ito_c hst) (L_prs_ok hst)
end Go.Proofs.YtadmkfclgpbebaaDoor

namespace Go.Proofs.YtadmkfclgpbebaaDoor
set_option linter.all false
open Go Go.Sx
set_option maxRecDepth 100000
set_option linter.unusedVariables false
set_option linter.unusedSimpArgs false
def aheadS (i k:Int):List UInt8:=if k=0 then (if i=0 then [] else [59]) else [58]
def partS (n:Int):List UInt8:=if n = -1 then [] else Lib.itoa n
def rowS (i k:Int):List Int→List UInt8
 | []=>[]
 | n::r=>aheadS i k++partS n++rowS i (k+1) r
theorem ahead_len (i k:Int):(aheadS i k).length≤1:=by
 unfold aheadS
 split
 ·split <;> decide
 ·decide
theorem catS_catS {α:Type} (x:Option (List α)) (u v:List α):catS (catS x (some u)) (some v)=catS x (some (u++v)):=by
 cases u with
 | nil=>rfl
 | cons a u=>cases v with
   | nil=>simp [catS,el]
   | cons c v=>simp [catS,el]
theorem row_cons (i k n:Int) (r:List Int):rowS i k (n::r)=aheadS i k++partS n++rowS i (k+1) r:=rfl
theorem row_pre {i k m:Int} {p:Option (List Int)} (hm:m=((el p).length:Int)) (hk:0≤k) (h:∀ n ∈ el p,-1≤n∧n≤1000000000):¬k < m ∨ -1≤(el p).getD k.toNat default∧(el p).getD k.toNat default≤1000000000 ∧
  (rowS i k ((el p).drop k.toNat)).length=(aheadS i k).length+(partS ((el p).getD k.toNat default)).length+(rowS i (k+1) ((el p).drop (k+1).toNat)).length∧((el p).getD k.toNat default = -1∨(partS ((el p).getD k.toNat default)).length=(Lib.itoa ((el p).getD k.toNat default)).length):=by
 by_cases hkm:k < m
 ·obtain ⟨a,b⟩:=all_get h hk (by omega)
  refine .inr ⟨a,b,?_,?_⟩
  ·rw [drop_step (el p) hk (by omega),row_cons]; simp only [List.length_append]
  ·by_cases e:(el p).getD k.toNat default = -1
   ·exact .inl e
   ·exact .inr (by unfold partS; rw [if_neg e])
 ·exact .inl hkm
def pin_s:List U→Option (Nat × List U)
 | [.int .i64 i,u_l,.int .i64 n,.int .i64 j,u_p,.int .i64 m,.int .i64 k,u_b]=>(decS rP u_l).bind fun l=>(decS rI u_p).bind fun p=>(decS rB u_b).bind fun b=>if m=((el p).length:Int)∧0≤k∧k≤m∧m≤1000000∧0≤i∧i≤1000000∧(el b).length+(rowS i k ((el p).drop k.toNat)).length≤100000000∧∀ n ∈ el p,-1≤n∧n≤1000000000 then some (0,[encS rP l,.int .i64 n,.int .i64 j,encS rB (catS b (some (bI (rowS i k ((el p).drop k.toNat)))))]) else none
 | _=>none
theorem pin_s_e (i:Int) (l:(Option (List (Option (List Int))))) (n:Int) (j:Int) (p:(Option (List Int))) (m:Int) (k:Int) (b:(Option (List Int))) (hc:m=((el p).length:Int)∧0≤k∧k≤m∧m≤1000000∧0≤i∧i≤1000000∧(el b).length+(rowS i k ((el p).drop k.toNat)).length≤100000000∧∀ n ∈ el p,-1≤n∧n≤1000000000):pin_s [.int .i64 i,encS rP l,.int .i64 n,.int .i64 j,encS rI p,.int .i64 m,.int .i64 k,encS rB b]=some (0,[encS rP l,.int .i64 n,.int .i64 j,encS rB (catS b (some (bI (rowS i k ((el p).drop k.toNat)))))]):=by
 simp only [pin_s,decS_enc,Option.bind_some]
 exact if_pos hc
def pin_D:LoopD:=⟨[(0,yv 8),(3,h 0 3),(9,dat 10 1 11),(10,h 2 3),(11,h 3 3),(17,dat 11 4 11),(18,h 5 3),(19,h 6 3)],[(8,.lp 25 [true,true,true,false,true,false] [junk,junk,junk,junk,junk,.pointer (some ⟨5,0,none⟩),junk,junk,junk,junk,junk,junk,junk,junk,junk,junk,junk,junk,junk,junk,junk,junk] 0),(5,.cells 71 [.pointer (some ⟨5,0,none⟩),own 12 7 11]),(12,.sq 7 11 5 13),(10,.frz),(11,.frz),(13,.frz)],8,[⟨.exit 2,[(0,yv 8),(9,dat 14 0 11),(10,h 1 3),(11,h 2 3)],[(8,.lp 25 [true,true,true,false,true,false] [junk,junk,junk,junk,junk,.pointer (some ⟨5,0,none⟩),junk,junk,junk,junk,junk,junk,junk,junk,junk,junk,junk,junk,junk,junk,junk,junk] 0),(5,.cells 71 [.pointer (some ⟨5,0,none⟩),own 15 3 11]),(15,.sq 3 11 5 16),(14,.frz),(16,.frz)],4⟩]⟩
noncomputable def pin_B:Code:=(Tryd.f60.body).getD .skip
noncomputable def pin_x:Code:=match codeAt [true,false,false,true,true,false,false,true,true,false] pin_B with|some (.loop x)=>x|_=>.skip
theorem pin_b:Tryd.f60.body=some pin_B:=rfl
theorem pin_p:codeAt [true,false,false,true,true,false,false,true,true,false] pin_B=some (.loop pin_x):=by kernel_rfl
def pin_t:Tr:=.lt 8 (.bin .lss) [h 6 3,h 5 3] <| .br 8 (.lt 8 (.inbs 1) [h 6 3,h 4 11] <| .br 9 (.lt 3 (.get 1 0) [h 4 11,h 6 3] <| .lt 8 (.bin .eql) [h 6 3,.int .i64 (0)] <| .br 11 (.lt 8 (.bin .eql) [h 0 3,.int .i64 (0)] <| .br 12 (.lt 8 (.bin .neq) [h 10 3,.int .i64 (-1)] <| .br 13 (.fn ito_s [h 10 3] 1 <| .lt 9 (.bin .add) [.string ⟨⟨[]⟩⟩,h 14 9] <| .dt 11 (.cats) [h 7 11,h 15 9] <| .lt 3 (.len) [h 15 9] <| .lt 3 (.bin .add) [h 6 3,.int .i64 (1)] <| .ret [.int .i64 (-1),h 0 3,h 1 11,h 2 3,h 3 3,h 4 11,h 5 3,h 18 3,h 16 11]) (.dt 11 (.cats) [h 7 11,.string ⟨⟨[]⟩⟩] <| .lt 3 (.bin .add) [h 6 3,.int .i64 (1)] <| .ret [.int .i64 (-1),h 0 3,h 1 11,h 2 3,h 3 3,h 4 11,h 5 3,h 15 3,h 14 11])) (.lt 8 (.bin .eql) [h 6 3,.int .i64 (0)] <| .br 13 (.lt 8 (.bin .neq) [h 10 3,.int .i64 (-1)] <| .br 14 (.fn ito_s [h 10 3] 1 <| .lt 9 (.bin .add) [.string ⟨⟨[59]⟩⟩,h 15 9] <| .dt 11 (.cats) [h 7 11,h 16 9] <| .lt 3 (.len) [h 16 9] <| .lt 3 (.bin .add) [h 6 3,.int .i64 (1)] <| .ret [.int .i64 (-1),h 0 3,h 1 11,h 2 3,h 3 3,h 4 11,h 5 3,h 19 3,h 17 11]) (.dt 11 (.cats) [h 7 11,.string ⟨⟨[59]⟩⟩] <| .lt 3 (.bin .add) [h 6 3,.int .i64 (1)] <| .ret [.int .i64 (-1),h 0 3,h 1 11,h 2 3,h 3 3,h 4 11,h 5 3,h 16 3,h 15 11])) (.lt 8 (.bin .neq) [h 10 3,.int .i64 (-1)] <| .br 14 (.fn ito_s [h 10 3] 1 <| .lt 9 (.bin .add) [.string ⟨⟨[58]⟩⟩,h 15 9] <| .dt 11 (.cats) [h 7 11,h 16 9] <| .lt 3 (.len) [h 16 9] <| .lt 3 (.bin .add) [h 6 3,.int .i64 (1)] <| .ret [.int .i64 (-1),h 0 3,h 1 11,h 2 3,h 3 3,h 4 11,h 5 3,h 19 3,h 17 11]) (.dt 11 (.cats) [h 7 11,.string ⟨⟨[58]⟩⟩] <| .lt 3 (.bin .add) [h 6 3,.int .i64 (1)] <| .ret [.int .i64 (-1),h 0 3,h 1 11,h 2 3,h 3 3,h 4 11,h 5 3,h 16 3,h 15 11])))) (.lt 8 (.bin .eql) [h 6 3,.int .i64 (0)] <| .br 12 (.lt 8 (.bin .neq) [h 10 3,.int .i64 (-1)] <| .br 13 (.fn ito_s [h 10 3] 1 <| .lt 9 (.bin .add) [.string ⟨⟨[59]⟩⟩,h 14 9] <| .dt 11 (.cats) [h 7 11,h 15 9] <| .lt 3 (.len) [h 15 9] <| .lt 3 (.bin .add) [h 6 3,.int .i64 (1)] <| .ret [.int .i64 (-1),h 0 3,h 1 11,h 2 3,h 3 3,h 4 11,h 5 3,h 18 3,h 16 11]) (.dt 11 (.cats) [h 7 11,.string ⟨⟨[59]⟩⟩] <| .lt 3 (.bin .add) [h 6 3,.int .i64 (1)] <| .ret [.int .i64 (-1),h 0 3,h 1 11,h 2 3,h 3 3,h 4 11,h 5 3,h 15 3,h 14 11])) (.lt 8 (.bin .neq) [h 10 3,.int .i64 (-1)] <| .br 13 (.fn ito_s [h 10 3] 1 <| .lt 9 (.bin .add) [.string ⟨⟨[58]⟩⟩,h 14 9] <| .dt 11 (.cats) [h 7 11,h 15 9] <| .lt 3 (.len) [h 15 9] <| .lt 3 (.bin .add) [h 6 3,.int .i64 (1)] <| .ret [.int .i64 (-1),h 0 3,h 1 11,h 2 3,h 3 3,h 4 11,h 5 3,h 18 3,h 16 11]) (.dt 11 (.cats) [h 7 11,.string ⟨⟨[58]⟩⟩] <| .lt 3 (.bin .add) [h 6 3,.int .i64 (1)] <| .ret [.int .i64 (-1),h 0 3,h 1 11,h 2 3,h 3 3,h 4 11,h 5 3,h 15 3,h 14 11])))) (.no)) (.ret [.int .i64 (0),h 1 11,h 2 3,h 3 3,h 7 11])
def pin_m:List U→Nat
 | [.int .i64 i,u_l,.int .i64 n,.int .i64 j,u_p,.int .i64 m,.int .i64 k,u_b]=>(match decS rP u_l with|some l=>(match decS rI u_p with|some p=>(match decS rB u_b with|some b=>(m - k).toNat|none=>0)|none=>0)|none=>0)
 | _=>0
theorem pin_me (i:Int) (l:(Option (List (Option (List Int))))) (n:Int) (j:Int) (p:(Option (List Int))) (m:Int) (k:Int) (b:(Option (List Int))):pin_m [.int .i64 i,encS rP l,.int .i64 n,.int .i64 j,encS rI p,.int .i64 m,.int .i64 k,encS rB b]=(m - k).toNat:=by
 simp only [pin_m,decS_enc]
theorem pin_c {G:Nat→Option Obj} (hst:StartOk Tryd.prog G gl H0 n0):∀ (E:Nat→U) (base:Nat),@CodeOk ⟨E,G⟩ Tryd.prog base gl Tryd.f60.ntmps pin_x (loopF Tryd.prog gl n0 17 pin_D pin_s):=by
 refine loop_ok (C:=cx L_ito P_psl) (dep:=60) (f:=60) (n0:=n0) (nB:=17) (H0:=H0) pin_m pin_t (cxg (L_ito_ok hst) (P_psl_ok hst)) hst Tryd.func60 pin_b pin_p (by kernel_rfl) (by kernel_rfl) (by kernel_rfl) ?_
 intro us d outs hs
 have hs0:=hs
 unfold pin_s at hs
 split at hs
 ·skip
  rename_i i u_l n j u_p m k u_b
  have hq_l:=Option.bind_eq_some_iff.1 hs
  clear hs
  obtain ⟨l,hd_l,hs⟩:=hq_l
  replace hd_l:=decS_eq hd_l
  subst hd_l
  have hq_p:=Option.bind_eq_some_iff.1 hs
  clear hs
  obtain ⟨p,hd_p,hs⟩:=hq_p
  replace hd_p:=decS_eq hd_p
  subst hd_p
  have hq_b:=Option.bind_eq_some_iff.1 hs
  clear hs
  obtain ⟨b,hd_b,hs⟩:=hq_b
  replace hd_b:=decS_eq hd_b
  subst hd_b
  split at hs
  ·rename_i hc
   clear hs hs0
   have hr:=row_pre (i:=i) hc.1 hc.2.1 hc.2.2.2.2.2.2.2
   have ha:=ahead_len i k
   refine ⟨rfl,?_⟩
   unfold pin_t
   refine s0 (.cons 7 _ (.cons 6 _ (.cons 5 _ (.cons 4 _ (.cons 3 _ (.cons 2 _ (.cons 1 _ (.cons 0 _ (.nil))))))))) rfl (by simp [Ev.ok,Ev.len]) ?_
   refine s1 (ev_lss _ _ _) rfl rfl rfl ?_
   refine s5 rfl (fun g0=>?_) fun g0=>?_
   ·refine s7 [.int .i64 _,encS rP _,.int .i64 _,.int .i64 _,encS rB _] rfl ?_
    refine leaf_exit (d:=0) ?_
    rw [pin_s_e i l n j p m k b hc,drop_end (i:=k) (el p) (by omega)]; rfl
   refine s1 (ev_inbsS rfl) rfl rfl rfl ?_
   refine s5 rfl (fun g1=>?_) fun g1=>?_
   ·refine s8 ?_
    first|omega|(simp_all; done)|(simp_all; omega)
   refine s1 (u:=.int .i64 _) (ev_getS rfl (by omega) (by omega) rfl) rfl rfl rfl ?_
   refine s1 (ev_eql _ _ _) rfl rfl rfl ?_
   refine s4 rfl (fun g2=>?_) fun g2=>?_
   ·refine s1 (ev_eql _ _ _) rfl rfl rfl ?_
    refine s4 rfl (fun g3=>?_) fun g3=>?_
    ·refine s1 (ev_neq _ _ _) rfl rfl rfl ?_
     refine s4 rfl (fun g4=>?_) fun g4=>?_
     ·refine s31 (ito_s_e _ (by omega)) rfl ?_
      refine s1 (ev_cat _ _ (by first|omega|(simp only [List.length_append,List.length_cons,List.length_nil]; omega)|(show 0+_≤_; omega)|(show 1+_≤_; omega)|(show _+(0+_)≤_; omega)|(show _+(1+_)≤_; omega))) rfl rfl rfl ?_
      refine s2 (r:=rB) (ev_catsS rfl (by first|omega|(simp only [List.length_append,List.length_cons,List.length_nil]; omega)|(show 0+_≤_; omega)|(show 1+_≤_; omega)|(show _+(0+_)≤_; omega)|(show _+(1+_)≤_; omega))) rfl rfl ?_
      refine s1 (ev_len _) rfl rfl rfl ?_
      first|refine s1 (ev_addW (wrap64 (by omega) (by omega))) rfl rfl rfl ?_|refine s1 (ev_add _ _ _) rfl rfl rfl ?_
      refine s7 [.int .i64 _,.int .i64 _,encS rP _,.int .i64 _,.int .i64 _,encS rI _,.int .i64 _,.int .i64 _,encS rB _] rfl ?_
      refine leaf_back ?_ ?_
      have ht:∀ t:List UInt8,t=aheadS i k++partS ((el p).getD k.toNat default)→pin_s [.int .i64 i,encS rP l,.int .i64 n,.int .i64 j,encS rI p,.int .i64 m,.int .i64 (k+1),encS rB (catS b (some (bI t)))]=pin_s [.int .i64 i,encS rP l,.int .i64 n,.int .i64 j,encS rI p,.int .i64 m,.int .i64 k,encS rB b]:=fun t ht=>by
       have hl:t.length=(aheadS i k).length+(partS ((el p).getD k.toNat default)).length:=by rw [ht,List.length_append]
       rw [pin_s_e i l n j p m (k+1) _ ⟨hc.1,by omega,by omega,hc.2.2.2.1,hc.2.2.2.2.1,hc.2.2.2.2.2.1,by rw [el_catS,el_some,List.length_append,bI_len]; omega,hc.2.2.2.2.2.2.2⟩,pin_s_e i l n j p m k b hc,catS_catS,← bI_app,ht,drop_step (el p) hc.2.1 (by omega),row_cons]
      ·first|(exfalso; omega)|exact ht _ (by clear ht hr ha hc; generalize (el p).getD k.toNat default=g at *; simp [aheadS,partS, *])
      ·rw [pin_me,pin_me]; omega
     refine s2 (r:=rB) (ev_catsS rfl (by first|omega|(simp only [List.length_append,List.length_cons,List.length_nil]; omega)|(show 0+_≤_; omega)|(show 1+_≤_; omega)|(show _+(0+_)≤_; omega)|(show _+(1+_)≤_; omega))) rfl rfl ?_
     first|refine s1 (ev_addW (wrap64 (by omega) (by omega))) rfl rfl rfl ?_|refine s1 (ev_add _ _ _) rfl rfl rfl ?_
     refine s7 [.int .i64 _,.int .i64 _,encS rP _,.int .i64 _,.int .i64 _,encS rI _,.int .i64 _,.int .i64 _,encS rB _] rfl ?_
     refine leaf_back ?_ ?_
     have ht:∀ t:List UInt8,t=aheadS i k++partS ((el p).getD k.toNat default)→pin_s [.int .i64 i,encS rP l,.int .i64 n,.int .i64 j,encS rI p,.int .i64 m,.int .i64 (k+1),encS rB (catS b (some (bI t)))]=pin_s [.int .i64 i,encS rP l,.int .i64 n,.int .i64 j,encS rI p,.int .i64 m,.int .i64 k,encS rB b]:=fun t ht=>by
      have hl:t.length=(aheadS i k).length+(partS ((el p).getD k.toNat default)).length:=by rw [ht,List.length_append]
      rw [pin_s_e i l n j p m (k+1) _ ⟨hc.1,by omega,by omega,hc.2.2.2.1,hc.2.2.2.2.1,hc.2.2.2.2.2.1,by rw [el_catS,el_some,List.length_append,bI_len]; omega,hc.2.2.2.2.2.2.2⟩,pin_s_e i l n j p m k b hc,catS_catS,← bI_app,ht,drop_step (el p) hc.2.1 (by omega),row_cons]
     ·first|(exfalso; omega)|exact ht _ (by clear ht hr ha hc; generalize (el p).getD k.toNat default=g at *; simp [aheadS,partS, *])
     ·rw [pin_me,pin_me]; omega
    refine s1 (ev_eql _ _ _) rfl rfl rfl ?_
    refine s4 rfl (fun g4=>?_) fun g4=>?_
    ·refine s1 (ev_neq _ _ _) rfl rfl rfl ?_
     refine s4 rfl (fun g5=>?_) fun g5=>?_
     ·refine s31 (ito_s_e _ (by omega)) rfl ?_
      refine s1 (ev_cat _ _ (by first|omega|(simp only [List.length_append,List.length_cons,List.length_nil]; omega)|(show 0+_≤_; omega)|(show 1+_≤_; omega)|(show _+(0+_)≤_; omega)|(show _+(1+_)≤_; omega))) rfl rfl rfl ?_
      refine s2 (r:=rB) (ev_catsS rfl (by first|omega|(simp only [List.length_append,List.length_cons,List.length_nil]; omega)|(show 0+_≤_; omega)|(show 1+_≤_; omega)|(show _+(0+_)≤_; omega)|(show _+(1+_)≤_; omega))) rfl rfl ?_
      refine s1 (ev_len _) rfl rfl rfl ?_
      first|refine s1 (ev_addW (wrap64 (by omega) (by omega))) rfl rfl rfl ?_|refine s1 (ev_add _ _ _) rfl rfl rfl ?_
      refine s7 [.int .i64 _,.int .i64 _,encS rP _,.int .i64 _,.int .i64 _,encS rI _,.int .i64 _,.int .i64 _,encS rB _] rfl ?_
      refine leaf_back ?_ ?_
      have ht:∀ t:List UInt8,t=aheadS i k++partS ((el p).getD k.toNat default)→pin_s [.int .i64 i,encS rP l,.int .i64 n,.int .i64 j,encS rI p,.int .i64 m,.int .i64 (k+1),encS rB (catS b (some (bI t)))]=pin_s [.int .i64 i,encS rP l,.int .i64 n,.int .i64 j,encS rI p,.int .i64 m,.int .i64 k,encS rB b]:=fun t ht=>by
       have hl:t.length=(aheadS i k).length+(partS ((el p).getD k.toNat default)).length:=by rw [ht,List.length_append]
       rw [pin_s_e i l n j p m (k+1) _ ⟨hc.1,by omega,by omega,hc.2.2.2.1,hc.2.2.2.2.1,hc.2.2.2.2.2.1,by rw [el_catS,el_some,List.length_append,bI_len]; omega,hc.2.2.2.2.2.2.2⟩,pin_s_e i l n j p m k b hc,catS_catS,← bI_app,ht,drop_step (el p) hc.2.1 (by omega),row_cons]
      ·first|(exfalso; omega)|exact ht _ (by clear ht hr ha hc; generalize (el p).getD k.toNat default=g at *; simp [aheadS,partS, *])
      ·rw [pin_me,pin_me]; omega
     refine s2 (r:=rB) (ev_catsS rfl (by first|omega|(simp only [List.length_append,List.length_cons,List.length_nil]; omega)|(show 0+_≤_; omega)|(show 1+_≤_; omega)|(show _+(0+_)≤_; omega)|(show _+(1+_)≤_; omega))) rfl rfl ?_
     first|refine s1 (ev_addW (wrap64 (by omega) (by omega))) rfl rfl rfl ?_|refine s1 (ev_add _ _ _) rfl rfl rfl ?_
     refine s7 [.int .i64 _,.int .i64 _,encS rP _,.int .i64 _,.int .i64 _,encS rI _,.int .i64 _,.int .i64 _,encS rB _] rfl ?_
     refine leaf_back ?_ ?_
     have ht:∀ t:List UInt8,t=aheadS i k++partS ((el p).getD k.toNat default)→pin_s [.int .i64 i,encS rP l,.int .i64 n,.int .i64 j,encS rI p,.int .i64 m,.int .i64 (k+1),encS rB (catS b (some (bI t)))]=pin_s [.int .i64 i,encS rP l,.int .i64 n,.int .i64 j,encS rI p,.int .i64 m,.int .i64 k,encS rB b]:=fun t ht=>by
      have hl:t.length=(aheadS i k).length+(partS ((el p).getD k.toNat default)).length:=by rw [ht,List.length_append]
      rw [pin_s_e i l n j p m (k+1) _ ⟨hc.1,by omega,by omega,hc.2.2.2.1,hc.2.2.2.2.1,hc.2.2.2.2.2.1,by rw [el_catS,el_some,List.length_append,bI_len]; omega,hc.2.2.2.2.2.2.2⟩,pin_s_e i l n j p m k b hc,catS_catS,← bI_app,ht,drop_step (el p) hc.2.1 (by omega),row_cons]
     ·first|(exfalso; omega)|exact ht _ (by clear ht hr ha hc; generalize (el p).getD k.toNat default=g at *; simp [aheadS,partS, *])
     ·rw [pin_me,pin_me]; omega
    refine s1 (ev_neq _ _ _) rfl rfl rfl ?_
    refine s4 rfl (fun g5=>?_) fun g5=>?_
    ·refine s31 (ito_s_e _ (by omega)) rfl ?_
     refine s1 (ev_cat _ _ (by first|omega|(simp only [List.length_append,List.length_cons,List.length_nil]; omega)|(show 0+_≤_; omega)|(show 1+_≤_; omega)|(show _+(0+_)≤_; omega)|(show _+(1+_)≤_; omega))) rfl rfl rfl ?_
     refine s2 (r:=rB) (ev_catsS rfl (by first|omega|(simp only [List.length_append,List.length_cons,List.length_nil]; omega)|(show 0+_≤_; omega)|(show 1+_≤_; omega)|(show _+(0+_)≤_; omega)|(show _+(1+_)≤_; omega))) rfl rfl ?_
     refine s1 (ev_len _) rfl rfl rfl ?_
     first|refine s1 (ev_addW (wrap64 (by omega) (by omega))) rfl rfl rfl ?_|refine s1 (ev_add _ _ _) rfl rfl rfl ?_
     refine s7 [.int .i64 _,.int .i64 _,encS rP _,.int .i64 _,.int .i64 _,encS rI _,.int .i64 _,.int .i64 _,encS rB _] rfl ?_
     refine leaf_back ?_ ?_
     have ht:∀ t:List UInt8,t=aheadS i k++partS ((el p).getD k.toNat default)→pin_s [.int .i64 i,encS rP l,.int .i64 n,.int .i64 j,encS rI p,.int .i64 m,.int .i64 (k+1),encS rB (catS b (some (bI t)))]=pin_s [.int .i64 i,encS rP l,.int .i64 n,.int .i64 j,encS rI p,.int .i64 m,.int .i64 k,encS rB b]:=fun t ht=>by
      have hl:t.length=(aheadS i k).length+(partS ((el p).getD k.toNat default)).length:=by rw [ht,List.length_append]
      rw [pin_s_e i l n j p m (k+1) _ ⟨hc.1,by omega,by omega,hc.2.2.2.1,hc.2.2.2.2.1,hc.2.2.2.2.2.1,by rw [el_catS,el_some,List.length_append,bI_len]; omega,hc.2.2.2.2.2.2.2⟩,pin_s_e i l n j p m k b hc,catS_catS,← bI_app,ht,drop_step (el p) hc.2.1 (by omega),row_cons]
     ·first|(exfalso; omega)|exact ht _ (by clear ht hr ha hc; generalize (el p).getD k.toNat default=g at *; simp [aheadS,partS, *])
     ·rw [pin_me,pin_me]; omega
    refine s2 (r:=rB) (ev_catsS rfl (by first|omega|(simp only [List.length_append,List.length_cons,List.length_nil]; omega)|(show 0+_≤_; omega)|(show 1+_≤_; omega)|(show _+(0+_)≤_; omega)|(show _+(1+_)≤_; omega))) rfl rfl ?_
    first|refine s1 (ev_addW (wrap64 (by omega) (by omega))) rfl rfl rfl ?_|refine s1 (ev_add _ _ _) rfl rfl rfl ?_
    refine s7 [.int .i64 _,.int .i64 _,encS rP _,.int .i64 _,.int .i64 _,encS rI _,.int .i64 _,.int .i64 _,encS rB _] rfl ?_
    refine leaf_back ?_ ?_
    have ht:∀ t:List UInt8,t=aheadS i k++partS ((el p).getD k.toNat default)→pin_s [.int .i64 i,encS rP l,.int .i64 n,.int .i64 j,encS rI p,.int .i64 m,.int .i64 (k+1),encS rB (catS b (some (bI t)))]=pin_s [.int .i64 i,encS rP l,.int .i64 n,.int .i64 j,encS rI p,.int .i64 m,.int .i64 k,encS rB b]:=fun t ht=>by
     have hl:t.length=(aheadS i k).length+(partS ((el p).getD k.toNat default)).length:=by rw [ht,List.length_append]
     rw [pin_s_e i l n j p m (k+1) _ ⟨hc.1,by omega,by omega,hc.2.2.2.1,hc.2.2.2.2.1,hc.2.2.2.2.2.1,by rw [el_catS,el_some,List.length_append,bI_len]; omega,hc.2.2.2.2.2.2.2⟩,pin_s_e i l n j p m k b hc,catS_catS,← bI_app,ht,drop_step (el p) hc.2.1 (by omega),row_cons]
    ·first|(exfalso; omega)|exact ht _ (by clear ht hr ha hc; generalize (el p).getD k.toNat default=g at *; simp [aheadS,partS, *])
    ·rw [pin_me,pin_me]; omega
   refine s1 (ev_eql _ _ _) rfl rfl rfl ?_
   refine s4 rfl (fun g3=>?_) fun g3=>?_
   ·refine s1 (ev_neq _ _ _) rfl rfl rfl ?_
    refine s4 rfl (fun g4=>?_) fun g4=>?_
    ·refine s31 (ito_s_e _ (by omega)) rfl ?_
     refine s1 (ev_cat _ _ (by first|omega|(simp only [List.length_append,List.length_cons,List.length_nil]; omega)|(show 0+_≤_; omega)|(show 1+_≤_; omega)|(show _+(0+_)≤_; omega)|(show _+(1+_)≤_; omega))) rfl rfl rfl ?_
     refine s2 (r:=rB) (ev_catsS rfl (by first|omega|(simp only [List.length_append,List.length_cons,List.length_nil]; omega)|(show 0+_≤_; omega)|(show 1+_≤_; omega)|(show _+(0+_)≤_; omega)|(show _+(1+_)≤_; omega))) rfl rfl ?_
     refine s1 (ev_len _) rfl rfl rfl ?_
     first|refine s1 (ev_addW (wrap64 (by omega) (by omega))) rfl rfl rfl ?_|refine s1 (ev_add _ _ _) rfl rfl rfl ?_
     refine s7 [.int .i64 _,.int .i64 _,encS rP _,.int .i64 _,.int .i64 _,encS rI _,.int .i64 _,.int .i64 _,encS rB _] rfl ?_
     refine leaf_back ?_ ?_
     have ht:∀ t:List UInt8,t=aheadS i k++partS ((el p).getD k.toNat default)→pin_s [.int .i64 i,encS rP l,.int .i64 n,.int .i64 j,encS rI p,.int .i64 m,.int .i64 (k+1),encS rB (catS b (some (bI t)))]=pin_s [.int .i64 i,encS rP l,.int .i64 n,.int .i64 j,encS rI p,.int .i64 m,.int .i64 k,encS rB b]:=fun t ht=>by
      have hl:t.length=(aheadS i k).length+(partS ((el p).getD k.toNat default)).length:=by rw [ht,List.length_append]
      rw [pin_s_e i l n j p m (k+1) _ ⟨hc.1,by omega,by omega,hc.2.2.2.1,hc.2.2.2.2.1,hc.2.2.2.2.2.1,by rw [el_catS,el_some,List.length_append,bI_len]; omega,hc.2.2.2.2.2.2.2⟩,pin_s_e i l n j p m k b hc,catS_catS,← bI_app,ht,drop_step (el p) hc.2.1 (by omega),row_cons]
     ·first|(exfalso; omega)|exact ht _ (by clear ht hr ha hc; generalize (el p).getD k.toNat default=g at *; simp [aheadS,partS, *])
     ·rw [pin_me,pin_me]; omega
    refine s2 (r:=rB) (ev_catsS rfl (by first|omega|(simp only [List.length_append,List.length_cons,List.length_nil]; omega)|(show 0+_≤_; omega)|(show 1+_≤_; omega)|(show _+(0+_)≤_; omega)|(show _+(1+_)≤_; omega))) rfl rfl ?_
    first|refine s1 (ev_addW (wrap64 (by omega) (by omega))) rfl rfl rfl ?_|refine s1 (ev_add _ _ _) rfl rfl rfl ?_
    refine s7 [.int .i64 _,.int .i64 _,encS rP _,.int .i64 _,.int .i64 _,encS rI _,.int .i64 _,.int .i64 _,encS rB _] rfl ?_
    refine leaf_back ?_ ?_
    have ht:∀ t:List UInt8,t=aheadS i k++partS ((el p).getD k.toNat default)→pin_s [.int .i64 i,encS rP l,.int .i64 n,.int .i64 j,encS rI p,.int .i64 m,.int .i64 (k+1),encS rB (catS b (some (bI t)))]=pin_s [.int .i64 i,encS rP l,.int .i64 n,.int .i64 j,encS rI p,.int .i64 m,.int .i64 k,encS rB b]:=fun t ht=>by
     have hl:t.length=(aheadS i k).length+(partS ((el p).getD k.toNat default)).length:=by rw [ht,List.length_append]
     rw [pin_s_e i l n j p m (k+1) _ ⟨hc.1,by omega,by omega,hc.2.2.2.1,hc.2.2.2.2.1,hc.2.2.2.2.2.1,by rw [el_catS,el_some,List.length_append,bI_len]; omega,hc.2.2.2.2.2.2.2⟩,pin_s_e i l n j p m k b hc,catS_catS,← bI_app,ht,drop_step (el p) hc.2.1 (by omega),row_cons]
    ·first|(exfalso; omega)|exact ht _ (by clear ht hr ha hc; generalize (el p).getD k.toNat default=g at *; simp [aheadS,partS, *])
    ·rw [pin_me,pin_me]; omega
   refine s1 (ev_neq _ _ _) rfl rfl rfl ?_
   refine s4 rfl (fun g4=>?_) fun g4=>?_
   ·refine s31 (ito_s_e _ (by omega)) rfl ?_
    refine s1 (ev_cat _ _ (by first|omega|(simp only [List.length_append,List.length_cons,List.length_nil]; omega)|(show 0+_≤_; omega)|(show 1+_≤_; omega)|(show _+(0+_)≤_; omega)|(show _+(1+_)≤_; omega))) rfl rfl rfl ?_
    refine s2 (r:=rB) (ev_catsS rfl (by first|omega|(simp only [List.length_append,List.length_cons,List.length_nil]; omega)|(show 0+_≤_; omega)|(show 1+_≤_; omega)|(show _+(0+_)≤_; omega)|(show _+(1+_)≤_; omega))) rfl rfl ?_
    refine s1 (ev_len _) rfl rfl rfl ?_
    first|refine s1 (ev_addW (wrap64 (by omega) (by omega))) rfl rfl rfl ?_|refine s1 (ev_add _ _ _) rfl rfl rfl ?_
    refine s7 [.int .i64 _,.int .i64 _,encS rP _,.int .i64 _,.int .i64 _,encS rI _,.int .i64 _,.int .i64 _,encS rB _] rfl ?_
    refine leaf_back ?_ ?_
    have ht:∀ t:List UInt8,t=aheadS i k++partS ((el p).getD k.toNat default)→pin_s [.int .i64 i,encS rP l,.int .i64 n,.int .i64 j,encS rI p,.int .i64 m,.int .i64 (k+1),encS rB (catS b (some (bI t)))]=pin_s [.int .i64 i,encS rP l,.int .i64 n,.int .i64 j,encS rI p,.int .i64 m,.int .i64 k,encS rB b]:=fun t ht=>by
     have hl:t.length=(aheadS i k).length+(partS ((el p).getD k.toNat default)).length:=by rw [ht,List.length_append]
     rw [pin_s_e i l n j p m (k+1) _ ⟨hc.1,by omega,by omega,hc.2.2.2.1,hc.2.2.2.2.1,hc.2.2.2.2.2.1,by rw [el_catS,el_some,List.length_append,bI_len]; omega,hc.2.2.2.2.2.2.2⟩,pin_s_e i l n j p m k b hc,catS_catS,← bI_app,ht,drop_step (el p) hc.2.1 (by omega),row_cons]
    ·first|(exfalso; omega)|exact ht _ (by clear ht hr ha hc; generalize (el p).getD k.toNat default=g at *; simp [aheadS,partS, *])
    ·rw [pin_me,pin_me]; omega
   refine s2 (r:=rB) (ev_catsS rfl (by first|omega|(simp only [List.length_append,List.length_cons,List.length_nil]; omega)|(show 0+_≤_; omega)|(show 1+_≤_; omega)|(show _+(0+_)≤_; omega)|(show _+(1+_)≤_; omega))) rfl rfl ?_
   first|refine s1 (ev_addW (wrap64 (by omega) (by omega))) rfl rfl rfl ?_|refine s1 (ev_add _ _ _) rfl rfl rfl ?_
   refine s7 [.int .i64 _,.int .i64 _,encS rP _,.int .i64 _,.int .i64 _,encS rI _,.int .i64 _,.int .i64 _,encS rB _] rfl ?_
   refine leaf_back ?_ ?_
   have ht:∀ t:List UInt8,t=aheadS i k++partS ((el p).getD k.toNat default)→pin_s [.int .i64 i,encS rP l,.int .i64 n,.int .i64 j,encS rI p,.int .i64 m,.int .i64 (k+1),encS rB (catS b (some (bI t)))]=pin_s [.int .i64 i,encS rP l,.int .i64 n,.int .i64 j,encS rI p,.int .i64 m,.int .i64 k,encS rB b]:=fun t ht=>by
    have hl:t.length=(aheadS i k).length+(partS ((el p).getD k.toNat default)).length:=by rw [ht,List.length_append]
    rw [pin_s_e i l n j p m (k+1) _ ⟨hc.1,by omega,by omega,hc.2.2.2.1,hc.2.2.2.2.1,hc.2.2.2.2.2.1,by rw [el_catS,el_some,List.length_append,bI_len]; omega,hc.2.2.2.2.2.2.2⟩,pin_s_e i l n j p m k b hc,catS_catS,← bI_app,ht,drop_step (el p) hc.2.1 (by omega),row_cons]
   ·first|(exfalso; omega)|exact ht _ (by clear ht hr ha hc; generalize (el p).getD k.toNat default=g at *; simp [aheadS,partS, *])
   ·rw [pin_me,pin_me]; omega
  ·cases hs
 ·cases hs
noncomputable def P_pin:List LpE:=(60,([true,false,false,true,true,false,false,true,true,false],loopF Tryd.prog gl n0 17 pin_D pin_s))::P_psl
theorem P_pin_ok {G:Nat→Option Obj} (hst:StartOk Tryd.prog G gl H0 n0):LpsOk Tryd.prog G gl P_pin:=.cons Tryd.func60 pin_b pin_p (pin_c hst) (P_psl_ok hst)
end Go.Proofs.YtadmkfclgpbebaaDoor

namespace Go.Proofs.YtadmkfclgpbebaaDoor
set_option linter.all false
open Go Go.Sx
set_option maxRecDepth 100000
set_option linter.unusedVariables false
set_option linter.unusedSimpArgs false
def rowsS (j:Int):List (Option (List Int))→List UInt8
 | []=>[]
 | p::r=>rowS j 0 (el p)++rowsS (j+1) r
theorem rows_pre {j n:Int} {l:Option (List (Option (List Int)))} (hn:n=((el l).length:Int)) (hj:0≤j):¬j < n∨(rowsS j ((el l).drop j.toNat)).length=(rowS j 0 (el ((el l).getD j.toNat default))).length+(rowsS (j+1) ((el l).drop (j+1).toNat)).length:=by
 by_cases h:j < n
 ·refine .inr ?_
  rw [drop_step (el l) hj (by omega)]
  exact List.length_append
 ·exact .inl h
def pou_s:List U→Option (Nat × List U)
 | [u_l,.int .i64 n,.int .i64 j,u_b]=>(decS rP u_l).bind fun l=>(decS rB u_b).bind fun b=>if n=((el l).length:Int)∧0≤j∧j≤n∧n≤1000000∧(el b).length+(rowsS j ((el l).drop j.toNat)).length≤100000000∧∀ p ∈ el l,(el p).length≤1000000∧∀ x ∈ el p,-1≤x∧x≤1000000000 then some (0,[encS rB (catS b (some (bI (rowsS j ((el l).drop j.toNat)))))]) else none
 | _=>none
theorem pou_s_e (l:(Option (List (Option (List Int))))) (n:Int) (j:Int) (b:(Option (List Int))) (hc:n=((el l).length:Int)∧0≤j∧j≤n∧n≤1000000∧(el b).length+(rowsS j ((el l).drop j.toNat)).length≤100000000∧∀ p ∈ el l,(el p).length≤1000000∧∀ x ∈ el p,-1≤x∧x≤1000000000):pou_s [encS rP l,.int .i64 n,.int .i64 j,encS rB b]=some (0,[encS rB (catS b (some (bI (rowsS j ((el l).drop j.toNat)))))]):=by
 simp only [pou_s,decS_enc,Option.bind_some]
 exact if_pos hc
def pou_D:LoopD:=⟨[(0,yv 8),(9,dat 9 0 11),(10,h 1 3),(11,h 2 3)],[(8,.lp 25 [true,true,true,false,true,false] [junk,junk,junk,junk,junk,.pointer (some ⟨5,0,none⟩),junk,junk,junk,junk,junk,junk,junk,junk,junk,junk,junk,junk,junk,junk,junk,junk] 0),(5,.cells 71 [.pointer (some ⟨5,0,none⟩),own 10 3 11]),(10,.sq 3 11 5 11),(9,.frz),(11,.frz)],4,[⟨.exit 0,[(0,yv 8)],[(8,.lp 25 [true,true,true,false,true,false] [junk,junk,junk,junk,junk,.pointer (some ⟨5,0,none⟩),junk,junk,junk,junk,junk,junk,junk,junk,junk,junk,junk,junk,junk,junk,junk,junk] 0),(5,.cells 71 [.pointer (some ⟨5,0,none⟩),own 12 0 11]),(12,.sq 0 11 5 13),(13,.frz)],1⟩]⟩
noncomputable def pou_B:Code:=(Tryd.f60.body).getD .skip
noncomputable def pou_x:Code:=match codeAt [true,false] pou_B with|some (.loop x)=>x|_=>.skip
theorem pou_b:Tryd.f60.body=some pou_B:=rfl
theorem pou_p:codeAt [true,false] pou_B=some (.loop pou_x):=by kernel_rfl
def pou_t:Tr:=.lt 8 (.bin .lss) [h 2 3,h 1 3] <| .br 4 (.lt 8 (.inbs 1) [h 2 3,h 0 11] <| .br 5 (.dt 11 (.get 1 0) [h 0 11,h 2 3] <| .lt 3 (.len) [h 6 11] <| .fn pin_s [h 2 3,h 0 11,h 1 3,h 2 3,h 6 11,h 7 3,.int .i64 (0),h 3 11] 4 <| .lt 3 (.bin .add) [h 10 3,.int .i64 (1)] <| .ret [.int .i64 (-1),h 8 11,h 9 3,h 12 3,h 11 11]) (.no)) (.ret [.int .i64 (0),h 3 11])
def pou_m:List U→Nat
 | [u_l,.int .i64 n,.int .i64 j,u_b]=>(match decS rP u_l with|some l=>(match decS rB u_b with|some b=>(n - j).toNat|none=>0)|none=>0)
 | _=>0
theorem pou_me (l:(Option (List (Option (List Int))))) (n:Int) (j:Int) (b:(Option (List Int))):pou_m [encS rP l,.int .i64 n,.int .i64 j,encS rB b]=(n - j).toNat:=by
 simp only [pou_m,decS_enc]
theorem pou_c {G:Nat→Option Obj} (hst:StartOk Tryd.prog G gl H0 n0):∀ (E:Nat→U) (base:Nat),@CodeOk ⟨E,G⟩ Tryd.prog base gl Tryd.f60.ntmps pou_x (loopF Tryd.prog gl n0 14 pou_D pou_s):=by
 refine loop_ok (C:=cx L_ito P_pin) (dep:=60) (f:=60) (n0:=n0) (nB:=14) (H0:=H0) pou_m pou_t (cxg (L_ito_ok hst) (P_pin_ok hst)) hst Tryd.func60 pou_b pou_p (by kernel_rfl) (by kernel_rfl) (by kernel_rfl) ?_
 intro us d outs hs
 have hs0:=hs
 unfold pou_s at hs
 split at hs
 ·skip
  rename_i u_l n j u_b
  have hq_l:=Option.bind_eq_some_iff.1 hs
  clear hs
  obtain ⟨l,hd_l,hs⟩:=hq_l
  replace hd_l:=decS_eq hd_l
  subst hd_l
  have hq_b:=Option.bind_eq_some_iff.1 hs
  clear hs
  obtain ⟨b,hd_b,hs⟩:=hq_b
  replace hd_b:=decS_eq hd_b
  subst hd_b
  split at hs
  ·rename_i hc
   clear hs hs0
   have hr:=hc.2.2.2.2.1
   have hq:=rows_pre hc.1 hc.2.1
   refine ⟨rfl,?_⟩
   unfold pou_t
   refine s0 (.cons 3 _ (.cons 2 _ (.cons 1 _ (.cons 0 _ (.nil))))) rfl (by simp [Ev.ok,Ev.len]) ?_
   refine s1 (ev_lss _ _ _) rfl rfl rfl ?_
   refine s5 rfl (fun g0=>?_) fun g0=>?_
   ·refine s7 [.int .i64 _,encS rB _] rfl ?_
    refine leaf_exit (d:=0) ?_
    rw [pou_s_e l n j b hc,drop_end (i:=j) (el l) (by omega)]; rfl
   refine s1 (ev_inbsS rfl) rfl rfl rfl ?_
   refine s5 rfl (fun g1=>?_) fun g1=>?_
   ·refine s8 ?_
    first|omega|(simp_all; done)|(simp_all; omega)
   refine s2 (r:=rI) (ev_getS rfl (by omega) (by omega) rfl) rfl rfl ?_
   refine s1 (ev_lenS _ _) rfl rfl rfl ?_
   refine s3 (pin_s_e _ _ _ _ _ _ _ _ ⟨rfl,by omega,by omega,by have:=(all_get hc.2.2.2.2.2 (i:=j) (by omega) (by omega)).1; omega,by omega,by omega,by show _+(rowS j 0 (el ((el l).getD j.toNat default))).length≤_; omega,(all_get hc.2.2.2.2.2 (by omega) (by omega)).2⟩) rfl ?_
   show Tr.sav _ _ (.cons 11 _ (.cons 10 _ (.cons 9 _ (.cons 8 _ _))))
   first|refine s1 (ev_addW (wrap64 (by omega) (by omega))) rfl rfl rfl ?_|refine s1 (ev_add _ _ _) rfl rfl rfl ?_
   refine s7 [.int .i64 _,encS rP _,.int .i64 _,.int .i64 _,encS rB _] rfl ?_
   refine leaf_back ?_ ?_
   have hl:(rowsS j ((el l).drop j.toNat))=rowS j 0 (el ((el l).getD j.toNat default))++rowsS (j+1) ((el l).drop (j+1).toNat):=by rw [drop_step (el l) hc.2.1 (by omega)]; rfl
   have hz:∀ q:Option (List Int),(el q).drop (0:Int).toNat=el q:=fun q=>rfl
   ·rw [pou_s_e l n (j+1) _ ⟨hc.1,by omega,by omega,hc.2.2.2.1,by rw [el_catS,el_some,List.length_append,bI_len,hz]; rw [hl,List.length_append] at hr; omega,hc.2.2.2.2.2⟩,pou_s_e l n j b hc,catS_catS,← bI_app,hz,hl]
   ·rw [pou_me,pou_me]; omega
  ·cases hs
 ·cases hs
noncomputable def P_pou:List LpE:=(60,([true,false],loopF Tryd.prog gl n0 14 pou_D pou_s))::P_pin
theorem P_pou_ok {G:Nat→Option Obj} (hst:StartOk Tryd.prog G gl H0 n0):LpsOk Tryd.prog G gl P_pou:=.cons Tryd.func60 pou_b pou_p (pou_c hst) (P_pin_ok hst)
end Go.Proofs.YtadmkfclgpbebaaDoor

namespace Go.Proofs.YtadmkfclgpbebaaDoor
set_option linter.all false
open Go Go.Sx
set_option maxRecDepth 100000
set_option linter.unusedVariables false
set_option linter.unusedSimpArgs false
def printS (l:Rws):List UInt8 × Int:=if checkS l≠0 then ([],checkS l) else (rowsS 0 (el l),0)
theorem rng_none:∀ n ∈ el (none:Option (List Int)),0≤n∧n < 256:=fun n h=>by cases h
theorem rng_cat {x:Option (List Int)} {s:List UInt8} (h:∀ n ∈ el x,0≤n∧n < 256):∀ n ∈ el (catS x (some (bI s))),0≤n∧n < 256:=fun n hn=>by
 rw [el_catS] at hn
 rcases List.mem_append.1 hn with h1|h1
 ·exact h n h1
 ·exact bI_rng h1
theorem part_len {n:Int} (h0 : -1≤n) (h1:n≤9999):(partS n).length≤21:=by
 unfold partS
 split
 ·decide
 ·exact Lib.itoa_length_le n (by omega) (by omega)
theorem row_len:∀ {i k:Int} {r:List Int},(∀ n ∈ r,-1≤n∧n≤9999)→(rowS i k r).length≤22 * r.length
 | i,k,[],_=>Nat.zero_le _
 | i,k,n::r,h=>by
   have h1:=h n List.mem_cons_self
   have h2:=part_len h1.1 h1.2
   have h3:=ahead_len i k
   have ih:=row_len (i:=i) (k:=k+1) fun m hm=>h m (List.mem_cons_of_mem _ hm)
   rw [row_cons]
   simp only [List.length_append,List.length_cons]
   omega
theorem rows_len:∀ {j:Int} {ps:List (Option (List Int))},(∀ p ∈ ps,(el p).length≤6∧∀ n ∈ el p,-1≤n∧n≤9999)→(rowsS j ps).length≤132 * ps.length
 | j,[],_=>Nat.zero_le _
 | j,p::ps,h=>by
   have h1:=h p List.mem_cons_self
   have h2:=row_len (i:=j) (k:=0) h1.2
   have ih:=rows_len (j:=j+1) fun q hq=>h q (List.mem_cons_of_mem _ hq)
   have:(rowsS j (p::ps)).length=(rowS j 0 (el p)).length+(rowsS (j+1) ps).length:=List.length_append
   simp only [List.length_cons]
   omega
theorem prt_all (l:Rws) (h:checkS l=0):∀ p ∈ el l,(el p).length≤1000000∧∀ x ∈ el p,-1≤x∧x≤1000000000:=fun p hp=>by
 rcases check_bd l with h1|⟨_,_,h3⟩
 ·omega
 ·obtain ⟨_,b,c⟩:=h3 p hp
  exact ⟨by omega,fun x hx=>by have:=c x hx; omega⟩
theorem prt_pre (l:Rws):checkS l=150∨checkS l=0∧(el l).length≤16∧(((el l).length:Int)=0∨1≤(el ((el l).getD (Int.toNat 0) default)).length∧(el ((el l).getD (Int.toNat 0) default)).length≤6 ∧
  -1≤(el ((el l).getD (Int.toNat 0) default)).getD (Int.toNat 0) default∧(el ((el l).getD (Int.toNat 0) default)).getD (Int.toNat 0) default≤9999∧(Lib.itoa ((el ((el l).getD (Int.toNat 0) default)).getD (Int.toNat 0) default)).length≤21 ∧
  (rowS 0 1 ((el ((el l).getD (Int.toNat 0) default)).drop (Int.toNat 1))).length≤132∧(rowsS (0+1) ((el l).drop (0+1:Int).toNat)).length≤2112):=by
 rcases check_bd l with h1|⟨h1,h2,h3⟩
 ·exact .inl h1
 ·refine .inr ⟨h1,h2,?_⟩
  by_cases h0:((el l).length:Int)=0
  ·exact .inl h0
  ·obtain ⟨a,b,c⟩:=all_get (i:=0) h3 (by omega) (by omega)
   have d:=all_get (i:=0) c (by omega) (by omega)
   refine .inr ⟨a,b,d.1,d.2,Lib.itoa_length_le _ (by omega) (by omega),?_,?_⟩
   ·refine Nat.le_trans (row_len fun n hn=>c n (List.mem_of_mem_drop hn)) ?_
    rw [List.length_drop]; omega
   ·refine Nat.le_trans (rows_len fun p hp=>(h3 p (List.mem_of_mem_drop hp)).2) ?_
    rw [List.length_drop]; omega
theorem prt_fin {l:Rws} (h0:0 < (el l).length) (h1:0 < (el ((el l).getD (Int.toNat 0) default)).length) (A:List UInt8) (hA:A=partS ((el ((el l).getD (Int.toNat 0) default)).getD (Int.toNat 0) default)) :
  iB (el (catS (catS (catS none (some (bI A))) (some (bI (rowS 0 1 ((el ((el l).getD (Int.toNat 0) default)).drop (Int.toNat 1)))))) (some (bI (rowsS (0+1) ((el l).drop (0+1:Int).toNat))))))=rowsS 0 (el l):=by
 have e1:rowsS 0 (el l)=rowS 0 0 (el ((el l).getD (Int.toNat 0) default))++rowsS (0+1) ((el l).drop (0+1:Int).toNat):=by
  have:=drop_step (el l) (i:=0) (by omega) (by omega)
  rw [drop_zero'] at this
  conv=>lhs; rw [this]
  rfl
 have e2:rowS 0 0 (el ((el l).getD (Int.toNat 0) default))=A++rowS 0 1 ((el ((el l).getD (Int.toNat 0) default)).drop (Int.toNat 1)):=by
  have:=drop_step (el ((el l).getD (Int.toNat 0) default)) (i:=0) (by omega) (by omega)
  rw [drop_zero'] at this
  conv=>lhs; rw [this]
  rw [row_cons,hA]
  rfl
 rw [e1,e2,catS_catS,catS_catS,← bI_app,← bI_app,el_catS,el_some]
 show iB ([]++bI _)=_
 rw [List.nil_append,iB_bI,List.append_assoc]
theorem print_0 (l:Rws) (h:checkS l≠0):printS l=([],checkS l):=if_pos h
theorem print_1 (l:Rws) (h:checkS l=0):printS l=(rowsS 0 (el l),0):=if_neg (by omega)
def prt_s:List U→Option (Nat × List U)
 | [u_l]=>(decS rP u_l).bind fun l=>if (el l).length≤1000000000∧∀ p ∈ el l,(el p).length≤1000000000 then some (0,[.str ((printS l).1),.int .i64 ((printS l).2)]) else none
 | _=>none
theorem prt_s_e (l:(Option (List (Option (List Int))))) (hc:(el l).length≤1000000000∧∀ p ∈ el l,(el p).length≤1000000000):prt_s [encS rP l]=some (0,[.str ((printS l).1),.int .i64 ((printS l).2)]):=by
 simp only [prt_s,decS_enc,Option.bind_some]
 exact if_pos hc
def prt_t:Tr:=.fn chk_s [h 0 11] 1 <| .lt 8 (.bin .neq) [h 1 3,.int .i64 (0)] <| .br 2 (.ret [.string ⟨⟨[]⟩⟩,h 1 3]) (.lt 3 (.len) [h 0 11] <| .lt 8 (.bin .lss) [.int .i64 (0),h 3 3] <| .br 4 (.lt 8 (.inbs 1) [.int .i64 (0),h 0 11] <| .br 5 (.dt 11 (.get 1 0) [h 0 11,.int .i64 (0)] <| .lt 3 (.len) [h 6 11] <| .lt 8 (.bin .lss) [.int .i64 (0),h 7 3] <| .br 8 (.lt 8 (.inbs 1) [.int .i64 (0),h 6 11] <| .br 9 (.lt 3 (.get 1 0) [h 6 11,.int .i64 (0)] <| .lt 8 (.bin .neq) [h 10 3,.int .i64 (-1)] <| .br 11 (.fn ito_s [h 10 3] 1 <| .lt 9 (.bin .add) [.string ⟨⟨[]⟩⟩,h 12 9] <| .dt 11 (.nilw 1) [] <| .dt 11 (.cats) [h 14 11,h 13 9] <| .lt 3 (.len) [h 13 9] <| .fn pin_s [.int .i64 (0),h 0 11,h 3 3,.int .i64 (0),h 6 11,h 7 3,.int .i64 (1),h 15 11] 4 <| .lt 3 (.bin .add) [h 19 3,.int .i64 (1)] <| .fn pou_s [h 17 11,h 18 3,h 21 3,h 20 11] 1 <| .lt 3 (.len) [h 22 11] <| .lt 9 (.ustr) [h 22 11,h 23 3] <| .ret [h 24 9,.int .i64 (0)]) (.dt 11 (.nilw 1) [] <| .fn pin_s [.int .i64 (0),h 0 11,h 3 3,.int .i64 (0),h 6 11,h 7 3,.int .i64 (1),h 12 11] 4 <| .lt 3 (.bin .add) [h 15 3,.int .i64 (1)] <| .fn pou_s [h 13 11,h 14 3,h 17 3,h 16 11] 1 <| .lt 3 (.len) [h 18 11] <| .lt 9 (.ustr) [h 18 11,h 19 3] <| .ret [h 20 9,.int .i64 (0)])) (.no)) (.lt 8 (.bin .lss) [.int .i64 (1),h 3 3] <| .br 9 (.lt 8 (.inbs 1) [.int .i64 (1),h 0 11] <| .br 10 (.dt 11 (.get 1 0) [h 0 11,.int .i64 (1)] <| .lt 3 (.len) [h 11 11] <| .lt 8 (.bin .lss) [.int .i64 (0),h 12 3] <| .br 13 (.lt 8 (.inbs 1) [.int .i64 (0),h 11 11] <| .br 14 (.lt 3 (.get 1 0) [h 11 11,.int .i64 (0)] <| .lt 8 (.bin .neq) [h 15 3,.int .i64 (-1)] <| .br 16 (.fn ito_s [h 15 3] 1 <| .lt 9 (.bin .add) [.string ⟨⟨[59]⟩⟩,h 17 9] <| .dt 11 (.nilw 1) [] <| .dt 11 (.cats) [h 19 11,h 18 9] <| .lt 3 (.len) [h 18 9] <| .fn pin_s [.int .i64 (1),h 0 11,h 3 3,.int .i64 (1),h 11 11,h 12 3,.int .i64 (1),h 20 11] 4 <| .lt 3 (.bin .add) [h 24 3,.int .i64 (1)] <| .fn pou_s [h 22 11,h 23 3,h 26 3,h 25 11] 1 <| .lt 3 (.len) [h 27 11] <| .lt 9 (.ustr) [h 27 11,h 28 3] <| .ret [h 29 9,.int .i64 (0)]) (.dt 11 (.mk 1) [.int .u8 (59)] <| .fn pin_s [.int .i64 (1),h 0 11,h 3 3,.int .i64 (1),h 11 11,h 12 3,.int .i64 (1),h 17 11] 4 <| .lt 3 (.bin .add) [h 20 3,.int .i64 (1)] <| .fn pou_s [h 18 11,h 19 3,h 22 3,h 21 11] 1 <| .lt 3 (.len) [h 23 11] <| .lt 9 (.ustr) [h 23 11,h 24 3] <| .ret [h 25 9,.int .i64 (0)])) (.no)) (.lt 8 (.bin .lss) [.int .i64 (2),h 3 3] <| .br 14 (.lt 8 (.inbs 1) [.int .i64 (2),h 0 11] <| .br 15 (.dt 11 (.get 1 0) [h 0 11,.int .i64 (2)] <| .lt 3 (.len) [h 16 11] <| .lt 8 (.bin .lss) [.int .i64 (0),h 17 3] <| .br 18 (.lt 8 (.inbs 1) [.int .i64 (0),h 16 11] <| .br 19 (.lt 3 (.get 1 0) [h 16 11,.int .i64 (0)] <| .lt 8 (.bin .neq) [h 20 3,.int .i64 (-1)] <| .br 21 (.fn ito_s [h 20 3] 1 <| .lt 9 (.bin .add) [.string ⟨⟨[59]⟩⟩,h 22 9] <| .dt 11 (.nilw 1) [] <| .dt 11 (.cats) [h 24 11,h 23 9] <| .lt 3 (.len) [h 23 9] <| .fn pin_s [.int .i64 (2),h 0 11,h 3 3,.int .i64 (2),h 16 11,h 17 3,.int .i64 (1),h 25 11] 4 <| .lt 3 (.bin .add) [h 29 3,.int .i64 (1)] <| .fn pou_s [h 27 11,h 28 3,h 31 3,h 30 11] 1 <| .lt 3 (.len) [h 32 11] <| .lt 9 (.ustr) [h 32 11,h 33 3] <| .ret [h 34 9,.int .i64 (0)]) (.dt 11 (.mk 1) [.int .u8 (59)] <| .fn pin_s [.int .i64 (2),h 0 11,h 3 3,.int .i64 (2),h 16 11,h 17 3,.int .i64 (1),h 22 11] 4 <| .lt 3 (.bin .add) [h 25 3,.int .i64 (1)] <| .fn pou_s [h 23 11,h 24 3,h 27 3,h 26 11] 1 <| .lt 3 (.len) [h 28 11] <| .lt 9 (.ustr) [h 28 11,h 29 3] <| .ret [h 30 9,.int .i64 (0)])) (.no)) (.lt 8 (.bin .lss) [.int .i64 (3),h 3 3] <| .br 19 (.no) (.ret [.string ⟨⟨[]⟩⟩,.int .i64 (0)]))) (.no)) (.ret [.string ⟨⟨[]⟩⟩,.int .i64 (0)]))) (.no)) (.ret [.string ⟨⟨[]⟩⟩,.int .i64 (0)]))) (.no)) (.ret [.string ⟨⟨[]⟩⟩,.int .i64 (0)]))
theorem prt_c {G:Nat→Option Obj} (hst:StartOk Tryd.prog G gl H0 n0):ConOk Tryd.prog G 25 [.s 11] prt_s [.s 9,.s 3]:=by
 refine con_of_tree (C:=cx L_ito P_pou) (d:=60) prt_t (cxg (L_ito_ok hst) (P_pou_ok hst)) hst ⟨Tryd.f25,_,Tryd.func25,rfl⟩ (by kernel_rfl) (by kernel_rfl) ?_
 intro us outs hs
 unfold prt_s at hs
 split at hs
 ·skip
  rename_i u_l
  have hq_l:=Option.bind_eq_some_iff.1 hs
  clear hs
  obtain ⟨l,hd_l,hs⟩:=hq_l
  replace hd_l:=decS_eq hd_l
  subst hd_l
  split at hs
  ·rename_i hc
   cases hs
   have hb:=prt_pre l
   have hn0:(el (none:Option (List Int))).length=0:=rfl
   unfold prt_t
   refine s0 (.cons 0 _ (.nil)) rfl (by simp [Ev.ok,Ev.len]) ?_
   refine s31 (chk_s_e _ (by omega)) rfl ?_
   refine s1 (ev_neq _ _ _) rfl rfl rfl ?_
   refine s4 rfl (fun g0=>?_) fun g0=>?_
   ·refine s7 [.str _,.int .i64 _] rfl ?_
    first|(exfalso; omega)|(rw [print_0 l (by omega)]; done)|(rw [print_1 l (by omega),show el l=[] from List.length_eq_zero_iff.1 (by omega)]; rfl)|(rw [print_1 l (by omega)]; exact congrArg (fun s=>[U.str s,U.int .i64 0]) (prt_fin (by omega) (by omega) _ (by clear hb hc; generalize (el ((el l).getD (Int.toNat 0) default)).getD (Int.toNat 0) default=g at *; simp [partS, *])))|(rw [print_1 l (by omega)]; exact congrArg (fun s=>[U.str s,U.int .i64 0]) (prt_fin (l:=l) (by omega) (by omega) [] (by clear hb hc; generalize (el ((el l).getD (Int.toNat 0) default)).getD (Int.toNat 0) default=g at *; simp [partS, *])))
   refine s1 (ev_lenS _ _) rfl rfl rfl ?_
   refine s1 (ev_lss _ _ _) rfl rfl rfl ?_
   refine s5 rfl (fun g1=>?_) fun g1=>?_
   ·refine s7 [.str _,.int .i64 _] rfl ?_
    first|(exfalso; omega)|(rw [print_0 l (by omega)]; done)|(rw [print_1 l (by omega),show el l=[] from List.length_eq_zero_iff.1 (by omega)]; rfl)|(rw [print_1 l (by omega)]; exact congrArg (fun s=>[U.str s,U.int .i64 0]) (prt_fin (by omega) (by omega) _ (by clear hb hc; generalize (el ((el l).getD (Int.toNat 0) default)).getD (Int.toNat 0) default=g at *; simp [partS, *])))|(rw [print_1 l (by omega)]; exact congrArg (fun s=>[U.str s,U.int .i64 0]) (prt_fin (l:=l) (by omega) (by omega) [] (by clear hb hc; generalize (el ((el l).getD (Int.toNat 0) default)).getD (Int.toNat 0) default=g at *; simp [partS, *])))
   refine s1 (ev_inbsS rfl) rfl rfl rfl ?_
   refine s5 rfl (fun g2=>?_) fun g2=>?_
   ·refine s8 ?_
    first|omega|(simp_all; done)|(simp_all; omega)
   refine s2 (r:=rI) (ev_getS rfl (by omega) (by omega) rfl) rfl rfl ?_
   refine s1 (ev_lenS _ _) rfl rfl rfl ?_
   refine s1 (ev_lss _ _ _) rfl rfl rfl ?_
   refine s4 rfl (fun g3=>?_) fun g3=>?_
   ·refine s1 (ev_inbsS rfl) rfl rfl rfl ?_
    refine s5 rfl (fun g4=>?_) fun g4=>?_
    ·refine s8 ?_
     first|omega|(simp_all; done)|(simp_all; omega)
    refine s1 (u:=.int .i64 _) (ev_getS rfl (by omega) (by omega) rfl) rfl rfl rfl ?_
    refine s1 (ev_neq _ _ _) rfl rfl rfl ?_
    refine s4 rfl (fun g5=>?_) fun g5=>?_
    ·refine s31 (ito_s_e _ (by omega)) rfl ?_
     refine s1 (ev_cat _ _ (by first|omega|(simp only [List.length_append,List.length_cons,List.length_nil]; omega)|(simp only [el_catS,el_some,List.length_append,bI_len,List.length_cons,List.length_nil]; omega))) rfl rfl rfl ?_
     refine s2 (r:=rB) (ev_nilwS rfl) rfl rfl ?_
     refine s2 (r:=rB) (ev_catsS rfl (by first|omega|(simp only [List.length_append,List.length_cons,List.length_nil]; omega)|(simp only [el_catS,el_some,List.length_append,bI_len,List.length_cons,List.length_nil]; omega))) rfl rfl ?_
     refine s1 (ev_len _) rfl rfl rfl ?_
     refine s3 (pin_s_e _ _ _ _ _ _ _ _ ⟨rfl,by omega,by omega,by omega,by omega,by omega,by first|omega|(simp only [el_catS,el_some,List.length_append,bI_len,List.length_nil,List.length_cons]; omega),by first|exact (all_get (prt_all l (by omega)) (i:=0) (by omega) (by omega)).2|(exfalso; omega)⟩) rfl ?_
     show Tr.sav _ _ (.cons 20 _ (.cons 19 _ (.cons 18 _ (.cons 17 _ _))))
     first|refine s1 (ev_addW (wrap64 (by omega) (by omega))) rfl rfl rfl ?_|refine s1 (ev_add _ _ _) rfl rfl rfl ?_
     refine s31 (pou_s_e _ _ _ _ ⟨rfl,by omega,by omega,by omega,by first|omega|(simp only [el_catS,el_some,List.length_append,bI_len,List.length_nil,List.length_cons]; omega),prt_all l (by omega)⟩) rfl ?_
     refine s1 (ev_lenS _ _) rfl rfl rfl ?_
     refine s1 (ev_ustrS rfl (by omega) (by first|omega|(simp only [List.length_append,List.length_cons,List.length_nil]; omega)|(simp only [el_catS,el_some,List.length_append,bI_len,List.length_cons,List.length_nil]; omega)) (by first|exact rng_none|exact rng_cat rng_none|exact rng_cat (rng_cat rng_none)|exact rng_cat (rng_cat (rng_cat rng_none))|(exfalso; omega))) rfl rfl rfl ?_
     refine s7 [.str _,.int .i64 _] rfl ?_
     first|(exfalso; omega)|(rw [print_0 l (by omega)]; done)|(rw [print_1 l (by omega),show el l=[] from List.length_eq_zero_iff.1 (by omega)]; rfl)|(rw [print_1 l (by omega)]; exact congrArg (fun s=>[U.str s,U.int .i64 0]) (prt_fin (by omega) (by omega) _ (by clear hb hc; generalize (el ((el l).getD (Int.toNat 0) default)).getD (Int.toNat 0) default=g at *; simp [partS, *])))|(rw [print_1 l (by omega)]; exact congrArg (fun s=>[U.str s,U.int .i64 0]) (prt_fin (l:=l) (by omega) (by omega) [] (by clear hb hc; generalize (el ((el l).getD (Int.toNat 0) default)).getD (Int.toNat 0) default=g at *; simp [partS, *])))
    refine s2 (r:=rB) (ev_nilwS rfl) rfl rfl ?_
    refine s3 (pin_s_e _ _ _ _ _ _ _ _ ⟨rfl,by omega,by omega,by omega,by omega,by omega,by first|omega|(simp only [el_catS,el_some,List.length_append,bI_len,List.length_nil,List.length_cons]; omega),by first|exact (all_get (prt_all l (by omega)) (i:=0) (by omega) (by omega)).2|(exfalso; omega)⟩) rfl ?_
    show Tr.sav _ _ (.cons 16 _ (.cons 15 _ (.cons 14 _ (.cons 13 _ _))))
    first|refine s1 (ev_addW (wrap64 (by omega) (by omega))) rfl rfl rfl ?_|refine s1 (ev_add _ _ _) rfl rfl rfl ?_
    refine s31 (pou_s_e _ _ _ _ ⟨rfl,by omega,by omega,by omega,by first|omega|(simp only [el_catS,el_some,List.length_append,bI_len,List.length_nil,List.length_cons]; omega),prt_all l (by omega)⟩) rfl ?_
    refine s1 (ev_lenS _ _) rfl rfl rfl ?_
    refine s1 (ev_ustrS rfl (by omega) (by first|omega|(simp only [List.length_append,List.length_cons,List.length_nil]; omega)|(simp only [el_catS,el_some,List.length_append,bI_len,List.length_cons,List.length_nil]; omega)) (by first|exact rng_none|exact rng_cat rng_none|exact rng_cat (rng_cat rng_none)|exact rng_cat (rng_cat (rng_cat rng_none))|(exfalso; omega))) rfl rfl rfl ?_
    refine s7 [.str _,.int .i64 _] rfl ?_
    first|(exfalso; omega)|(rw [print_0 l (by omega)]; done)|(rw [print_1 l (by omega),show el l=[] from List.length_eq_zero_iff.1 (by omega)]; rfl)|(rw [print_1 l (by omega)]; exact congrArg (fun s=>[U.str s,U.int .i64 0]) (prt_fin (by omega) (by omega) _ (by clear hb hc; generalize (el ((el l).getD (Int.toNat 0) default)).getD (Int.toNat 0) default=g at *; simp [partS, *])))|(rw [print_1 l (by omega)]; exact congrArg (fun s=>[U.str s,U.int .i64 0]) (prt_fin (l:=l) (by omega) (by omega) [] (by clear hb hc; generalize (el ((el l).getD (Int.toNat 0) default)).getD (Int.toNat 0) default=g at *; simp [partS, *])))
   refine s1 (ev_lss _ _ _) rfl rfl rfl ?_
   refine s5 rfl (fun g4=>?_) fun g4=>?_
   ·refine s7 [.str _,.int .i64 _] rfl ?_
    first|(exfalso; omega)|(rw [print_0 l (by omega)]; done)|(rw [print_1 l (by omega),show el l=[] from List.length_eq_zero_iff.1 (by omega)]; rfl)|(rw [print_1 l (by omega)]; exact congrArg (fun s=>[U.str s,U.int .i64 0]) (prt_fin (by omega) (by omega) _ (by clear hb hc; generalize (el ((el l).getD (Int.toNat 0) default)).getD (Int.toNat 0) default=g at *; simp [partS, *])))|(rw [print_1 l (by omega)]; exact congrArg (fun s=>[U.str s,U.int .i64 0]) (prt_fin (l:=l) (by omega) (by omega) [] (by clear hb hc; generalize (el ((el l).getD (Int.toNat 0) default)).getD (Int.toNat 0) default=g at *; simp [partS, *])))
   refine s1 (ev_inbsS rfl) rfl rfl rfl ?_
   refine s5 rfl (fun g5=>?_) fun g5=>?_
   ·refine s8 ?_
    first|omega|(simp_all; done)|(simp_all; omega)
   refine s2 (r:=rI) (ev_getS rfl (by omega) (by omega) rfl) rfl rfl ?_
   refine s1 (ev_lenS _ _) rfl rfl rfl ?_
   refine s1 (ev_lss _ _ _) rfl rfl rfl ?_
   refine s4 rfl (fun g6=>?_) fun g6=>?_
   ·refine s1 (ev_inbsS rfl) rfl rfl rfl ?_
    refine s5 rfl (fun g7=>?_) fun g7=>?_
    ·refine s8 ?_
     first|omega|(simp_all; done)|(simp_all; omega)
    refine s1 (u:=.int .i64 _) (ev_getS rfl (by omega) (by omega) rfl) rfl rfl rfl ?_
    refine s1 (ev_neq _ _ _) rfl rfl rfl ?_
    refine s4 rfl (fun g8=>?_) fun g8=>?_
    ·refine s31 (ito_s_e _ (by omega)) rfl ?_
     refine s1 (ev_cat _ _ (by first|omega|(simp only [List.length_append,List.length_cons,List.length_nil]; omega)|(simp only [el_catS,el_some,List.length_append,bI_len,List.length_cons,List.length_nil]; omega))) rfl rfl rfl ?_
     refine s2 (r:=rB) (ev_nilwS rfl) rfl rfl ?_
     refine s2 (r:=rB) (ev_catsS rfl (by first|omega|(simp only [List.length_append,List.length_cons,List.length_nil]; omega)|(simp only [el_catS,el_some,List.length_append,bI_len,List.length_cons,List.length_nil]; omega))) rfl rfl ?_
     refine s1 (ev_len _) rfl rfl rfl ?_
     refine s3 (pin_s_e _ _ _ _ _ _ _ _ ⟨rfl,by omega,by omega,by omega,by omega,by omega,by first|omega|(simp only [el_catS,el_some,List.length_append,bI_len,List.length_nil,List.length_cons]; omega),by first|exact (all_get (prt_all l (by omega)) (i:=0) (by omega) (by omega)).2|(exfalso; omega)⟩) rfl ?_
     show Tr.sav _ _ (.cons 25 _ (.cons 24 _ (.cons 23 _ (.cons 22 _ _))))
     first|refine s1 (ev_addW (wrap64 (by omega) (by omega))) rfl rfl rfl ?_|refine s1 (ev_add _ _ _) rfl rfl rfl ?_
     refine s31 (pou_s_e _ _ _ _ ⟨rfl,by omega,by omega,by omega,by first|omega|(simp only [el_catS,el_some,List.length_append,bI_len,List.length_nil,List.length_cons]; omega),prt_all l (by omega)⟩) rfl ?_
     refine s1 (ev_lenS _ _) rfl rfl rfl ?_
     refine s1 (ev_ustrS rfl (by omega) (by first|omega|(simp only [List.length_append,List.length_cons,List.length_nil]; omega)|(simp only [el_catS,el_some,List.length_append,bI_len,List.length_cons,List.length_nil]; omega)) (by first|exact rng_none|exact rng_cat rng_none|exact rng_cat (rng_cat rng_none)|exact rng_cat (rng_cat (rng_cat rng_none))|(exfalso; omega))) rfl rfl rfl ?_
     refine s7 [.str _,.int .i64 _] rfl ?_
     first|(exfalso; omega)|(rw [print_0 l (by omega)]; done)|(rw [print_1 l (by omega),show el l=[] from List.length_eq_zero_iff.1 (by omega)]; rfl)|(rw [print_1 l (by omega)]; exact congrArg (fun s=>[U.str s,U.int .i64 0]) (prt_fin (by omega) (by omega) _ (by clear hb hc; generalize (el ((el l).getD (Int.toNat 0) default)).getD (Int.toNat 0) default=g at *; simp [partS, *])))|(rw [print_1 l (by omega)]; exact congrArg (fun s=>[U.str s,U.int .i64 0]) (prt_fin (l:=l) (by omega) (by omega) [] (by clear hb hc; generalize (el ((el l).getD (Int.toNat 0) default)).getD (Int.toNat 0) default=g at *; simp [partS, *])))
    refine s2 (r:=rB) (ev_mkS [_] rfl (by decide) rfl) rfl rfl ?_
    refine s3 (pin_s_e _ _ _ _ _ _ _ _ ⟨rfl,by omega,by omega,by omega,by omega,by omega,by first|omega|(simp only [el_catS,el_some,List.length_append,bI_len,List.length_nil,List.length_cons]; omega),by first|exact (all_get (prt_all l (by omega)) (i:=0) (by omega) (by omega)).2|(exfalso; omega)⟩) rfl ?_
    show Tr.sav _ _ (.cons 21 _ (.cons 20 _ (.cons 19 _ (.cons 18 _ _))))
    first|refine s1 (ev_addW (wrap64 (by omega) (by omega))) rfl rfl rfl ?_|refine s1 (ev_add _ _ _) rfl rfl rfl ?_
    refine s31 (pou_s_e _ _ _ _ ⟨rfl,by omega,by omega,by omega,by first|omega|(simp only [el_catS,el_some,List.length_append,bI_len,List.length_nil,List.length_cons]; omega),prt_all l (by omega)⟩) rfl ?_
    refine s1 (ev_lenS _ _) rfl rfl rfl ?_
    refine s1 (ev_ustrS rfl (by omega) (by first|omega|(simp only [List.length_append,List.length_cons,List.length_nil]; omega)|(simp only [el_catS,el_some,List.length_append,bI_len,List.length_cons,List.length_nil]; omega)) (by first|exact rng_none|exact rng_cat rng_none|exact rng_cat (rng_cat rng_none)|exact rng_cat (rng_cat (rng_cat rng_none))|(exfalso; omega))) rfl rfl rfl ?_
    refine s7 [.str _,.int .i64 _] rfl ?_
    first|(exfalso; omega)|(rw [print_0 l (by omega)]; done)|(rw [print_1 l (by omega),show el l=[] from List.length_eq_zero_iff.1 (by omega)]; rfl)|(rw [print_1 l (by omega)]; exact congrArg (fun s=>[U.str s,U.int .i64 0]) (prt_fin (by omega) (by omega) _ (by clear hb hc; generalize (el ((el l).getD (Int.toNat 0) default)).getD (Int.toNat 0) default=g at *; simp [partS, *])))|(rw [print_1 l (by omega)]; exact congrArg (fun s=>[U.str s,U.int .i64 0]) (prt_fin (l:=l) (by omega) (by omega) [] (by clear hb hc; generalize (el ((el l).getD (Int.toNat 0) default)).getD (Int.toNat 0) default=g at *; simp [partS, *])))
   refine s1 (ev_lss _ _ _) rfl rfl rfl ?_
   refine s5 rfl (fun g7=>?_) fun g7=>?_
   ·refine s7 [.str _,.int .i64 _] rfl ?_
    first|(exfalso; omega)|(rw [print_0 l (by omega)]; done)|(rw [print_1 l (by omega),show el l=[] from List.length_eq_zero_iff.1 (by omega)]; rfl)|(rw [print_1 l (by omega)]; exact congrArg (fun s=>[U.str s,U.int .i64 0]) (prt_fin (by omega) (by omega) _ (by clear hb hc; generalize (el ((el l).getD (Int.toNat 0) default)).getD (Int.toNat 0) default=g at *; simp [partS, *])))|(rw [print_1 l (by omega)]; exact congrArg (fun s=>[U.str s,U.int .i64 0]) (prt_fin (l:=l) (by omega) (by omega) [] (by clear hb hc; generalize (el ((el l).getD (Int.toNat 0) default)).getD (Int.toNat 0) default=g at *; simp [partS, *])))
   refine s1 (ev_inbsS rfl) rfl rfl rfl ?_
   refine s5 rfl (fun g8=>?_) fun g8=>?_
   ·refine s8 ?_
    first|omega|(simp_all; done)|(simp_all; omega)
   refine s2 (r:=rI) (ev_getS rfl (by omega) (by omega) rfl) rfl rfl ?_
   refine s1 (ev_lenS _ _) rfl rfl rfl ?_
   refine s1 (ev_lss _ _ _) rfl rfl rfl ?_
   refine s4 rfl (fun g9=>?_) fun g9=>?_
   ·refine s1 (ev_inbsS rfl) rfl rfl rfl ?_
    refine s5 rfl (fun g10=>?_) fun g10=>?_
    ·refine s8 ?_
     first|omega|(simp_all; done)|(simp_all; omega)
    refine s1 (u:=.int .i64 _) (ev_getS rfl (by omega) (by omega) rfl) rfl rfl rfl ?_
    refine s1 (ev_neq _ _ _) rfl rfl rfl ?_
    refine s4 rfl (fun g11=>?_) fun g11=>?_
    ·refine s31 (ito_s_e _ (by omega)) rfl ?_
     refine s1 (ev_cat _ _ (by first|omega|(simp only [List.length_append,List.length_cons,List.length_nil]; omega)|(simp only [el_catS,el_some,List.length_append,bI_len,List.length_cons,List.length_nil]; omega))) rfl rfl rfl ?_
     refine s2 (r:=rB) (ev_nilwS rfl) rfl rfl ?_
     refine s2 (r:=rB) (ev_catsS rfl (by first|omega|(simp only [List.length_append,List.length_cons,List.length_nil]; omega)|(simp only [el_catS,el_some,List.length_append,bI_len,List.length_cons,List.length_nil]; omega))) rfl rfl ?_
     refine s1 (ev_len _) rfl rfl rfl ?_
     refine s3 (pin_s_e _ _ _ _ _ _ _ _ ⟨rfl,by omega,by omega,by omega,by omega,by omega,by first|omega|(simp only [el_catS,el_some,List.length_append,bI_len,List.length_nil,List.length_cons]; omega),by first|exact (all_get (prt_all l (by omega)) (i:=0) (by omega) (by omega)).2|(exfalso; omega)⟩) rfl ?_
     show Tr.sav _ _ (.cons 30 _ (.cons 29 _ (.cons 28 _ (.cons 27 _ _))))
     first|refine s1 (ev_addW (wrap64 (by omega) (by omega))) rfl rfl rfl ?_|refine s1 (ev_add _ _ _) rfl rfl rfl ?_
     refine s31 (pou_s_e _ _ _ _ ⟨rfl,by omega,by omega,by omega,by first|omega|(simp only [el_catS,el_some,List.length_append,bI_len,List.length_nil,List.length_cons]; omega),prt_all l (by omega)⟩) rfl ?_
     refine s1 (ev_lenS _ _) rfl rfl rfl ?_
     refine s1 (ev_ustrS rfl (by omega) (by first|omega|(simp only [List.length_append,List.length_cons,List.length_nil]; omega)|(simp only [el_catS,el_some,List.length_append,bI_len,List.length_cons,List.length_nil]; omega)) (by first|exact rng_none|exact rng_cat rng_none|exact rng_cat (rng_cat rng_none)|exact rng_cat (rng_cat (rng_cat rng_none))|(exfalso; omega))) rfl rfl rfl ?_
     refine s7 [.str _,.int .i64 _] rfl ?_
     first|(exfalso; omega)|(rw [print_0 l (by omega)]; done)|(rw [print_1 l (by omega),show el l=[] from List.length_eq_zero_iff.1 (by omega)]; rfl)|(rw [print_1 l (by omega)]; exact congrArg (fun s=>[U.str s,U.int .i64 0]) (prt_fin (by omega) (by omega) _ (by clear hb hc; generalize (el ((el l).getD (Int.toNat 0) default)).getD (Int.toNat 0) default=g at *; simp [partS, *])))|(rw [print_1 l (by omega)]; exact congrArg (fun s=>[U.str s,U.int .i64 0]) (prt_fin (l:=l) (by omega) (by omega) [] (by clear hb hc; generalize (el ((el l).getD (Int.toNat 0) default)).getD (Int.toNat 0) default=g at *; simp [partS, *])))
    refine s2 (r:=rB) (ev_mkS [_] rfl (by decide) rfl) rfl rfl ?_
    refine s3 (pin_s_e _ _ _ _ _ _ _ _ ⟨rfl,by omega,by omega,by omega,by omega,by omega,by first|omega|(simp only [el_catS,el_some,List.length_append,bI_len,List.length_nil,List.length_cons]; omega),by first|exact (all_get (prt_all l (by omega)) (i:=0) (by omega) (by omega)).2|(exfalso; omega)⟩) rfl ?_
    show Tr.sav _ _ (.cons 26 _ (.cons 25 _ (.cons 24 _ (.cons 23 _ _))))
    first|refine s1 (ev_addW (wrap64 (by omega) (by omega))) rfl rfl rfl ?_|refine s1 (ev_add _ _ _) rfl rfl rfl ?_
    refine s31 (pou_s_e _ _ _ _ ⟨rfl,by omega,by omega,by omega,by first|omega|(simp only [el_catS,el_some,List.length_append,bI_len,List.length_nil,List.length_cons]; omega),prt_all l (by omega)⟩) rfl ?_
    refine s1 (ev_lenS _ _) rfl rfl rfl ?_
    refine s1 (ev_ustrS rfl (by omega) (by first|omega|(simp only [List.length_append,List.length_cons,List.length_nil]; omega)|(simp only [el_catS,el_some,List.length_append,bI_len,List.length_cons,List.length_nil]; omega)) (by first|exact rng_none|exact rng_cat rng_none|exact rng_cat (rng_cat rng_none)|exact rng_cat (rng_cat (rng_cat rng_none))|(exfalso; omega))) rfl rfl rfl ?_
    refine s7 [.str _,.int .i64 _] rfl ?_
    first|(exfalso; omega)|(rw [print_0 l (by omega)]; done)|(rw [print_1 l (by omega),show el l=[] from List.length_eq_zero_iff.1 (by omega)]; rfl)|(rw [print_1 l (by omega)]; exact congrArg (fun s=>[U.str s,U.int .i64 0]) (prt_fin (by omega) (by omega) _ (by clear hb hc; generalize (el ((el l).getD (Int.toNat 0) default)).getD (Int.toNat 0) default=g at *; simp [partS, *])))|(rw [print_1 l (by omega)]; exact congrArg (fun s=>[U.str s,U.int .i64 0]) (prt_fin (l:=l) (by omega) (by omega) [] (by clear hb hc; generalize (el ((el l).getD (Int.toNat 0) default)).getD (Int.toNat 0) default=g at *; simp [partS, *])))
   refine s1 (ev_lss _ _ _) rfl rfl rfl ?_
   refine s4 rfl (fun g10=>?_) fun g10=>?_
   ·refine s8 ?_
    first|omega|(simp_all; done)|(simp_all; omega)
   refine s7 [.str _,.int .i64 _] rfl ?_
   first|(exfalso; omega)|(rw [print_0 l (by omega)]; done)|(rw [print_1 l (by omega),show el l=[] from List.length_eq_zero_iff.1 (by omega)]; rfl)|(rw [print_1 l (by omega)]; exact congrArg (fun s=>[U.str s,U.int .i64 0]) (prt_fin (by omega) (by omega) _ (by clear hb hc; generalize (el ((el l).getD (Int.toNat 0) default)).getD (Int.toNat 0) default=g at *; simp [partS, *])))|(rw [print_1 l (by omega)]; exact congrArg (fun s=>[U.str s,U.int .i64 0]) (prt_fin (l:=l) (by omega) (by omega) [] (by clear hb hc; generalize (el ((el l).getD (Int.toNat 0) default)).getD (Int.toNat 0) default=g at *; simp [partS, *])))
  ·cases hs
 ·cases hs
noncomputable def L_prt:List (FuncId × FnC):=(25,conF Tryd.prog [.s 11] prt_s [.s 9,.s 3])::L_ito
theorem L_prt_ok {G:Nat→Option Obj} (hst:StartOk Tryd.prog G gl H0 n0):ConsOk Tryd.prog G gl L_prt:=.cons (prt_c hst) (L_ito_ok hst)
end Go.Proofs.YtadmkfclgpbebaaDoor
