/- The law ParamParses: for every input the call returns true, and the arguments read behind it as they read before. No condition. -/
import Derived.Test.YtadmkfclgpbebaaDoorX11
import Derived.Test.YtadmkfclgpbebaaDoorCards
import Derived.Test.YtadmkfclgpbebaaDoorTie
import Derived.WalkKit
import Derived.ProofKit
import Derived.OpenShut
import Derived.Below
import Derived.Carry
import Derived.Lib.SmallJoins
import Derived.Deep.DeepHandedRow
import Derived.Lib.LaidTab
import Derived.MakeChecks
namespace Go.Proofs.YtadmkfclgpbebaaDoor
set_option linter.all false
open Go Go.Sx
set_option maxRecDepth 100000
set_option linter.unusedVariables false
set_option linter.unusedSimpArgs false
def allS (l:Rws):Bool:=(el l).all Option.isSome
theorem all_app {l:List (Option (List Int))} {x:Option (List Int)} (h:l.all Option.isSome=true) (hx:x.isSome=true):(l++[x]).all Option.isSome=true:=by
 rw [List.all_append,h]; simp [hx]
theorem all_sub {x:Rws} (i j:Nat) (h:allS x=true):(el (subS x i j)).all Option.isSome=true:=by
 rw [el_subS]
 refine List.all_eq_true.2 fun p hp=>List.all_eq_true.1 h p (List.mem_of_mem_drop (List.mem_of_mem_take hp))
theorem step_allS (l:Rws) (c:Int) (h:allS l=true):allS (stepS l c).1=true:=by
 unfold stepS
 split
 ·rfl
 split
 ·split
  ·rfl
  ·split
   ·rfl
   ·split <;> rfl
 ·split
  ·exact all_app (all_sub _ _ h) rfl
  ·split
   ·exact all_app (all_sub _ _ h) rfl
   ·split
    ·rfl
    ·split
     ·exact all_app (all_sub _ _ h) rfl
     ·rfl
theorem E1_id:∀ {l:List (Option (List Int))},l.all Option.isSome=true→l.map E1=l
 | [],_=>rfl
 | p::l,h=>by
   rw [List.all_cons,Bool.and_eq_true] at h
   rw [List.map_cons,E1_id h.2]
   cases p with
   | none=>cases h.1
   | some x=>rfl
theorem step_some (l:Rws) (c:Int):(stepS l c).2=0→(stepS l c).1=some (el (stepS l c).1):=by
 unfold stepS
 split
 ·intro h; rename_i hc; exact absurd h hc
 split
 ·split
  ·intro _; rfl
  ·split
   ·intro _; rfl
   ·split
    ·intro _; rfl
    ·intro h; exact absurd h (by decide)
 ·split
  ·intro _; rfl
  ·split
   ·intro _; rfl
   ·split
    ·intro h; exact absurd h (by decide)
    ·split
     ·intro _; rfl
     ·intro h; exact absurd h (by decide)
theorem step_none (l:Rws) (c:Int):(stepS l c).2=0∨(stepS l c).1=none:=by
 unfold stepS
 split
 ·exact .inr rfl
 split
 ·split
  ·exact .inl rfl
  ·split
   ·exact .inl rfl
   ·split
    ·exact .inl rfl
    ·exact .inr rfl
 ·split
  ·exact .inl rfl
  ·split
   ·exact .inl rfl
   ·split
    ·exact .inr rfl
    ·split
     ·exact .inl rfl
     ·exact .inr rfl
theorem rst_eq {l:Rws} {c:Int} (h:allS l=true):rstS l c=stepS l c:=by
 unfold rstS
 by_cases h0:(stepS l c).2≠0
 ·rw [if_pos h0]
  rcases step_none l c with h1|h1
  ·exact absurd h1 h0
  ·exact Prod.ext h1.symm rfl
 ·have h1:(stepS l c).2=0:=Classical.not_not.1 h0
  rw [if_neg h0,E1_id (step_allS l c h),← step_some l c h1]
  exact Prod.ext rfl h1.symm
noncomputable def U_rpl:List (FuncId × FnC):=(13,ownF Tryd.prog [.s 11,.s 4] rstp_s 11 47 [.s 3])::L0
theorem U_rpl_ok {G:Nat→Option Obj} (hst:StartOk Tryd.prog G gl H0 n0):ConsOk Tryd.prog G gl U_rpl:=(.consO (rstp_c hst) .nil)
def rpl_l:List U→Option (Nat × List U)
 | [.str s,u_l,.int .i64 i]=>(decS rP u_l).bind fun l=>if 0≤i∧i≤(s.length:Int)∧(s.length:Int)≤1000000000∧Vl l∧allS l=true then way01 (parE l (s.drop i.toNat)) [encS rP (parL l (s.drop i.toNat))] (fun e=>[.int .i64 e]) else none
 | _=>none
theorem rpl_l_e (s:(List UInt8)) (l:(Option (List (Option (List Int))))) (i:Int) (hc:0≤i∧i≤(s.length:Int)∧(s.length:Int)≤1000000000∧Vl l∧allS l=true):rpl_l [.str s,encS rP l,.int .i64 i]=way01 (parE l (s.drop i.toNat)) [encS rP (parL l (s.drop i.toNat))] (fun e=>[.int .i64 e]):=by
 simp only [rpl_l,decS_enc,Option.bind_some]
 exact if_pos hc
def rpl_D:LoopD:=⟨[(0,h 0 9),(4,own 4 1 11),(5,h 2 3)],[(4,.sq 1 11 47 5),(5,.frz)],3,[⟨.exit 0,[(4,own 6 0 11)],[(6,.sq 0 11 47 7),(7,.frz)],1⟩,⟨.ret,[(2,.slice none 0 0),(3,h 0 3)],[],1⟩]⟩
noncomputable def rpl_B:Code:=(Tryd.f18.body).getD .skip
noncomputable def rpl_x:Code:=match codeAt [true,true,true,false,true,false] rpl_B with|some (.loop x)=>x|_=>.skip
theorem rpl_b:Tryd.f18.body=some rpl_B:=rfl
theorem rpl_p:codeAt [true,true,true,false,true,false] rpl_B=some (.loop rpl_x):=by kernel_rfl
def rpl_t:Tr:=.lt 3 (.len) [h 0 9] <| .lt 8 (.bin .lss) [h 2 3,h 3 3] <| .br 4 (.lt 4 (.idx) [h 0 9,h 2 3] <| .fn rstp_s [h 1 11,h 5 4] 2 <| .lt 8 (.bin .neq) [h 7 3,.int .i64 (0)] <| .br 8 (.ret [.int .i64 (1),h 7 3]) (.lt 3 (.bin .add) [h 2 3,.int .i64 (1)] <| .ret [.int .i64 (-1),h 0 9,h 6 11,h 9 3])) (.ret [.int .i64 (0),h 1 11])
def rpl_m:List U→Nat
 | [.str s,u_l,.int .i64 i]=>(match decS rP u_l with|some l=>(s.length - i).toNat|none=>0)
 | _=>0
theorem rpl_me (s:(List UInt8)) (l:(Option (List (Option (List Int))))) (i:Int):rpl_m [.str s,encS rP l,.int .i64 i]=(s.length - i).toNat:=by
 simp only [rpl_m,decS_enc]
theorem rpl_c {G:Nat→Option Obj} (hst:StartOk Tryd.prog G gl H0 n0):∀ (E:Nat→U) (base:Nat),@CodeOk ⟨E,G⟩ Tryd.prog base gl Tryd.f18.ntmps rpl_x (loopF Tryd.prog gl n0 8 rpl_D rpl_l):=by
 refine loop_ok (C:=cx U_rpl P_rpo) (dep:=60) (f:=18) (n0:=n0) (nB:=8) (H0:=H0) rpl_m rpl_t (cxg (U_rpl_ok hst) (P_rpo_ok hst)) hst Tryd.func18 rpl_b rpl_p (by kernel_rfl) (by kernel_rfl) (by kernel_rfl) ?_
 intro us d outs hs
 have hs0:=hs
 unfold rpl_l at hs
 split at hs
 ·skip
  rename_i s u_l i
  have hq_l:=Option.bind_eq_some_iff.1 hs
  clear hs
  obtain ⟨l,hd_l,hs⟩:=hq_l
  replace hd_l:=decS_eq hd_l
  subst hd_l
  split at hs
  ·rename_i hc
   clear hs hs0
   have hw:=rst_eq (l:=l) (c:=((s.getD i.toNat 0).toNat:Int)) hc.2.2.2.2
   refine ⟨rfl,?_⟩
   unfold rpl_t
   refine s0 (.cons 2 _ (.cons 1 _ (.cons 0 _ (.nil)))) rfl (by simp [Ev.ok,Ev.len]) ?_
   refine s1 (ev_len _) rfl rfl rfl ?_
   refine s1 (ev_lss _ _ _) rfl rfl rfl ?_
   refine s5 rfl (fun g0=>?_) fun g0=>?_
   ·refine s7 [.int .i64 _,encS rP _] rfl ?_
    refine leaf_exit (d:=0) ?_
    rw [rpl_l_e s l i hc,drop_z s (by omega)]; rfl
   refine s1 (ev_idx _ _ _ (by omega) (by omega)) rfl rfl rfl ?_
   refine s32 ((rstp_s_e _ _ ⟨vl_c hc.2.2.2.1,by omega,by have:=(s.getD i.toNat 0).toNat_lt; omega⟩).trans (by rw [hw])) rfl rfl ?_
   refine s1 (ev_neq _ _ _) rfl rfl rfl ?_
   refine s4 rfl (fun g1=>?_) fun g1=>?_
   ·refine s7 [.int .i64 _,.int .i64 _] rfl ?_
    refine leaf_exit (d:=1) ?_
    rw [rpl_l_e s l i hc,drop_sb s hc.1 (by omega),parE_so (by first|exact g1|simpa using g1)]; rfl
   first|refine s1 (ev_addW (wrap64 (by omega) (by omega))) rfl rfl rfl ?_|refine s1 (ev_add _ _ _) rfl rfl rfl ?_
   refine s7 [.int .i64 _,.str _,encS rP _,.int .i64 _] rfl ?_
   refine leaf_back ?_ ?_
   ·rw [rpl_l_e s _ (i+1) ⟨by omega,by omega,hc.2.2.1,vl_step _ _,step_allS _ _ hc.2.2.2.2⟩,rpl_l_e s l i hc,drop_sb s hc.1 (by omega),parE_no (by first|exact g1|simpa using g1),parL_c]
   ·rw [rpl_me,rpl_me]; omega
  ·cases hs
 ·cases hs
noncomputable def P_rpl:List LpE:=(18,([true,true,true,false,true,false],loopF Tryd.prog gl n0 8 rpl_D rpl_l))::P_rpo
theorem P_rpl_ok {G:Nat→Option Obj} (hst:StartOk Tryd.prog G gl H0 n0):LpsOk Tryd.prog G gl P_rpl:=.cons Tryd.func18 rpl_b rpl_p (rpl_c hst) (P_rpo_ok hst)
noncomputable def U_rprs:List (FuncId × FnC):=L0
theorem U_rprs_ok {G:Nat→Option Obj} (hst:StartOk Tryd.prog G gl H0 n0):ConsOk Tryd.prog G gl U_rprs:=.nil
def rprs_s:List U→Option (Nat × List U)
 | [.str s]=>some (0,[encS rP ((parseS s).1),.int .i64 ((parseS s).2)])
 | _=>none
theorem rprs_s_e (s:(List UInt8)):rprs_s [.str s]=some (0,[encS rP ((parseS s).1),.int .i64 ((parseS s).2)]):=rfl
def rprs_t:Tr:=.lt 3 (.len) [h 0 9] <| .lt 8 (.bin .gtr) [h 1 3,.int .i64 (4096)] <| .br 2 (.dt 11 (.nilw 1) [] <| .ret [h 3 11,.int .i64 (3)]) (.dt 11 (.nilw 1) [] <| .lp rpl_l [h 0 9,h 3 11,.int .i64 (0)] 0 1 (.ret [h 4 11,.int .i64 (0)]) (.lp rpl_l [h 0 9,h 3 11,.int .i64 (0)] 1 1 (.dt 11 (.nilw 1) [] <| .ret [h 5 11,h 4 3]) (.no)))
theorem rprs_c {G:Nat→Option Obj} (hst:StartOk Tryd.prog G gl H0 n0):ConOk Tryd.prog G 18 [.s 9] rprs_s [.s 11,.s 3]:=by
 refine con_of_tree (C:=cx U_rprs P_rpl) (d:=60) rprs_t (cxg (U_rprs_ok hst) (P_rpl_ok hst)) hst ⟨Tryd.f18,_,Tryd.func18,rfl⟩ (by kernel_rfl) (by kernel_rfl) ?_
 intro us outs hs
 unfold rprs_s at hs
 split at hs
 ·skip
  rename_i s
  cases hs
  unfold rprs_t
  refine s0 (.cons 0 _ (.nil)) rfl (by simp [Ev.ok,Ev.len]) ?_
  refine s1 (ev_len _) rfl rfl rfl ?_
  refine s1 (ev_gtr _ _ _) rfl rfl rfl ?_
  refine s4 rfl (fun g0=>?_) fun g0=>?_
  ·refine s2 (r:=rP) (ev_nilwS rfl) rfl rfl ?_
   refine s7 [encS rP _,.int .i64 _] rfl ?_
   first|(rw [parse_a s (by omega)]; done)|(rw [parse_b s (by omega) (by assumption)]; done)|(rw [parse_c s (by omega) (by assumption)]; done)
  refine s2 (r:=rP) (ev_nilwS rfl) rfl rfl ?_
  refine s6 (rpl_l_e _ none _ ⟨by omega,by omega,by omega,vl_none,rfl⟩) rfl (fun _=>rfl) (fun g1=>?_) (fun v1 g1=>?_)
  ·show Tr.sav _ _ (.cons 4 _ _)
   refine s7 [encS rP _,.int .i64 _] rfl ?_
   first|(rw [parse_a s (by omega)]; done)|(rw [parse_b s (by omega) (by assumption)]; done)|(rw [parse_c s (by omega) (by assumption)]; done)
  show Tr.sav _ _ (.cons 4 _ _)
  refine s2 (r:=rP) (ev_nilwS rfl) rfl rfl ?_
  refine s7 [encS rP _,.int .i64 _] rfl ?_
  first|(rw [parse_a s (by omega)]; done)|(rw [parse_b s (by omega) (by assumption)]; done)|(rw [parse_c s (by omega) (by assumption)]; done)
 ·cases hs
end Go.Proofs.YtadmkfclgpbebaaDoor

namespace Go.Proofs.YtadmkfclgpbebaaDoor
set_option linter.all false
open Go Go.Sx
set_option maxRecDepth 100000
set_option linter.unusedVariables false
set_option linter.unusedSimpArgs false
theorem lens_of {l:Rws} (h:checkS l=0):(el l).length≤1000000000∧∀ p ∈ el l,(el p).length≤1000000000:=by
 rcases check_bd l with h1|⟨_,h2,h3⟩
 ·omega
 ·exact ⟨by omega,fun p hp=>by have:=(h3 p hp).2.1; omega⟩
theorem vl_parL:∀ (s:List UInt8) (l:Rws),Vl l→Vl (parL l s)
 | [],l,h=>h
 | b::s,l,h=>by rw [parL_c]; exact vl_parL s _ (vl_step _ _)
theorem parse_lens (s:List UInt8):(el (parseS s).1).length≤1000000000∧∀ p ∈ el (parseS s).1,(el p).length≤1000000000:=by
 refine vl_c ?_
 unfold parseS
 split
 ·exact vl_none
 ·split
  ·exact vl_parL _ _ vl_none
  ·exact vl_none
theorem set_rng {l:List Int} {i:Nat} {c:Int} (h:∀ n ∈ l,0≤n∧n < 256) (hc:0≤c∧c≤255):∀ n ∈ el (setR (some l) i c),0≤n∧n < 256:=fun n hn=>by
 rw [el_setR,el_some] at hn
 rcases List.mem_or_eq_of_mem_set hn with hn|rfl
 ·exact h n hn
 ·omega
noncomputable def U_ppr:List (FuncId × FnC):=(15,conF Tryd.prog [] wks_s [.s 8])::(14,conF Tryd.prog [.s 11,.s 11] rsame_s [.s 8])::(18,conF Tryd.prog [.s 9] rprs_s [.s 11,.s 3])::(17,conF Tryd.prog [.s 9] prs_s [.s 11,.s 3])::(16,conF Tryd.prog [.s 11] rprt_s [.s 9,.s 3])::(11,conF Tryd.prog [.a [11,11]] row_s [.s 11])::L0
theorem U_ppr_ok {G:Nat→Option Obj} (hst:StartOk Tryd.prog G gl H0 n0):ConsOk Tryd.prog G gl U_ppr:=(.cons (wks_c hst) (.cons (rsame_c hst) (.cons (rprs_c hst) (.cons (prs_c hst) (.cons (rprt_c hst) (.cons (row_c hst) .nil))))))
def ppr_s:List U→Option (Nat × List U)
 | [.str s,u_pa,u_ma,.int .u8 a,.int .u8 c]=>(decS rU u_pa).bind fun pa=>(decS rB u_ma).bind fun ma=>if s.length≤140737488351232∧((el ma).length≤140737488351232∧(el pa).length≤140737488351232∧(∀ m ∈ el ma,0≤m∧m≤255)∧(∀ q ∈ el pa,0≤q∧q≤65535))∧0≤a∧a≤255∧0≤c∧c≤255 then some (0,[.bool (true)]) else none
 | _=>none
theorem ppr_s_e (s:(List UInt8)) (pa:(Option (List Int))) (ma:(Option (List Int))) (a:Int) (c:Int) (hc:s.length≤140737488351232∧((el ma).length≤140737488351232∧(el pa).length≤140737488351232∧(∀ m ∈ el ma,0≤m∧m≤255)∧(∀ q ∈ el pa,0≤q∧q≤65535))∧0≤a∧a≤255∧0≤c∧c≤255):ppr_s [.str s,encS rU pa,encS rB ma,.int .u8 a,.int .u8 c]=some (0,[.bool (true)]):=by
 simp only [ppr_s,decS_enc,Option.bind_some]
 exact if_pos hc
def ppr_t:Tr:=.fn row_s [h 1 11,h 2 11] 1 <| .fn rprt_s [h 5 11] 2 <| .dt 11 (.byt) [h 6 9] <| .lt 3 (.len) [h 8 11] <| .lt 8 (.bin .gtr) [h 9 3,.int .i64 (0)] <| .br 10 (.lt 3 (.conv .i64) [h 3 4] <| .lt 3 (.bin .rem) [h 11 3,h 9 3] <| .lt 8 (.inbs 1) [h 12 3,h 8 11] <| .br 13 (.dt 11 (.set 1 0) [h 8 11,h 12 3,h 4 4] <| .lt 3 (.len) [h 0 9] <| .lt 3 (.min) [h 15 3,.int .i64 (150)] <| .lt 9 (.sub) [h 0 9,.int .i64 (0),h 16 3] <| .lt 9 (.str) [h 14 11] <| .fn prs_s [h 17 9] 2 <| .fn rprs_s [h 17 9] 2 <| .lt 8 (.bin .neq) [h 20 3,h 22 3] <| .br 23 (.ret [.bool false]) (.fn rsame_s [h 19 11,h 21 11] 1 <| .lt 8 (.un .not) [h 24 8] <| .br 25 (.ret [.bool false]) (.fn prs_s [h 6 9] 2 <| .fn rprs_s [h 6 9] 2 <| .lt 8 (.bin .neq) [h 27 3,h 29 3] <| .br 30 (.ret [.bool false]) (.fn rsame_s [h 26 11,h 28 11] 1 <| .lt 8 (.un .not) [h 31 8] <| .br 32 (.ret [.bool false]) (.fn prs_s [h 18 9] 2 <| .fn rprs_s [h 18 9] 2 <| .lt 8 (.bin .neq) [h 34 3,h 36 3] <| .br 37 (.ret [.bool false]) (.fn rsame_s [h 33 11,h 35 11] 1 <| .lt 8 (.un .not) [h 38 8] <| .br 39 (.ret [.bool false]) (.fn wks_s [] 1 <| .ret [h 40 8]))))))) (.no)) (.lt 3 (.len) [h 0 9] <| .lt 3 (.min) [h 11 3,.int .i64 (150)] <| .lt 9 (.sub) [h 0 9,.int .i64 (0),h 12 3] <| .lt 9 (.str) [h 8 11] <| .fn prs_s [h 13 9] 2 <| .fn rprs_s [h 13 9] 2 <| .lt 8 (.bin .neq) [h 16 3,h 18 3] <| .br 19 (.ret [.bool false]) (.fn rsame_s [h 15 11,h 17 11] 1 <| .lt 8 (.un .not) [h 20 8] <| .br 21 (.ret [.bool false]) (.fn prs_s [h 6 9] 2 <| .fn rprs_s [h 6 9] 2 <| .lt 8 (.bin .neq) [h 23 3,h 25 3] <| .br 26 (.ret [.bool false]) (.fn rsame_s [h 22 11,h 24 11] 1 <| .lt 8 (.un .not) [h 27 8] <| .br 28 (.ret [.bool false]) (.fn prs_s [h 14 9] 2 <| .fn rprs_s [h 14 9] 2 <| .lt 8 (.bin .neq) [h 30 3,h 32 3] <| .br 33 (.ret [.bool false]) (.fn rsame_s [h 29 11,h 31 11] 1 <| .lt 8 (.un .not) [h 34 8] <| .br 35 (.ret [.bool false]) (.fn wks_s [] 1 <| .ret [h 36 8])))))))
theorem ppr_c {G:Nat→Option Obj} (hst:StartOk Tryd.prog G gl H0 n0):ConOk Tryd.prog G 4 [.s 9,.a [11,11],.s 4,.s 4] ppr_s [.s 8]:=by
 refine con_of_tree (C:=cx U_ppr P_rpl) (d:=60) ppr_t (cxg (U_ppr_ok hst) (P_rpl_ok hst)) hst ⟨Tryd.f4,_,Tryd.func4,rfl⟩ (by kernel_rfl) (by kernel_rfl) ?_
 intro us outs hs
 unfold ppr_s at hs
 split at hs
 ·skip
  rename_i s u_pa u_ma a c
  have hq_pa:=Option.bind_eq_some_iff.1 hs
  clear hs
  obtain ⟨pa,hd_pa,hs⟩:=hq_pa
  replace hd_pa:=decS_eq hd_pa
  subst hd_pa
  have hq_ma:=Option.bind_eq_some_iff.1 hs
  clear hs
  obtain ⟨ma,hd_ma,hs⟩:=hq_ma
  replace hd_ma:=decS_eq hd_ma
  subst hd_ma
  split at hs
  ·rename_i hc
   cases hs
   have lo:=lens_of (row_ok hc.2.1.2.2.1 hc.2.1.2.2.2)
   have hm:((el (some (bI (printS (rowF pa ma)).1))).length:Int)=0∨(0≤a % ((el (some (bI (printS (rowF pa ma)).1))).length:Int)∧a % ((el (some (bI (printS (rowF pa ma)).1))).length:Int) < ((el (some (bI (printS (rowF pa ma)).1))).length:Int)):=by
    by_cases h:((el (some (bI (printS (rowF pa ma)).1))).length:Int)=0
    ·exact .inl h
    ·exact .inr ⟨Int.emod_nonneg _ h,Int.emod_lt_of_pos _ (by omega)⟩
   unfold ppr_t
   refine s0 (.cons 4 _ (.cons 3 _ (.cons 2 _ (.cons 1 _ (.cons 0 _ (.nil)))))) rfl (by simp [Ev.ok,Ev.len]) ?_
   refine s31 (row_s_e _ _ hc.2.1) rfl ?_
   refine s32 (rprt_s_e _ lo) rfl rfl ?_
   refine s2 (r:=rB) (ev_bytS _ rfl) rfl rfl ?_
   refine s1 (ev_lenS _ _) rfl rfl rfl ?_
   refine s1 (ev_gtr _ _ _) rfl rfl rfl ?_
   refine s4 rfl (fun g0=>?_) fun g0=>?_
   ·first|refine s1 (ev_convW (wrap64 (by omega) (by omega))) rfl rfl rfl ?_|refine s1 (ev_conv _ _ _) rfl rfl rfl ?_
    first|refine s1 (ev_remW (by omega) (by omega)) rfl rfl rfl ?_|refine s1 (ev_rem _ _ _ (by omega)) rfl rfl rfl ?_
    refine s1 (ev_inbsS rfl) rfl rfl rfl ?_
    refine s5 rfl (fun g1=>?_) fun g1=>?_
    ·refine s8 ?_
     omega
    refine s2 (r:=rB) (ev_setS _ rfl (Nat.le_of_ble_eq_true rfl) (by omega) (by omega) rfl) rfl rfl ?_
    refine s1 (ev_len _) rfl rfl rfl ?_
    refine s1 (ev_min _ _ _ _) rfl rfl rfl ?_
    refine s1 (ev_sub' _ _ _ _ _ (by omega) (by omega) (by omega)) rfl rfl rfl ?_
    refine s1 (ev_strS rfl (by first|exact (fun n hn=>bI_rng hn)|exact set_rng (fun n hn=>bI_rng hn) ⟨by omega,by omega⟩)) rfl rfl rfl ?_
    refine s32 (prs_s_e _) rfl rfl ?_
    refine s32 (rprs_s_e _) rfl rfl ?_
    refine s1 (ev_neq _ _ _) rfl rfl rfl ?_
    refine s4 rfl (fun g2=>?_) fun g2=>?_
    ·refine s7 [.bool _] rfl ?_
     first|rfl|(exfalso; exact absurd rfl (by assumption))
    refine s31 (rsame_s_e _ _ ⟨(parse_lens _).1,(parse_lens _).1,(parse_lens _).2,(parse_lens _).2⟩) rfl ?_
    first|refine s1 (ev_notD _) rfl rfl rfl ?_|refine s1 (ev_not _) rfl rfl rfl ?_
    first|refine s4 rfl (fun g3=>?_) (fun g3=>?_)|refine s4B rfl (fun g3=>?_) (fun g3=>?_)
    ·refine s7 [.bool _] rfl ?_
     first|rfl|(exfalso; exact absurd rfl (by assumption))
    refine s32 (prs_s_e _) rfl rfl ?_
    refine s32 (rprs_s_e _) rfl rfl ?_
    refine s1 (ev_neq _ _ _) rfl rfl rfl ?_
    refine s4 rfl (fun g4=>?_) fun g4=>?_
    ·refine s7 [.bool _] rfl ?_
     first|rfl|(exfalso; exact absurd rfl (by assumption))
    refine s31 (rsame_s_e _ _ ⟨(parse_lens _).1,(parse_lens _).1,(parse_lens _).2,(parse_lens _).2⟩) rfl ?_
    first|refine s1 (ev_notD _) rfl rfl rfl ?_|refine s1 (ev_not _) rfl rfl rfl ?_
    first|refine s4 rfl (fun g5=>?_) (fun g5=>?_)|refine s4B rfl (fun g5=>?_) (fun g5=>?_)
    ·refine s7 [.bool _] rfl ?_
     first|rfl|(exfalso; exact absurd rfl (by assumption))
    refine s32 (prs_s_e _) rfl rfl ?_
    refine s32 (rprs_s_e _) rfl rfl ?_
    refine s1 (ev_neq _ _ _) rfl rfl rfl ?_
    refine s4 rfl (fun g6=>?_) fun g6=>?_
    ·refine s7 [.bool _] rfl ?_
     first|rfl|(exfalso; exact absurd rfl (by assumption))
    refine s31 (rsame_s_e _ _ ⟨(parse_lens _).1,(parse_lens _).1,(parse_lens _).2,(parse_lens _).2⟩) rfl ?_
    first|refine s1 (ev_notD _) rfl rfl rfl ?_|refine s1 (ev_not _) rfl rfl rfl ?_
    first|refine s4 rfl (fun g7=>?_) (fun g7=>?_)|refine s4B rfl (fun g7=>?_) (fun g7=>?_)
    ·refine s7 [.bool _] rfl ?_
     first|rfl|(exfalso; exact absurd rfl (by assumption))
    refine s31 rfl rfl ?_
    refine s7 [.bool _] rfl ?_
    first|rfl|(exfalso; exact absurd rfl (by assumption))
   refine s1 (ev_len _) rfl rfl rfl ?_
   refine s1 (ev_min _ _ _ _) rfl rfl rfl ?_
   refine s1 (ev_sub' _ _ _ _ _ (by omega) (by omega) (by omega)) rfl rfl rfl ?_
   refine s1 (ev_strS rfl (by first|exact (fun n hn=>bI_rng hn)|exact set_rng (fun n hn=>bI_rng hn) ⟨by omega,by omega⟩)) rfl rfl rfl ?_
   refine s32 (prs_s_e _) rfl rfl ?_
   refine s32 (rprs_s_e _) rfl rfl ?_
   refine s1 (ev_neq _ _ _) rfl rfl rfl ?_
   refine s4 rfl (fun g1=>?_) fun g1=>?_
   ·refine s7 [.bool _] rfl ?_
    first|rfl|(exfalso; exact absurd rfl (by assumption))
   refine s31 (rsame_s_e _ _ ⟨(parse_lens _).1,(parse_lens _).1,(parse_lens _).2,(parse_lens _).2⟩) rfl ?_
   first|refine s1 (ev_notD _) rfl rfl rfl ?_|refine s1 (ev_not _) rfl rfl rfl ?_
   first|refine s4 rfl (fun g2=>?_) (fun g2=>?_)|refine s4B rfl (fun g2=>?_) (fun g2=>?_)
   ·refine s7 [.bool _] rfl ?_
    first|rfl|(exfalso; exact absurd rfl (by assumption))
   refine s32 (prs_s_e _) rfl rfl ?_
   refine s32 (rprs_s_e _) rfl rfl ?_
   refine s1 (ev_neq _ _ _) rfl rfl rfl ?_
   refine s4 rfl (fun g3=>?_) fun g3=>?_
   ·refine s7 [.bool _] rfl ?_
    first|rfl|(exfalso; exact absurd rfl (by assumption))
   refine s31 (rsame_s_e _ _ ⟨(parse_lens _).1,(parse_lens _).1,(parse_lens _).2,(parse_lens _).2⟩) rfl ?_
   first|refine s1 (ev_notD _) rfl rfl rfl ?_|refine s1 (ev_not _) rfl rfl rfl ?_
   first|refine s4 rfl (fun g4=>?_) (fun g4=>?_)|refine s4B rfl (fun g4=>?_) (fun g4=>?_)
   ·refine s7 [.bool _] rfl ?_
    first|rfl|(exfalso; exact absurd rfl (by assumption))
   refine s32 (prs_s_e _) rfl rfl ?_
   refine s32 (rprs_s_e _) rfl rfl ?_
   refine s1 (ev_neq _ _ _) rfl rfl rfl ?_
   refine s4 rfl (fun g5=>?_) fun g5=>?_
   ·refine s7 [.bool _] rfl ?_
    first|rfl|(exfalso; exact absurd rfl (by assumption))
   refine s31 (rsame_s_e _ _ ⟨(parse_lens _).1,(parse_lens _).1,(parse_lens _).2,(parse_lens _).2⟩) rfl ?_
   first|refine s1 (ev_notD _) rfl rfl rfl ?_|refine s1 (ev_not _) rfl rfl rfl ?_
   first|refine s4 rfl (fun g6=>?_) (fun g6=>?_)|refine s4B rfl (fun g6=>?_) (fun g6=>?_)
   ·refine s7 [.bool _] rfl ?_
    first|rfl|(exfalso; exact absurd rfl (by assumption))
   refine s31 rfl rfl ?_
   refine s7 [.bool _] rfl ?_
   first|rfl|(exfalso; exact absurd rfl (by assumption))
  ·cases hs
 ·cases hs
end Go.Proofs.YtadmkfclgpbebaaDoor

namespace Go.Proofs.YtadmkfclgpbebaaDoor.paramParsesDone
set_option linter.all false
open Go Go.Sx Go.ChangeShapes Go.WideShapes Go.ChangeAt Go.RowKit
set_option linter.unusedVariables false
set_option maxRecDepth 100000
theorem start {W:World} (h:laidMetH Tryd.prog Rows.paramParsesRow.laid W):StartOk Tryd.prog (fun k=>W.heap[k]?) gl H0 n0:=by
 rw [MakeChecks.laidMetH_plain _ _ _ (by kernel_rfl)] at h
 have r2:RowAt W 2 [.int .u8 (0),.int .u8 (1),.int .u8 (28),.int .u8 (2),.int .u8 (29),.int .u8 (14),.int .u8 (24),.int .u8 (3),.int .u8 (30),.int .u8 (22),.int .u8 (20),.int .u8 (15),.int .u8 (25),.int .u8 (17),.int .u8 (4),.int .u8 (8),.int .u8 (31),.int .u8 (27),.int .u8 (13),.int .u8 (23),.int .u8 (21),.int .u8 (19),.int .u8 (16),.int .u8 (7),.int .u8 (26),.int .u8 (12),.int .u8 (18),.int .u8 (6),.int .u8 (11),.int .u8 (5),.int .u8 (10),.int .u8 (9)]:=rowAt_data (by kernel_rfl) (laid_row (n := "math/bits.deBruijn32tab") (d:=Rows.laid_math_bits_deBruijn32tab) (g:=2) (k:=6) (t:=117) h (List.mem_of_getElem? (i:=0) rfl) (by kernel_rfl) (by kernel_rfl) (by kernel_rfl))
 have r3:RowAt W 3 [.int .u8 (0),.int .u8 (1),.int .u8 (56),.int .u8 (2),.int .u8 (57),.int .u8 (49),.int .u8 (28),.int .u8 (3),.int .u8 (61),.int .u8 (58),.int .u8 (42),.int .u8 (50),.int .u8 (38),.int .u8 (29),.int .u8 (17),.int .u8 (4),.int .u8 (62),.int .u8 (47),.int .u8 (59),.int .u8 (36),.int .u8 (45),.int .u8 (43),.int .u8 (51),.int .u8 (22),.int .u8 (53),.int .u8 (39),.int .u8 (33),.int .u8 (30),.int .u8 (24),.int .u8 (18),.int .u8 (12),.int .u8 (5),.int .u8 (63),.int .u8 (55),.int .u8 (48),.int .u8 (27),.int .u8 (60),.int .u8 (41),.int .u8 (37),.int .u8 (16),.int .u8 (46),.int .u8 (35),.int .u8 (44),.int .u8 (21),.int .u8 (52),.int .u8 (32),.int .u8 (23),.int .u8 (11),.int .u8 (54),.int .u8 (26),.int .u8 (40),.int .u8 (15),.int .u8 (34),.int .u8 (20),.int .u8 (31),.int .u8 (10),.int .u8 (25),.int .u8 (14),.int .u8 (19),.int .u8 (9),.int .u8 (13),.int .u8 (8),.int .u8 (7),.int .u8 (6)]:=rowAt_data (by kernel_rfl) (laid_row (n := "math/bits.deBruijn64tab") (d:=Rows.laid_math_bits_deBruijn64tab) (g:=3) (k:=6) (t:=118) h (List.mem_of_getElem? (i:=1) rfl) (by kernel_rfl) (by kernel_rfl) (by kernel_rfl))
 have r1:RowAt W 1 [.int .u64 (1),.int .u64 (10),.int .u64 (100),.int .u64 (1000),.int .u64 (10000),.int .u64 (100000),.int .u64 (1000000),.int .u64 (10000000),.int .u64 (100000000),.int .u64 (1000000000),.int .u64 (10000000000),.int .u64 (100000000000),.int .u64 (1000000000000),.int .u64 (10000000000000),.int .u64 (100000000000000),.int .u64 (1000000000000000),.int .u64 (10000000000000000),.int .u64 (100000000000000000),.int .u64 (1000000000000000000),.int .u64 (10000000000000000000)]:=rowAt_data (by kernel_rfl) (laid_row (n := "internal/strconv.uint64pow10") (d:=Rows.laid_internal_strconv_uint64pow10) (g:=1) (k:=6) (t:=113) h (List.mem_of_getElem? (i:=2) rfl) (by kernel_rfl) (by kernel_rfl) (by kernel_rfl))
 have hs:gl≤W.heap.size:=by
  obtain ⟨C,T,fz,e,_⟩:=r3
  have:=(Array.getElem?_eq_some_iff.1 e).1
  show 4≤_
  omega
 refine start_of hs (by decide) ?_ ?_
 ·have e:(rows0.all fun r=>Nat.blt r.1 gl)=true:=by kernel_rfl
  exact fun r hr=>Nat.le_of_ble_eq_true (List.all_eq_true.1 e r hr)
 ·intro r hr
  unfold rows0 at hr
  rcases List.mem_cons.1 hr with rfl|hr
  ·exact r2
  rcases List.mem_cons.1 hr with rfl|hr
  ·exact r3
  rcases List.mem_cons.1 hr with rfl|hr
  ·exact r1
  cases hr
theorem own:ownKnob Tryd.prog.godebug=none:=by kernel_rfl
theorem laidOut:laidOutB Tryd.prog=true:=by kernel_rfl
noncomputable def low:Nat:=(World.holding Tryd.prog default ⟨#[],#[.string ⟨#[]⟩,.agg #[.slice none 0 0,.slice none 0 0],.int .u8 0,.int .u8 0],[]⟩).heap.size
noncomputable def put (g:Nat) (cs:Array Value) (h:Array Obj):Array Obj:=h.modify g fun
 | .cells _ t frozen=>.cells cs t frozen
 | o=>o
noncomputable def laidWorld (os:Os):World :=
 let w0:=World.holding Tryd.prog os ⟨#[],#[.string ⟨#[]⟩,.agg #[.slice none 0 0,.slice none 0 0],.int .u8 0,.int .u8 0],[]⟩
 { w0 with heap:=(put 1 (rows0.getD 2 (0,[])).2.toArray (put 3 (rows0.getD 1 (0,[])).2.toArray (put 2 (rows0.getD 0 (0,[])).2.toArray w0.heap))) }
theorem laid_met (os:Os):laidMet Tryd.prog Rows.paramParsesRow.laid ((laidWorld os).forCall (fun _ _=>0) ⟨#[],#[.string ⟨#[]⟩,.agg #[.slice none 0 0,.slice none 0 0],.int .u8 0,.int .u8 0],[]⟩).memory :=
 laidMet_of_run' 8 (by kernel_rfl) (by kernel_rfl)
theorem reads (os:Os) {H:Type} (enc:TypeId × Value→H):∃ places,DataW.whole enc Tryd.prog ((laidWorld os).forCall (fun _ _=>0) ⟨#[],#[.string ⟨#[]⟩,.agg #[.slice none 0 0,.slice none 0 0],.int .u8 0,.int .u8 0],[]⟩).memory Tryd.f4.params.toList Rows.paramParsesSpec.vars false [.string ⟨#[]⟩,.agg #[.slice none 0 0,.slice none 0 0],.int .u8 0,.int .u8 0] 8=some ([.lit (.string []),.agg [.nil,.nil],.lit (.int .u8 0),.lit (.int .u8 0)],[],places) :=
 ⟨[],by kernel_rfl⟩
theorem contract (H:Type) (enc:TypeId × Value→H) (W:World) (base:Nat) (args:Array Value) (ds gs:List (DataW H)) (before:List MemPlace)
  (hval:∀ (j:Nat) t v,Tryd.f4.params[j]? = some t→args[j]? = some v→Value.okWide Tryd.prog W .any base t v)
  (hW:DataW.Whole enc Tryd.prog Tryd.f4.params.toList Rows.paramParsesSpec.vars false W args.toList ds gs before) (hL:laidMetH Tryd.prog Rows.paramParsesRow.laid W)
  (hwt:(DataW.weightsEach Tryd.prog (Tryd.f4.params.toList++(OpenSpec.ofChange Rows.paramParsesSpec).bare.plain.varTypes Tryd.prog) (ds++gs)).all (·≤reachBytes)=true) :
  Calls Tryd.prog 4 args W fun e W'=>∃ v,e=.returned v∧Rows.paramParsesSpec.post enc Tryd.prog Tryd.f4 false true false false W args v W':=by
 have hW':=hW
 obtain ⟨p,q,hA0,hV,rfl,hfz,hnd⟩:=hW
 have hA:DataW.TrodAll enc Tryd.prog W 0 (fun _=>true) true Tryd.f4.params.toList args.toList ds p:=hA0
 rw [Tryd.params4] at hA hval hwt
 obtain ⟨v0,vs0,d0,ds0,p0,q0,hargs,rfl,rfl,h0,tl0⟩:=trodAll_cons hA
 obtain ⟨v1,vs1,d1,ds1,p1,q1,rfl,rfl,rfl,h1,tl1⟩:=trodAll_cons tl0
 obtain ⟨v2,vs2,d2,ds2,p2,q2,rfl,rfl,rfl,h2,tl2⟩:=trodAll_cons tl1
 obtain ⟨v3,vs3,d3,ds3,p3,q3,rfl,rfl,rfl,h3,tl3⟩:=trodAll_cons tl2
 obtain ⟨rfl,rfl,rfl⟩:=trodAll_nil tl3
 obtain rfl:args=#[v0,v1,v2,v3]:=by cases args; simp_all
 obtain ⟨rfl,rfl⟩:=trodVars_none hV
 have lt0:∀ x ∈ p0,x.block < W.heap.size:=by obtain ⟨m,hm⟩:=h0; exact DataW.trod_lt m _ _ _ hm
 have wl0:Light Tryd.prog 9 d0:=weightsEach_get (i:=0) hwt rfl rfl
 obtain ⟨a0,s0,q0⟩:=arg_s (c:=cStr) (RdC.str' (by kernel_rfl)) (by kernel_rfl) (hval 0 9 v0 rfl rfl) h0 wl0
 try simp only at q0
 have lt1:∀ x ∈ p1,x.block < W.heap.size:=by obtain ⟨m,hm⟩:=h1; exact DataW.trod_lt m _ _ _ hm
 have wl1:Light Tryd.prog 26 d1:=weightsEach_get (i:=1) hwt rfl rfl
 obtain ⟨⟨a1_0,a1_1⟩,s1,q1⟩:=arg_a (r:=(rC (cSl rU) (r1 (cSl rB)))) (tg:=[11,11]) (RdR.of (k:=12) (ts:=[23,24]) (by kernel_rfl) (RdL.cons (RdC.slice' (r:=rU) (e:=60) 2 (by kernel_rfl) (by kernel_rfl) (by decide) (by kernel_rfl) (by decide) (RdR.of (k:=12) (ts:=[60]) (by kernel_rfl) (RdL.nil1 (RdC.u16 (by kernel_rfl))))) (RdL.nil1 (RdC.slice' (r:=rB) (e:=5) 1 (by kernel_rfl) (by kernel_rfl) (by decide) (by kernel_rfl) (by decide) (RdR.of (k:=12) (ts:=[5]) (by kernel_rfl) (RdL.nil1 (RdC.u8 (by kernel_rfl)))))))) (fun _=>by simp only [rC,r1,List.map_cons,List.map_nil,cSl,cInt,cBool,cStr,tagS]; rfl) (okWide_agg (by kernel_rfl) (hval 1 26 v1 rfl rfl)) h1 wl1
 try simp only at q1
 have lt2:∀ x ∈ p2,x.block < W.heap.size:=by obtain ⟨m,hm⟩:=h2; exact DataW.trod_lt m _ _ _ hm
 have wl2:Light Tryd.prog 5 d2:=weightsEach_get (i:=2) hwt rfl rfl
 obtain ⟨a2,s2,q2⟩:=arg_s (c:=(cInt .u8)) (RdC.u8 (by kernel_rfl)) (by kernel_rfl) (hval 2 5 v2 rfl rfl) h2 wl2
 try simp only at q2
 have lt3:∀ x ∈ p3,x.block < W.heap.size:=by obtain ⟨m,hm⟩:=h3; exact DataW.trod_lt m _ _ _ hm
 have wl3:Light Tryd.prog 5 d3:=weightsEach_get (i:=3) hwt rfl rfl
 obtain ⟨a3,s3,q3⟩:=arg_s (c:=(cInt .u8)) (RdC.u8 (by kernel_rfl)) (by kernel_rfl) (hval 3 5 v3 rfl rfl) h3 wl3
 try simp only at q3
 clear hA0
 simp only [List.append_nil] at hW'
 have hsh:ShL (hpOf W) [.s 9,.a [11,11],.s 4,.s 4] [.str a0,encS rU a1_0,encS rB a1_1,.int .u8 a2,.int .u8 a3] [v0,v1,v2,v3]:=(.cons s0 (.cons s1 (.cons s2 (.cons s3 .nil))))
 obtain ⟨_,hc⟩:=ppr_c (start hL) [.str a0,encS rU a1_0,encS rB a1_1,.int .u8 a2,.int .u8 a3] [.bool true] W _ (hpOf W) hsh (ppr_s_e _ _ _ _ _ ⟨q0,⟨q1.2.1,q1.1.1,q1.2.2,q1.1.2⟩,q2.1,q2.2,q3.1,q3.2⟩) (fun k o h=>h) (fun k o h=>h)
 refine hc.mono fun e W' ⟨r,R',hr,he,hg,_⟩=>?_
 have hrv:=val_of_shL (vs2:=[.bool true]) hr rfl
 subst hrv
 subst he
 have bel:Below W.heap.size W W':=⟨hg.os.1,hg.os.2.1,hg.os.2.2,hg.size,hg.keep⟩
 exact ⟨_,rfl,_,_,_,[],_,[],hW',trodAll_mk1 (shut_bool Tryd.underlying4 _),(trodAll_cons_mk (Below.trod laidOut (by kernel_rfl) (of_decide_eq_true (by kernel_rfl)) h0 bel lt0) (trodAll_cons_mk (Below.trod laidOut (by kernel_rfl) (of_decide_eq_true (by kernel_rfl)) h1 bel lt1) (trodAll_cons_mk (Below.trod laidOut (by kernel_rfl) (of_decide_eq_true (by kernel_rfl)) h2 bel lt2) (trodAll_cons_mk (Below.trod laidOut (by kernel_rfl) (of_decide_eq_true (by kernel_rfl)) h3 bel lt3) trodAll_mk0)))),rfl,hg.kept _,fun h=>by cases h⟩
theorem lifted (os:Os) (started:os.Started) (H:Type) (enc:TypeId × Value→H) (F:Stop.Interp) :
  ReturnsInHanded {} Tryd.checked os 4 .any ((OpenSpec.ofChange Rows.paramParsesSpec).preRow enc Tryd.prog Tryd.f4 Rows.paramParsesRow.domain false Rows.paramParsesRow.laid) (((OpenSpec.ofChange Rows.paramParsesSpec).at F).post enc Tryd.prog Tryd.f4 false true false false):=by
 obtain ⟨places,hx⟩:=reads os enc
 refine returnsInHanded_of_row (C:=Tryd.checked) (s:=OpenSpec.ofChange Rows.paramParsesSpec) own started (by kernel_rfl) Tryd.func4
  (witness_row_at (enc:=enc) (C:=Tryd.checked) false (laidWorld os) #[.string ⟨#[]⟩,.agg #[.slice none 0 0,.slice none 0 0],.int .u8 0,.int .u8 0] rfl (by kernel_rfl) (by kernel_rfl) (by kernel_rfl)
    (OpenSpec.preRow_of_cond 8 hx (by kernel_rfl) (fun k hk=>by cases hk) (by kernel_rfl) (laid_met os))) ?_
 intro W base args ds gs before hval hW _ _ hwt hL _ _
 exact contract H enc W base args ds gs before hval hW hL hwt
theorem said:Rows.ParamParsesSaid :=
 OpenClaim.holds_of_cond 4 Tryd.f4 rfl rfl rfl rfl rfl rfl rfl ⟨rfl,rfl,rfl,rfl,rfl⟩ rfl rfl rfl rfl rfl (by kernel_rfl) Tryd.func4 (by kernel_rfl)
  (of_decide_eq_true (by kernel_rfl)) (by unfold Func.isWrapper; first|(rw [if_pos (by decide +kernel)]; kernel_rfl)|(rw [if_neg (by decide +kernel)]; exact ⟨rfl,rfl⟩))
  (fun os started H enc _ F=>by rw [OpenClaim.pre_eq_preRow]; exact lifted os started H enc F)
theorem plain (f:FuncId) (fn:Func) (hf:Tryd.pinned.checked.prog.funcNamed "fenestra/fenestralaw05.ParamParses"=some f) (hfn:Tryd.pinned.checked.prog.funcs[f]? = some fn) :
  false=Tryd.pinned.checked.prog.looks []∧∀ (j:Nat) t,fn.params[j]? = some t→Tryd.pinned.checked.prog.wantsStandIn t=false:=by
 obtain rfl:f=4:=Option.some.inj ((show Tryd.prog.funcNamed "fenestra/fenestralaw05.ParamParses"=some 4 by kernel_rfl).symm.trans hf) |>.symm
 obtain rfl:fn=Tryd.f4:=(Option.some.inj (Tryd.func4.symm.trans hfn)).symm
 refine ⟨by kernel_rfl,fun j t ht=>?_⟩
 have hall:(Tryd.f4.params.toList.all fun t=>!Tryd.prog.wantsStandIn t)=true:=by kernel_rfl
 have:=List.all_eq_true.1 hall t (Array.mem_def.1 (Array.mem_of_getElem? ht))
 have h2:Tryd.prog.wantsStandIn t=false:=by simpa using this
 exact h2
theorem proved:Rows.ParamParsesCardSaid :=
 Claim7.holds_tied_plain_at .later [] _ _ _ _ said (fun _ h=>by cases h) (by kernel_rfl) (fun _ h=>by cases h) paramParses_row_tie rfl ⟨rfl,rfl⟩ (by kernel_rfl) rfl plain (by kernel_rfl)
#print axioms proved
end Go.Proofs.YtadmkfclgpbebaaDoor.paramParsesDone
