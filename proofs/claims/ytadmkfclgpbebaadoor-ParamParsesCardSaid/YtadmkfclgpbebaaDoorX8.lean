/- The law ParamParses: for every input the call returns true, and the arguments read behind it as they read before. No condition. -/
import Derived.Test.YtadmkfclgpbebaaDoorX7
namespace Go.Proofs.YtadmkfclgpbebaaDoor
set_option linter.all false
open Go Go.Sx
set_option maxRecDepth 100000
set_option linter.unusedVariables false
set_option linter.unusedSimpArgs false
def neI (q:Int × Int):Bool:=decide (q.1≠q.2)
theorem neI_iff (q:Int × Int):neI q=true↔q.1≠q.2:=decide_eq_true_iff
theorem neI_t {x y:Int} (h:x≠y):neI (x,y)=true:=decide_eq_true h
theorem neI_f {x y:Int} (h:¬x≠y):neI (x,y)=false:=decide_eq_false h
theorem zlen {α β:Type} {l:List α} {r:List β} (h:l.length=r.length):(l.zip r).length=l.length:=by rw [List.length_zip]; omega
def eql_l:List U→Option (Nat × List U)
 | [u_a,u_b,.int .i64 n,.int .i64 i]=>(decS rI u_a).bind fun a=>(decS rI u_b).bind fun b=>if n=((el a).length:Int)∧0≤i∧i≤n∧n≤1000000000∧(el a).length=(el b).length then way01 (findI neI (((el a).zip (el b)).drop i.toNat) i) [] (fun _=>[]) else none
 | _=>none
theorem eql_l_e (a:(Option (List Int))) (b:(Option (List Int))) (n:Int) (i:Int) (hc:n=((el a).length:Int)∧0≤i∧i≤n∧n≤1000000000∧(el a).length=(el b).length):eql_l [encS rI a,encS rI b,.int .i64 n,.int .i64 i]=way01 (findI neI (((el a).zip (el b)).drop i.toNat) i) [] (fun _=>[]):=by
 simp only [eql_l,decS_enc,Option.bind_some]
 exact if_pos hc
def eql_D:LoopD:=⟨[(0,dat 7 0 11),(1,dat 8 1 11),(12,h 2 3),(13,h 3 3)],[(7,.frz),(8,.frz)],4,[⟨.exit 0,[],[],0⟩,⟨.ret,[(4,.bool false)],[],0⟩]⟩
noncomputable def eql_B:Code:=(Tryd.f49.body).getD .skip
noncomputable def eql_x:Code:=match codeAt [true,true,false,true,false] eql_B with|some (.loop x)=>x|_=>.skip
theorem eql_b:Tryd.f49.body=some eql_B:=rfl
theorem eql_p:codeAt [true,true,false,true,false] eql_B=some (.loop eql_x):=by kernel_rfl
def eql_t:Tr:=.lt 8 (.bin .lss) [h 3 3,h 2 3] <| .br 4 (.lt 8 (.inbs 1) [h 3 3,h 0 11] <| .br 5 (.lt 3 (.get 1 0) [h 0 11,h 3 3] <| .lt 8 (.inbs 1) [h 3 3,h 1 11] <| .br 7 (.lt 3 (.get 1 0) [h 1 11,h 3 3] <| .lt 8 (.bin .neq) [h 6 3,h 8 3] <| .br 9 (.ret [.int .i64 (1)]) (.lt 3 (.bin .add) [h 3 3,.int .i64 (1)] <| .ret [.int .i64 (-1),h 0 11,h 1 11,h 2 3,h 10 3])) (.no)) (.no)) (.ret [.int .i64 (0)])
def eql_m:List U→Nat
 | [u_a,u_b,.int .i64 n,.int .i64 i]=>(match decS rI u_a with|some a=>(match decS rI u_b with|some b=>(n - i).toNat|none=>0)|none=>0)
 | _=>0
theorem eql_me (a:(Option (List Int))) (b:(Option (List Int))) (n:Int) (i:Int):eql_m [encS rI a,encS rI b,.int .i64 n,.int .i64 i]=(n - i).toNat:=by
 simp only [eql_m,decS_enc]
theorem eql_c {G:Nat→Option Obj} (hst:StartOk Tryd.prog G gl H0 n0):∀ (E:Nat→U) (base:Nat),@CodeOk ⟨E,G⟩ Tryd.prog base gl Tryd.f49.ntmps eql_x (loopF Tryd.prog gl n0 9 eql_D eql_l):=by
 refine loop_ok (C:=cx L_val P_ifp) (dep:=60) (f:=49) (n0:=n0) (nB:=9) (H0:=H0) eql_m eql_t (cxg (L_val_ok hst) (P_ifp_ok hst)) hst Tryd.func49 eql_b eql_p (by kernel_rfl) (by kernel_rfl) (by kernel_rfl) ?_
 intro us d outs hs
 have hs0:=hs
 unfold eql_l at hs
 split at hs
 ·skip
  rename_i u_a u_b n i
  have hq_a:=Option.bind_eq_some_iff.1 hs
  clear hs
  obtain ⟨a,hd_a,hs⟩:=hq_a
  replace hd_a:=decS_eq hd_a
  subst hd_a
  have hq_b:=Option.bind_eq_some_iff.1 hs
  clear hs
  obtain ⟨b,hd_b,hs⟩:=hq_b
  replace hd_b:=decS_eq hd_b
  subst hd_b
  split at hs
  ·rename_i hc
   clear hs hs0
   have hz:=zlen hc.2.2.2.2
   refine ⟨rfl,?_⟩
   unfold eql_t
   refine s0 (.cons 3 _ (.cons 2 _ (.cons 1 _ (.cons 0 _ (.nil))))) rfl (by simp [Ev.ok,Ev.len]) ?_
   refine s1 (ev_lss _ _ _) rfl rfl rfl ?_
   refine s5 rfl (fun g0=>?_) fun g0=>?_
   ·refine s7 [.int .i64 _] rfl ?_
    refine leaf_exit (d:=0) ?_
    rw [eql_l_e a b n i hc,findI_end (by omega)]; rfl
   refine s1 (ev_inbsS rfl) rfl rfl rfl ?_
   refine s5 rfl (fun g1=>?_) fun g1=>?_
   ·refine s8 ?_
    first|omega|(simp_all; done)|(simp_all; omega)
   refine s1 (u:=.int .i64 _) (ev_getS rfl (by omega) (by omega) rfl) rfl rfl rfl ?_
   refine s1 (ev_inbsS rfl) rfl rfl rfl ?_
   refine s5 rfl (fun g2=>?_) fun g2=>?_
   ·refine s8 ?_
    first|omega|(simp_all; done)|(simp_all; omega)
   refine s1 (u:=.int .i64 _) (ev_getS rfl (by omega) (by omega) rfl) rfl rfl rfl ?_
   refine s1 (ev_neq _ _ _) rfl rfl rfl ?_
   refine s4 rfl (fun g3=>?_) fun g3=>?_
   ·refine s7 [.int .i64 _] rfl ?_
    refine leaf_exit (d:=1) ?_
    rw [eql_l_e a b n i hc,findI_hit (by omega) (by omega) (by rw [zip_get (by omega) (by omega) (by omega)]; exact neI_t (by omega))]; rfl
   first|refine s1 (ev_addW (wrap64 (by omega) (by omega))) rfl rfl rfl ?_|refine s1 (ev_add _ _ _) rfl rfl rfl ?_
   refine s7 [.int .i64 _,encS rI _,encS rI _,.int .i64 _,.int .i64 _] rfl ?_
   refine leaf_back ?_ ?_
   ·rw [eql_l_e a b n (i+1) ⟨hc.1,by omega,by omega,hc.2.2.2⟩,eql_l_e a b n i hc,findI_miss (i:=i) (by omega) (by omega) (by rw [zip_get (by omega) (by omega) (by omega)]; exact neI_f (by omega))]
   ·rw [eql_me,eql_me]; omega
  ·cases hs
 ·cases hs
noncomputable def P_eql:List LpE:=(49,([true,true,false,true,false],loopF Tryd.prog gl n0 9 eql_D eql_l))::P_ifp
theorem P_eql_ok {G:Nat→Option Obj} (hst:StartOk Tryd.prog G gl H0 n0):LpsOk Tryd.prog G gl P_eql:=.cons Tryd.func49 eql_b eql_p (eql_c hst) (P_ifp_ok hst)
def sameI (a b:Option (List Int)):Bool:=decide (el a=el b)
theorem sameI_l (a b:Option (List Int)) (h:¬((el a).length:Int)=(el b).length):sameI a b=false:=decide_eq_false fun e=>h (by rw [e])
theorem sameI_n (a b:Option (List Int)) (h:(el a).length=(el b).length) (hf:findI neI (((el a).zip (el b)).drop (0:Int).toNat) 0=none):sameI a b=true:=by
 rcases zip_same (f:=id) (p:=neI) neI_iff (i:=0) h with ⟨_,q⟩|⟨j,q,_⟩
 ·simp only [List.map_id] at q; exact decide_eq_true q
 ·rw [drop_zero',q] at hf; cases hf
theorem sameI_s (a b:Option (List Int)) {j:Int} (h:(el a).length=(el b).length) (hf:findI neI (((el a).zip (el b)).drop (0:Int).toNat) 0=some j):sameI a b=false:=by
 rcases zip_same (f:=id) (p:=neI) neI_iff (i:=0) h with ⟨q,_⟩|⟨j,q,_,q2⟩
 ·rw [drop_zero',q] at hf; cases hf
 ·simp only [List.map_id] at q2; exact decide_eq_false q2
def sm1_s:List U→Option (Nat × List U)
 | [u_a,u_b]=>(decS rI u_a).bind fun a=>(decS rI u_b).bind fun b=>if (el a).length≤1000000000∧(el b).length≤1000000000 then some (0,[.bool (sameI a b)]) else none
 | _=>none
theorem sm1_s_e (a:(Option (List Int))) (b:(Option (List Int))) (hc:(el a).length≤1000000000∧(el b).length≤1000000000):sm1_s [encS rI a,encS rI b]=some (0,[.bool (sameI a b)]):=by
 simp only [sm1_s,decS_enc,Option.bind_some]
 exact if_pos hc
def sm1_t:Tr:=.lt 3 (.len) [h 0 11] <| .lt 3 (.len) [h 1 11] <| .lt 8 (.bin .neq) [h 2 3,h 3 3] <| .br 4 (.ret [.bool false]) (.lp eql_l [h 0 11,h 1 11,h 2 3,.int .i64 (0)] 0 0 (.ret [.bool true]) (.lp eql_l [h 0 11,h 1 11,h 2 3,.int .i64 (0)] 1 0 (.ret [.bool false]) (.no)))
theorem sm1_c {G:Nat→Option Obj} (hst:StartOk Tryd.prog G gl H0 n0):ConOk Tryd.prog G 48 [.a [11],.a [11]] sm1_s [.s 8]:=by
 refine con_of_tree (C:=cx L_val P_eql) (d:=60) sm1_t (cxg (L_val_ok hst) (P_eql_ok hst)) hst ⟨Tryd.f48,_,Tryd.func48,rfl⟩ (by kernel_rfl) (by kernel_rfl) ?_
 intro us outs hs
 unfold sm1_s at hs
 split at hs
 ·skip
  rename_i u_a u_b
  have hq_a:=Option.bind_eq_some_iff.1 hs
  clear hs
  obtain ⟨a,hd_a,hs⟩:=hq_a
  replace hd_a:=decS_eq hd_a
  subst hd_a
  have hq_b:=Option.bind_eq_some_iff.1 hs
  clear hs
  obtain ⟨b,hd_b,hs⟩:=hq_b
  replace hd_b:=decS_eq hd_b
  subst hd_b
  split at hs
  ·rename_i hc
   cases hs
   unfold sm1_t
   refine s0 (.cons 1 _ (.cons 0 _ (.nil))) rfl (by simp [Ev.ok,Ev.len]) ?_
   refine s1 (ev_lenS _ _) rfl rfl rfl ?_
   refine s1 (ev_lenS _ _) rfl rfl rfl ?_
   refine s1 (ev_neq _ _ _) rfl rfl rfl ?_
   refine s4 rfl (fun g0=>?_) fun g0=>?_
   ·refine s7 [.bool _] rfl ?_
    first|(rw [sameI_l a b (by omega)]; done)|(rw [sameI_n a b (by omega) g1]; done)|(rw [sameI_s a b (by omega) g1]; done)
   refine s6 (eql_l_e _ _ _ _ (by omega)) rfl (fun _=>rfl) (fun g1=>?_) (fun v1 g1=>?_)
   ·show Tr.sav _ _ _
    refine s7 [.bool _] rfl ?_
    first|(rw [sameI_l a b (by omega)]; done)|(rw [sameI_n a b (by omega) g1]; done)|(rw [sameI_s a b (by omega) g1]; done)
   show Tr.sav _ _ _
   refine s7 [.bool _] rfl ?_
   first|(rw [sameI_l a b (by omega)]; done)|(rw [sameI_n a b (by omega) g1]; done)|(rw [sameI_s a b (by omega) g1]; done)
  ·cases hs
 ·cases hs
noncomputable def L_sm1:List (FuncId × FnC):=(48,conF Tryd.prog [.a [11],.a [11]] sm1_s [.s 8])::L_val
theorem L_sm1_ok {G:Nat→Option Obj} (hst:StartOk Tryd.prog G gl H0 n0):ConsOk Tryd.prog G gl L_sm1:=.cons (sm1_c hst) (L_val_ok hst)
def neP (q:Option (List Int) × Option (List Int)):Bool:=!(sameI q.1 q.2)
theorem neP_iff (q:Option (List Int) × Option (List Int)):neP q=true↔el q.1≠el q.2:=by
 unfold neP sameI; simp
theorem neP_t {x y:Option (List Int)} (h:¬el x=el y):neP (x,y)=true:=by unfold neP sameI; rw [decide_eq_false h]; rfl
theorem neP_f {x y:Option (List Int)} (h:¬¬el x=el y):neP (x,y)=false:=by unfold neP sameI; rw [decide_eq_true (Classical.not_not.1 h)]; rfl
def eqf_l:List U→Option (Nat × List U)
 | [u_b,u_a,.int .i64 n,.int .i64 i]=>(decS rP u_b).bind fun b=>(decS rP u_a).bind fun a=>if n=((el a).length:Int)∧0≤i∧i≤n∧n≤1000000000∧(el a).length=(el b).length∧(∀ p ∈ el a,(el p).length≤1000000000)∧(∀ p ∈ el b,(el p).length≤1000000000) then way01 (findI neP (((el a).zip (el b)).drop i.toNat) i) [] (fun _=>[]) else none
 | _=>none
theorem eqf_l_e (b:(Option (List (Option (List Int))))) (a:(Option (List (Option (List Int))))) (n:Int) (i:Int) (hc:n=((el a).length:Int)∧0≤i∧i≤n∧n≤1000000000∧(el a).length=(el b).length∧(∀ p ∈ el a,(el p).length≤1000000000)∧(∀ p ∈ el b,(el p).length≤1000000000)):eqf_l [encS rP b,encS rP a,.int .i64 n,.int .i64 i]=way01 (findI neP (((el a).zip (el b)).drop i.toNat) i) [] (fun _=>[]):=by
 simp only [eqf_l,decS_enc,Option.bind_some]
 exact if_pos hc
def eqf_D:LoopD:=⟨[(1,dat 5 0 11),(2,.func (.func 48) ⟨[]⟩ ⟨[]⟩),(15,dat 6 1 11),(16,h 2 3),(17,h 3 3)],[(5,.frz),(6,.frz)],4,[⟨.exit 0,[],[],0⟩,⟨.ret,[(6,.bool false)],[],0⟩]⟩
noncomputable def eqf_B:Code:=(Tryd.f47.body).getD .skip
noncomputable def eqf_x:Code:=match codeAt [true,true,false,true,false] eqf_B with|some (.loop x)=>x|_=>.skip
theorem eqf_b:Tryd.f47.body=some eqf_B:=rfl
theorem eqf_p:codeAt [true,true,false,true,false] eqf_B=some (.loop eqf_x):=by kernel_rfl
def eqf_t:Tr:=.lt 8 (.bin .lss) [h 3 3,h 2 3] <| .br 4 (.lt 8 (.inbs 1) [h 3 3,h 1 11] <| .br 5 (.dt 11 (.get 1 0) [h 1 11,h 3 3] <| .lt 8 (.inbs 1) [h 3 3,h 0 11] <| .br 7 (.dt 11 (.get 1 0) [h 0 11,h 3 3] <| .fn sm1_s [h 6 11,h 8 11] 1 <| .lt 8 (.un .not) [h 9 8] <| .br 10 (.ret [.int .i64 (1)]) (.lt 3 (.bin .add) [h 3 3,.int .i64 (1)] <| .ret [.int .i64 (-1),h 0 11,h 1 11,h 2 3,h 11 3])) (.no)) (.no)) (.ret [.int .i64 (0)])
def eqf_m:List U→Nat
 | [u_b,u_a,.int .i64 n,.int .i64 i]=>(match decS rP u_b with|some b=>(match decS rP u_a with|some a=>(n - i).toNat|none=>0)|none=>0)
 | _=>0
theorem eqf_me (b:(Option (List (Option (List Int))))) (a:(Option (List (Option (List Int))))) (n:Int) (i:Int):eqf_m [encS rP b,encS rP a,.int .i64 n,.int .i64 i]=(n - i).toNat:=by
 simp only [eqf_m,decS_enc]
theorem eqf_c {G:Nat→Option Obj} (hst:StartOk Tryd.prog G gl H0 n0):∀ (E:Nat→U) (base:Nat),@CodeOk ⟨E,G⟩ Tryd.prog base gl Tryd.f47.ntmps eqf_x (loopF Tryd.prog gl n0 7 eqf_D eqf_l):=by
 refine loop_ok (C:=cx L_sm1 P_eql) (dep:=60) (f:=47) (n0:=n0) (nB:=7) (H0:=H0) eqf_m eqf_t (cxg (L_sm1_ok hst) (P_eql_ok hst)) hst Tryd.func47 eqf_b eqf_p (by kernel_rfl) (by kernel_rfl) (by kernel_rfl) ?_
 intro us d outs hs
 have hs0:=hs
 unfold eqf_l at hs
 split at hs
 ·skip
  rename_i u_b u_a n i
  have hq_b:=Option.bind_eq_some_iff.1 hs
  clear hs
  obtain ⟨b,hd_b,hs⟩:=hq_b
  replace hd_b:=decS_eq hd_b
  subst hd_b
  have hq_a:=Option.bind_eq_some_iff.1 hs
  clear hs
  obtain ⟨a,hd_a,hs⟩:=hq_a
  replace hd_a:=decS_eq hd_a
  subst hd_a
  split at hs
  ·rename_i hc
   clear hs hs0
   have hz:=zlen hc.2.2.2.2.1
   refine ⟨rfl,?_⟩
   unfold eqf_t
   refine s0 (.cons 3 _ (.cons 2 _ (.cons 1 _ (.cons 0 _ (.nil))))) rfl (by simp [Ev.ok,Ev.len]) ?_
   refine s1 (ev_lss _ _ _) rfl rfl rfl ?_
   refine s5 rfl (fun g0=>?_) fun g0=>?_
   ·refine s7 [.int .i64 _] rfl ?_
    refine leaf_exit (d:=0) ?_
    rw [eqf_l_e b a n i hc,findI_end (by omega)]; rfl
   refine s1 (ev_inbsS rfl) rfl rfl rfl ?_
   refine s5 rfl (fun g1=>?_) fun g1=>?_
   ·refine s8 ?_
    first|omega|(simp_all; done)|(simp_all; omega)
   refine s2 (r:=rI) (ev_getS rfl (by omega) (by omega) rfl) rfl rfl ?_
   refine s1 (ev_inbsS rfl) rfl rfl rfl ?_
   refine s5 rfl (fun g2=>?_) fun g2=>?_
   ·refine s8 ?_
    first|omega|(simp_all; done)|(simp_all; omega)
   refine s2 (r:=rI) (ev_getS rfl (by omega) (by omega) rfl) rfl rfl ?_
   refine s31 (sm1_s_e _ _ ⟨all_get hc.2.2.2.2.2.1 (by omega) (by omega),all_get hc.2.2.2.2.2.2 (by omega) (by omega)⟩) rfl ?_
   first|refine s1 (ev_notD _) rfl rfl rfl ?_|refine s1 (ev_not _) rfl rfl rfl ?_
   first|refine s4 rfl (fun g3=>?_) (fun g3=>?_)|refine s4B rfl (fun g3=>?_) (fun g3=>?_)
   ·refine s7 [.int .i64 _] rfl ?_
    refine leaf_exit (d:=1) ?_
    rw [eqf_l_e b a n i hc,findI_hit (by omega) (by omega) (by rw [zip_get (by omega) (by omega) (by omega)]; exact neP_t g3)]; rfl
   first|refine s1 (ev_addW (wrap64 (by omega) (by omega))) rfl rfl rfl ?_|refine s1 (ev_add _ _ _) rfl rfl rfl ?_
   refine s7 [.int .i64 _,encS rP _,encS rP _,.int .i64 _,.int .i64 _] rfl ?_
   refine leaf_back ?_ ?_
   ·rw [eqf_l_e b a n (i+1) ⟨hc.1,by omega,by omega,hc.2.2.2⟩,eqf_l_e b a n i hc,findI_miss (i:=i) (by omega) (by omega) (by rw [zip_get (by omega) (by omega) (by omega)]; exact neP_f g3)]
   ·rw [eqf_me,eqf_me]; omega
  ·cases hs
 ·cases hs
noncomputable def P_eqf:List LpE:=(47,([true,true,false,true,false],loopF Tryd.prog gl n0 7 eqf_D eqf_l))::P_eql
theorem P_eqf_ok {G:Nat→Option Obj} (hst:StartOk Tryd.prog G gl H0 n0):LpsOk Tryd.prog G gl P_eqf:=.cons Tryd.func47 eqf_b eqf_p (eqf_c hst) (P_eql_ok hst)
def sameP (a b:Option (List (Option (List Int)))):Bool:=decide ((el a).map el=(el b).map el)
theorem sameP_l (a b:Option (List (Option (List Int)))) (h:¬((el a).length:Int)=(el b).length):sameP a b=false:=decide_eq_false fun e=>h (by have:=congrArg List.length e; simp at this; omega)
theorem sameP_n (a b:Option (List (Option (List Int)))) (h:(el a).length=(el b).length) (hf:findI neP (((el a).zip (el b)).drop (0:Int).toNat) 0=none):sameP a b=true:=by
 rcases zip_same (f:=el) (p:=neP) neP_iff (i:=0) h with ⟨_,q⟩|⟨j,q,_⟩
 ·exact decide_eq_true q
 ·rw [drop_zero',q] at hf; cases hf
theorem sameP_s (a b:Option (List (Option (List Int)))) {j:Int} (h:(el a).length=(el b).length) (hf:findI neP (((el a).zip (el b)).drop (0:Int).toNat) 0=some j):sameP a b=false:=by
 rcases zip_same (f:=el) (p:=neP) neP_iff (i:=0) h with ⟨q,_⟩|⟨j,q,_,q2⟩
 ·rw [drop_zero',q] at hf; cases hf
 ·exact decide_eq_false q2
def same_s:List U→Option (Nat × List U)
 | [u_a,u_b]=>(decS rP u_a).bind fun a=>(decS rP u_b).bind fun b=>if (el a).length≤1000000000∧(el b).length≤1000000000∧(∀ p ∈ el a,(el p).length≤1000000000)∧(∀ p ∈ el b,(el p).length≤1000000000) then some (0,[.bool (sameP a b)]) else none
 | _=>none
def same_t:Tr:=.lt 3 (.len) [h 0 11] <| .lt 3 (.len) [h 1 11] <| .lt 8 (.bin .neq) [h 2 3,h 3 3] <| .br 4 (.ret [.bool false]) (.lp eqf_l [h 1 11,h 0 11,h 2 3,.int .i64 (0)] 0 0 (.ret [.bool true]) (.lp eqf_l [h 1 11,h 0 11,h 2 3,.int .i64 (0)] 1 0 (.ret [.bool false]) (.no)))
theorem same_c {G:Nat→Option Obj} (hst:StartOk Tryd.prog G gl H0 n0):ConOk Tryd.prog G 28 [.s 11,.s 11] same_s [.s 8]:=by
 refine con_of_tree (C:=cx L_sm1 P_eqf) (d:=60) same_t (cxg (L_sm1_ok hst) (P_eqf_ok hst)) hst ⟨Tryd.f28,_,Tryd.func28,rfl⟩ (by kernel_rfl) (by kernel_rfl) ?_
 intro us outs hs
 unfold same_s at hs
 split at hs
 ·skip
  rename_i u_a u_b
  have hq_a:=Option.bind_eq_some_iff.1 hs
  clear hs
  obtain ⟨a,hd_a,hs⟩:=hq_a
  replace hd_a:=decS_eq hd_a
  subst hd_a
  have hq_b:=Option.bind_eq_some_iff.1 hs
  clear hs
  obtain ⟨b,hd_b,hs⟩:=hq_b
  replace hd_b:=decS_eq hd_b
  subst hd_b
  split at hs
  ·rename_i hc
   cases hs
   unfold same_t
   refine s0 (.cons 1 _ (.cons 0 _ (.nil))) rfl (by simp [Ev.ok,Ev.len]) ?_
   refine s1 (ev_lenS _ _) rfl rfl rfl ?_
   refine s1 (ev_lenS _ _) rfl rfl rfl ?_
   refine s1 (ev_neq _ _ _) rfl rfl rfl ?_
   refine s4 rfl (fun g0=>?_) fun g0=>?_
   ·refine s7 [.bool _] rfl ?_
    first|(rw [sameP_l a b (by omega)]; done)|(rw [sameP_n a b (by omega) g1]; done)|(rw [sameP_s a b (by omega) g1]; done)
   refine s6 (eqf_l_e _ _ _ _ ⟨rfl,by omega,by omega,by omega,by omega,hc.2.2⟩) rfl (fun _=>rfl) (fun g1=>?_) (fun v1 g1=>?_)
   ·show Tr.sav _ _ _
    refine s7 [.bool _] rfl ?_
    first|(rw [sameP_l a b (by omega)]; done)|(rw [sameP_n a b (by omega) g1]; done)|(rw [sameP_s a b (by omega) g1]; done)
   show Tr.sav _ _ _
   refine s7 [.bool _] rfl ?_
   first|(rw [sameP_l a b (by omega)]; done)|(rw [sameP_n a b (by omega) g1]; done)|(rw [sameP_s a b (by omega) g1]; done)
  ·cases hs
 ·cases hs
noncomputable def L_same:List (FuncId × FnC):=(28,conF Tryd.prog [.s 11,.s 11] same_s [.s 8])::L_sm1
theorem L_same_ok {G:Nat→Option Obj} (hst:StartOk Tryd.prog G gl H0 n0):ConsOk Tryd.prog G gl L_same:=.cons (same_c hst) (L_sm1_ok hst)
end Go.Proofs.YtadmkfclgpbebaaDoor

namespace Go.Proofs.YtadmkfclgpbebaaDoor
set_option linter.all false
open Go Go.Sx
set_option maxRecDepth 100000
set_option linter.unusedVariables false
set_option linter.unusedSimpArgs false
def rsi_l:List U→Option (Nat × List U)
 | [u_a,u_b,.int .i64 i,.int .i64 k]=>(decS rP u_a).bind fun a=>(decS rP u_b).bind fun b=>if 0≤i∧i < ((el a).length:Int)∧i < ((el b).length:Int)∧0≤k∧k≤((el ((el a).getD i.toNat default)).length:Int)∧(el ((el a).getD i.toNat default)).length=(el ((el b).getD i.toNat default)).length∧(el ((el a).getD i.toNat default)).length≤1000000000 then way01 (findI neI (((el ((el a).getD i.toNat default)).zip (el ((el b).getD i.toNat default))).drop k.toNat) k) [encS rP a,encS rP b,.int .i64 i] (fun _=>[]) else none
 | _=>none
theorem rsi_l_e (a:(Option (List (Option (List Int))))) (b:(Option (List (Option (List Int))))) (i:Int) (k:Int) (hc:0≤i∧i < ((el a).length:Int)∧i < ((el b).length:Int)∧0≤k∧k≤((el ((el a).getD i.toNat default)).length:Int)∧(el ((el a).getD i.toNat default)).length=(el ((el b).getD i.toNat default)).length∧(el ((el a).getD i.toNat default)).length≤1000000000):rsi_l [encS rP a,encS rP b,.int .i64 i,.int .i64 k]=way01 (findI neI (((el ((el a).getD i.toNat default)).zip (el ((el b).getD i.toNat default))).drop k.toNat) k) [encS rP a,encS rP b,.int .i64 i] (fun _=>[]):=by
 simp only [rsi_l,decS_enc,Option.bind_some]
 exact if_pos hc
def rsi_D:LoopD:=⟨[(0,dat 5 0 11),(1,dat 6 1 11),(5,h 2 3),(6,h 3 3)],[(5,.frz),(6,.frz)],4,[⟨.exit 2,[(0,dat 7 0 11),(1,dat 8 1 11),(5,h 2 3)],[(7,.frz),(8,.frz)],3⟩,⟨.ret,[(4,.bool false)],[],0⟩]⟩
noncomputable def rsi_B:Code:=(Tryd.f14.body).getD .skip
noncomputable def rsi_x:Code:=match codeAt [true,true,false,true,false,false,true,false,false,true,true,false] rsi_B with|some (.loop x)=>x|_=>.skip
theorem rsi_b:Tryd.f14.body=some rsi_B:=rfl
theorem rsi_p:codeAt [true,true,false,true,false,false,true,false,false,true,true,false] rsi_B=some (.loop rsi_x):=by kernel_rfl
def rsi_t:Tr:=.lt 8 (.inbs 1) [h 2 3,h 0 11] <| .br 4 (.dt 11 (.get 1 0) [h 0 11,h 2 3] <| .lt 3 (.len) [h 5 11] <| .lt 8 (.bin .lss) [h 3 3,h 6 3] <| .br 7 (.lt 8 (.inbs 1) [h 2 3,h 0 11] <| .br 8 (.dt 11 (.get 1 0) [h 0 11,h 2 3] <| .lt 8 (.inbs 1) [h 3 3,h 9 11] <| .br 10 (.lt 3 (.get 1 0) [h 9 11,h 3 3] <| .lt 8 (.inbs 1) [h 2 3,h 1 11] <| .br 12 (.dt 11 (.get 1 0) [h 1 11,h 2 3] <| .lt 8 (.inbs 1) [h 3 3,h 13 11] <| .br 14 (.lt 3 (.get 1 0) [h 13 11,h 3 3] <| .lt 8 (.bin .neq) [h 11 3,h 15 3] <| .br 16 (.ret [.int .i64 (1)]) (.lt 3 (.bin .add) [h 3 3,.int .i64 (1)] <| .ret [.int .i64 (-1),h 0 11,h 1 11,h 2 3,h 17 3])) (.no)) (.no)) (.no)) (.no)) (.ret [.int .i64 (0),h 0 11,h 1 11,h 2 3])) (.no)
def rsi_m:List U→Nat
 | [u_a,u_b,.int .i64 i,.int .i64 k]=>(match decS rP u_a with|some a=>(match decS rP u_b with|some b=>((el ((el a).getD i.toNat default)).length - k).toNat|none=>0)|none=>0)
 | _=>0
theorem rsi_me (a:(Option (List (Option (List Int))))) (b:(Option (List (Option (List Int))))) (i:Int) (k:Int):rsi_m [encS rP a,encS rP b,.int .i64 i,.int .i64 k]=((el ((el a).getD i.toNat default)).length - k).toNat:=by
 simp only [rsi_m,decS_enc]
theorem rsi_c {G:Nat→Option Obj} (hst:StartOk Tryd.prog G gl H0 n0):∀ (E:Nat→U) (base:Nat),@CodeOk ⟨E,G⟩ Tryd.prog base gl Tryd.f14.ntmps rsi_x (loopF Tryd.prog gl n0 9 rsi_D rsi_l):=by
 refine loop_ok (C:=cx L_same P_eqf) (dep:=60) (f:=14) (n0:=n0) (nB:=9) (H0:=H0) rsi_m rsi_t (cxg (L_same_ok hst) (P_eqf_ok hst)) hst Tryd.func14 rsi_b rsi_p (by kernel_rfl) (by kernel_rfl) (by kernel_rfl) ?_
 intro us d outs hs
 have hs0:=hs
 unfold rsi_l at hs
 split at hs
 ·skip
  rename_i u_a u_b i k
  have hq_a:=Option.bind_eq_some_iff.1 hs
  clear hs
  obtain ⟨a,hd_a,hs⟩:=hq_a
  replace hd_a:=decS_eq hd_a
  subst hd_a
  have hq_b:=Option.bind_eq_some_iff.1 hs
  clear hs
  obtain ⟨b,hd_b,hs⟩:=hq_b
  replace hd_b:=decS_eq hd_b
  subst hd_b
  split at hs
  ·rename_i hc
   clear hs hs0
   have hz:=zlen hc.2.2.2.2.2.1
   refine ⟨rfl,?_⟩
   unfold rsi_t
   refine s0 (.cons 3 _ (.cons 2 _ (.cons 1 _ (.cons 0 _ (.nil))))) rfl (by simp [Ev.ok,Ev.len]) ?_
   refine s1 (ev_inbsS rfl) rfl rfl rfl ?_
   refine s5 rfl (fun g0=>?_) fun g0=>?_
   ·refine s8 ?_
    first|omega|(simp_all; done)|(simp_all; omega)
   refine s2 (r:=rI) (ev_getS rfl (by omega) (by omega) rfl) rfl rfl ?_
   refine s1 (ev_lenS _ _) rfl rfl rfl ?_
   refine s1 (ev_lss _ _ _) rfl rfl rfl ?_
   refine s5 rfl (fun g1=>?_) fun g1=>?_
   ·refine s7 [.int .i64 _,encS rP _,encS rP _,.int .i64 _] rfl ?_
    refine leaf_exit (d:=0) ?_
    rw [rsi_l_e a b i k hc,findI_end (by omega)]; rfl
   refine s1 (ev_inbsS rfl) rfl rfl rfl ?_
   refine s5 rfl (fun g2=>?_) fun g2=>?_
   ·refine s8 ?_
    first|omega|(simp_all; done)|(simp_all; omega)
   refine s2 (r:=rI) (ev_getS rfl (by omega) (by omega) rfl) rfl rfl ?_
   refine s1 (ev_inbsS rfl) rfl rfl rfl ?_
   refine s5 rfl (fun g3=>?_) fun g3=>?_
   ·refine s8 ?_
    first|omega|(simp_all; done)|(simp_all; omega)
   refine s1 (u:=.int .i64 _) (ev_getS rfl (by omega) (by omega) rfl) rfl rfl rfl ?_
   refine s1 (ev_inbsS rfl) rfl rfl rfl ?_
   refine s5 rfl (fun g4=>?_) fun g4=>?_
   ·refine s8 ?_
    first|omega|(simp_all; done)|(simp_all; omega)
   refine s2 (r:=rI) (ev_getS rfl (by omega) (by omega) rfl) rfl rfl ?_
   refine s1 (ev_inbsS rfl) rfl rfl rfl ?_
   refine s5 rfl (fun g5=>?_) fun g5=>?_
   ·refine s8 ?_
    first|omega|(simp_all; done)|(simp_all; omega)
   refine s1 (u:=.int .i64 _) (ev_getS rfl (by omega) (by omega) rfl) rfl rfl rfl ?_
   refine s1 (ev_neq _ _ _) rfl rfl rfl ?_
   refine s4 rfl (fun g6=>?_) fun g6=>?_
   ·refine s7 [.int .i64 _] rfl ?_
    refine leaf_exit (d:=1) ?_
    rw [rsi_l_e a b i k hc,findI_hit (by omega) (by omega) (by rw [zip_get (by omega) (by omega) (by omega)]; exact neI_t (by omega))]; rfl
   first|refine s1 (ev_addW (wrap64 (by omega) (by omega))) rfl rfl rfl ?_|refine s1 (ev_add _ _ _) rfl rfl rfl ?_
   refine s7 [.int .i64 _,encS rP _,encS rP _,.int .i64 _,.int .i64 _] rfl ?_
   refine leaf_back ?_ ?_
   ·rw [rsi_l_e a b i (k+1) ⟨hc.1,hc.2.1,hc.2.2.1,by omega,by omega,hc.2.2.2.2.2⟩,rsi_l_e a b i k hc,findI_miss (i:=k) (by omega) (by omega) (by rw [zip_get (by omega) (by omega) (by omega)]; exact neI_f (by omega))]
   ·rw [rsi_me,rsi_me]; omega
  ·cases hs
 ·cases hs
noncomputable def P_rsi:List LpE:=(14,([true,true,false,true,false,false,true,false,false,true,true,false],loopF Tryd.prog gl n0 9 rsi_D rsi_l))::P_eqf
theorem P_rsi_ok {G:Nat→Option Obj} (hst:StartOk Tryd.prog G gl H0 n0):LpsOk Tryd.prog G gl P_rsi:=.cons Tryd.func14 rsi_b rsi_p (rsi_c hst) (P_eqf_ok hst)
end Go.Proofs.YtadmkfclgpbebaaDoor

namespace Go.Proofs.YtadmkfclgpbebaaDoor
set_option linter.all false
open Go Go.Sx
set_option maxRecDepth 100000
set_option linter.unusedVariables false
set_option linter.unusedSimpArgs false
theorem eqI_n {x y:Option (List Int)} (h:(el x).length=(el y).length) (hf:findI neI (((el x).zip (el y)).drop (0:Int).toNat) 0=none):¬¬el x=el y:=fun hn=>hn (of_decide_eq_true (sameI_n x y h hf))
theorem eqI_s {x y:Option (List Int)} {j:Int} (h:(el x).length=(el y).length) (hf:findI neI (((el x).zip (el y)).drop (0:Int).toNat) 0=some j):¬el x=el y:=of_decide_eq_false (sameI_s x y h hf)
theorem eqI_l {x y:Option (List Int)} (h:((el x).length:Int)≠(el y).length):¬el x=el y:=fun e=>h (by rw [e])
def rso_l:List U→Option (Nat × List U)
 | [u_a,u_b,.int .i64 i]=>(decS rP u_a).bind fun a=>(decS rP u_b).bind fun b=>if 0≤i∧i≤((el a).length:Int)∧(el a).length=(el b).length∧(el a).length≤1000000000∧(∀ p ∈ el a,(el p).length≤1000000000)∧(∀ p ∈ el b,(el p).length≤1000000000) then way01 (findI neP (((el a).zip (el b)).drop i.toNat) i) [] (fun _=>[]) else none
 | _=>none
theorem rso_l_e (a:(Option (List (Option (List Int))))) (b:(Option (List (Option (List Int))))) (i:Int) (hc:0≤i∧i≤((el a).length:Int)∧(el a).length=(el b).length∧(el a).length≤1000000000∧(∀ p ∈ el a,(el p).length≤1000000000)∧(∀ p ∈ el b,(el p).length≤1000000000)):rso_l [encS rP a,encS rP b,.int .i64 i]=way01 (findI neP (((el a).zip (el b)).drop i.toNat) i) [] (fun _=>[]):=by
 simp only [rso_l,decS_enc,Option.bind_some]
 exact if_pos hc
def rso_D:LoopD:=⟨[(0,dat 5 0 11),(1,dat 6 1 11),(5,h 2 3)],[(5,.frz),(6,.frz)],3,[⟨.exit 0,[],[],0⟩,⟨.ret,[(4,.bool false)],[],0⟩]⟩
noncomputable def rso_B:Code:=(Tryd.f14.body).getD .skip
noncomputable def rso_x:Code:=match codeAt [true,true,false,true,false] rso_B with|some (.loop x)=>x|_=>.skip
theorem rso_b:Tryd.f14.body=some rso_B:=rfl
theorem rso_p:codeAt [true,true,false,true,false] rso_B=some (.loop rso_x):=by kernel_rfl
def rso_t:Tr:=.lt 3 (.len) [h 0 11] <| .lt 8 (.bin .lss) [h 2 3,h 3 3] <| .br 4 (.lt 8 (.inbs 1) [h 2 3,h 0 11] <| .br 5 (.dt 11 (.get 1 0) [h 0 11,h 2 3] <| .lt 3 (.len) [h 6 11] <| .lt 8 (.inbs 1) [h 2 3,h 1 11] <| .br 8 (.dt 11 (.get 1 0) [h 1 11,h 2 3] <| .lt 3 (.len) [h 9 11] <| .lt 8 (.bin .neq) [h 7 3,h 10 3] <| .br 11 (.ret [.int .i64 (1)]) (.lp rsi_l [h 0 11,h 1 11,h 2 3,.int .i64 (0)] 0 3 (.lt 3 (.bin .add) [h 14 3,.int .i64 (1)] <| .ret [.int .i64 (-1),h 12 11,h 13 11,h 15 3]) (.lp rsi_l [h 0 11,h 1 11,h 2 3,.int .i64 (0)] 1 0 (.ret [.int .i64 (1)]) (.no)))) (.no)) (.no)) (.ret [.int .i64 (0)])
def rso_m:List U→Nat
 | [u_a,u_b,.int .i64 i]=>(match decS rP u_a with|some a=>(match decS rP u_b with|some b=>((el a).length - i).toNat|none=>0)|none=>0)
 | _=>0
theorem rso_me (a:(Option (List (Option (List Int))))) (b:(Option (List (Option (List Int))))) (i:Int):rso_m [encS rP a,encS rP b,.int .i64 i]=((el a).length - i).toNat:=by
 simp only [rso_m,decS_enc]
theorem rso_c {G:Nat→Option Obj} (hst:StartOk Tryd.prog G gl H0 n0):∀ (E:Nat→U) (base:Nat),@CodeOk ⟨E,G⟩ Tryd.prog base gl Tryd.f14.ntmps rso_x (loopF Tryd.prog gl n0 7 rso_D rso_l):=by
 refine loop_ok (C:=cx L_same P_rsi) (dep:=60) (f:=14) (n0:=n0) (nB:=7) (H0:=H0) rso_m rso_t (cxg (L_same_ok hst) (P_rsi_ok hst)) hst Tryd.func14 rso_b rso_p (by kernel_rfl) (by kernel_rfl) (by kernel_rfl) ?_
 intro us d outs hs
 have hs0:=hs
 unfold rso_l at hs
 split at hs
 ·skip
  rename_i u_a u_b i
  have hq_a:=Option.bind_eq_some_iff.1 hs
  clear hs
  obtain ⟨a,hd_a,hs⟩:=hq_a
  replace hd_a:=decS_eq hd_a
  subst hd_a
  have hq_b:=Option.bind_eq_some_iff.1 hs
  clear hs
  obtain ⟨b,hd_b,hs⟩:=hq_b
  replace hd_b:=decS_eq hd_b
  subst hd_b
  split at hs
  ·rename_i hc
   clear hs hs0
   have hz:=zlen hc.2.2.1
   refine ⟨rfl,?_⟩
   unfold rso_t
   refine s0 (.cons 2 _ (.cons 1 _ (.cons 0 _ (.nil)))) rfl (by simp [Ev.ok,Ev.len]) ?_
   refine s1 (ev_lenS _ _) rfl rfl rfl ?_
   refine s1 (ev_lss _ _ _) rfl rfl rfl ?_
   refine s5 rfl (fun g0=>?_) fun g0=>?_
   ·refine s7 [.int .i64 _] rfl ?_
    refine leaf_exit (d:=0) ?_
    rw [rso_l_e a b i hc,findI_end (by omega)]; rfl
   refine s1 (ev_inbsS rfl) rfl rfl rfl ?_
   refine s5 rfl (fun g1=>?_) fun g1=>?_
   ·refine s8 ?_
    first|omega|(simp_all; done)|(simp_all; omega)
   refine s2 (r:=rI) (ev_getS rfl (by omega) (by omega) rfl) rfl rfl ?_
   refine s1 (ev_lenS _ _) rfl rfl rfl ?_
   refine s1 (ev_inbsS rfl) rfl rfl rfl ?_
   refine s5 rfl (fun g2=>?_) fun g2=>?_
   ·refine s8 ?_
    first|omega|(simp_all; done)|(simp_all; omega)
   refine s2 (r:=rI) (ev_getS rfl (by omega) (by omega) rfl) rfl rfl ?_
   refine s1 (ev_lenS _ _) rfl rfl rfl ?_
   refine s1 (ev_neq _ _ _) rfl rfl rfl ?_
   refine s4 rfl (fun g3=>?_) fun g3=>?_
   ·refine s7 [.int .i64 _] rfl ?_
    refine leaf_exit (d:=1) ?_
    rw [rso_l_e a b i hc,findI_hit (by omega) (by omega) (by rw [zip_get (by omega) (by omega) (by omega)]; exact neP_t (by first|exact eqI_l (by omega)|exact eqI_s (by omega) g4))]; rfl
   refine s6 (rsi_l_e _ _ _ _ ⟨hc.1,by omega,by omega,by omega,by omega,by omega,all_get hc.2.2.2.2.1 (by omega) (by omega)⟩) rfl (fun _=>rfl) (fun g4=>?_) (fun v4 g4=>?_)
   ·show Tr.sav _ _ (.cons 14 _ (.cons 13 _ (.cons 12 _ _)))
    first|refine s1 (ev_addW (wrap64 (by omega) (by omega))) rfl rfl rfl ?_|refine s1 (ev_add _ _ _) rfl rfl rfl ?_
    refine s7 [.int .i64 _,encS rP _,encS rP _,.int .i64 _] rfl ?_
    refine leaf_back ?_ ?_
    ·rw [rso_l_e a b (i+1) ⟨by omega,by omega,hc.2.2⟩,rso_l_e a b i hc,findI_miss (i:=i) (by omega) (by omega) (by rw [zip_get (by omega) (by omega) (by omega)]; exact neP_f (eqI_n (by omega) g4))]
    ·rw [rso_me,rso_me]; omega
   show Tr.sav _ _ _
   refine s7 [.int .i64 _] rfl ?_
   refine leaf_exit (d:=1) ?_
   rw [rso_l_e a b i hc,findI_hit (by omega) (by omega) (by rw [zip_get (by omega) (by omega) (by omega)]; exact neP_t (by first|exact eqI_l (by omega)|exact eqI_s (by omega) g4))]; rfl
  ·cases hs
 ·cases hs
noncomputable def P_rso:List LpE:=(14,([true,true,false,true,false],loopF Tryd.prog gl n0 7 rso_D rso_l))::P_rsi
theorem P_rso_ok {G:Nat→Option Obj} (hst:StartOk Tryd.prog G gl H0 n0):LpsOk Tryd.prog G gl P_rso:=.cons Tryd.func14 rso_b rso_p (rso_c hst) (P_rsi_ok hst)
def rsame_s:List U→Option (Nat × List U)
 | [u_a,u_b]=>(decS rP u_a).bind fun a=>(decS rP u_b).bind fun b=>if (el a).length≤1000000000∧(el b).length≤1000000000∧(∀ p ∈ el a,(el p).length≤1000000000)∧(∀ p ∈ el b,(el p).length≤1000000000) then some (0,[.bool (sameP a b)]) else none
 | _=>none
theorem rsame_s_e (a:(Option (List (Option (List Int))))) (b:(Option (List (Option (List Int))))) (hc:(el a).length≤1000000000∧(el b).length≤1000000000∧(∀ p ∈ el a,(el p).length≤1000000000)∧(∀ p ∈ el b,(el p).length≤1000000000)):rsame_s [encS rP a,encS rP b]=some (0,[.bool (sameP a b)]):=by
 simp only [rsame_s,decS_enc,Option.bind_some]
 exact if_pos hc
def rsame_t:Tr:=.lt 3 (.len) [h 0 11] <| .lt 3 (.len) [h 1 11] <| .lt 8 (.bin .neq) [h 2 3,h 3 3] <| .br 4 (.ret [.bool false]) (.lp rso_l [h 0 11,h 1 11,.int .i64 (0)] 0 0 (.ret [.bool true]) (.lp rso_l [h 0 11,h 1 11,.int .i64 (0)] 1 0 (.ret [.bool false]) (.no)))
theorem rsame_c {G:Nat→Option Obj} (hst:StartOk Tryd.prog G gl H0 n0):ConOk Tryd.prog G 14 [.s 11,.s 11] rsame_s [.s 8]:=by
 refine con_of_tree (C:=cx L_same P_rso) (d:=60) rsame_t (cxg (L_same_ok hst) (P_rso_ok hst)) hst ⟨Tryd.f14,_,Tryd.func14,rfl⟩ (by kernel_rfl) (by kernel_rfl) ?_
 intro us outs hs
 unfold rsame_s at hs
 split at hs
 ·skip
  rename_i u_a u_b
  have hq_a:=Option.bind_eq_some_iff.1 hs
  clear hs
  obtain ⟨a,hd_a,hs⟩:=hq_a
  replace hd_a:=decS_eq hd_a
  subst hd_a
  have hq_b:=Option.bind_eq_some_iff.1 hs
  clear hs
  obtain ⟨b,hd_b,hs⟩:=hq_b
  replace hd_b:=decS_eq hd_b
  subst hd_b
  split at hs
  ·rename_i hc
   cases hs
   unfold rsame_t
   refine s0 (.cons 1 _ (.cons 0 _ (.nil))) rfl (by simp [Ev.ok,Ev.len]) ?_
   refine s1 (ev_lenS _ _) rfl rfl rfl ?_
   refine s1 (ev_lenS _ _) rfl rfl rfl ?_
   refine s1 (ev_neq _ _ _) rfl rfl rfl ?_
   refine s4 rfl (fun g0=>?_) fun g0=>?_
   ·refine s7 [.bool _] rfl ?_
    first|(rw [sameP_l a b (by omega)]; done)|(rw [sameP_n a b (by omega) g1]; done)|(rw [sameP_s a b (by omega) g1]; done)
   refine s6 (rso_l_e _ _ _ ⟨by omega,by omega,by omega,by omega,hc.2.2⟩) rfl (fun _=>rfl) (fun g1=>?_) (fun v1 g1=>?_)
   ·show Tr.sav _ _ _
    refine s7 [.bool _] rfl ?_
    first|(rw [sameP_l a b (by omega)]; done)|(rw [sameP_n a b (by omega) g1]; done)|(rw [sameP_s a b (by omega) g1]; done)
   show Tr.sav _ _ _
   refine s7 [.bool _] rfl ?_
   first|(rw [sameP_l a b (by omega)]; done)|(rw [sameP_n a b (by omega) g1]; done)|(rw [sameP_s a b (by omega) g1]; done)
  ·cases hs
 ·cases hs
noncomputable def L_rsame:List (FuncId × FnC):=(14,conF Tryd.prog [.s 11,.s 11] rsame_s [.s 8])::L_same
theorem L_rsame_ok {G:Nat→Option Obj} (hst:StartOk Tryd.prog G gl H0 n0):ConsOk Tryd.prog G gl L_rsame:=.cons (rsame_c hst) (L_same_ok hst)
def rval_s:List U→Option (Nat × List U)
 | [u_l,.int .i64 i,.int .i64 d]=>(decS rP u_l).bind fun l=>some (0,[.int .i64 (valueS l i d)])
 | _=>none
def rval_t:Tr:=.lt 8 (.bin .lss) [h 1 3,.int .i64 (0)] <| .br 3 (.ret [h 2 3]) (.lt 3 (.len) [h 0 11] <| .lt 8 (.bin .geq) [h 1 3,h 4 3] <| .br 5 (.ret [h 2 3]) (.lt 8 (.inbs 1) [h 1 3,h 0 11] <| .br 6 (.dt 11 (.get 1 0) [h 0 11,h 1 3] <| .lt 3 (.len) [h 7 11] <| .lt 8 (.bin .eql) [h 8 3,.int .i64 (0)] <| .br 9 (.ret [h 2 3]) (.lt 8 (.inbs 1) [h 1 3,h 0 11] <| .br 10 (.dt 11 (.get 1 0) [h 0 11,h 1 3] <| .lt 8 (.inbs 1) [.int .i64 (0),h 11 11] <| .br 12 (.lt 3 (.get 1 0) [h 11 11,.int .i64 (0)] <| .lt 8 (.bin .lss) [h 13 3,.int .i64 (0)] <| .br 14 (.ret [h 2 3]) (.lt 8 (.inbs 1) [h 1 3,h 0 11] <| .br 15 (.dt 11 (.get 1 0) [h 0 11,h 1 3] <| .lt 8 (.inbs 1) [.int .i64 (0),h 16 11] <| .br 17 (.lt 3 (.get 1 0) [h 16 11,.int .i64 (0)] <| .ret [h 18 3]) (.no)) (.no))) (.no)) (.no))) (.no)))
theorem rval_c {G:Nat→Option Obj} (hst:StartOk Tryd.prog G gl H0 n0):ConOk Tryd.prog G 29 [.s 11,.s 3,.s 3] rval_s [.s 3]:=by
 refine con_of_tree (C:=cx L_rsame P_rso) (d:=60) rval_t (cxg (L_rsame_ok hst) (P_rso_ok hst)) hst ⟨Tryd.f29,_,Tryd.func29,rfl⟩ (by kernel_rfl) (by kernel_rfl) ?_
 intro us outs hs
 unfold rval_s at hs
 split at hs
 ·skip
  rename_i u_l i d
  have hq_l:=Option.bind_eq_some_iff.1 hs
  clear hs
  obtain ⟨l,hd_l,hs⟩:=hq_l
  replace hd_l:=decS_eq hd_l
  subst hd_l
  cases hs
  unfold rval_t
  refine s0 (.cons 2 _ (.cons 1 _ (.cons 0 _ (.nil)))) rfl (by simp [Ev.ok,Ev.len]) ?_
  refine s1 (ev_lss _ _ _) rfl rfl rfl ?_
  refine s4 rfl (fun g0=>?_) fun g0=>?_
  ·refine s7 [.int .i64 _] rfl ?_
   first|(rw [show valueS l i d=d from if_pos (.inl (by omega))]; done)|(rw [show valueS l i d=d from if_pos (.inr (.inl (by omega)))]; done)|(rw [show valueS l i d=d from if_pos (.inr (.inr (.inl (by omega))))]; done)|(rw [show valueS l i d=d from if_pos (.inr (.inr (.inr (by unfold at0; omega))))]; done)|(rw [show valueS l i d=at0 (el ((el l).getD i.toNat default)) from if_neg (by unfold at0; omega)]; done)
  refine s1 (ev_lenS _ _) rfl rfl rfl ?_
  refine s1 (ev_geq _ _ _) rfl rfl rfl ?_
  refine s4 rfl (fun g1=>?_) fun g1=>?_
  ·refine s7 [.int .i64 _] rfl ?_
   first|(rw [show valueS l i d=d from if_pos (.inl (by omega))]; done)|(rw [show valueS l i d=d from if_pos (.inr (.inl (by omega)))]; done)|(rw [show valueS l i d=d from if_pos (.inr (.inr (.inl (by omega))))]; done)|(rw [show valueS l i d=d from if_pos (.inr (.inr (.inr (by unfold at0; omega))))]; done)|(rw [show valueS l i d=at0 (el ((el l).getD i.toNat default)) from if_neg (by unfold at0; omega)]; done)
  refine s1 (ev_inbsS rfl) rfl rfl rfl ?_
  refine s5 rfl (fun g2=>?_) fun g2=>?_
  ·refine s8 ?_
   first|omega|(simp_all; done)|(simp_all; omega)
  refine s2 (r:=rI) (ev_getS rfl (by omega) (by omega) rfl) rfl rfl ?_
  refine s1 (ev_lenS _ _) rfl rfl rfl ?_
  refine s1 (ev_eql _ _ _) rfl rfl rfl ?_
  refine s4 rfl (fun g3=>?_) fun g3=>?_
  ·refine s7 [.int .i64 _] rfl ?_
   first|(rw [show valueS l i d=d from if_pos (.inl (by omega))]; done)|(rw [show valueS l i d=d from if_pos (.inr (.inl (by omega)))]; done)|(rw [show valueS l i d=d from if_pos (.inr (.inr (.inl (by omega))))]; done)|(rw [show valueS l i d=d from if_pos (.inr (.inr (.inr (by unfold at0; omega))))]; done)|(rw [show valueS l i d=at0 (el ((el l).getD i.toNat default)) from if_neg (by unfold at0; omega)]; done)
  refine s1 (ev_inbsS rfl) rfl rfl rfl ?_
  refine s5 rfl (fun g4=>?_) fun g4=>?_
  ·refine s8 ?_
   first|omega|(simp_all; done)|(simp_all; omega)
  refine s2 (r:=rI) (ev_getS rfl (by omega) (by omega) rfl) rfl rfl ?_
  refine s1 (ev_inbsS rfl) rfl rfl rfl ?_
  refine s5 rfl (fun g5=>?_) fun g5=>?_
  ·refine s8 ?_
   first|omega|(simp_all; done)|(simp_all; omega)
  refine s1 (u:=.int .i64 _) (ev_getS rfl (by omega) (by omega) rfl) rfl rfl rfl ?_
  refine s1 (ev_lss _ _ _) rfl rfl rfl ?_
  refine s4 rfl (fun g6=>?_) fun g6=>?_
  ·refine s7 [.int .i64 _] rfl ?_
   first|(rw [show valueS l i d=d from if_pos (.inl (by omega))]; done)|(rw [show valueS l i d=d from if_pos (.inr (.inl (by omega)))]; done)|(rw [show valueS l i d=d from if_pos (.inr (.inr (.inl (by omega))))]; done)|(rw [show valueS l i d=d from if_pos (.inr (.inr (.inr (by unfold at0; omega))))]; done)|(rw [show valueS l i d=at0 (el ((el l).getD i.toNat default)) from if_neg (by unfold at0; omega)]; done)
  refine s1 (ev_inbsS rfl) rfl rfl rfl ?_
  refine s5 rfl (fun g7=>?_) fun g7=>?_
  ·refine s8 ?_
   first|omega|(simp_all; done)|(simp_all; omega)
  refine s2 (r:=rI) (ev_getS rfl (by omega) (by omega) rfl) rfl rfl ?_
  refine s1 (ev_inbsS rfl) rfl rfl rfl ?_
  refine s5 rfl (fun g8=>?_) fun g8=>?_
  ·refine s8 ?_
   first|omega|(simp_all; done)|(simp_all; omega)
  refine s1 (u:=.int .i64 _) (ev_getS rfl (by omega) (by omega) rfl) rfl rfl rfl ?_
  refine s7 [.int .i64 _] rfl ?_
  first|(rw [show valueS l i d=d from if_pos (.inl (by omega))]; done)|(rw [show valueS l i d=d from if_pos (.inr (.inl (by omega)))]; done)|(rw [show valueS l i d=d from if_pos (.inr (.inr (.inl (by omega))))]; done)|(rw [show valueS l i d=d from if_pos (.inr (.inr (.inr (by unfold at0; omega))))]; done)|(rw [show valueS l i d=at0 (el ((el l).getD i.toNat default)) from if_neg (by unfold at0; omega)]; done)
 ·cases hs
noncomputable def L_rval:List (FuncId × FnC):=(29,conF Tryd.prog [.s 11,.s 3,.s 3] rval_s [.s 3])::L_rsame
theorem L_rval_ok {G:Nat→Option Obj} (hst:StartOk Tryd.prog G gl H0 n0):ConsOk Tryd.prog G gl L_rval:=.cons (rval_c hst) (L_rsame_ok hst)
end Go.Proofs.YtadmkfclgpbebaaDoor

namespace Go.Proofs.YtadmkfclgpbebaaDoor
set_option linter.all false
open Go Go.Sx
set_option maxRecDepth 100000
set_option linter.unusedVariables false
set_option linter.unusedSimpArgs false
def rci_l:List U→Option (Nat × List U)
 | [u_l,.int .i64 i,.int .i64 k]=>(decS rP u_l).bind fun l=>if 0≤i∧i < ((el l).length:Int)∧0≤k∧k≤((el ((el l).getD i.toNat default)).length:Int)∧(el ((el l).getD i.toNat default)).length≤1000000000 then way01 (findI badI ((el ((el l).getD i.toNat default)).drop k.toNat) k) [encS rP l,.int .i64 i] (fun _=>[]) else none
 | _=>none
theorem rci_l_e (l:(Option (List (Option (List Int))))) (i:Int) (k:Int) (hc:0≤i∧i < ((el l).length:Int)∧0≤k∧k≤((el ((el l).getD i.toNat default)).length:Int)∧(el ((el l).getD i.toNat default)).length≤1000000000):rci_l [encS rP l,.int .i64 i,.int .i64 k]=way01 (findI badI ((el ((el l).getD i.toNat default)).drop k.toNat) k) [encS rP l,.int .i64 i] (fun _=>[]):=by
 simp only [rci_l,decS_enc,Option.bind_some]
 exact if_pos hc
def rci_D:LoopD:=⟨[(0,dat 5 0 11),(3,h 1 3),(4,h 2 3)],[(5,.frz)],3,[⟨.exit 2,[(0,dat 6 0 11),(3,h 1 3)],[(6,.frz)],2⟩,⟨.ret,[(2,.int .i64 (150))],[],0⟩]⟩
noncomputable def rci_B:Code:=(Tryd.f27.body).getD .skip
noncomputable def rci_x:Code:=match codeAt [true,true,false,true,false,false,true,false,false,true,true,false] rci_B with|some (.loop x)=>x|_=>.skip
theorem rci_b:Tryd.f27.body=some rci_B:=rfl
theorem rci_p:codeAt [true,true,false,true,false,false,true,false,false,true,true,false] rci_B=some (.loop rci_x):=by kernel_rfl
def rci_t:Tr:=.lt 8 (.inbs 1) [h 1 3,h 0 11] <| .br 3 (.dt 11 (.get 1 0) [h 0 11,h 1 3] <| .lt 3 (.len) [h 4 11] <| .lt 8 (.bin .lss) [h 2 3,h 5 3] <| .br 6 (.lt 8 (.inbs 1) [h 1 3,h 0 11] <| .br 7 (.dt 11 (.get 1 0) [h 0 11,h 1 3] <| .lt 8 (.inbs 1) [h 2 3,h 8 11] <| .br 9 (.lt 3 (.get 1 0) [h 8 11,h 2 3] <| .lt 8 (.bin .lss) [h 10 3,.int .i64 (-1)] <| .br 11 (.ret [.int .i64 (1)]) (.lt 8 (.inbs 1) [h 1 3,h 0 11] <| .br 12 (.dt 11 (.get 1 0) [h 0 11,h 1 3] <| .lt 8 (.inbs 1) [h 2 3,h 13 11] <| .br 14 (.lt 3 (.get 1 0) [h 13 11,h 2 3] <| .lt 8 (.bin .gtr) [h 15 3,.int .i64 (9999)] <| .br 16 (.ret [.int .i64 (1)]) (.lt 3 (.bin .add) [h 2 3,.int .i64 (1)] <| .ret [.int .i64 (-1),h 0 11,h 1 3,h 17 3])) (.no)) (.no))) (.no)) (.no)) (.ret [.int .i64 (0),h 0 11,h 1 3])) (.no)
def rci_m:List U→Nat
 | [u_l,.int .i64 i,.int .i64 k]=>(match decS rP u_l with|some l=>((el ((el l).getD i.toNat default)).length - k).toNat|none=>0)
 | _=>0
theorem rci_me (l:(Option (List (Option (List Int))))) (i:Int) (k:Int):rci_m [encS rP l,.int .i64 i,.int .i64 k]=((el ((el l).getD i.toNat default)).length - k).toNat:=by
 simp only [rci_m,decS_enc]
theorem rci_c {G:Nat→Option Obj} (hst:StartOk Tryd.prog G gl H0 n0):∀ (E:Nat→U) (base:Nat),@CodeOk ⟨E,G⟩ Tryd.prog base gl Tryd.f27.ntmps rci_x (loopF Tryd.prog gl n0 7 rci_D rci_l):=by
 refine loop_ok (C:=cx L_rval P_rso) (dep:=60) (f:=27) (n0:=n0) (nB:=7) (H0:=H0) rci_m rci_t (cxg (L_rval_ok hst) (P_rso_ok hst)) hst Tryd.func27 rci_b rci_p (by kernel_rfl) (by kernel_rfl) (by kernel_rfl) ?_
 intro us d outs hs
 have hs0:=hs
 unfold rci_l at hs
 split at hs
 ·skip
  rename_i u_l i k
  have hq_l:=Option.bind_eq_some_iff.1 hs
  clear hs
  obtain ⟨l,hd_l,hs⟩:=hq_l
  replace hd_l:=decS_eq hd_l
  subst hd_l
  split at hs
  ·rename_i hc
   clear hs hs0
   refine ⟨rfl,?_⟩
   unfold rci_t
   refine s0 (.cons 2 _ (.cons 1 _ (.cons 0 _ (.nil)))) rfl (by simp [Ev.ok,Ev.len]) ?_
   refine s1 (ev_inbsS rfl) rfl rfl rfl ?_
   refine s5 rfl (fun g0=>?_) fun g0=>?_
   ·refine s8 ?_
    first|omega|(simp_all; done)|(simp_all; omega)
   refine s2 (r:=rI) (ev_getS rfl (by omega) (by omega) rfl) rfl rfl ?_
   refine s1 (ev_lenS _ _) rfl rfl rfl ?_
   refine s1 (ev_lss _ _ _) rfl rfl rfl ?_
   refine s5 rfl (fun g1=>?_) fun g1=>?_
   ·refine s7 [.int .i64 _,encS rP _,.int .i64 _] rfl ?_
    refine leaf_exit (d:=0) ?_
    rw [rci_l_e l i k hc,findI_end (by omega)]; rfl
   refine s1 (ev_inbsS rfl) rfl rfl rfl ?_
   refine s5 rfl (fun g2=>?_) fun g2=>?_
   ·refine s8 ?_
    first|omega|(simp_all; done)|(simp_all; omega)
   refine s2 (r:=rI) (ev_getS rfl (by omega) (by omega) rfl) rfl rfl ?_
   refine s1 (ev_inbsS rfl) rfl rfl rfl ?_
   refine s5 rfl (fun g3=>?_) fun g3=>?_
   ·refine s8 ?_
    first|omega|(simp_all; done)|(simp_all; omega)
   refine s1 (u:=.int .i64 _) (ev_getS rfl (by omega) (by omega) rfl) rfl rfl rfl ?_
   refine s1 (ev_lss _ _ _) rfl rfl rfl ?_
   refine s4 rfl (fun g4=>?_) fun g4=>?_
   ·refine s7 [.int .i64 _] rfl ?_
    refine leaf_exit (d:=1) ?_
    rw [rci_l_e l i k hc,findI_hit (by omega) (by omega) (badI_t (by omega))]; rfl
   refine s1 (ev_inbsS rfl) rfl rfl rfl ?_
   refine s5 rfl (fun g5=>?_) fun g5=>?_
   ·refine s8 ?_
    first|omega|(simp_all; done)|(simp_all; omega)
   refine s2 (r:=rI) (ev_getS rfl (by omega) (by omega) rfl) rfl rfl ?_
   refine s1 (ev_inbsS rfl) rfl rfl rfl ?_
   refine s5 rfl (fun g6=>?_) fun g6=>?_
   ·refine s8 ?_
    first|omega|(simp_all; done)|(simp_all; omega)
   refine s1 (u:=.int .i64 _) (ev_getS rfl (by omega) (by omega) rfl) rfl rfl rfl ?_
   refine s1 (ev_gtr _ _ _) rfl rfl rfl ?_
   refine s4 rfl (fun g7=>?_) fun g7=>?_
   ·refine s7 [.int .i64 _] rfl ?_
    refine leaf_exit (d:=1) ?_
    rw [rci_l_e l i k hc,findI_hit (by omega) (by omega) (badI_t (by omega))]; rfl
   first|refine s1 (ev_addW (wrap64 (by omega) (by omega))) rfl rfl rfl ?_|refine s1 (ev_add _ _ _) rfl rfl rfl ?_
   refine s7 [.int .i64 _,encS rP _,.int .i64 _,.int .i64 _] rfl ?_
   refine leaf_back ?_ ?_
   ·rw [rci_l_e l i (k+1) ⟨hc.1,hc.2.1,by omega,by omega,hc.2.2.2.2⟩,rci_l_e l i k hc,findI_miss (i:=k) (by omega) (by omega) (badI_f (by omega))]
   ·rw [rci_me,rci_me]; omega
  ·cases hs
 ·cases hs
noncomputable def P_rci:List LpE:=(27,([true,true,false,true,false,false,true,false,false,true,true,false],loopF Tryd.prog gl n0 7 rci_D rci_l))::P_rso
theorem P_rci_ok {G:Nat→Option Obj} (hst:StartOk Tryd.prog G gl H0 n0):LpsOk Tryd.prog G gl P_rci:=.cons Tryd.func27 rci_b rci_p (rci_c hst) (P_rso_ok hst)
def rco_l:List U→Option (Nat × List U)
 | [u_l,.int .i64 i]=>(decS rP u_l).bind fun l=>if 0≤i∧i≤((el l).length:Int)∧(el l).length≤1000000000∧(∀ p ∈ el l,(el p).length≤1000000000) then way01 (findI badP ((el l).drop i.toNat) i) [encS rP l] (fun _=>[]) else none
 | _=>none
theorem rco_l_e (l:(Option (List (Option (List Int))))) (i:Int) (hc:0≤i∧i≤((el l).length:Int)∧(el l).length≤1000000000∧(∀ p ∈ el l,(el p).length≤1000000000)):rco_l [encS rP l,.int .i64 i]=way01 (findI badP ((el l).drop i.toNat) i) [encS rP l] (fun _=>[]):=by
 simp only [rco_l,decS_enc,Option.bind_some]
 exact if_pos hc
def rco_D:LoopD:=⟨[(0,dat 5 0 11),(3,h 1 3)],[(5,.frz)],2,[⟨.exit 0,[(0,dat 6 0 11)],[(6,.frz)],1⟩,⟨.ret,[(2,.int .i64 (150))],[],0⟩]⟩
noncomputable def rco_B:Code:=(Tryd.f27.body).getD .skip
noncomputable def rco_x:Code:=match codeAt [true,true,false,true,false] rco_B with|some (.loop x)=>x|_=>.skip
theorem rco_b:Tryd.f27.body=some rco_B:=rfl
theorem rco_p:codeAt [true,true,false,true,false] rco_B=some (.loop rco_x):=by kernel_rfl
def rco_t:Tr:=.lt 3 (.len) [h 0 11] <| .lt 8 (.bin .lss) [h 1 3,h 2 3] <| .br 3 (.lt 8 (.inbs 1) [h 1 3,h 0 11] <| .br 4 (.dt 11 (.get 1 0) [h 0 11,h 1 3] <| .lt 3 (.len) [h 5 11] <| .lt 8 (.bin .lss) [h 6 3,.int .i64 (1)] <| .br 7 (.ret [.int .i64 (1)]) (.lt 8 (.inbs 1) [h 1 3,h 0 11] <| .br 8 (.dt 11 (.get 1 0) [h 0 11,h 1 3] <| .lt 3 (.len) [h 9 11] <| .lt 8 (.bin .gtr) [h 10 3,.int .i64 (6)] <| .br 11 (.ret [.int .i64 (1)]) (.lp rci_l [h 0 11,h 1 3,.int .i64 (0)] 0 2 (.lt 3 (.bin .add) [h 13 3,.int .i64 (1)] <| .ret [.int .i64 (-1),h 12 11,h 14 3]) (.lp rci_l [h 0 11,h 1 3,.int .i64 (0)] 1 0 (.ret [.int .i64 (1)]) (.no)))) (.no))) (.no)) (.ret [.int .i64 (0),h 0 11])
def rco_m:List U→Nat
 | [u_l,.int .i64 i]=>(match decS rP u_l with|some l=>((el l).length - i).toNat|none=>0)
 | _=>0
theorem rco_me (l:(Option (List (Option (List Int))))) (i:Int):rco_m [encS rP l,.int .i64 i]=((el l).length - i).toNat:=by
 simp only [rco_m,decS_enc]
theorem rco_c {G:Nat→Option Obj} (hst:StartOk Tryd.prog G gl H0 n0):∀ (E:Nat→U) (base:Nat),@CodeOk ⟨E,G⟩ Tryd.prog base gl Tryd.f27.ntmps rco_x (loopF Tryd.prog gl n0 7 rco_D rco_l):=by
 refine loop_ok (C:=cx L_rval P_rci) (dep:=60) (f:=27) (n0:=n0) (nB:=7) (H0:=H0) rco_m rco_t (cxg (L_rval_ok hst) (P_rci_ok hst)) hst Tryd.func27 rco_b rco_p (by kernel_rfl) (by kernel_rfl) (by kernel_rfl) ?_
 intro us d outs hs
 have hs0:=hs
 unfold rco_l at hs
 split at hs
 ·skip
  rename_i u_l i
  have hq_l:=Option.bind_eq_some_iff.1 hs
  clear hs
  obtain ⟨l,hd_l,hs⟩:=hq_l
  replace hd_l:=decS_eq hd_l
  subst hd_l
  split at hs
  ·rename_i hc
   clear hs hs0
   refine ⟨rfl,?_⟩
   unfold rco_t
   refine s0 (.cons 1 _ (.cons 0 _ (.nil))) rfl (by simp [Ev.ok,Ev.len]) ?_
   refine s1 (ev_lenS _ _) rfl rfl rfl ?_
   refine s1 (ev_lss _ _ _) rfl rfl rfl ?_
   refine s5 rfl (fun g0=>?_) fun g0=>?_
   ·refine s7 [.int .i64 _,encS rP _] rfl ?_
    refine leaf_exit (d:=0) ?_
    rw [rco_l_e l i hc,findI_end (by omega)]; rfl
   refine s1 (ev_inbsS rfl) rfl rfl rfl ?_
   refine s5 rfl (fun g1=>?_) fun g1=>?_
   ·refine s8 ?_
    first|omega|(simp_all; done)|(simp_all; omega)
   refine s2 (r:=rI) (ev_getS rfl (by omega) (by omega) rfl) rfl rfl ?_
   refine s1 (ev_lenS _ _) rfl rfl rfl ?_
   refine s1 (ev_lss _ _ _) rfl rfl rfl ?_
   refine s4 rfl (fun g2=>?_) fun g2=>?_
   ·refine s7 [.int .i64 _] rfl ?_
    refine leaf_exit (d:=1) ?_
    rw [rco_l_e l i hc,findI_hit (by omega) (by omega) (by first|exact badP_a _ (by omega)|exact badP_b _ (by omega)|exact (badP_s _ g5).2)]; rfl
   refine s1 (ev_inbsS rfl) rfl rfl rfl ?_
   refine s5 rfl (fun g3=>?_) fun g3=>?_
   ·refine s8 ?_
    first|omega|(simp_all; done)|(simp_all; omega)
   refine s2 (r:=rI) (ev_getS rfl (by omega) (by omega) rfl) rfl rfl ?_
   refine s1 (ev_lenS _ _) rfl rfl rfl ?_
   refine s1 (ev_gtr _ _ _) rfl rfl rfl ?_
   refine s4 rfl (fun g4=>?_) fun g4=>?_
   ·refine s7 [.int .i64 _] rfl ?_
    refine leaf_exit (d:=1) ?_
    rw [rco_l_e l i hc,findI_hit (by omega) (by omega) (by first|exact badP_a _ (by omega)|exact badP_b _ (by omega)|exact (badP_s _ g5).2)]; rfl
   refine s6 (rci_l_e _ _ _ ⟨hc.1,by omega,by omega,by omega,all_get hc.2.2.2 (by omega) (by omega)⟩) rfl (fun _=>rfl) (fun g5=>?_) (fun v5 g5=>?_)
   ·show Tr.sav _ _ (.cons 13 _ (.cons 12 _ _))
    first|refine s1 (ev_addW (wrap64 (by omega) (by omega))) rfl rfl rfl ?_|refine s1 (ev_add _ _ _) rfl rfl rfl ?_
    refine s7 [.int .i64 _,encS rP _,.int .i64 _] rfl ?_
    refine leaf_back ?_ ?_
    ·rw [rco_l_e l (i+1) ⟨by omega,by omega,hc.2.2⟩,rco_l_e l i hc,findI_miss (i:=i) (by omega) (by omega) (badP_n _ (by omega) (by omega) g5)]
    ·rw [rco_me,rco_me]; omega
   show Tr.sav _ _ _
   refine s7 [.int .i64 _] rfl ?_
   refine leaf_exit (d:=1) ?_
   rw [rco_l_e l i hc,findI_hit (by omega) (by omega) (by first|exact badP_a _ (by omega)|exact badP_b _ (by omega)|exact (badP_s _ g5).2)]; rfl
  ·cases hs
 ·cases hs
noncomputable def P_rco:List LpE:=(27,([true,true,false,true,false],loopF Tryd.prog gl n0 7 rco_D rco_l))::P_rci
theorem P_rco_ok {G:Nat→Option Obj} (hst:StartOk Tryd.prog G gl H0 n0):LpsOk Tryd.prog G gl P_rco:=.cons Tryd.func27 rco_b rco_p (rco_c hst) (P_rci_ok hst)
theorem checkS_e (l:Option (List (Option (List Int)))) {b:Bool} (h:emptyP l=b) (hb:b=true):checkS l=150:=checkS_b l (h.trans hb)
theorem checkS_o (l:Option (List (Option (List Int)))) {b:Bool} (h0:¬16 < ((el l).length:Int)) (h:emptyP l=b) (hb:b=false) (h2:findI badP ((el l).drop (0:Int).toNat) 0=none):checkS l=0:=checkS_n l h0 (h.trans hb) h2
def rchk_s:List U→Option (Nat × List U)
 | [u_l]=>(decS rP u_l).bind fun l=>if (el l).length≤1000000000∧∀ p ∈ el l,(el p).length≤1000000000 then some (0,[.int .i64 (checkS l)]) else none
 | _=>none
theorem rchk_s_e (l:(Option (List (Option (List Int))))) (hc:(el l).length≤1000000000∧∀ p ∈ el l,(el p).length≤1000000000):rchk_s [encS rP l]=some (0,[.int .i64 (checkS l)]):=by
 simp only [rchk_s,decS_enc,Option.bind_some]
 exact if_pos hc
def rchk_t:Tr:=.lt 3 (.len) [h 0 11] <| .lt 8 (.bin .gtr) [h 1 3,.int .i64 (16)] <| .br 2 (.ret [.int .i64 (150)]) (.lp rco_l [h 0 11,.int .i64 (0)] 0 1 (.lt 3 (.len) [h 3 11] <| .lt 8 (.bin .eql) [h 4 3,.int .i64 (1)] <| .br 5 (.lt 8 (.inbs 1) [.int .i64 (0),h 3 11] <| .br 6 (.dt 11 (.get 1 0) [h 3 11,.int .i64 (0)] <| .lt 3 (.len) [h 7 11] <| .lt 8 (.bin .eql) [h 8 3,.int .i64 (1)] <| .br 9 (.lt 8 (.inbs 1) [.int .i64 (0),h 3 11] <| .br 10 (.dt 11 (.get 1 0) [h 3 11,.int .i64 (0)] <| .lt 8 (.inbs 1) [.int .i64 (0),h 11 11] <| .br 12 (.lt 3 (.get 1 0) [h 11 11,.int .i64 (0)] <| .lt 8 (.bin .eql) [h 13 3,.int .i64 (-1)] <| .br 14 (.ret [.int .i64 (150)]) (.ret [.int .i64 (0)])) (.no)) (.no)) (.ret [.int .i64 (0)])) (.no)) (.ret [.int .i64 (0)])) (.lp rco_l [h 0 11,.int .i64 (0)] 1 0 (.ret [.int .i64 (150)]) (.no)))
theorem rchk_c {G:Nat→Option Obj} (hst:StartOk Tryd.prog G gl H0 n0):ConOk Tryd.prog G 27 [.s 11] rchk_s [.s 3]:=by
 refine con_of_tree (C:=cx L_rval P_rco) (d:=60) rchk_t (cxg (L_rval_ok hst) (P_rco_ok hst)) hst ⟨Tryd.f27,_,Tryd.func27,rfl⟩ (by kernel_rfl) (by kernel_rfl) ?_
 intro us outs hs
 unfold rchk_s at hs
 split at hs
 ·skip
  rename_i u_l
  have hq_l:=Option.bind_eq_some_iff.1 hs
  clear hs
  obtain ⟨l,hd_l,hs⟩:=hq_l
  replace hd_l:=decS_eq hd_l
  subst hd_l
  split at hs
  ·rename_i hc
   cases hs
   unfold rchk_t
   refine s0 (.cons 0 _ (.nil)) rfl (by simp [Ev.ok,Ev.len]) ?_
   refine s1 (ev_lenS _ _) rfl rfl rfl ?_
   refine s1 (ev_gtr _ _ _) rfl rfl rfl ?_
   refine s4 rfl (fun g0=>?_) fun g0=>?_
   ·refine s7 [.int .i64 _] rfl ?_
    first|(rw [checkS_a l (by omega)]; done)|(rw [checkS_e l (emptyP_1 l (by omega) (by omega)) (decide_eq_true (by unfold at0; omega))]; done)|(rw [checkS_o l (by omega) (emptyP_1 l (by omega) (by omega)) (decide_eq_false (by unfold at0; omega)) g1]; done)|(rw [checkS_o l (by omega) (emptyP_2 l (by omega)) rfl g1]; done)|(rw [checkS_o l (by omega) (emptyP_3 l (by omega) (by omega)) rfl g1]; done)|(rw [(checkS_s l g1).2]; done)
   refine s6 (rco_l_e _ _ ⟨by omega,by omega,by omega,hc.2⟩) rfl (fun _=>rfl) (fun g1=>?_) (fun v1 g1=>?_)
   ·show Tr.sav _ _ (.cons 3 _ _)
    refine s1 (ev_lenS _ _) rfl rfl rfl ?_
    refine s1 (ev_eql _ _ _) rfl rfl rfl ?_
    refine s5 rfl (fun g2=>?_) fun g2=>?_
    ·refine s7 [.int .i64 _] rfl ?_
     first|(rw [checkS_a l (by omega)]; done)|(rw [checkS_e l (emptyP_1 l (by omega) (by omega)) (decide_eq_true (by unfold at0; omega))]; done)|(rw [checkS_o l (by omega) (emptyP_1 l (by omega) (by omega)) (decide_eq_false (by unfold at0; omega)) g1]; done)|(rw [checkS_o l (by omega) (emptyP_2 l (by omega)) rfl g1]; done)|(rw [checkS_o l (by omega) (emptyP_3 l (by omega) (by omega)) rfl g1]; done)|(rw [(checkS_s l g1).2]; done)
    refine s1 (ev_inbsS rfl) rfl rfl rfl ?_
    refine s5 rfl (fun g3=>?_) fun g3=>?_
    ·refine s8 ?_
     first|omega|(simp_all; done)|(simp_all; omega)
    refine s2 (r:=rI) (ev_getS rfl (by omega) (by omega) rfl) rfl rfl ?_
    refine s1 (ev_lenS _ _) rfl rfl rfl ?_
    refine s1 (ev_eql _ _ _) rfl rfl rfl ?_
    refine s5 rfl (fun g4=>?_) fun g4=>?_
    ·refine s7 [.int .i64 _] rfl ?_
     first|(rw [checkS_a l (by omega)]; done)|(rw [checkS_e l (emptyP_1 l (by omega) (by omega)) (decide_eq_true (by unfold at0; omega))]; done)|(rw [checkS_o l (by omega) (emptyP_1 l (by omega) (by omega)) (decide_eq_false (by unfold at0; omega)) g1]; done)|(rw [checkS_o l (by omega) (emptyP_2 l (by omega)) rfl g1]; done)|(rw [checkS_o l (by omega) (emptyP_3 l (by omega) (by omega)) rfl g1]; done)|(rw [(checkS_s l g1).2]; done)
    refine s1 (ev_inbsS rfl) rfl rfl rfl ?_
    refine s5 rfl (fun g5=>?_) fun g5=>?_
    ·refine s8 ?_
     first|omega|(simp_all; done)|(simp_all; omega)
    refine s2 (r:=rI) (ev_getS rfl (by omega) (by omega) rfl) rfl rfl ?_
    refine s1 (ev_inbsS rfl) rfl rfl rfl ?_
    refine s5 rfl (fun g6=>?_) fun g6=>?_
    ·refine s8 ?_
     first|omega|(simp_all; done)|(simp_all; omega)
    refine s1 (u:=.int .i64 _) (ev_getS rfl (by omega) (by omega) rfl) rfl rfl rfl ?_
    refine s1 (ev_eql _ _ _) rfl rfl rfl ?_
    refine s4 rfl (fun g7=>?_) fun g7=>?_
    ·refine s7 [.int .i64 _] rfl ?_
     first|(rw [checkS_a l (by omega)]; done)|(rw [checkS_e l (emptyP_1 l (by omega) (by omega)) (decide_eq_true (by unfold at0; omega))]; done)|(rw [checkS_o l (by omega) (emptyP_1 l (by omega) (by omega)) (decide_eq_false (by unfold at0; omega)) g1]; done)|(rw [checkS_o l (by omega) (emptyP_2 l (by omega)) rfl g1]; done)|(rw [checkS_o l (by omega) (emptyP_3 l (by omega) (by omega)) rfl g1]; done)|(rw [(checkS_s l g1).2]; done)
    refine s7 [.int .i64 _] rfl ?_
    first|(rw [checkS_a l (by omega)]; done)|(rw [checkS_e l (emptyP_1 l (by omega) (by omega)) (decide_eq_true (by unfold at0; omega))]; done)|(rw [checkS_o l (by omega) (emptyP_1 l (by omega) (by omega)) (decide_eq_false (by unfold at0; omega)) g1]; done)|(rw [checkS_o l (by omega) (emptyP_2 l (by omega)) rfl g1]; done)|(rw [checkS_o l (by omega) (emptyP_3 l (by omega) (by omega)) rfl g1]; done)|(rw [(checkS_s l g1).2]; done)
   show Tr.sav _ _ _
   refine s7 [.int .i64 _] rfl ?_
   first|(rw [checkS_a l (by omega)]; done)|(rw [checkS_e l (emptyP_1 l (by omega) (by omega)) (decide_eq_true (by unfold at0; omega))]; done)|(rw [checkS_o l (by omega) (emptyP_1 l (by omega) (by omega)) (decide_eq_false (by unfold at0; omega)) g1]; done)|(rw [checkS_o l (by omega) (emptyP_2 l (by omega)) rfl g1]; done)|(rw [checkS_o l (by omega) (emptyP_3 l (by omega) (by omega)) rfl g1]; done)|(rw [(checkS_s l g1).2]; done)
  ·cases hs
 ·cases hs
noncomputable def L_rchk:List (FuncId × FnC):=(27,conF Tryd.prog [.s 11] rchk_s [.s 3])::L_rval
theorem L_rchk_ok {G:Nat→Option Obj} (hst:StartOk Tryd.prog G gl H0 n0):ConsOk Tryd.prog G gl L_rchk:=.cons (rchk_c hst) (L_rval_ok hst)
end Go.Proofs.YtadmkfclgpbebaaDoor

namespace Go.Proofs.YtadmkfclgpbebaaDoor
set_option linter.all false
open Go Go.Sx
set_option maxRecDepth 100000
set_option linter.unusedVariables false
set_option linter.unusedSimpArgs false
def cutP (p:Option (List Int)):Option (List Int):=subS p (0:Int).toNat (min ((el p).length:Int) 10).toNat
theorem catS_cons {α:Type} (x:Option (List α)) (a:α) (r:List α):catS (some (el x++[a])) (some r)=catS x (some (a::r)):=by
 cases r with
 | nil=>rfl
 | cons b r=>simp [catS,el]
theorem cut_step (l:List (Option (List Int))) {i:Int} (h0:0≤i) (h1:i < (l.length:Int)) (h2:i < 20):((l.drop i.toNat).take (20 - i).toNat).map cutP=cutP (l.getD i.toNat default)::((l.drop (i+1).toNat).take (20 - (i+1)).toNat).map cutP:=by
 rw [drop_step l h0 h1,show (20 - i).toNat=(20 - (i+1)).toNat+1 by omega]; rfl
theorem cut_end (l:List (Option (List Int))) {i:Int} (h:(l.length:Int)≤i∨20≤i):((l.drop i.toNat).take (20 - i).toNat).map cutP=[]:=by
 rcases h with h|h
 ·rw [drop_end l h]; simp
 ·rw [show (20 - i).toNat=0 by omega]; rfl
def sho_s:List U→Option (Nat × List U)
 | [u_l,u_out,.int .i64 i]=>(decS rP u_l).bind fun l=>(decS rP u_out).bind fun out=>if 0≤i∧i≤20∧((el out).length:Int)=i then some (0,[encS rP (catS out (some ((((el l).drop i.toNat).take (20 - i).toNat).map cutP)))]) else none
 | _=>none
theorem sho_s_e (l:(Option (List (Option (List Int))))) (out:(Option (List (Option (List Int))))) (i:Int) (hc:0≤i∧i≤20∧((el out).length:Int)=i):sho_s [encS rP l,encS rP out,.int .i64 i]=some (0,[encS rP (catS out (some ((((el l).drop i.toNat).take (20 - i).toNat).map cutP)))]):=by
 simp only [sho_s,decS_enc,Option.bind_some]
 exact if_pos hc
def sho_D:LoopD:=⟨[(0,dat 5 0 11),(3,own 6 1 11),(4,h 2 3)],[(6,.sq 1 11 47 7),(5,.frz),(7,.frz)],3,[⟨.exit 0,[(3,own 8 0 11)],[(8,.sq 0 11 47 9),(9,.frz)],1⟩]⟩
noncomputable def sho_B:Code:=(Tryd.f10.body).getD .skip
noncomputable def sho_x:Code:=match codeAt [true,true,false,true,false] sho_B with|some (.loop x)=>x|_=>.skip
theorem sho_b:Tryd.f10.body=some sho_B:=rfl
theorem sho_p:codeAt [true,true,false,true,false] sho_B=some (.loop sho_x):=by kernel_rfl
def sho_t:Tr:=.lt 3 (.len) [h 0 11] <| .lt 8 (.bin .lss) [h 2 3,h 3 3] <| .br 4 (.lt 8 (.bin .lss) [h 2 3,.int .i64 (20)] <| .br 5 (.lt 8 (.inbs 1) [h 2 3,h 0 11] <| .br 6 (.dt 11 (.get 1 0) [h 0 11,h 2 3] <| .lt 8 (.inbs 1) [h 2 3,h 0 11] <| .br 8 (.dt 11 (.get 1 0) [h 0 11,h 2 3] <| .lt 3 (.len) [h 9 11] <| .lt 3 (.min) [h 10 3,.int .i64 (10)] <| .dt 11 (.subs 1) [h 7 11,.int .i64 (0),h 11 3] <| .dt 11 (.snoc 1) [h 1 11,h 12 11] <| .lt 3 (.bin .add) [h 2 3,.int .i64 (1)] <| .ret [.int .i64 (-1),h 0 11,h 13 11,h 14 3]) (.no)) (.no)) (.ret [.int .i64 (0),h 1 11])) (.ret [.int .i64 (0),h 1 11])
def sho_m:List U→Nat
 | [u_l,u_out,.int .i64 i]=>(match decS rP u_l with|some l=>(match decS rP u_out with|some out=>(20 - i).toNat|none=>0)|none=>0)
 | _=>0
theorem sho_me (l:(Option (List (Option (List Int))))) (out:(Option (List (Option (List Int))))) (i:Int):sho_m [encS rP l,encS rP out,.int .i64 i]=(20 - i).toNat:=by
 simp only [sho_m,decS_enc]
theorem sho_c {G:Nat→Option Obj} (hst:StartOk Tryd.prog G gl H0 n0):∀ (E:Nat→U) (base:Nat),@CodeOk ⟨E,G⟩ Tryd.prog base gl Tryd.f10.ntmps sho_x (loopF Tryd.prog gl n0 10 sho_D sho_s):=by
 refine loop_ok (C:=cx L_rchk P_rco) (dep:=60) (f:=10) (n0:=n0) (nB:=10) (H0:=H0) sho_m sho_t (cxg (L_rchk_ok hst) (P_rco_ok hst)) hst Tryd.func10 sho_b sho_p (by kernel_rfl) (by kernel_rfl) (by kernel_rfl) ?_
 intro us d outs hs
 have hs0:=hs
 unfold sho_s at hs
 split at hs
 ·skip
  rename_i u_l u_out i
  have hq_l:=Option.bind_eq_some_iff.1 hs
  clear hs
  obtain ⟨l,hd_l,hs⟩:=hq_l
  replace hd_l:=decS_eq hd_l
  subst hd_l
  have hq_out:=Option.bind_eq_some_iff.1 hs
  clear hs
  obtain ⟨out,hd_out,hs⟩:=hq_out
  replace hd_out:=decS_eq hd_out
  subst hd_out
  split at hs
  ·rename_i hc
   clear hs hs0
   refine ⟨rfl,?_⟩
   unfold sho_t
   refine s0 (.cons 2 _ (.cons 1 _ (.cons 0 _ (.nil)))) rfl (by simp [Ev.ok,Ev.len]) ?_
   refine s1 (ev_lenS _ _) rfl rfl rfl ?_
   refine s1 (ev_lss _ _ _) rfl rfl rfl ?_
   refine s5 rfl (fun g0=>?_) fun g0=>?_
   ·refine s7 [.int .i64 _,encS rP _] rfl ?_
    refine leaf_exit (d:=0) ?_
    rw [sho_s_e l out i hc,cut_end _ (by omega)]; rfl
   refine s1 (ev_lss _ _ _) rfl rfl rfl ?_
   refine s5 rfl (fun g1=>?_) fun g1=>?_
   ·refine s7 [.int .i64 _,encS rP _] rfl ?_
    refine leaf_exit (d:=0) ?_
    rw [sho_s_e l out i hc,cut_end _ (by omega)]; rfl
   refine s1 (ev_inbsS rfl) rfl rfl rfl ?_
   refine s5 rfl (fun g2=>?_) fun g2=>?_
   ·refine s8 ?_
    first|omega|(simp_all; done)|(simp_all; omega)
   refine s2 (r:=rI) (ev_getS rfl (by omega) (by omega) rfl) rfl rfl ?_
   refine s1 (ev_inbsS rfl) rfl rfl rfl ?_
   refine s5 rfl (fun g3=>?_) fun g3=>?_
   ·refine s8 ?_
    first|omega|(simp_all; done)|(simp_all; omega)
   refine s2 (r:=rI) (ev_getS rfl (by omega) (by omega) rfl) rfl rfl ?_
   refine s1 (ev_lenS _ _) rfl rfl rfl ?_
   refine s1 (ev_min _ _ _ _) rfl rfl rfl ?_
   refine s2 (r:=rI) (ev_subsS rfl (by omega) (by omega) (by omega)) rfl rfl ?_
   refine s2 (r:=rP) (ev_snocR rfl rfl (by decide) (by simp [*] <;> omega)) rfl rfl ?_
   first|refine s1 (ev_addW (wrap64 (by omega) (by omega))) rfl rfl rfl ?_|refine s1 (ev_add _ _ _) rfl rfl rfl ?_
   refine s7 [.int .i64 _,encS rP _,encS rP _,.int .i64 _] rfl ?_
   refine leaf_back ?_ ?_
   ·rw [sho_s_e l out i hc,cut_step (el l) (by omega) (by omega) (by omega),← catS_cons]
    exact sho_s_e _ _ _ ⟨by omega,by omega,by simp [el_some]; omega⟩
   ·rw [sho_me,sho_me]; omega
  ·cases hs
 ·cases hs
noncomputable def P_sho:List LpE:=(10,([true,true,false,true,false],loopF Tryd.prog gl n0 10 sho_D sho_s))::P_rco
theorem P_sho_ok {G:Nat→Option Obj} (hst:StartOk Tryd.prog G gl H0 n0):LpsOk Tryd.prog G gl P_sho:=.cons Tryd.func10 sho_b sho_p (sho_c hst) (P_rco_ok hst)
end Go.Proofs.YtadmkfclgpbebaaDoor

namespace Go.Proofs.YtadmkfclgpbebaaDoor
set_option linter.all false
open Go Go.Sx
set_option maxRecDepth 100000
set_option linter.unusedVariables false
set_option linter.unusedSimpArgs false
def shortF (l:Option (List (Option (List Int)))):Option (List (Option (List Int))):=catS none (some (((el l).take 20).map cutP))
def sh_s:List U→Option (Nat × List U)
 | [u_l]=>(decS rP u_l).bind fun l=>some (0,[encS rP (shortF l)])
 | _=>none
def sh_t:Tr:=.dt 11 (.nilw 1) [] <| .fn sho_s [h 0 11,h 1 11,.int .i64 (0)] 1 <| .ret [h 2 11]
theorem sh_c {G:Nat→Option Obj} (hst:StartOk Tryd.prog G gl H0 n0):ConOk Tryd.prog G 10 [.s 11] sh_s [.s 11]:=by
 refine con_of_tree (C:=cx L_rchk P_sho) (d:=60) sh_t (cxg (L_rchk_ok hst) (P_sho_ok hst)) hst ⟨Tryd.f10,_,Tryd.func10,rfl⟩ (by kernel_rfl) (by kernel_rfl) ?_
 intro us outs hs
 unfold sh_s at hs
 split at hs
 ·skip
  rename_i u_l
  have hq_l:=Option.bind_eq_some_iff.1 hs
  clear hs
  obtain ⟨l,hd_l,hs⟩:=hq_l
  replace hd_l:=decS_eq hd_l
  subst hd_l
  cases hs
  unfold sh_t
  refine s0 (.cons 0 _ (.nil)) rfl (by simp [Ev.ok,Ev.len]) ?_
  refine s2 (r:=rP) (ev_nilwS rfl) rfl rfl ?_
  refine s31 (sho_s_e _ none 0 ⟨by decide,by decide,rfl⟩) rfl ?_
  refine s7 [encS rP _] rfl ?_
  rfl
 ·cases hs
noncomputable def L_sh:List (FuncId × FnC):=(10,conF Tryd.prog [.s 11] sh_s [.s 11])::L_rchk
theorem L_sh_ok {G:Nat→Option Obj} (hst:StartOk Tryd.prog G gl H0 n0):ConsOk Tryd.prog G gl L_sh:=.cons (sh_c hst) (L_rchk_ok hst)
end Go.Proofs.YtadmkfclgpbebaaDoor

namespace Go.Proofs.YtadmkfclgpbebaaDoor
set_option linter.all false
open Go Go.Sx
set_option maxRecDepth 100000
set_option linter.unusedVariables false
set_option linter.unusedSimpArgs false
def mI (many:Option (List Int)) (i:Int):Int:=(el many).getD i.toNat default % 6+1
def partN (parts:Option (List Int)) (k:Int):Int:=if k < ((el parts).length:Int) then (el parts).getD k.toNat default % 10001 - 1 else -1
def rowN (parts:Option (List Int)):Int→Nat→List Int
 | _,0=>[]
 | k,n+1=>partN parts k::rowN parts (k+1) n
theorem rowN_step (parts:Option (List Int)) (k:Int) {n j:Int} (h:j < n):rowN parts k (n - j).toNat=partN parts k::rowN parts (k+1) (n - (j+1)).toNat:=by
 have e1:(n - j).toNat=(n - (j+1)).toNat+1:=by omega
 rw [e1]; rfl
theorem mI_bd {many:Option (List Int)} {i:Int} (h:∀ m ∈ el many,0≤m∧m≤255) (h0:0≤i) (h1:i < ((el many).length:Int)):1≤mI many i∧mI many i≤6:=by
 have:=all_get h h0 h1
 unfold mI; omega
theorem getB_bd {l:List Int} {b:Int} (hb:0≤b) (h:∀ m ∈ l,0≤m∧m≤b) (i:Nat):0≤l.getD i default∧l.getD i default≤b:=by
 rw [List.getD_eq_getElem?_getD]
 cases hi:l[i]? with
 | none=>exact ⟨Int.le_refl 0,hb⟩
 | some m=>exact h m (List.mem_of_getElem? hi)
def rwi_s:List U→Option (Nat × List U)
 | [u_out,.int .i64 k,.int .i64 i,.int .i64 j,u_parts,u_many,u_p]=>(decS rP u_out).bind fun out=>(decS rU u_parts).bind fun parts=>(decS rB u_many).bind fun many=>(decS rI u_p).bind fun p=>if 0≤i∧i < ((el many).length:Int)∧0≤k∧k≤1000000+j∧0≤j∧j≤mI many i∧((el p).length:Int)=j∧(el many).length≤140737488351232∧(el parts).length≤140737488351232∧(∀ m ∈ el many,0≤m∧m≤255)∧(∀ q ∈ el parts,0≤q∧q≤65535) then some (0,[encS rP out,.int .i64 (k+(mI many i - j)),.int .i64 i,encS rU parts,encS rB many,encS rI (catS p (some (rowN parts k (mI many i - j).toNat)))]) else none
 | _=>none
theorem rwi_s_e (out:(Option (List (Option (List Int))))) (k:Int) (i:Int) (j:Int) (parts:(Option (List Int))) (many:(Option (List Int))) (p:(Option (List Int))) (hc:0≤i∧i < ((el many).length:Int)∧0≤k∧k≤1000000+j∧0≤j∧j≤mI many i∧((el p).length:Int)=j∧(el many).length≤140737488351232∧(el parts).length≤140737488351232∧(∀ m ∈ el many,0≤m∧m≤255)∧(∀ q ∈ el parts,0≤q∧q≤65535)):rwi_s [encS rP out,.int .i64 k,.int .i64 i,.int .i64 j,encS rU parts,encS rB many,encS rI p]=some (0,[encS rP out,.int .i64 (k+(mI many i - j)),.int .i64 i,encS rU parts,encS rB many,encS rI (catS p (some (rowN parts k (mI many i - j).toNat)))]):=by
 simp only [rwi_s,decS_enc,Option.bind_some]
 exact if_pos hc
def rwi_D:LoopD:=⟨[(1,.pointer (some ⟨5,0,none⟩)),(3,own 7 0 11),(4,h 1 3),(5,h 2 3),(6,.pointer (some ⟨6,0,none⟩)),(7,h 3 3)],[(5,.cells 26 [dat 9 4 11,dat 10 5 11]),(6,.cells 47 [own 11 6 11]),(7,.sq 0 11 47 8),(11,.sq 6 11 3 12),(8,.frz),(9,.frz),(10,.frz),(12,.frz)],7,[⟨.exit 2,[(1,.pointer (some ⟨5,0,none⟩)),(3,own 13 0 11),(4,h 1 3),(5,h 2 3),(6,.pointer (some ⟨6,0,none⟩))],[(5,.cells 26 [dat 15 3 11,dat 16 4 11]),(6,.cells 47 [own 17 5 11]),(13,.sq 0 11 47 14),(17,.sq 5 11 3 18),(14,.frz),(15,.frz),(16,.frz),(18,.frz)],6⟩]⟩
noncomputable def rwi_B:Code:=(Tryd.f11.body).getD .skip
noncomputable def rwi_x:Code:=match codeAt [true,true,true,false,true,false,false,true,false,false,true,false,true,false] rwi_B with|some (.loop x)=>x|_=>.skip
theorem rwi_b:Tryd.f11.body=some rwi_B:=rfl
theorem rwi_p:codeAt [true,true,true,false,true,false,false,true,false,false,true,false,true,false] rwi_B=some (.loop rwi_x):=by kernel_rfl
def rwi_t:Tr:=.lt 8 (.inbs 1) [h 2 3,h 5 11] <| .br 7 (.lt 4 (.get 1 0) [h 5 11,h 2 3] <| .lt 4 (.bin .rem) [h 8 4,.int .u8 (6)] <| .lt 3 (.conv .i64) [h 9 4] <| .lt 8 (.bin .leq) [h 3 3,h 10 3] <| .br 11 (.lt 3 (.len) [h 4 11] <| .lt 8 (.bin .lss) [h 1 3,h 12 3] <| .br 13 (.lt 8 (.inbs 1) [h 1 3,h 4 11] <| .br 14 (.lt 5 (.get 1 0) [h 4 11,h 1 3] <| .lt 5 (.bin .rem) [h 15 5,.int .u16 (10001)] <| .lt 3 (.conv .i64) [h 16 5] <| .lt 3 (.bin .sub) [h 17 3,.int .i64 (1)] <| .dt 11 (.snoc 1) [h 6 11,h 18 3] <| .lt 3 (.bin .add) [h 1 3,.int .i64 (1)] <| .lt 3 (.bin .add) [h 3 3,.int .i64 (1)] <| .ret [.int .i64 (-1),h 0 11,h 20 3,h 2 3,h 21 3,h 4 11,h 5 11,h 19 11]) (.no)) (.dt 11 (.snoc 1) [h 6 11,.int .i64 (-1)] <| .lt 3 (.bin .add) [h 1 3,.int .i64 (1)] <| .lt 3 (.bin .add) [h 3 3,.int .i64 (1)] <| .ret [.int .i64 (-1),h 0 11,h 15 3,h 2 3,h 16 3,h 4 11,h 5 11,h 14 11])) (.ret [.int .i64 (0),h 0 11,h 1 3,h 2 3,h 4 11,h 5 11,h 6 11])) (.no)
def rwi_m:List U→Nat
 | [u_out,.int .i64 k,.int .i64 i,.int .i64 j,u_parts,u_many,u_p]=>(match decS rP u_out with|some out=>(match decS rU u_parts with|some parts=>(match decS rB u_many with|some many=>(match decS rI u_p with|some p=>(mI many i - j).toNat|none=>0)|none=>0)|none=>0)|none=>0)
 | _=>0
theorem rwi_me (out:(Option (List (Option (List Int))))) (k:Int) (i:Int) (j:Int) (parts:(Option (List Int))) (many:(Option (List Int))) (p:(Option (List Int))):rwi_m [encS rP out,.int .i64 k,.int .i64 i,.int .i64 j,encS rU parts,encS rB many,encS rI p]=(mI many i - j).toNat:=by
 simp only [rwi_m,decS_enc]
theorem rwi_c {G:Nat→Option Obj} (hst:StartOk Tryd.prog G gl H0 n0):∀ (E:Nat→U) (base:Nat),@CodeOk ⟨E,G⟩ Tryd.prog base gl Tryd.f11.ntmps rwi_x (loopF Tryd.prog gl n0 19 rwi_D rwi_s):=by
 refine loop_ok (C:=cx L_sh P_sho) (dep:=60) (f:=11) (n0:=n0) (nB:=19) (H0:=H0) rwi_m rwi_t (cxg (L_sh_ok hst) (P_sho_ok hst)) hst Tryd.func11 rwi_b rwi_p (by kernel_rfl) (by kernel_rfl) (by kernel_rfl) ?_
 intro us d outs hs
 have hs0:=hs
 unfold rwi_s at hs
 split at hs
 ·skip
  rename_i u_out k i j u_parts u_many u_p
  have hq_out:=Option.bind_eq_some_iff.1 hs
  clear hs
  obtain ⟨out,hd_out,hs⟩:=hq_out
  replace hd_out:=decS_eq hd_out
  subst hd_out
  have hq_parts:=Option.bind_eq_some_iff.1 hs
  clear hs
  obtain ⟨parts,hd_parts,hs⟩:=hq_parts
  replace hd_parts:=decS_eq hd_parts
  subst hd_parts
  have hq_many:=Option.bind_eq_some_iff.1 hs
  clear hs
  obtain ⟨many,hd_many,hs⟩:=hq_many
  replace hd_many:=decS_eq hd_many
  subst hd_many
  have hq_p:=Option.bind_eq_some_iff.1 hs
  clear hs
  obtain ⟨p,hd_p,hs⟩:=hq_p
  replace hd_p:=decS_eq hd_p
  subst hd_p
  split at hs
  ·rename_i hc
   clear hs hs0
   have hm:=mI_bd hc.2.2.2.2.2.2.2.2.2.1 hc.1 hc.2.1
   have hm2:=getB_bd (by decide) hc.2.2.2.2.2.2.2.2.2.1 i.toNat
   have hp2:=getB_bd (by decide) hc.2.2.2.2.2.2.2.2.2.2 k.toNat
   unfold mI at hm hc
   refine ⟨rfl,?_⟩
   unfold rwi_t
   refine s0 (.cons 6 _ (.cons 5 _ (.cons 4 _ (.cons 3 _ (.cons 2 _ (.cons 1 _ (.cons 0 _ (.nil)))))))) rfl (by simp [Ev.ok,Ev.len]) ?_
   refine s1 (ev_inbsS rfl) rfl rfl rfl ?_
   refine s5 rfl (fun g0=>?_) fun g0=>?_
   ·refine s8 ?_
    first|omega|(simp_all; done)|(simp_all; omega)
   refine s1 (u:=.int .u8 _) (ev_getS rfl (by omega) (by omega) rfl) rfl rfl rfl ?_
   first|refine s1 (ev_remW (by omega) (by omega)) rfl rfl rfl ?_|refine s1 (ev_rem _ _ _ (by omega)) rfl rfl rfl ?_
   first|refine s1 (ev_convW (wrap64 (by omega) (by omega))) rfl rfl rfl ?_|refine s1 (ev_conv _ _ _) rfl rfl rfl ?_
   refine s1 (ev_leq _ _ _) rfl rfl rfl ?_
   refine s5 rfl (fun g1=>?_) fun g1=>?_
   ·refine s7 [.int .i64 _,encS rP _,.int .i64 _,.int .i64 _,encS rU _,encS rB _,encS rI _] rfl ?_
    refine leaf_exit (d:=0) ?_
    rw [rwi_s_e out k i j parts many p hc,show mI many i - j=0 by unfold mI; omega,Int.add_zero]; rfl
   refine s1 (ev_lenS _ _) rfl rfl rfl ?_
   refine s1 (ev_lss _ _ _) rfl rfl rfl ?_
   refine s4 rfl (fun g2=>?_) fun g2=>?_
   ·refine s1 (ev_inbsS rfl) rfl rfl rfl ?_
    refine s5 rfl (fun g3=>?_) fun g3=>?_
    ·refine s8 ?_
     first|omega|(simp_all; done)|(simp_all; omega)
    refine s1 (u:=.int .u16 _) (ev_getS rfl (by omega) (by omega) rfl) rfl rfl rfl ?_
    first|refine s1 (ev_remW (by omega) (by omega)) rfl rfl rfl ?_|refine s1 (ev_rem _ _ _ (by omega)) rfl rfl rfl ?_
    first|refine s1 (ev_convW (wrap64 (by omega) (by omega))) rfl rfl rfl ?_|refine s1 (ev_conv _ _ _) rfl rfl rfl ?_
    first|refine s1 (ev_subW (wrap64 (by omega) (by omega))) rfl rfl rfl ?_|refine s1 (ev_sub _ _ _) rfl rfl rfl ?_
    refine s2 (r:=rI) (ev_snocR rfl rfl (by decide) (by simp [*] <;> omega)) rfl rfl ?_
    first|refine s1 (ev_addW (wrap64 (by omega) (by omega))) rfl rfl rfl ?_|refine s1 (ev_add _ _ _) rfl rfl rfl ?_
    first|refine s1 (ev_addW (wrap64 (by omega) (by omega))) rfl rfl rfl ?_|refine s1 (ev_add _ _ _) rfl rfl rfl ?_
    refine s7 [.int .i64 _,encS rP _,.int .i64 _,.int .i64 _,.int .i64 _,encS rU _,encS rB _,encS rI _] rfl ?_
    refine leaf_back ?_ ?_
    ·rw [rwi_s_e out k i j parts many p hc,rowN_step parts k (by unfold mI; omega),← catS_cons,show k+(mI many i - j)=(k+1)+(mI many i - (j+1)) by omega]
     first
      | (rw [show partN parts k=(el parts).getD k.toNat default % 10001 - 1 from if_pos g2]
         exact rwi_s_e _ _ _ _ _ _ _ ⟨hc.1,hc.2.1,by omega,by omega,by omega,by unfold mI; omega,by simp [el_some]; omega,hc.2.2.2.2.2.2.2.1,hc.2.2.2.2.2.2.2.2.1,hc.2.2.2.2.2.2.2.2.2.1,hc.2.2.2.2.2.2.2.2.2.2⟩)
      | (rw [show partN parts k = -1 from if_neg g2]
         exact rwi_s_e _ _ _ _ _ _ _ ⟨hc.1,hc.2.1,by omega,by omega,by omega,by unfold mI; omega,by simp [el_some]; omega,hc.2.2.2.2.2.2.2.1,hc.2.2.2.2.2.2.2.2.1,hc.2.2.2.2.2.2.2.2.2.1,hc.2.2.2.2.2.2.2.2.2.2⟩)
    ·rw [rwi_me,rwi_me]; unfold mI; omega
   refine s2 (r:=rI) (ev_snocR rfl rfl (by decide) (by simp [*] <;> omega)) rfl rfl ?_
   first|refine s1 (ev_addW (wrap64 (by omega) (by omega))) rfl rfl rfl ?_|refine s1 (ev_add _ _ _) rfl rfl rfl ?_
   first|refine s1 (ev_addW (wrap64 (by omega) (by omega))) rfl rfl rfl ?_|refine s1 (ev_add _ _ _) rfl rfl rfl ?_
   refine s7 [.int .i64 _,encS rP _,.int .i64 _,.int .i64 _,.int .i64 _,encS rU _,encS rB _,encS rI _] rfl ?_
   refine leaf_back ?_ ?_
   ·rw [rwi_s_e out k i j parts many p hc,rowN_step parts k (by unfold mI; omega),← catS_cons,show k+(mI many i - j)=(k+1)+(mI many i - (j+1)) by omega]
    first
     | (rw [show partN parts k=(el parts).getD k.toNat default % 10001 - 1 from if_pos g2]
        exact rwi_s_e _ _ _ _ _ _ _ ⟨hc.1,hc.2.1,by omega,by omega,by omega,by unfold mI; omega,by simp [el_some]; omega,hc.2.2.2.2.2.2.2.1,hc.2.2.2.2.2.2.2.2.1,hc.2.2.2.2.2.2.2.2.2.1,hc.2.2.2.2.2.2.2.2.2.2⟩)
     | (rw [show partN parts k = -1 from if_neg g2]
        exact rwi_s_e _ _ _ _ _ _ _ ⟨hc.1,hc.2.1,by omega,by omega,by omega,by unfold mI; omega,by simp [el_some]; omega,hc.2.2.2.2.2.2.2.1,hc.2.2.2.2.2.2.2.2.1,hc.2.2.2.2.2.2.2.2.2.1,hc.2.2.2.2.2.2.2.2.2.2⟩)
   ·rw [rwi_me,rwi_me]; unfold mI; omega
  ·cases hs
 ·cases hs
noncomputable def P_rwi:List LpE:=(11,([true,true,true,false,true,false,false,true,false,false,true,false,true,false],loopF Tryd.prog gl n0 19 rwi_D rwi_s))::P_sho
theorem P_rwi_ok {G:Nat→Option Obj} (hst:StartOk Tryd.prog G gl H0 n0):LpsOk Tryd.prog G gl P_rwi:=.cons Tryd.func11 rwi_b rwi_p (rwi_c hst) (P_sho_ok hst)
end Go.Proofs.YtadmkfclgpbebaaDoor

namespace Go.Proofs.YtadmkfclgpbebaaDoor
set_option linter.all false
open Go Go.Sx
set_option maxRecDepth 100000
set_option linter.unusedVariables false
set_option linter.unusedSimpArgs false
def rowsF (parts:Option (List Int)):Int→List Int→List (Option (List Int))
 | _,[]=>[]
 | k,m::ms=>some (rowN parts k (m % 6+1).toNat)::rowsF parts (k+(m % 6+1)) ms
theorem many_step (l:List Int) {i:Int} (h0:0≤i) (h1:i < (l.length:Int)) (h2:i < 16):(l.drop i.toNat).take (16 - i).toNat=l.getD i.toNat default::(l.drop (i+1).toNat).take (16 - (i+1)).toNat:=by
 rw [drop_step l h0 h1,show (16 - i).toNat=(16 - (i+1)).toNat+1 by omega]; rfl
theorem many_end (l:List Int) {i:Int} (h:(l.length:Int)≤i∨16≤i):(l.drop i.toNat).take (16 - i).toNat=[]:=by
 rcases h with h|h
 ·rw [drop_end l h]; simp
 ·rw [show (16 - i).toNat=0 by omega]; rfl
theorem catS_one {k:Int} {parts:Option (List Int)} {n:Int} (h:0 < n):catS none (some (rowN parts k n.toNat))=some (rowN parts k n.toNat):=by
 obtain ⟨m,hm⟩:∃ m:Nat,n.toNat=m+1:=⟨n.toNat - 1,by omega⟩
 rw [hm]; rfl
def rwo_s:List U→Option (Nat × List U)
 | [u_out,.int .i64 k,.int .i64 i,u_parts,u_many]=>(decS rP u_out).bind fun out=>(decS rU u_parts).bind fun parts=>(decS rB u_many).bind fun many=>if 0≤i∧i≤16∧0≤k∧k≤6 * i∧((el out).length:Int)=i∧(el many).length≤140737488351232∧(el parts).length≤140737488351232∧(∀ m ∈ el many,0≤m∧m≤255)∧(∀ q ∈ el parts,0≤q∧q≤65535) then some (0,[encS rP (catS out (some (rowsF parts k (((el many).drop i.toNat).take (16 - i).toNat))))]) else none
 | _=>none
theorem rwo_s_e (out:(Option (List (Option (List Int))))) (k:Int) (i:Int) (parts:(Option (List Int))) (many:(Option (List Int))) (hc:0≤i∧i≤16∧0≤k∧k≤6 * i∧((el out).length:Int)=i∧(el many).length≤140737488351232∧(el parts).length≤140737488351232∧(∀ m ∈ el many,0≤m∧m≤255)∧(∀ q ∈ el parts,0≤q∧q≤65535)):rwo_s [encS rP out,.int .i64 k,.int .i64 i,encS rU parts,encS rB many]=some (0,[encS rP (catS out (some (rowsF parts k (((el many).drop i.toNat).take (16 - i).toNat))))]):=by
 simp only [rwo_s,decS_enc,Option.bind_some]
 exact if_pos hc
def rwo_D:LoopD:=⟨[(1,.pointer (some ⟨5,0,none⟩)),(3,own 6 0 11),(4,h 1 3),(5,h 2 3)],[(5,.cells 26 [dat 8 3 11,dat 9 4 11]),(6,.sq 0 11 47 7),(7,.frz),(8,.frz),(9,.frz)],5,[⟨.exit 0,[(3,own 10 0 11)],[(10,.sq 0 11 47 11),(11,.frz)],1⟩]⟩
noncomputable def rwo_B:Code:=(Tryd.f11.body).getD .skip
noncomputable def rwo_x:Code:=match codeAt [true,true,true,false,true,false] rwo_B with|some (.loop x)=>x|_=>.skip
theorem rwo_b:Tryd.f11.body=some rwo_B:=rfl
theorem rwo_p:codeAt [true,true,true,false,true,false] rwo_B=some (.loop rwo_x):=by kernel_rfl
def rwo_t:Tr:=.lt 3 (.len) [h 4 11] <| .lt 8 (.bin .lss) [h 2 3,h 5 3] <| .br 6 (.lt 8 (.bin .lss) [h 2 3,.int .i64 (16)] <| .br 7 (.dt 11 (.nilw 1) [] <| .fn rwi_s [h 0 11,h 1 3,h 2 3,.int .i64 (0),h 3 11,h 4 11,h 8 11] 6 <| .dt 11 (.snoc 1) [h 9 11,h 14 11] <| .lt 3 (.bin .add) [h 11 3,.int .i64 (1)] <| .ret [.int .i64 (-1),h 15 11,h 10 3,h 16 3,h 12 11,h 13 11]) (.ret [.int .i64 (0),h 0 11])) (.ret [.int .i64 (0),h 0 11])
def rwo_m:List U→Nat
 | [u_out,.int .i64 k,.int .i64 i,u_parts,u_many]=>(match decS rP u_out with|some out=>(match decS rU u_parts with|some parts=>(match decS rB u_many with|some many=>(16 - i).toNat|none=>0)|none=>0)|none=>0)
 | _=>0
theorem rwo_me (out:(Option (List (Option (List Int))))) (k:Int) (i:Int) (parts:(Option (List Int))) (many:(Option (List Int))):rwo_m [encS rP out,.int .i64 k,.int .i64 i,encS rU parts,encS rB many]=(16 - i).toNat:=by
 simp only [rwo_m,decS_enc]
theorem rwo_c {G:Nat→Option Obj} (hst:StartOk Tryd.prog G gl H0 n0):∀ (E:Nat→U) (base:Nat),@CodeOk ⟨E,G⟩ Tryd.prog base gl Tryd.f11.ntmps rwo_x (loopF Tryd.prog gl n0 12 rwo_D rwo_s):=by
 refine loop_ok (C:=cx L_sh P_rwi) (dep:=60) (f:=11) (n0:=n0) (nB:=12) (H0:=H0) rwo_m rwo_t (cxg (L_sh_ok hst) (P_rwi_ok hst)) hst Tryd.func11 rwo_b rwo_p (by kernel_rfl) (by kernel_rfl) (by kernel_rfl) ?_
 intro us d outs hs
 have hs0:=hs
 unfold rwo_s at hs
 split at hs
 ·skip
  rename_i u_out k i u_parts u_many
  have hq_out:=Option.bind_eq_some_iff.1 hs
  clear hs
  obtain ⟨out,hd_out,hs⟩:=hq_out
  replace hd_out:=decS_eq hd_out
  subst hd_out
  have hq_parts:=Option.bind_eq_some_iff.1 hs
  clear hs
  obtain ⟨parts,hd_parts,hs⟩:=hq_parts
  replace hd_parts:=decS_eq hd_parts
  subst hd_parts
  have hq_many:=Option.bind_eq_some_iff.1 hs
  clear hs
  obtain ⟨many,hd_many,hs⟩:=hq_many
  replace hd_many:=decS_eq hd_many
  subst hd_many
  split at hs
  ·rename_i hc
   clear hs hs0
   have hm2:=getB_bd (by decide) hc.2.2.2.2.2.2.2.1 i.toNat
   refine ⟨rfl,?_⟩
   unfold rwo_t
   refine s0 (.cons 4 _ (.cons 3 _ (.cons 2 _ (.cons 1 _ (.cons 0 _ (.nil)))))) rfl (by simp [Ev.ok,Ev.len]) ?_
   refine s1 (ev_lenS _ _) rfl rfl rfl ?_
   refine s1 (ev_lss _ _ _) rfl rfl rfl ?_
   refine s5 rfl (fun g0=>?_) fun g0=>?_
   ·refine s7 [.int .i64 _,encS rP _] rfl ?_
    refine leaf_exit (d:=0) ?_
    rw [rwo_s_e out k i parts many hc,many_end _ (by omega)]; rfl
   refine s1 (ev_lss _ _ _) rfl rfl rfl ?_
   refine s5 rfl (fun g1=>?_) fun g1=>?_
   ·refine s7 [.int .i64 _,encS rP _] rfl ?_
    refine leaf_exit (d:=0) ?_
    rw [rwo_s_e out k i parts many hc,many_end _ (by omega)]; rfl
   refine s2 (r:=rI) (ev_nilwS rfl) rfl rfl ?_
   refine s3 (rwi_s_e out k i 0 parts many none ⟨by omega,by omega,by omega,by omega,by omega,by unfold mI; omega,rfl,hc.2.2.2.2.2.1,hc.2.2.2.2.2.2.1,hc.2.2.2.2.2.2.2.1,hc.2.2.2.2.2.2.2.2⟩) rfl ?_
   show Tr.sav _ _ (.cons 14 _ (.cons 13 _ (.cons 12 _ (.cons 11 _ (.cons 10 _ (.cons 9 _ _))))))
   refine s2 (r:=rP) (ev_snocR rfl rfl (by decide) (by simp [*] <;> omega)) rfl rfl ?_
   first|refine s1 (ev_addW (wrap64 (by omega) (by omega))) rfl rfl rfl ?_|refine s1 (ev_add _ _ _) rfl rfl rfl ?_
   refine s7 [.int .i64 _,encS rP _,.int .i64 _,.int .i64 _,encS rU _,encS rB _] rfl ?_
   refine leaf_back ?_ ?_
   ·rw [rwo_s_e out k i parts many hc,many_step (el many) (by omega) (by omega) (by omega),rowsF,← catS_cons,show mI many i - 0=(el many).getD i.toNat default % 6+1 by unfold mI; omega,catS_one (by omega)]
    exact rwo_s_e _ _ _ _ _ ⟨by omega,by omega,by omega,by omega,by simp [el_some]; omega,hc.2.2.2.2.2⟩
   ·rw [rwo_me,rwo_me]; omega
  ·cases hs
 ·cases hs
noncomputable def P_rwo:List LpE:=(11,([true,true,true,false,true,false],loopF Tryd.prog gl n0 12 rwo_D rwo_s))::P_rwi
theorem P_rwo_ok {G:Nat→Option Obj} (hst:StartOk Tryd.prog G gl H0 n0):LpsOk Tryd.prog G gl P_rwo:=.cons Tryd.func11 rwo_b rwo_p (rwo_c hst) (P_rwi_ok hst)
def rowR (parts many:Option (List Int)):Option (List (Option (List Int))):=catS none (some (rowsF parts 0 ((el many).take 16)))
def rowF (parts many:Option (List Int)):Option (List (Option (List Int))):=if ((el (rowR parts many)).length:Int)=1∧((el (at0 (el (rowR parts many)))).length:Int)=1∧at0 (el (at0 (el (rowR parts many)))) = -1 then none else rowR parts many
def row_s:List U→Option (Nat × List U)
 | [u_parts,u_many]=>(decS rU u_parts).bind fun parts=>(decS rB u_many).bind fun many=>if (el many).length≤140737488351232∧(el parts).length≤140737488351232∧(∀ m ∈ el many,0≤m∧m≤255)∧(∀ q ∈ el parts,0≤q∧q≤65535) then some (0,[encS rP (rowF parts many)]) else none
 | _=>none
theorem row_s_e (parts:(Option (List Int))) (many:(Option (List Int))) (hc:(el many).length≤140737488351232∧(el parts).length≤140737488351232∧(∀ m ∈ el many,0≤m∧m≤255)∧(∀ q ∈ el parts,0≤q∧q≤65535)):row_s [encS rU parts,encS rB many]=some (0,[encS rP (rowF parts many)]):=by
 simp only [row_s,decS_enc,Option.bind_some]
 exact if_pos hc
def row_t:Tr:=.dt 11 (.nilw 1) [] <| .fn rwo_s [h 2 11,.int .i64 (0),.int .i64 (0),h 0 11,h 1 11] 1 <| .lt 3 (.len) [h 3 11] <| .lt 8 (.bin .eql) [h 4 3,.int .i64 (1)] <| .br 5 (.lt 8 (.inbs 1) [.int .i64 (0),h 3 11] <| .br 6 (.dt 11 (.get 1 0) [h 3 11,.int .i64 (0)] <| .lt 3 (.len) [h 7 11] <| .lt 8 (.bin .eql) [h 8 3,.int .i64 (1)] <| .br 9 (.lt 8 (.inbs 1) [.int .i64 (0),h 3 11] <| .br 10 (.dt 11 (.get 1 0) [h 3 11,.int .i64 (0)] <| .lt 8 (.inbs 1) [.int .i64 (0),h 11 11] <| .br 12 (.lt 3 (.get 1 0) [h 11 11,.int .i64 (0)] <| .lt 8 (.bin .eql) [h 13 3,.int .i64 (-1)] <| .br 14 (.dt 11 (.nilw 1) [] <| .ret [h 15 11]) (.ret [h 3 11])) (.no)) (.no)) (.ret [h 3 11])) (.no)) (.ret [h 3 11])
theorem row_c {G:Nat→Option Obj} (hst:StartOk Tryd.prog G gl H0 n0):ConOk Tryd.prog G 11 [.a [11,11]] row_s [.s 11]:=by
 refine con_of_tree (C:=cx L_sh P_rwo) (d:=60) row_t (cxg (L_sh_ok hst) (P_rwo_ok hst)) hst ⟨Tryd.f11,_,Tryd.func11,rfl⟩ (by kernel_rfl) (by kernel_rfl) ?_
 intro us outs hs
 unfold row_s at hs
 split at hs
 ·skip
  rename_i u_parts u_many
  have hq_parts:=Option.bind_eq_some_iff.1 hs
  clear hs
  obtain ⟨parts,hd_parts,hs⟩:=hq_parts
  replace hd_parts:=decS_eq hd_parts
  subst hd_parts
  have hq_many:=Option.bind_eq_some_iff.1 hs
  clear hs
  obtain ⟨many,hd_many,hs⟩:=hq_many
  replace hd_many:=decS_eq hd_many
  subst hd_many
  split at hs
  ·rename_i hc
   cases hs
   unfold row_t
   refine s0 (.cons 1 _ (.cons 0 _ (.nil))) rfl (by simp [Ev.ok,Ev.len]) ?_
   refine s2 (r:=rP) (ev_nilwS rfl) rfl rfl ?_
   refine s31 (rwo_s_e none 0 0 parts many ⟨by decide,by decide,by decide,by decide,rfl,hc⟩) rfl ?_
   refine s1 (ev_lenS _ _) rfl rfl rfl ?_
   refine s1 (ev_eql _ _ _) rfl rfl rfl ?_
   refine s5 rfl (fun g0=>?_) fun g0=>?_
   ·refine s7 [encS rP _] rfl ?_
    first|exact congrArg (fun x=>[encS rP x]) (show none=rowF parts many from (if_pos ⟨g0,g2,g5⟩).symm)|exact congrArg (fun x=>[encS rP x]) (show rowR parts many=rowF parts many from (if_neg fun h=>g5 h.2.2).symm)|exact congrArg (fun x=>[encS rP x]) (show rowR parts many=rowF parts many from (if_neg fun h=>g2 h.2.1).symm)|exact congrArg (fun x=>[encS rP x]) (show rowR parts many=rowF parts many from (if_neg fun h=>g0 h.1).symm)
   refine s1 (ev_inbsS rfl) rfl rfl rfl ?_
   refine s5 rfl (fun g1=>?_) fun g1=>?_
   ·refine s8 ?_
    first|omega|(simp_all; done)|(simp_all; omega)
   refine s2 (r:=rI) (ev_getS rfl (by omega) (by omega) rfl) rfl rfl ?_
   refine s1 (ev_lenS _ _) rfl rfl rfl ?_
   refine s1 (ev_eql _ _ _) rfl rfl rfl ?_
   refine s5 rfl (fun g2=>?_) fun g2=>?_
   ·refine s7 [encS rP _] rfl ?_
    first|exact congrArg (fun x=>[encS rP x]) (show none=rowF parts many from (if_pos ⟨g0,g2,g5⟩).symm)|exact congrArg (fun x=>[encS rP x]) (show rowR parts many=rowF parts many from (if_neg fun h=>g5 h.2.2).symm)|exact congrArg (fun x=>[encS rP x]) (show rowR parts many=rowF parts many from (if_neg fun h=>g2 h.2.1).symm)|exact congrArg (fun x=>[encS rP x]) (show rowR parts many=rowF parts many from (if_neg fun h=>g0 h.1).symm)
   refine s1 (ev_inbsS rfl) rfl rfl rfl ?_
   refine s5 rfl (fun g3=>?_) fun g3=>?_
   ·refine s8 ?_
    first|omega|(simp_all; done)|(simp_all; omega)
   refine s2 (r:=rI) (ev_getS rfl (by omega) (by omega) rfl) rfl rfl ?_
   refine s1 (ev_inbsS rfl) rfl rfl rfl ?_
   refine s5 rfl (fun g4=>?_) fun g4=>?_
   ·refine s8 ?_
    first|omega|(simp_all; done)|(simp_all; omega)
   refine s1 (u:=.int .i64 _) (ev_getS rfl (by omega) (by omega) rfl) rfl rfl rfl ?_
   refine s1 (ev_eql _ _ _) rfl rfl rfl ?_
   refine s5 rfl (fun g5=>?_) fun g5=>?_
   ·refine s7 [encS rP _] rfl ?_
    first|exact congrArg (fun x=>[encS rP x]) (show none=rowF parts many from (if_pos ⟨g0,g2,g5⟩).symm)|exact congrArg (fun x=>[encS rP x]) (show rowR parts many=rowF parts many from (if_neg fun h=>g5 h.2.2).symm)|exact congrArg (fun x=>[encS rP x]) (show rowR parts many=rowF parts many from (if_neg fun h=>g2 h.2.1).symm)|exact congrArg (fun x=>[encS rP x]) (show rowR parts many=rowF parts many from (if_neg fun h=>g0 h.1).symm)
   refine s2 (r:=rP) (ev_nilwS rfl) rfl rfl ?_
   refine s7 [encS rP _] rfl ?_
   first|exact congrArg (fun x=>[encS rP x]) (show none=rowF parts many from (if_pos ⟨g0,g2,g5⟩).symm)|exact congrArg (fun x=>[encS rP x]) (show rowR parts many=rowF parts many from (if_neg fun h=>g5 h.2.2).symm)|exact congrArg (fun x=>[encS rP x]) (show rowR parts many=rowF parts many from (if_neg fun h=>g2 h.2.1).symm)|exact congrArg (fun x=>[encS rP x]) (show rowR parts many=rowF parts many from (if_neg fun h=>g0 h.1).symm)
  ·cases hs
 ·cases hs
noncomputable def L_row:List (FuncId × FnC):=(11,conF Tryd.prog [.a [11,11]] row_s [.s 11])::L_sh
theorem L_row_ok {G:Nat→Option Obj} (hst:StartOk Tryd.prog G gl H0 n0):ConsOk Tryd.prog G gl L_row:=.cons (row_c hst) (L_sh_ok hst)
end Go.Proofs.YtadmkfclgpbebaaDoor

namespace Go.Proofs.YtadmkfclgpbebaaDoor
set_option linter.all false
open Go Go.Sx
set_option maxRecDepth 100000
set_option linter.unusedVariables false
set_option linter.unusedSimpArgs false
def chp_s:List U→Option (Nat × List U)
 | [u_l,u_x]=>(decS rP u_l).bind fun l=>(decS rI u_x).bind fun x=>if 1≤(el l).length∧(el l).length≤100000000 then some (0,[encS rP (some (el (subS l 0 (((el l).length:Int) - 1).toNat)++[x]))]) else none
 | _=>none
def chp_t:Tr:=.lt 3 (.len) [h 0 11] <| .lt 3 (.bin .sub) [h 2 3,.int .i64 (1)] <| .dt 11 (.subs 1) [h 0 11,.int .i64 (0),h 3 3] <| .dt 11 (.snoc 1) [h 4 11,h 1 11] <| .ret [h 5 11]
theorem chp_c {G:Nat→Option Obj} (hst:StartOk Tryd.prog G gl H0 n0):ConOk Tryd.prog G 32 [.s 11,.a [11]] chp_s [.s 11]:=by
 refine con_of_tree (C:=cx L_row P_rwo) (d:=60) chp_t (cxg (L_row_ok hst) (P_rwo_ok hst)) hst ⟨Tryd.f32,_,Tryd.func32,rfl⟩ (by kernel_rfl) (by kernel_rfl) ?_
 intro us outs hs
 unfold chp_s at hs
 split at hs
 ·skip
  rename_i u_l u_x
  have hq_l:=Option.bind_eq_some_iff.1 hs
  clear hs
  obtain ⟨l,hd_l,hs⟩:=hq_l
  replace hd_l:=decS_eq hd_l
  subst hd_l
  have hq_x:=Option.bind_eq_some_iff.1 hs
  clear hs
  obtain ⟨x,hd_x,hs⟩:=hq_x
  replace hd_x:=decS_eq hd_x
  subst hd_x
  split at hs
  ·rename_i hc
   cases hs
   unfold chp_t
   refine s0 (.cons 1 _ (.cons 0 _ (.nil))) rfl (by simp [Ev.ok,Ev.len]) ?_
   refine s1 (ev_lenS _ _) rfl rfl rfl ?_
   first|refine s1 (ev_subW (wrap64 (by omega) (by omega))) rfl rfl rfl ?_|refine s1 (ev_sub _ _ _) rfl rfl rfl ?_
   refine s2 (r:=rP) (ev_subsS rfl (by omega) (by omega) (by omega)) rfl rfl ?_
   refine s2 (r:=rP) (ev_snocR rfl rfl (by decide) (by rw [el_subS]; simp; omega)) rfl rfl ?_
   refine s7 [encS rP _] rfl ?_
   rfl
  ·cases hs
 ·cases hs
noncomputable def L_chp:List (FuncId × FnC):=(32,conF Tryd.prog [.s 11,.a [11]] chp_s [.s 11])::L_row
theorem L_chp_ok {G:Nat→Option Obj} (hst:StartOk Tryd.prog G gl H0 n0):ConsOk Tryd.prog G gl L_chp:=.cons (chp_c hst) (L_row_ok hst)
def chi_s:List U→Option (Nat × List U)
 | [u_l,.int .i64 x]=>(decS rI u_l).bind fun l=>if 1≤(el l).length∧(el l).length≤100000000 then some (0,[encS rI (some (el (subS l 0 (((el l).length:Int) - 1).toNat)++[x]))]) else none
 | _=>none
def chi_t:Tr:=.lt 3 (.len) [h 0 11] <| .lt 3 (.bin .sub) [h 2 3,.int .i64 (1)] <| .dt 11 (.subs 1) [h 0 11,.int .i64 (0),h 3 3] <| .dt 11 (.snoc 1) [h 4 11,h 1 3] <| .ret [h 5 11]
theorem chi_c {G:Nat→Option Obj} (hst:StartOk Tryd.prog G gl H0 n0):ConOk Tryd.prog G 33 [.s 11,.s 3] chi_s [.s 11]:=by
 refine con_of_tree (C:=cx L_chp P_rwo) (d:=60) chi_t (cxg (L_chp_ok hst) (P_rwo_ok hst)) hst ⟨Tryd.f33,_,Tryd.func33,rfl⟩ (by kernel_rfl) (by kernel_rfl) ?_
 intro us outs hs
 unfold chi_s at hs
 split at hs
 ·skip
  rename_i u_l x
  have hq_l:=Option.bind_eq_some_iff.1 hs
  clear hs
  obtain ⟨l,hd_l,hs⟩:=hq_l
  replace hd_l:=decS_eq hd_l
  subst hd_l
  split at hs
  ·rename_i hc
   cases hs
   unfold chi_t
   refine s0 (.cons 1 _ (.cons 0 _ (.nil))) rfl (by simp [Ev.ok,Ev.len]) ?_
   refine s1 (ev_lenS _ _) rfl rfl rfl ?_
   first|refine s1 (ev_subW (wrap64 (by omega) (by omega))) rfl rfl rfl ?_|refine s1 (ev_sub _ _ _) rfl rfl rfl ?_
   refine s2 (r:=rI) (ev_subsS rfl (by omega) (by omega) (by omega)) rfl rfl ?_
   refine s2 (r:=rI) (ev_snocR rfl rfl (by decide) (by rw [el_subS]; simp; omega)) rfl rfl ?_
   refine s7 [encS rI _] rfl ?_
   rfl
  ·cases hs
 ·cases hs
noncomputable def L_chi:List (FuncId × FnC):=(33,conF Tryd.prog [.s 11,.s 3] chi_s [.s 11])::L_chp
theorem L_chi_ok {G:Nat→Option Obj} (hst:StartOk Tryd.prog G gl H0 n0):ConsOk Tryd.prog G gl L_chi:=.cons (chi_c hst) (L_chp_ok hst)
def cpy_s:List U→Option (Nat × List U)
 | [u_l,u_out,.int .i64 i]=>(decS rP u_l).bind fun l=>(decS rP u_out).bind fun out=>if 0≤i∧i≤((el l).length:Int)∧((el out).length:Int)=i∧(el l).length≤100000000∧∀ p ∈ el l,(el p).length≤100000000 then some (0,[encS rP (catS out (some (((el l).drop i.toNat).map fun p=>catS (some []) p)))]) else none
 | _=>none
theorem cpy_s_e (l:(Option (List (Option (List Int))))) (out:(Option (List (Option (List Int))))) (i:Int) (hc:0≤i∧i≤((el l).length:Int)∧((el out).length:Int)=i∧(el l).length≤100000000∧∀ p ∈ el l,(el p).length≤100000000):cpy_s [encS rP l,encS rP out,.int .i64 i]=some (0,[encS rP (catS out (some (((el l).drop i.toNat).map fun p=>catS (some []) p)))]):=by
 simp only [cpy_s,decS_enc,Option.bind_some]
 exact if_pos hc
def cpy_D:LoopD:=⟨[(0,dat 5 0 11),(3,own 6 1 11),(4,h 2 3)],[(6,.sq 1 11 47 7),(5,.frz),(7,.frz)],3,[⟨.exit 0,[(3,own 8 0 11)],[(8,.sq 0 11 47 9),(9,.frz)],1⟩]⟩
noncomputable def cpy_B:Code:=(Tryd.f34.body).getD .skip
noncomputable def cpy_x:Code:=match codeAt [true,true,false,true,false] cpy_B with|some (.loop x)=>x|_=>.skip
theorem cpy_b:Tryd.f34.body=some cpy_B:=rfl
theorem cpy_p:codeAt [true,true,false,true,false] cpy_B=some (.loop cpy_x):=by kernel_rfl
def cpy_t:Tr:=.lt 3 (.len) [h 0 11] <| .lt 8 (.bin .lss) [h 2 3,h 3 3] <| .br 4 (.lt 8 (.inbs 1) [h 2 3,h 0 11] <| .br 5 (.dt 11 (.get 1 0) [h 0 11,h 2 3] <| .dt 11 (.mk 1) [] <| .dt 11 (.cat 1) [h 7 11,h 6 11] <| .dt 11 (.snoc 1) [h 1 11,h 8 11] <| .lt 3 (.bin .add) [h 2 3,.int .i64 (1)] <| .ret [.int .i64 (-1),h 0 11,h 9 11,h 10 3]) (.no)) (.ret [.int .i64 (0),h 1 11])
def cpy_m:List U→Nat
 | [u_l,u_out,.int .i64 i]=>(match decS rP u_l with|some l=>(match decS rP u_out with|some out=>((el l).length - i).toNat|none=>0)|none=>0)
 | _=>0
theorem cpy_me (l:(Option (List (Option (List Int))))) (out:(Option (List (Option (List Int))))) (i:Int):cpy_m [encS rP l,encS rP out,.int .i64 i]=((el l).length - i).toNat:=by
 simp only [cpy_m,decS_enc]
theorem cpy_c {G:Nat→Option Obj} (hst:StartOk Tryd.prog G gl H0 n0):∀ (E:Nat→U) (base:Nat),@CodeOk ⟨E,G⟩ Tryd.prog base gl Tryd.f34.ntmps cpy_x (loopF Tryd.prog gl n0 10 cpy_D cpy_s):=by
 refine loop_ok (C:=cx L_chi P_rwo) (dep:=60) (f:=34) (n0:=n0) (nB:=10) (H0:=H0) cpy_m cpy_t (cxg (L_chi_ok hst) (P_rwo_ok hst)) hst Tryd.func34 cpy_b cpy_p (by kernel_rfl) (by kernel_rfl) (by kernel_rfl) ?_
 intro us d outs hs
 have hs0:=hs
 unfold cpy_s at hs
 split at hs
 ·skip
  rename_i u_l u_out i
  have hq_l:=Option.bind_eq_some_iff.1 hs
  clear hs
  obtain ⟨l,hd_l,hs⟩:=hq_l
  replace hd_l:=decS_eq hd_l
  subst hd_l
  have hq_out:=Option.bind_eq_some_iff.1 hs
  clear hs
  obtain ⟨out,hd_out,hs⟩:=hq_out
  replace hd_out:=decS_eq hd_out
  subst hd_out
  split at hs
  ·rename_i hc
   clear hs hs0
   have hp:∀ j:Int,0≤j→j < ((el l).length:Int)→(el ((el l).getD j.toNat default)).length≤100000000:=fun j h0 h1=>all_get hc.2.2.2.2 h0 h1
   have hpi:=hp i hc.1
   refine ⟨rfl,?_⟩
   unfold cpy_t
   refine s0 (.cons 2 _ (.cons 1 _ (.cons 0 _ (.nil)))) rfl (by simp [Ev.ok,Ev.len]) ?_
   refine s1 (ev_lenS _ _) rfl rfl rfl ?_
   refine s1 (ev_lss _ _ _) rfl rfl rfl ?_
   refine s5 rfl (fun g0=>?_) fun g0=>?_
   ·refine s7 [.int .i64 _,encS rP _] rfl ?_
    refine leaf_exit (d:=0) ?_
    rw [cpy_s_e l out i hc,drop_end _ (by omega)]; rfl
   refine s1 (ev_inbsS rfl) rfl rfl rfl ?_
   refine s5 rfl (fun g1=>?_) fun g1=>?_
   ·refine s8 ?_
    first|omega|(simp_all; done)|(simp_all; omega)
   refine s2 (r:=rI) (ev_getS rfl (by omega) (by omega) rfl) rfl rfl ?_
   refine s2 (r:=rI) (ev_mkS [] rfl (by decide) rfl) rfl rfl ?_
   refine s2 (r:=rI) (ev_catS rfl (by first|(rw [show (el (some ([]:List Int))).length=0 from rfl]; omega)|omega)) rfl rfl ?_
   refine s2 (r:=rP) (ev_snocR rfl rfl (by decide) (by first|(rw [show (el (some ([]:List Int))).length=0 from rfl]; omega)|omega)) rfl rfl ?_
   first|refine s1 (ev_addW (wrap64 (by omega) (by omega))) rfl rfl rfl ?_|refine s1 (ev_add _ _ _) rfl rfl rfl ?_
   refine s7 [.int .i64 _,encS rP _,encS rP _,.int .i64 _] rfl ?_
   refine leaf_back ?_ ?_
   ·rw [cpy_s_e l out i hc,drop_step (el l) (by omega) (by omega),List.map_cons,← catS_cons]
    exact cpy_s_e _ _ _ ⟨by omega,by omega,by simp [el_some]; omega,hc.2.2.2⟩
   ·rw [cpy_me,cpy_me]; omega
  ·cases hs
 ·cases hs
noncomputable def P_cpy:List LpE:=(34,([true,true,false,true,false],loopF Tryd.prog gl n0 10 cpy_D cpy_s))::P_rwo
theorem P_cpy_ok {G:Nat→Option Obj} (hst:StartOk Tryd.prog G gl H0 n0):LpsOk Tryd.prog G gl P_cpy:=.cons Tryd.func34 cpy_b cpy_p (cpy_c hst) (P_rwo_ok hst)
def cpd_s:List U→Option (Nat × List U)
 | [u_l]=>(decS rP u_l).bind fun l=>if (el l).length≤100000000∧∀ p ∈ el l,(el p).length≤100000000 then some (0,[encS rP (catS none (some ((el l).map fun p=>catS (some []) p)))]) else none
 | _=>none
def cpd_t:Tr:=.dt 11 (.nilw 1) [] <| .fn cpy_s [h 0 11,h 1 11,.int .i64 (0)] 1 <| .ret [h 2 11]
theorem cpd_c {G:Nat→Option Obj} (hst:StartOk Tryd.prog G gl H0 n0):ConOk Tryd.prog G 34 [.s 11] cpd_s [.s 11]:=by
 refine con_of_tree (C:=cx L_chi P_cpy) (d:=60) cpd_t (cxg (L_chi_ok hst) (P_cpy_ok hst)) hst ⟨Tryd.f34,_,Tryd.func34,rfl⟩ (by kernel_rfl) (by kernel_rfl) ?_
 intro us outs hs
 unfold cpd_s at hs
 split at hs
 ·skip
  rename_i u_l
  have hq_l:=Option.bind_eq_some_iff.1 hs
  clear hs
  obtain ⟨l,hd_l,hs⟩:=hq_l
  replace hd_l:=decS_eq hd_l
  subst hd_l
  split at hs
  ·rename_i hc
   cases hs
   unfold cpd_t
   refine s0 (.cons 0 _ (.nil)) rfl (by simp [Ev.ok,Ev.len]) ?_
   refine s2 (r:=rP) (ev_nilwS rfl) rfl rfl ?_
   refine s31 (cpy_s_e l none 0 ⟨by decide,by omega,rfl,hc⟩) rfl ?_
   refine s7 [encS rP _] rfl ?_
   rfl
  ·cases hs
 ·cases hs
noncomputable def L_cpd:List (FuncId × FnC):=(34,conF Tryd.prog [.s 11] cpd_s [.s 11])::L_chi
theorem L_cpd_ok {G:Nat→Option Obj} (hst:StartOk Tryd.prog G gl H0 n0):ConsOk Tryd.prog G gl L_cpd:=.cons (cpd_c hst) (L_chi_ok hst)
end Go.Proofs.YtadmkfclgpbebaaDoor
