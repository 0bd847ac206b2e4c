/- The law PickWords: for every input the call returns true, and the arguments read behind it as they read before. No condition. -/
import Derived.Test.YtdkdbjgkedahfaaDoorX8
namespace Go.Proofs.YtdkdbjgkedahfaaDoor
set_option linter.all false
open Go Go.Sx
set_option maxRecDepth 100000
set_option linter.unusedVariables false
set_option linter.unusedSimpArgs false
abbrev Row:=Option (List Cel) × Bool
def badR (w:Int) (r:Row):Bool:=decide (rowS (el r.1)≠0) || decide (((el r.1).length:Int)≠w)
theorem badR_a {w:Int} {r:Row} (h:rowS (el r.1)≠0):badR w r=true:=by unfold badR; rw [decide_eq_true h]; rfl
theorem badR_b {w:Int} {r:Row} (h:((el r.1).length:Int)≠w):badR w r=true:=by unfold badR; rw [decide_eq_true h,Bool.or_true]
theorem badR_n {w:Int} {r:Row} (h:¬rowS (el r.1)≠0) (h2:¬((el r.1).length:Int)≠w):badR w r=false:=by unfold badR; rw [decide_eq_false h,decide_eq_false h2]; rfl
def colN (rows:Option (List Row)):Int:=((el ((el rows).getD 0 default).1).length:Int)
def aRows (rows:Option (List Row)):Prop:=∀ r ∈ el rows,∀ c ∈ el r.1,aOk c
instance (rows:Option (List Row)):Decidable (aRows rows):=by unfold aRows; infer_instance
noncomputable def U_pkl:List (FuncId × FnC):=(78,conF Tryd.prog [.a [22,8]] rck_s [.s 3])::L0
theorem U_pkl_ok {G:Nat→Option Obj} (hst:StartOk Tryd.prog G gl H0 n0):ConsOk Tryd.prog G gl U_pkl:=(.cons (rck_c hst) .nil)
def pkl_l:List U→Option (Nat × List U)
 | [u_rows,u_s,.int .i64 n,.int .i64 i]=>(decS rRw u_rows).bind fun rows=>(decS rRw u_s).bind fun s=>if n=((el s).length:Int)∧0≤i∧i≤n∧n≤1000∧0 < ((el rows).length:Int)∧aRows s then way01 (findI (badR (colN rows)) ((el s).drop i.toNat) i) [] (fun _=>[.int .i64 420]) else none
 | _=>none
theorem pkl_l_e (rows:(Option (List ((Option (List (Int × Int × Int × Int × Int × Int × Int × Int × Int × Int × Int × Int))) × Bool)))) (s:(Option (List ((Option (List (Int × Int × Int × Int × Int × Int × Int × Int × Int × Int × Int × Int))) × Bool)))) (n:Int) (i:Int) (hc:n=((el s).length:Int)∧0≤i∧i≤n∧n≤1000∧0 < ((el rows).length:Int)∧aRows s):pkl_l [encS rRw rows,encS rRw s,.int .i64 n,.int .i64 i]=way01 (findI (badR (colN rows)) ((el s).drop i.toNat) i) [] (fun _=>[.int .i64 420]):=by
 simp only [pkl_l,decS_enc,Option.bind_some]
 exact if_pos hc
def pkl_D:LoopD:=⟨[(0,dat 4 0 12),(13,dat 5 1 12),(14,h 2 3),(15,h 3 3)],[(4,.frz),(5,.frz)],4,[⟨.exit 0,[],[],0⟩,⟨.ret,[(2,h 0 3)],[],1⟩]⟩
noncomputable def pkl_B:Code:=(Tryd.f61.body).getD .skip
noncomputable def pkl_x:Code:=match codeAt [true,true,false,true,false] pkl_B with|some (.loop x)=>x|_=>.skip
theorem pkl_b:Tryd.f61.body=some pkl_B:=rfl
theorem pkl_p:codeAt [true,true,false,true,false] pkl_B=some (.loop pkl_x):=by kernel_rfl
def pkl_t:Tr:=.lt 8 (.bin .lss) [h 3 3,h 2 3] <| .br 4 (.lt 8 (.inbs 2) [h 3 3,h 1 12] <| .br 5 (.dt 22 (.get 2 0) [h 1 12,h 3 3] <| .lt 8 (.get 2 1) [h 1 12,h 3 3] <| .fn rck_s [h 6 22,h 7 8] 1 <| .lt 8 (.bin .neq) [h 8 3,.int .i64 (0)] <| .br 9 (.ret [.int .i64 (1),.int .i64 (420)]) (.lt 3 (.len) [h 6 22] <| .lt 8 (.inbs 2) [.int .i64 (0),h 0 12] <| .br 11 (.dt 22 (.get 2 0) [h 0 12,.int .i64 (0)] <| .lt 3 (.len) [h 12 22] <| .lt 8 (.bin .neq) [h 10 3,h 13 3] <| .br 14 (.ret [.int .i64 (1),.int .i64 (420)]) (.lt 3 (.bin .add) [h 3 3,.int .i64 (1)] <| .ret [.int .i64 (-1),h 0 12,h 1 12,h 2 3,h 15 3])) (.no))) (.no)) (.ret [.int .i64 (0)])
def pkl_m:List U→Nat
 | [u_rows,u_s,.int .i64 n,.int .i64 i]=>(match decS rRw u_rows with|some rows=>(match decS rRw u_s with|some s=>(n - i).toNat|none=>0)|none=>0)
 | _=>0
theorem pkl_me (rows:(Option (List ((Option (List (Int × Int × Int × Int × Int × Int × Int × Int × Int × Int × Int × Int))) × Bool)))) (s:(Option (List ((Option (List (Int × Int × Int × Int × Int × Int × Int × Int × Int × Int × Int × Int))) × Bool)))) (n:Int) (i:Int):pkl_m [encS rRw rows,encS rRw s,.int .i64 n,.int .i64 i]=(n - i).toNat:=by
 simp only [pkl_m,decS_enc]
theorem pkl_c {G:Nat→Option Obj} (hst:StartOk Tryd.prog G gl H0 n0):∀ (E:Nat→U) (base:Nat),@CodeOk ⟨E,G⟩ Tryd.prog base gl Tryd.f61.ntmps pkl_x (loopF Tryd.prog gl n0 6 pkl_D pkl_l):=by
 refine loop_ok (C:=cx U_pkl P_rwl) (dep:=60) (f:=61) (n0:=n0) (nB:=6) (H0:=H0) pkl_m pkl_t (cxg (U_pkl_ok hst) (P_rwl_ok hst)) hst Tryd.func61 pkl_b pkl_p (by kernel_rfl) (by kernel_rfl) (by kernel_rfl) ?_
 intro us d outs hs
 have hs0:=hs
 unfold pkl_l at hs
 split at hs
 ·skip
  rename_i u_rows u_s n i
  have hq_rows:=Option.bind_eq_some_iff.1 hs
  clear hs
  obtain ⟨rows,hd_rows,hs⟩:=hq_rows
  replace hd_rows:=decS_eq hd_rows
  subst hd_rows
  have hq_s:=Option.bind_eq_some_iff.1 hs
  clear hs
  obtain ⟨s,hd_s,hs⟩:=hq_s
  replace hd_s:=decS_eq hd_s
  subst hd_s
  split at hs
  ·rename_i hc
   clear hs hs0
   refine ⟨rfl,?_⟩
   unfold pkl_t
   refine s0 (.cons 3 _ (.cons 2 _ (.cons 1 _ (.cons 0 _ (.nil))))) rfl (by simp [Ev.ok,Ev.len]) ?_
   refine s1 (ev_lss _ _ _) rfl rfl rfl ?_
   refine s5 rfl (fun g0=>?_) fun g0=>?_
   ·refine s7 [.int .i64 _] rfl ?_
    refine leaf_exit (d:=0) ?_
    rw [pkl_l_e rows s n i hc,findI_end (by omega)]; rfl
   refine s1 (ev_inbsS rfl) rfl rfl rfl ?_
   refine s5 rfl (fun g1=>?_) fun g1=>?_
   ·refine s8 ?_
    omega
   refine s2 (r:=rCl) (ev_getS rfl (by omega) (by omega) rfl) rfl rfl ?_
   refine s1 (u:=.bool _) (ev_getS rfl (by omega) (by omega) rfl) rfl rfl rfl ?_
   refine s31 (rck_s_e _ _ (hc.2.2.2.2.2 _ (getD_mem (by omega) (by omega)))) rfl ?_
   refine s1 (ev_neq _ _ _) rfl rfl rfl ?_
   refine s4 rfl (fun g2=>?_) fun g2=>?_
   ·refine s7 [.int .i64 _,.int .i64 _] rfl ?_
    refine leaf_exit (d:=1) ?_
    rw [pkl_l_e rows s n i hc,findI_hit (by omega) (by omega) (by first|exact badR_a (by assumption)|exact badR_b (by assumption))]; rfl
   refine s1 (ev_lenS _ _) rfl rfl rfl ?_
   refine s1 (ev_inbsS rfl) rfl rfl rfl ?_
   refine s5 rfl (fun g3=>?_) fun g3=>?_
   ·refine s8 ?_
    omega
   refine s2 (r:=rCl) (ev_getS rfl (by omega) (by omega) rfl) rfl rfl ?_
   refine s1 (ev_lenS _ _) rfl rfl rfl ?_
   refine s1 (ev_neq _ _ _) rfl rfl rfl ?_
   refine s4 rfl (fun g4=>?_) fun g4=>?_
   ·refine s7 [.int .i64 _,.int .i64 _] rfl ?_
    refine leaf_exit (d:=1) ?_
    rw [pkl_l_e rows s n i hc,findI_hit (by omega) (by omega) (by first|exact badR_a (by assumption)|exact badR_b (by assumption))]; rfl
   first|refine s1 (ev_addW (wrap64 (by omega) (by omega))) rfl rfl rfl ?_|refine s1 (ev_add _ _ _) rfl rfl rfl ?_
   refine s7 [.int .i64 _,encS rRw _,encS rRw _,.int .i64 _,.int .i64 _] rfl ?_
   refine leaf_back ?_ ?_
   ·rw [pkl_l_e rows s n (i+1) ⟨hc.1,by omega,by omega,hc.2.2.2⟩,pkl_l_e rows s n i hc,findI_miss (i:=i) (by omega) (by omega) (badR_n (by assumption) (by assumption))]
   ·rw [pkl_me,pkl_me]; omega
  ·cases hs
 ·cases hs
noncomputable def P_pkl:List LpE:=(61,([true,true,false,true,false],loopF Tryd.prog gl n0 6 pkl_D pkl_l))::P_rwl
theorem P_pkl_ok {G:Nat→Option Obj} (hst:StartOk Tryd.prog G gl H0 n0):LpsOk Tryd.prog G gl P_pkl:=.cons Tryd.func61 pkl_b pkl_p (pkl_c hst) (P_rwl_ok hst)
def chkS (rows:Option (List Row)):Int:=if ((el rows).length:Int)=0∨140 < ((el rows).length:Int) then 420 else if (el rows).any (badR (colN rows))=true then 420 else 0
theorem chkS_a {rows:Option (List Row)} (h:((el rows).length:Int)=0∨140 < ((el rows).length:Int)):chkS rows=420:=if_pos h
theorem chkS_b {rows:Option (List Row)} (h:¬(((el rows).length:Int)=0∨140 < ((el rows).length:Int))) {j:Int} (h2:findI (badR (colN rows)) ((el rows).drop (0:Int).toNat) 0=some j):chkS rows=420:=by
 unfold chkS; rw [if_neg h,if_pos]
 rcases findI_any (p:=badR (colN rows)) (el rows) 0 (by decide) with ⟨q,_⟩|⟨j,q,_,q2⟩
 ·rw [drop_zero',q] at h2; cases h2
 ·exact q2
theorem chkS_c {rows:Option (List Row)} (h:¬(((el rows).length:Int)=0∨140 < ((el rows).length:Int))) (h2:findI (badR (colN rows)) ((el rows).drop (0:Int).toNat) 0=none):chkS rows=0:=by
 unfold chkS; rw [if_neg h,if_neg]
 rcases findI_any (p:=badR (colN rows)) (el rows) 0 (by decide) with ⟨_,q⟩|⟨j,q,_⟩
 ·rw [q]; decide
 ·rw [drop_zero',q] at h2; cases h2
noncomputable def U_pck:List (FuncId × FnC):=(78,conF Tryd.prog [.a [22,8]] rck_s [.s 3])::L0
theorem U_pck_ok {G:Nat→Option Obj} (hst:StartOk Tryd.prog G gl H0 n0):ConsOk Tryd.prog G gl U_pck:=(.cons (rck_c hst) .nil)
def pck_s:List U→Option (Nat × List U)
 | [u_rows]=>(decS rRw u_rows).bind fun rows=>if aRows rows then some (0,[.int .i64 (chkS rows)]) else none
 | _=>none
theorem pck_s_e (rows:(Option (List ((Option (List (Int × Int × Int × Int × Int × Int × Int × Int × Int × Int × Int × Int))) × Bool)))) (hc:aRows rows):pck_s [encS rRw rows]=some (0,[.int .i64 (chkS rows)]):=by
 simp only [pck_s,decS_enc,Option.bind_some]
 exact if_pos hc
def pck_t:Tr:=.lt 3 (.len) [h 0 12] <| .lt 8 (.bin .eql) [h 1 3,.int .i64 (0)] <| .br 2 (.ret [.int .i64 (420)]) (.lt 8 (.bin .gtr) [h 1 3,.int .i64 (140)] <| .br 3 (.ret [.int .i64 (420)]) (.lp pkl_l [h 0 12,h 0 12,h 1 3,.int .i64 (0)] 0 0 (.ret [.int .i64 (0)]) (.lp pkl_l [h 0 12,h 0 12,h 1 3,.int .i64 (0)] 1 1 (.ret [h 4 3]) (.no))))
theorem pck_c {G:Nat→Option Obj} (hst:StartOk Tryd.prog G gl H0 n0):ConOk Tryd.prog G 61 [.s 12] pck_s [.s 3]:=by
 refine con_of_tree (C:=cx U_pck P_pkl) (d:=60) pck_t (cxg (U_pck_ok hst) (P_pkl_ok hst)) hst ⟨Tryd.f61,_,Tryd.func61,rfl⟩ (by kernel_rfl) (by kernel_rfl) ?_
 intro us outs hs
 unfold pck_s at hs
 split at hs
 ·skip
  rename_i u_rows
  have hq_rows:=Option.bind_eq_some_iff.1 hs
  clear hs
  obtain ⟨rows,hd_rows,hs⟩:=hq_rows
  replace hd_rows:=decS_eq hd_rows
  subst hd_rows
  split at hs
  ·rename_i hc
   cases hs
   unfold pck_t
   refine s0 (.cons 0 _ (.nil)) rfl (by simp [Ev.ok,Ev.len]) ?_
   refine s1 (ev_lenS _ _) rfl rfl rfl ?_
   refine s1 (ev_eql _ _ _) rfl rfl rfl ?_
   refine s4 rfl (fun g0=>?_) fun g0=>?_
   ·refine s7 [.int .i64 _] rfl ?_
    refine congrArg (fun z=>[U.int .i64 z]) ?_; symm; first|exact chkS_a (by omega)|exact chkS_b (by omega) (by assumption)|exact chkS_c (by omega) (by assumption)
   refine s1 (ev_gtr _ _ _) rfl rfl rfl ?_
   refine s4 rfl (fun g1=>?_) fun g1=>?_
   ·refine s7 [.int .i64 _] rfl ?_
    refine congrArg (fun z=>[U.int .i64 z]) ?_; symm; first|exact chkS_a (by omega)|exact chkS_b (by omega) (by assumption)|exact chkS_c (by omega) (by assumption)
   refine s6 (pkl_l_e rows rows _ 0 ⟨rfl,by decide,by omega,by omega,by omega,hc⟩) rfl (fun _=>rfl) (fun g2=>?_) (fun v2 g2=>?_)
   ·show Tr.sav _ _ _
    refine s7 [.int .i64 _] rfl ?_
    refine congrArg (fun z=>[U.int .i64 z]) ?_; symm; first|exact chkS_a (by omega)|exact chkS_b (by omega) (by assumption)|exact chkS_c (by omega) (by assumption)
   show Tr.sav _ _ (.cons 4 _ _)
   refine s7 [.int .i64 _] rfl ?_
   refine congrArg (fun z=>[U.int .i64 z]) ?_; symm; first|exact chkS_a (by omega)|exact chkS_b (by omega) (by assumption)|exact chkS_c (by omega) (by assumption)
  ·cases hs
 ·cases hs
noncomputable def L_pck:List (FuncId × FnC):=(61,conF Tryd.prog [.s 12] pck_s [.s 3])::L_rck
theorem L_pck_ok {G:Nat→Option Obj} (hst:StartOk Tryd.prog G gl H0 n0):ConsOk Tryd.prog G gl L_pck:=.cons (pck_c hst) (L_rck_ok hst)
end Go.Proofs.YtdkdbjgkedahfaaDoor

namespace Go.Proofs.YtdkdbjgkedahfaaDoor
set_option linter.all false
open Go Go.Sx
set_option maxRecDepth 100000
set_option linter.unusedVariables false
set_option linter.unusedSimpArgs false
def fstN (l:List Row):Nat→Nat
 | 0=>0
 | k+1=>if (l.getD k default).2=true then fstN l k else k+1
def lstN (l:List Row):Nat→Nat→Nat
 | 0,i=>i
 | f+1,i=>if (l.getD i default).2=true∧i+1 < l.length then lstN l f (i+1) else i
def fstS (l:List Row) (i:Int):Int:=fstN l i.toNat
def lstS (l:List Row) (i:Int):Int:=lstN l (l.length - i.toNat) i.toNat
theorem fstS_0 {l:List Row} {i:Int} (h:¬0 < i) (h0:0≤i):fstS l i=i:=by
 have:i=0:=by omega
 subst this; rfl
theorem fstS_go {l:List Row} {i:Int} (h:0 < i) (h2:(l.getD (i - 1).toNat default).2=true):fstS l i=fstS l (i - 1):=by
 unfold fstS
 rw [show i.toNat=(i - 1).toNat+1 by omega,fstN,if_pos h2]
theorem fstS_no {l:List Row} {i:Int} (h:0 < i) (h2:(l.getD (i - 1).toNat default).2=false):fstS l i=i:=by
 unfold fstS
 rw [show i.toNat=(i - 1).toNat+1 by omega,fstN,if_neg (by rw [h2]; decide)]
 omega
theorem lstS_go {l:List Row} {i:Int} (h0:0≤i) (h:(l.getD i.toNat default).2=true) (h2:i+1 < (l.length:Int)):lstS l i=lstS l (i+1):=by
 unfold lstS
 rw [show l.length - i.toNat=(l.length - (i+1).toNat)+1 by omega,lstN,if_pos ⟨h,by omega⟩,show (i+1).toNat=i.toNat+1 by omega]
theorem lstS_n {l:List Row} {i:Int} (h0:0≤i) (h:(l.getD i.toNat default).2=false∨¬i+1 < (l.length:Int)):lstS l i=i:=by
 unfold lstS
 cases hk:l.length - i.toNat with
 | zero=>show ((i.toNat:Nat):Int)=i; omega
 | succ k =>
   rw [lstN,if_neg]
   ·omega
   ·rintro ⟨h1,h2⟩
    rcases h with h|h
    ·rw [h] at h1; cases h1
    ·omega
theorem fstN_le (l:List Row):∀ k,fstN l k≤k
 | 0=>Nat.le_refl _
 | k+1=>by unfold fstN; split; exact Nat.le_succ_of_le (fstN_le l k); exact Nat.le_refl _
theorem lstN_le (l:List Row):∀ f i,i≤lstN l f i∧(i < l.length→lstN l f i < l.length)
 | 0,i=>⟨Nat.le_refl _,id⟩
 | f+1,i=>by
   unfold lstN
   split
   ·rename_i h; obtain ⟨a,b⟩:=lstN_le l f (i+1); exact ⟨by omega,fun _=>b h.2⟩
   ·exact ⟨Nat.le_refl _,id⟩
theorem line_bd {l:List Row} {i:Int} (h0:0≤i) (h1:i < (l.length:Int)):0≤fstS l i∧fstS l i≤i∧i≤lstS l i∧lstS l i < (l.length:Int):=by
 have a:=fstN_le l i.toNat
 obtain ⟨b,c⟩:=lstN_le l (l.length - i.toNat) i.toNat
 have c:=c (by omega)
 unfold fstS lstS
 omega
noncomputable def U_ln1:List (FuncId × FnC):=L0
theorem U_ln1_ok {G:Nat→Option Obj} (hst:StartOk Tryd.prog G gl H0 n0):ConsOk Tryd.prog G gl U_ln1:=.nil
def ln1_s:List U→Option (Nat × List U)
 | [u_rows,.int .i64 first,.int .i64 last]=>(decS rRw u_rows).bind fun rows=>if 0≤first∧first < ((el rows).length:Int)∧((el rows).length:Int)≤1000000 then some (0,[encS rRw rows,.int .i64 (fstS (el rows) first),.int .i64 last]) else none
 | _=>none
theorem ln1_s_e (rows:(Option (List ((Option (List (Int × Int × Int × Int × Int × Int × Int × Int × Int × Int × Int × Int))) × Bool)))) (first:Int) (last:Int) (hc:0≤first∧first < ((el rows).length:Int)∧((el rows).length:Int)≤1000000):ln1_s [encS rRw rows,.int .i64 first,.int .i64 last]=some (0,[encS rRw rows,.int .i64 (fstS (el rows) first),.int .i64 last]):=by
 simp only [ln1_s,decS_enc,Option.bind_some]
 exact if_pos hc
def ln1_D:LoopD:=⟨[(0,dat 4 0 12),(4,h 1 3),(5,h 2 3)],[(4,.frz)],3,[⟨.exit 0,[(0,dat 5 0 12),(4,h 1 3),(5,h 2 3)],[(5,.frz)],3⟩]⟩
noncomputable def ln1_B:Code:=(Tryd.f45.body).getD .skip
noncomputable def ln1_x:Code:=match codeAt [true,true,false,false] ln1_B with|some (.loop x)=>x|_=>.skip
theorem ln1_b:Tryd.f45.body=some ln1_B:=rfl
theorem ln1_p:codeAt [true,true,false,false] ln1_B=some (.loop ln1_x):=by kernel_rfl
def ln1_t:Tr:=.lt 8 (.bin .gtr) [h 1 3,.int .i64 (0)] <| .br 3 (.lt 3 (.bin .sub) [h 1 3,.int .i64 (1)] <| .lt 8 (.inbs 2) [h 4 3,h 0 12] <| .br 5 (.lt 8 (.get 2 1) [h 0 12,h 4 3] <| .br 6 (.lt 3 (.bin .sub) [h 1 3,.int .i64 (1)] <| .ret [.int .i64 (-1),h 0 12,h 7 3,h 2 3]) (.ret [.int .i64 (0),h 0 12,h 1 3,h 2 3])) (.no)) (.ret [.int .i64 (0),h 0 12,h 1 3,h 2 3])
def ln1_m:List U→Nat
 | [u_rows,.int .i64 first,.int .i64 last]=>(match decS rRw u_rows with|some rows=>first.toNat|none=>0)
 | _=>0
theorem ln1_me (rows:(Option (List ((Option (List (Int × Int × Int × Int × Int × Int × Int × Int × Int × Int × Int × Int))) × Bool)))) (first:Int) (last:Int):ln1_m [encS rRw rows,.int .i64 first,.int .i64 last]=first.toNat:=by
 simp only [ln1_m,decS_enc]
theorem ln1_c {G:Nat→Option Obj} (hst:StartOk Tryd.prog G gl H0 n0):∀ (E:Nat→U) (base:Nat),@CodeOk ⟨E,G⟩ Tryd.prog base gl Tryd.f45.ntmps ln1_x (loopF Tryd.prog gl n0 6 ln1_D ln1_s):=by
 refine loop_ok (C:=cx U_ln1 P_pkl) (dep:=60) (f:=45) (n0:=n0) (nB:=6) (H0:=H0) ln1_m ln1_t (cxg (U_ln1_ok hst) (P_pkl_ok hst)) hst Tryd.func45 ln1_b ln1_p (by kernel_rfl) (by kernel_rfl) (by kernel_rfl) ?_
 intro us d outs hs
 have hs0:=hs
 unfold ln1_s at hs
 split at hs
 ·skip
  rename_i u_rows first last
  have hq_rows:=Option.bind_eq_some_iff.1 hs
  clear hs
  obtain ⟨rows,hd_rows,hs⟩:=hq_rows
  replace hd_rows:=decS_eq hd_rows
  subst hd_rows
  split at hs
  ·rename_i hc
   clear hs hs0
   refine ⟨rfl,?_⟩
   unfold ln1_t
   refine s0 (.cons 2 _ (.cons 1 _ (.cons 0 _ (.nil)))) rfl (by simp [Ev.ok,Ev.len]) ?_
   refine s1 (ev_gtr _ _ _) rfl rfl rfl ?_
   refine s5 rfl (fun g0=>?_) fun g0=>?_
   ·refine s7 [.int .i64 _,encS rRw _,.int .i64 _,.int .i64 _] rfl ?_
    refine leaf_exit (d:=0) ?_
    rw [ln1_s_e rows first last hc]; first|(rw [fstS_0 (by assumption) (by omega)]; done)|(rw [fstS_no (by assumption) (by assumption)]; done)
   first|refine s1 (ev_subW (wrap64 (by omega) (by omega))) rfl rfl rfl ?_|refine s1 (ev_sub _ _ _) rfl rfl rfl ?_
   refine s1 (ev_inbsS rfl) rfl rfl rfl ?_
   refine s5 rfl (fun g1=>?_) fun g1=>?_
   ·refine s8 ?_
    first|omega|(simp_all; done)|(simp_all; omega)
   refine s1 (u:=.bool _) (ev_getS rfl (by omega) (by omega) rfl) rfl rfl rfl ?_
   refine s5B rfl (fun g2=>?_) fun g2=>?_
   ·refine s7 [.int .i64 _,encS rRw _,.int .i64 _,.int .i64 _] rfl ?_
    refine leaf_exit (d:=0) ?_
    rw [ln1_s_e rows first last hc]; first|(rw [fstS_0 (by assumption) (by omega)]; done)|(rw [fstS_no (by assumption) (by assumption)]; done)
   first|refine s1 (ev_subW (wrap64 (by omega) (by omega))) rfl rfl rfl ?_|refine s1 (ev_sub _ _ _) rfl rfl rfl ?_
   refine s7 [.int .i64 _,encS rRw _,.int .i64 _,.int .i64 _] rfl ?_
   refine leaf_back ?_ ?_
   ·rw [ln1_s_e rows first last hc,fstS_go (by assumption) (by assumption)]; exact ln1_s_e _ _ _ ⟨by omega,by omega,hc.2.2⟩
   ·rw [ln1_me,ln1_me]; omega
  ·cases hs
 ·cases hs
noncomputable def P_ln1:List LpE:=(45,([true,true,false,false],loopF Tryd.prog gl n0 6 ln1_D ln1_s))::P_pkl
theorem P_ln1_ok {G:Nat→Option Obj} (hst:StartOk Tryd.prog G gl H0 n0):LpsOk Tryd.prog G gl P_ln1:=.cons Tryd.func45 ln1_b ln1_p (ln1_c hst) (P_pkl_ok hst)
noncomputable def U_ln2:List (FuncId × FnC):=L0
theorem U_ln2_ok {G:Nat→Option Obj} (hst:StartOk Tryd.prog G gl H0 n0):ConsOk Tryd.prog G gl U_ln2:=.nil
def ln2_s:List U→Option (Nat × List U)
 | [u_rows,.int .i64 first,.int .i64 last]=>(decS rRw u_rows).bind fun rows=>if 0≤last∧last < ((el rows).length:Int)∧((el rows).length:Int)≤1000000 then some (0,[.int .i64 first,.int .i64 (lstS (el rows) last)]) else none
 | _=>none
theorem ln2_s_e (rows:(Option (List ((Option (List (Int × Int × Int × Int × Int × Int × Int × Int × Int × Int × Int × Int))) × Bool)))) (first:Int) (last:Int) (hc:0≤last∧last < ((el rows).length:Int)∧((el rows).length:Int)≤1000000):ln2_s [encS rRw rows,.int .i64 first,.int .i64 last]=some (0,[.int .i64 first,.int .i64 (lstS (el rows) last)]):=by
 simp only [ln2_s,decS_enc,Option.bind_some]
 exact if_pos hc
def ln2_D:LoopD:=⟨[(0,dat 7 0 12),(4,h 1 3),(5,h 2 3),(26,junk),(27,junk),(28,junk),(29,junk),(30,junk)],[(7,.frz)],3,[⟨.exit 2,[(4,h 0 3),(5,h 1 3)],[],2⟩]⟩
noncomputable def ln2_B:Code:=(Tryd.f45.body).getD .skip
noncomputable def ln2_x:Code:=match codeAt [true,true,true,false,false] ln2_B with|some (.loop x)=>x|_=>.skip
theorem ln2_b:Tryd.f45.body=some ln2_B:=rfl
theorem ln2_p:codeAt [true,true,true,false,false] ln2_B=some (.loop ln2_x):=by kernel_rfl
def ln2_t:Tr:=.lt 8 (.inbs 2) [h 2 3,h 0 12] <| .br 3 (.lt 8 (.get 2 1) [h 0 12,h 2 3] <| .br 4 (.lt 3 (.bin .add) [h 2 3,.int .i64 (1)] <| .lt 3 (.len) [h 0 12] <| .lt 8 (.bin .lss) [h 5 3,h 6 3] <| .br 7 (.lt 3 (.bin .add) [h 2 3,.int .i64 (1)] <| .ret [.int .i64 (-1),h 0 12,h 1 3,h 8 3]) (.ret [.int .i64 (0),h 1 3,h 2 3])) (.ret [.int .i64 (0),h 1 3,h 2 3])) (.no)
def ln2_m:List U→Nat
 | [u_rows,.int .i64 first,.int .i64 last]=>(match decS rRw u_rows with|some rows=>(((el rows).length:Int) - last).toNat|none=>0)
 | _=>0
theorem ln2_me (rows:(Option (List ((Option (List (Int × Int × Int × Int × Int × Int × Int × Int × Int × Int × Int × Int))) × Bool)))) (first:Int) (last:Int):ln2_m [encS rRw rows,.int .i64 first,.int .i64 last]=(((el rows).length:Int) - last).toNat:=by
 simp only [ln2_m,decS_enc]
theorem ln2_c {G:Nat→Option Obj} (hst:StartOk Tryd.prog G gl H0 n0):∀ (E:Nat→U) (base:Nat),@CodeOk ⟨E,G⟩ Tryd.prog base gl Tryd.f45.ntmps ln2_x (loopF Tryd.prog gl n0 8 ln2_D ln2_s):=by
 refine loop_ok (C:=cx U_ln2 P_ln1) (dep:=60) (f:=45) (n0:=n0) (nB:=8) (H0:=H0) ln2_m ln2_t (cxg (U_ln2_ok hst) (P_ln1_ok hst)) hst Tryd.func45 ln2_b ln2_p (by kernel_rfl) (by kernel_rfl) (by kernel_rfl) ?_
 intro us d outs hs
 have hs0:=hs
 unfold ln2_s at hs
 split at hs
 ·skip
  rename_i u_rows first last
  have hq_rows:=Option.bind_eq_some_iff.1 hs
  clear hs
  obtain ⟨rows,hd_rows,hs⟩:=hq_rows
  replace hd_rows:=decS_eq hd_rows
  subst hd_rows
  split at hs
  ·rename_i hc
   clear hs hs0
   refine ⟨rfl,?_⟩
   unfold ln2_t
   refine s0 (.cons 2 _ (.cons 1 _ (.cons 0 _ (.nil)))) rfl (by simp [Ev.ok,Ev.len]) ?_
   refine s1 (ev_inbsS rfl) rfl rfl rfl ?_
   refine s5 rfl (fun g0=>?_) fun g0=>?_
   ·refine s8 ?_
    first|omega|(simp_all; done)|(simp_all; omega)
   refine s1 (u:=.bool _) (ev_getS rfl (by omega) (by omega) rfl) rfl rfl rfl ?_
   refine s5B rfl (fun g1=>?_) fun g1=>?_
   ·refine s7 [.int .i64 _,.int .i64 _,.int .i64 _] rfl ?_
    refine leaf_exit (d:=0) ?_
    rw [ln2_s_e rows first last hc]; first|(rw [lstS_n hc.1 (.inl (by assumption))]; done)|(rw [lstS_n hc.1 (.inr (by assumption))]; done)
   first|refine s1 (ev_addW (wrap64 (by omega) (by omega))) rfl rfl rfl ?_|refine s1 (ev_add _ _ _) rfl rfl rfl ?_
   refine s1 (ev_lenS _ _) rfl rfl rfl ?_
   refine s1 (ev_lss _ _ _) rfl rfl rfl ?_
   refine s5 rfl (fun g2=>?_) fun g2=>?_
   ·refine s7 [.int .i64 _,.int .i64 _,.int .i64 _] rfl ?_
    refine leaf_exit (d:=0) ?_
    rw [ln2_s_e rows first last hc]; first|(rw [lstS_n hc.1 (.inl (by assumption))]; done)|(rw [lstS_n hc.1 (.inr (by assumption))]; done)
   first|refine s1 (ev_addW (wrap64 (by omega) (by omega))) rfl rfl rfl ?_|refine s1 (ev_add _ _ _) rfl rfl rfl ?_
   refine s7 [.int .i64 _,encS rRw _,.int .i64 _,.int .i64 _] rfl ?_
   refine leaf_back ?_ ?_
   ·rw [ln2_s_e rows first last hc,lstS_go hc.1 (by assumption) (by assumption)]; exact ln2_s_e _ _ _ ⟨by omega,by omega,hc.2.2⟩
   ·rw [ln2_me,ln2_me]; omega
  ·cases hs
 ·cases hs
noncomputable def P_ln2:List LpE:=(45,([true,true,true,false,false],loopF Tryd.prog gl n0 8 ln2_D ln2_s))::P_ln1
theorem P_ln2_ok {G:Nat→Option Obj} (hst:StartOk Tryd.prog G gl H0 n0):LpsOk Tryd.prog G gl P_ln2:=.cons Tryd.func45 ln2_b ln2_p (ln2_c hst) (P_ln1_ok hst)
noncomputable def U_lin:List (FuncId × FnC):=L0
theorem U_lin_ok {G:Nat→Option Obj} (hst:StartOk Tryd.prog G gl H0 n0):ConsOk Tryd.prog G gl U_lin:=.nil
def lin_s:List U→Option (Nat × List U)
 | [u_rows,.int .i64 i]=>(decS rRw u_rows).bind fun rows=>if 0≤i∧i < ((el rows).length:Int)∧((el rows).length:Int)≤1000000 then some (0,[.int .i64 (fstS (el rows) i),.int .i64 (lstS (el rows) i)]) else none
 | _=>none
theorem lin_s_e (rows:(Option (List ((Option (List (Int × Int × Int × Int × Int × Int × Int × Int × Int × Int × Int × Int))) × Bool)))) (i:Int) (hc:0≤i∧i < ((el rows).length:Int)∧((el rows).length:Int)≤1000000):lin_s [encS rRw rows,.int .i64 i]=some (0,[.int .i64 (fstS (el rows) i),.int .i64 (lstS (el rows) i)]):=by
 simp only [lin_s,decS_enc,Option.bind_some]
 exact if_pos hc
def lin_t:Tr:=.fn ln1_s [h 0 12,h 1 3,h 1 3] 3 <| .fn ln2_s [h 2 12,h 3 3,h 4 3] 2 <| .ret [h 5 3,h 6 3]
theorem lin_c {G:Nat→Option Obj} (hst:StartOk Tryd.prog G gl H0 n0):ConOk Tryd.prog G 45 [.s 12,.s 3] lin_s [.s 3,.s 3]:=by
 refine con_of_tree (C:=cx U_lin P_ln2) (d:=60) lin_t (cxg (U_lin_ok hst) (P_ln2_ok hst)) hst ⟨Tryd.f45,_,Tryd.func45,rfl⟩ (by kernel_rfl) (by kernel_rfl) ?_
 intro us outs hs
 unfold lin_s at hs
 split at hs
 ·skip
  rename_i u_rows i
  have hq_rows:=Option.bind_eq_some_iff.1 hs
  clear hs
  obtain ⟨rows,hd_rows,hs⟩:=hq_rows
  replace hd_rows:=decS_eq hd_rows
  subst hd_rows
  split at hs
  ·rename_i hc
   cases hs
   unfold lin_t
   refine s0 (.cons 1 _ (.cons 0 _ (.nil))) rfl (by simp [Ev.ok,Ev.len]) ?_
   refine s3 (ln1_s_e _ _ _ hc) rfl ?_
   show Tr.sav _ _ (.cons 4 _ (.cons 3 _ (.cons 2 _ _)))
   refine s32 (ln2_s_e _ _ _ hc) rfl rfl ?_
   refine s7 [.int .i64 _,.int .i64 _] rfl ?_
   rfl
  ·cases hs
 ·cases hs
noncomputable def L_lin:List (FuncId × FnC):=(45,conF Tryd.prog [.s 12,.s 3] lin_s [.s 3,.s 3])::L_pck
theorem L_lin_ok {G:Nat→Option Obj} (hst:StartOk Tryd.prog G gl H0 n0):ConsOk Tryd.prog G gl L_lin:=.cons (lin_c hst) (L_pck_ok hst)
end Go.Proofs.YtdkdbjgkedahfaaDoor

namespace Go.Proofs.YtdkdbjgkedahfaaDoor
set_option linter.all false
open Go Go.Sx
set_option maxRecDepth 100000
set_option linter.unusedVariables false
set_option linter.unusedSimpArgs false
theorem rowS_len {l:List Cel} (h:rowS l=0):2≤(l.length:Int)∧(l.length:Int)≤80:=by
 by_cases hq:(l.length:Int) < 2∨80 < (l.length:Int)
 ·rw [rowS_a hq] at h; cases h
 ·omega
theorem chk_len {rows:Option (List Row)} (h:chkS rows=0):0 < ((el rows).length:Int)∧((el rows).length:Int)≤140∧∀ r ∈ el rows,rowS (el r.1)=0∧((el r.1).length:Int)=colN rows:=by
 unfold chkS at h
 split at h
 ·cases h
 ·rename_i h1
  split at h
  ·cases h
  ·rename_i h2
   refine ⟨by omega,by omega,fun r hr=>?_⟩
   have h3:badR (colN rows) r=false:=by
    cases hb:badR (colN rows) r with
    | false=>rfl
    | true=>exact absurd (List.any_eq_true.2 ⟨r,hr,hb⟩) h2
   unfold badR at h3
   rw [Bool.or_eq_false_iff,decide_eq_false_iff_not,decide_eq_false_iff_not] at h3
   exact ⟨Classical.not_not.1 h3.1,Classical.not_not.1 h3.2⟩
theorem chk_col {rows:Option (List Row)} (h:chkS rows=0):2≤colN rows∧colN rows≤80:=by
 obtain ⟨h1,h2,h3⟩:=chk_len h
 have hm:(el rows).getD 0 default ∈ el rows:=getD_mem (i:=0) (by decide) h1
 have:=h3 _ hm
 have:=rowS_len this.1
 omega
theorem chk_or (rows:Option (List Row)):(chkS rows≠0∨(2≤colN rows∧colN rows≤80∧0 < ((el rows).length:Int)∧((el rows).length:Int)≤140))∧colN rows=((el ((el rows).getD (0:Int).toNat default).1).length:Int):=by
 refine ⟨?_,rfl⟩
 by_cases h:chkS rows=0
 ·have:=chk_col h; have:=chk_len h; exact .inr ⟨by omega,by omega,by omega,by omega⟩
 ·exact .inl h
def posE (rows:Option (List Row)) (e r c:Int):Int:=if chkS rows≠0 then chkS rows else if 0≤r∧r < ((el rows).length:Int)∧0≤c∧c≤colN rows - e then 0 else 2
def ifE (e a:Int):Int:=if e=0 then a else 0
theorem pos_a {rows:Option (List Row)} {e r c:Int} (h:chkS rows≠0):posE rows e r c=chkS rows:=if_pos h
theorem pos_b {rows:Option (List Row)} {e r c:Int} (h:¬chkS rows≠0) (h2:¬(0≤r∧r < ((el rows).length:Int)∧0≤c∧c≤colN rows - e)):posE rows e r c=2:=by unfold posE; rw [if_neg h,if_neg h2]
theorem pos_c {rows:Option (List Row)} {e r c:Int} (h:¬chkS rows≠0) (h2:0≤r∧r < ((el rows).length:Int)∧0≤c∧c≤colN rows - e):posE rows e r c=0:=by unfold posE; rw [if_neg h,if_pos h2]
def linS (rows:Option (List Row)) (r c:Int):List U:=[.int .i64 (ifE (posE rows 0 r c) (fstS (el rows) r)),.int .i64 0,.int .i64 (ifE (posE rows 0 r c) (lstS (el rows) r)),.int .i64 (ifE (posE rows 0 r c) (colN rows)),.int .i64 (posE rows 0 r c)]
theorem linS_e {rows:Option (List Row)} {r c e:Int} (h:posE rows 0 r c=e) (he:e≠0):[U.int .i64 0,U.int .i64 0,U.int .i64 0,U.int .i64 0,U.int .i64 e]=linS rows r c:=by
 unfold linS ifE; rw [h,if_neg he,if_neg he,if_neg he]
theorem linS_o {rows:Option (List Row)} {r c:Int} (h:posE rows 0 r c=0):[U.int .i64 (fstS (el rows) r),U.int .i64 0,U.int .i64 (lstS (el rows) r),U.int .i64 (colN rows),U.int .i64 0]=linS rows r c:=by
 unfold linS ifE; rw [h,if_pos rfl,if_pos rfl,if_pos rfl]
noncomputable def U_lne:List (FuncId × FnC):=(61,conF Tryd.prog [.s 12] pck_s [.s 3])::(45,conF Tryd.prog [.s 12,.s 3] lin_s [.s 3,.s 3])::L0
theorem U_lne_ok {G:Nat→Option Obj} (hst:StartOk Tryd.prog G gl H0 n0):ConsOk Tryd.prog G gl U_lne:=(.cons (pck_c hst) (.cons (lin_c hst) .nil))
def lne_s:List U→Option (Nat × List U)
 | [u_rows,.int .i64 r,.int .i64 c]=>(decS rRw u_rows).bind fun rows=>if aRows rows then some (0,[.int .i64 (ifE (posE rows 0 r c) (fstS (el rows) r)),.int .i64 (0),.int .i64 (ifE (posE rows 0 r c) (lstS (el rows) r)),.int .i64 (ifE (posE rows 0 r c) (colN rows)),.int .i64 (posE rows 0 r c)]) else none
 | _=>none
theorem lne_s_e (rows:(Option (List ((Option (List (Int × Int × Int × Int × Int × Int × Int × Int × Int × Int × Int × Int))) × Bool)))) (r:Int) (c:Int) (hc:aRows rows):lne_s [encS rRw rows,.int .i64 r,.int .i64 c]=some (0,[.int .i64 (ifE (posE rows 0 r c) (fstS (el rows) r)),.int .i64 (0),.int .i64 (ifE (posE rows 0 r c) (lstS (el rows) r)),.int .i64 (ifE (posE rows 0 r c) (colN rows)),.int .i64 (posE rows 0 r c)]):=by
 simp only [lne_s,decS_enc,Option.bind_some]
 exact if_pos hc
def lne_t:Tr:=.fn pck_s [h 0 12] 1 <| .lt 8 (.bin .neq) [h 3 3,.int .i64 (0)] <| .br 4 (.lt 8 (.bin .neq) [h 3 3,.int .i64 (0)] <| .br 5 (.ret [.int .i64 (0),.int .i64 (0),.int .i64 (0),.int .i64 (0),h 3 3]) (.fn lin_s [h 0 12,h 1 3] 2 <| .lt 8 (.inbs 2) [.int .i64 (0),h 0 12] <| .br 8 (.dt 22 (.get 2 0) [h 0 12,.int .i64 (0)] <| .lt 3 (.len) [h 9 22] <| .ret [h 6 3,.int .i64 (0),h 7 3,h 10 3,.int .i64 (0)]) (.no))) (.lt 8 (.inbs 2) [.int .i64 (0),h 0 12] <| .br 5 (.dt 22 (.get 2 0) [h 0 12,.int .i64 (0)] <| .lt 3 (.len) [h 6 22] <| .lt 3 (.bin .sub) [h 7 3,.int .i64 (0)] <| .lt 8 (.bin .geq) [h 1 3,.int .i64 (0)] <| .br 9 (.lt 3 (.len) [h 0 12] <| .lt 8 (.bin .lss) [h 1 3,h 10 3] <| .br 11 (.lt 8 (.bin .geq) [h 2 3,.int .i64 (0)] <| .br 12 (.lt 8 (.bin .leq) [h 2 3,h 8 3] <| .lt 8 (.un .not) [h 13 8] <| .br 14 (.ret [.int .i64 (0),.int .i64 (0),.int .i64 (0),.int .i64 (0),.int .i64 (2)]) (.fn lin_s [h 0 12,h 1 3] 2 <| .lt 8 (.inbs 2) [.int .i64 (0),h 0 12] <| .br 17 (.dt 22 (.get 2 0) [h 0 12,.int .i64 (0)] <| .lt 3 (.len) [h 18 22] <| .ret [h 15 3,.int .i64 (0),h 16 3,h 19 3,.int .i64 (0)]) (.no))) (.ret [.int .i64 (0),.int .i64 (0),.int .i64 (0),.int .i64 (0),.int .i64 (2)])) (.ret [.int .i64 (0),.int .i64 (0),.int .i64 (0),.int .i64 (0),.int .i64 (2)])) (.ret [.int .i64 (0),.int .i64 (0),.int .i64 (0),.int .i64 (0),.int .i64 (2)])) (.no))
theorem lne_c {G:Nat→Option Obj} (hst:StartOk Tryd.prog G gl H0 n0):ConOk Tryd.prog G 16 [.s 12,.a [3,3]] lne_s [.a [3,3],.a [3,3],.s 3]:=by
 refine con_of_tree (C:=cx U_lne P_ln2) (d:=60) lne_t (cxg (U_lne_ok hst) (P_ln2_ok hst)) hst ⟨Tryd.f16,_,Tryd.func16,rfl⟩ (by kernel_rfl) (by kernel_rfl) ?_
 intro us outs hs
 unfold lne_s at hs
 split at hs
 ·skip
  rename_i u_rows r c
  have hq_rows:=Option.bind_eq_some_iff.1 hs
  clear hs
  obtain ⟨rows,hd_rows,hs⟩:=hq_rows
  replace hd_rows:=decS_eq hd_rows
  subst hd_rows
  split at hs
  ·rename_i hc
   cases hs
   have qd:=chk_or rows
   unfold lne_t
   refine s0 (.cons 2 _ (.cons 1 _ (.cons 0 _ (.nil)))) rfl (by simp [Ev.ok,Ev.len]) ?_
   refine s31 (pck_s_e _ hc) rfl ?_
   refine s1 (ev_neq _ _ _) rfl rfl rfl ?_
   refine s4 rfl (fun g0=>?_) fun g0=>?_
   ·refine s1 (ev_neq _ _ _) rfl rfl rfl ?_
    refine s4 rfl (fun g1=>?_) fun g1=>?_
    ·refine s7 [.int .i64 _,.int .i64 _,.int .i64 _,.int .i64 _,.int .i64 _] rfl ?_
     first|exact linS_e (pos_a (by assumption)) (by assumption)|exact linS_e (pos_b (by assumption) (by omega)) (by decide)|exact (by rw [← qd.2]; exact linS_o (pos_c (by assumption) (by omega)))|(trace_state; done)
    refine s32 (lin_s_e _ _ ⟨by omega,by omega,by omega⟩) rfl rfl ?_
    refine s1 (ev_inbsS rfl) rfl rfl rfl ?_
    refine s5 rfl (fun g2=>?_) fun g2=>?_
    ·refine s8 ?_
     omega
    refine s2 (r:=rCl) (ev_getS rfl (by omega) (by omega) rfl) rfl rfl ?_
    refine s1 (ev_lenS _ _) rfl rfl rfl ?_
    refine s7 [.int .i64 _,.int .i64 _,.int .i64 _,.int .i64 _,.int .i64 _] rfl ?_
    first|exact linS_e (pos_a (by assumption)) (by assumption)|exact linS_e (pos_b (by assumption) (by omega)) (by decide)|exact (by rw [← qd.2]; exact linS_o (pos_c (by assumption) (by omega)))|(trace_state; done)
   refine s1 (ev_inbsS rfl) rfl rfl rfl ?_
   refine s5 rfl (fun g1=>?_) fun g1=>?_
   ·refine s8 ?_
    omega
   refine s2 (r:=rCl) (ev_getS rfl (by omega) (by omega) rfl) rfl rfl ?_
   refine s1 (ev_lenS _ _) rfl rfl rfl ?_
   first|refine s1 (ev_subW (wrap64 (by omega) (by omega))) rfl rfl rfl ?_|refine s1 (ev_sub _ _ _) rfl rfl rfl ?_
   refine s1 (ev_geq _ _ _) rfl rfl rfl ?_
   refine s5 rfl (fun g2=>?_) fun g2=>?_
   ·refine s7 [.int .i64 _,.int .i64 _,.int .i64 _,.int .i64 _,.int .i64 _] rfl ?_
    first|exact linS_e (pos_a (by assumption)) (by assumption)|exact linS_e (pos_b (by assumption) (by omega)) (by decide)|exact (by rw [← qd.2]; exact linS_o (pos_c (by assumption) (by omega)))|(trace_state; done)
   refine s1 (ev_lenS _ _) rfl rfl rfl ?_
   refine s1 (ev_lss _ _ _) rfl rfl rfl ?_
   refine s5 rfl (fun g3=>?_) fun g3=>?_
   ·refine s7 [.int .i64 _,.int .i64 _,.int .i64 _,.int .i64 _,.int .i64 _] rfl ?_
    first|exact linS_e (pos_a (by assumption)) (by assumption)|exact linS_e (pos_b (by assumption) (by omega)) (by decide)|exact (by rw [← qd.2]; exact linS_o (pos_c (by assumption) (by omega)))|(trace_state; done)
   refine s1 (ev_geq _ _ _) rfl rfl rfl ?_
   refine s5 rfl (fun g4=>?_) fun g4=>?_
   ·refine s7 [.int .i64 _,.int .i64 _,.int .i64 _,.int .i64 _,.int .i64 _] rfl ?_
    first|exact linS_e (pos_a (by assumption)) (by assumption)|exact linS_e (pos_b (by assumption) (by omega)) (by decide)|exact (by rw [← qd.2]; exact linS_o (pos_c (by assumption) (by omega)))|(trace_state; done)
   refine s1 (ev_leq _ _ _) rfl rfl rfl ?_
   refine s1 (ev_notD _) rfl rfl rfl ?_
   refine s4 rfl (fun g5=>?_) fun g5=>?_
   ·refine s7 [.int .i64 _,.int .i64 _,.int .i64 _,.int .i64 _,.int .i64 _] rfl ?_
    first|exact linS_e (pos_a (by assumption)) (by assumption)|exact linS_e (pos_b (by assumption) (by omega)) (by decide)|exact (by rw [← qd.2]; exact linS_o (pos_c (by assumption) (by omega)))|(trace_state; done)
   refine s32 (lin_s_e _ _ ⟨by omega,by omega,by omega⟩) rfl rfl ?_
   refine s1 (ev_inbsS rfl) rfl rfl rfl ?_
   refine s5 rfl (fun g6=>?_) fun g6=>?_
   ·refine s8 ?_
    omega
   refine s2 (r:=rCl) (ev_getS rfl (by omega) (by omega) rfl) rfl rfl ?_
   refine s1 (ev_lenS _ _) rfl rfl rfl ?_
   refine s7 [.int .i64 _,.int .i64 _,.int .i64 _,.int .i64 _,.int .i64 _] rfl ?_
   first|exact linS_e (pos_a (by assumption)) (by assumption)|exact linS_e (pos_b (by assumption) (by omega)) (by decide)|exact (by rw [← qd.2]; exact linS_o (pos_c (by assumption) (by omega)))|(trace_state; done)
  ·cases hs
 ·cases hs
noncomputable def L_lne:List (FuncId × FnC):=(16,conF Tryd.prog [.s 12,.a [3,3]] lne_s [.a [3,3],.a [3,3],.s 3])::L_lin
theorem L_lne_ok {G:Nat→Option Obj} (hst:StartOk Tryd.prog G gl H0 n0):ConsOk Tryd.prog G gl L_lne:=.cons (lne_c hst) (L_lin_ok hst)
end Go.Proofs.YtdkdbjgkedahfaaDoor

namespace Go.Proofs.YtdkdbjgkedahfaaDoor
set_option linter.all false
open Go Go.Sx
set_option maxRecDepth 100000
set_option linter.unusedVariables false
set_option linter.unusedSimpArgs false
def ctr_s:List U→Option (Nat × List U)
 | [.str s,.int .i32 r]=>if 0≤r∧r < 128 then some (0,[.bool ((decide (0≤Lib.indexByte s (UInt8.ofNat r.toNat))))]) else none
 | _=>none
theorem ctr_s_e (s:(List UInt8)) (r:Int) (hc:0≤r∧r < 128):ctr_s [.str s,.int .i32 r]=some (0,[.bool ((decide (0≤Lib.indexByte s (UInt8.ofNat r.toNat))))]):=if_pos hc
theorem ctr_c {G:Nat→Option Obj} (hst:StartOk Tryd.prog G gl H0 n0):ConOk Tryd.prog G 68 [.s 9,.s 2] ctr_s [.s 8]:=by
 intro us outs w vs R hsh hs hG hR
 unfold ctr_s at hs
 split at hs
 ·skip
  rename_i s r
  split at hs
  ·rename_i hc
   cases hs
   have hv:=val_of_shL (vs2:=[.string ⟨⟨s⟩⟩,.int .i32 r]) hsh rfl
   subst hv
   refine con_end (vr:=[.bool (decide (0≤Lib.indexByte s (UInt8.ofNat r.toNat)))]) Tryd.func68 rfl (by kernel_rfl) rfl ?_
   exact (Tryd.strings_ContainsRune_ascii ⟨⟨s⟩⟩ r w hc.1 hc.2).mono fun e w' ⟨h1,h2⟩=>⟨h1,by subst h2; exact RowKit.Below.refl _ _⟩
  ·cases hs
 ·cases hs
noncomputable def L_ctr:List (FuncId × FnC):=(68,conF Tryd.prog [.s 9,.s 2] ctr_s [.s 8])::L_lne
theorem L_ctr_ok {G:Nat→Option Obj} (hst:StartOk Tryd.prog G gl H0 n0):ConsOk Tryd.prog G gl L_ctr:=.cons (ctr_c hst) (L_lne_ok hst)
theorem rowGo_all:∀ {r:List Cel} {l v:Cel},rowGo r l=some v→∀ i,i < r.length→¬badC (r.getD i default) (if i=0 then l else r.getD (i - 1) default)
 | [],l,v,_,i,hi=>by simp at hi
 | c::r,l,v,h,i,hi=>by
   rw [rowGo] at h
   split at h
   ·cases h
   ·rename_i hb
    cases i with
    | zero=>exact hb
    | succ i =>
      have:=rowGo_all h i (by simpa using hi)
      cases i with
      | zero=>exact this
      | succ i=>exact this
theorem row_cells {l:List Cel} (h:rowS l=0) {i:Int} (h0:0≤i) (h1:i < (l.length:Int)):celC (l.getD i.toNat default)=0∧(wdC (l.getD i.toNat default)=2→0 < i∧wdC (l.getD (i - 1).toNat default)=1):=by
 unfold rowS at h
 split at h
 ·cases h
 ·cases hg:rowGo l (0,0,0,0,0,0,0,0,0,0,0,0) with
  | none=>rw [hg] at h; cases h
  | some v =>
    have:=rowGo_all hg i.toNat (by omega)
    by_cases hz:i.toNat=0
    ·rw [if_pos hz] at this
     refine ⟨Classical.byContradiction fun e=>this (.inl e),fun h2=>?_⟩
     exact absurd (.inr (.inl (by rw [h2]; decide))) this
    ·rw [if_neg hz] at this
     have e:i.toNat - 1=(i - 1).toNat:=by omega
     rw [e] at this
     refine ⟨Classical.byContradiction fun e=>this (.inl e),fun h2=>⟨by omega,Classical.byContradiction fun e=>this (.inr (.inl (by rw [h2,decide_eq_false e]; decide)))⟩⟩
theorem fit_of {c:Cel} (h:celC c=0):fitP c.1 c.2.1 c.2.2.1 (wdC c):=by
 unfold celC celS at h
 split at h
 ·rename_i hq; exact hq.1
 ·cases h
theorem wid_bd (c:Int):widS c = -1∨(0≤c∧c≤1114111):=by
 by_cases h:¬okU c∨c≤31∨(127≤c∧c≤159)
 ·exact .inl (wdl_a h)
 ·have:okU c:=Classical.byContradiction fun e=>h (.inl e)
  unfold okU at this; exact .inr (by omega)
theorem fit_bd {b m0 m1 wd:Int} (h:fitP b m0 m1 wd):(0≤b∧b≤1114111)∧(0≤m0∧m0≤1114111)∧(0≤m1∧m1≤1114111)∧0≤wd∧wd≤2:=by
 unfold fitP at h
 have h1:=wid_bd b
 have h2:=wid_bd m0
 have h3:=wid_bd m1
 omega
def effC (l:List Cel) (i:Int):Cel:=if wdC (l.getD i.toNat default)=2 then l.getD (i - 1).toNat default else l.getD i.toNat default
def blkP (c:Cel):Prop:=c.1=32∧c.2.1=0∧c.2.2.1=0∧wdC c=0
instance (c:Cel):Decidable (blkP c):=by unfold blkP; infer_instance
def letB (n:Int):Bool:=decide (0≤Lib.indexByte [95,48,49,50,51,52,53,54,55,56,57,97,98,99,100,101,102,103,104,105,106,107,108,109,110,111,112,113,114,115,116,117,118,119,120,121,122,65,66,67,68,69,70,71,72,73,74,75,76,77,78,79,80,81,82,83,84,85,86,87,88,89,90] (UInt8.ofNat n.toNat))
def clsS (l:List Cel) (i:Int):Int:=if blkP (effC l i) then 0 else if 128≤(effC l i).1∨letB (effC l i).1=true then 1 else 2
theorem cls_0 {l:List Cel} {i:Int} {c:Cel} (he:effC l i=c) (h:blkP c):clsS l i=0:=by subst he; exact if_pos h
theorem cls_1 {l:List Cel} {i:Int} {c:Cel} (he:effC l i=c) (h:¬blkP c) (h2:128≤c.1∨letB c.1=true):clsS l i=1:=by subst he; unfold clsS; rw [if_neg h,if_pos h2]
theorem cls_2 {l:List Cel} {i:Int} {c:Cel} (he:effC l i=c) (h:¬blkP c) (h2:¬(128≤c.1∨letB c.1=true)):clsS l i=2:=by subst he; unfold clsS; rw [if_neg h,if_neg h2]
theorem eff_2 {l:List Cel} {i:Int} (h:(l.getD i.toNat default).2.2.2.1=2):effC l i=l.getD (i - 1).toNat default:=if_pos h
theorem eff_n {l:List Cel} {i:Int} (h:¬(l.getD i.toNat default).2.2.2.1=2):effC l i=l.getD i.toNat default:=if_neg h
theorem blk_t {a:Cel} {x:Bool} (h:(a.1 == 32 && (a.2.1 == 0 && (a.2.2.1 == 0 && (a.2.2.2.1 == 0 && x))))=true):blkP a:=by
 simp only [Bool.and_eq_true,beq_iff_eq] at h
 exact ⟨h.1,h.2.1,h.2.2.1,h.2.2.2.1⟩
theorem blk_f {a:Cel} {b c d e f g h' k:Int} (h:(a.1 == 32 && (a.2.1 == 0 && (a.2.2.1 == 0 && (a.2.2.2.1 == 0 && (b == b && (c == c && (d == d && (e == e && (f == f && (g == g && (h' == h' && (k == k && true))))))))))))=false):¬blkP a:=by
 rintro ⟨h1,h2,h3,h4⟩
 have h4:a.2.2.2.1=0:=h4
 rw [h1,h2,h3,h4] at h
 simp at h
noncomputable def U_cls:List (FuncId × FnC):=(68,conF Tryd.prog [.s 9,.s 2] ctr_s [.s 8])::L0
theorem U_cls_ok {G:Nat→Option Obj} (hst:StartOk Tryd.prog G gl H0 n0):ConsOk Tryd.prog G gl U_cls:=(.cons (ctr_c hst) .nil)
def cls_s:List U→Option (Nat × List U)
 | [u_s,.bool wr,.int .i64 i]=>(decS rCl u_s).bind fun s=>if rowS (el s)=0∧0≤i∧i < ((el s).length:Int) then some (0,[.int .i64 (clsS (el s) i)]) else none
 | _=>none
theorem cls_s_e (s:(Option (List (Int × Int × Int × Int × Int × Int × Int × Int × Int × Int × Int × Int)))) (wr:Bool) (i:Int) (hc:rowS (el s)=0∧0≤i∧i < ((el s).length:Int)):cls_s [encS rCl s,.bool wr,.int .i64 i]=some (0,[.int .i64 (clsS (el s) i)]):=by
 simp only [cls_s,decS_enc,Option.bind_some]
 exact if_pos hc
def cls_t:Tr:=.lt 8 (.inbs 12) [h 2 3,h 0 22] <| .br 3 (.lt 3 (.get 12 0) [h 0 22,h 2 3] <| .lt 3 (.get 12 1) [h 0 22,h 2 3] <| .lt 3 (.get 12 2) [h 0 22,h 2 3] <| .lt 3 (.get 12 3) [h 0 22,h 2 3] <| .lt 3 (.get 12 4) [h 0 22,h 2 3] <| .lt 3 (.get 12 5) [h 0 22,h 2 3] <| .lt 3 (.get 12 6) [h 0 22,h 2 3] <| .lt 3 (.get 12 7) [h 0 22,h 2 3] <| .lt 3 (.get 12 8) [h 0 22,h 2 3] <| .lt 3 (.get 12 9) [h 0 22,h 2 3] <| .lt 3 (.get 12 10) [h 0 22,h 2 3] <| .lt 3 (.get 12 11) [h 0 22,h 2 3] <| .lt 8 (.bin .eql) [h 7 3,.int .i64 (2)] <| .br 16 (.lt 3 (.bin .sub) [h 2 3,.int .i64 (1)] <| .lt 8 (.inbs 12) [h 17 3,h 0 22] <| .br 18 (.lt 3 (.get 12 0) [h 0 22,h 17 3] <| .lt 3 (.get 12 1) [h 0 22,h 17 3] <| .lt 3 (.get 12 2) [h 0 22,h 17 3] <| .lt 3 (.get 12 3) [h 0 22,h 17 3] <| .lt 3 (.get 12 4) [h 0 22,h 17 3] <| .lt 3 (.get 12 5) [h 0 22,h 17 3] <| .lt 3 (.get 12 6) [h 0 22,h 17 3] <| .lt 3 (.get 12 7) [h 0 22,h 17 3] <| .lt 3 (.get 12 8) [h 0 22,h 17 3] <| .lt 3 (.get 12 9) [h 0 22,h 17 3] <| .lt 3 (.get 12 10) [h 0 22,h 17 3] <| .lt 3 (.get 12 11) [h 0 22,h 17 3] <| .lt 8 (.eqs) [h 19 3,.int .i64 (32),h 20 3,.int .i64 (0),h 21 3,.int .i64 (0),h 22 3,.int .i64 (0),h 23 3,h 23 3,h 24 3,h 24 3,h 25 3,h 25 3,h 26 3,h 26 3,h 27 3,h 27 3,h 28 3,h 28 3,h 29 3,h 29 3,h 30 3,h 30 3] <| .br 31 (.ret [.int .i64 (0)]) (.lt 8 (.bin .geq) [h 19 3,.int .i64 (128)] <| .br 32 (.ret [.int .i64 (1)]) (.lt 2 (.conv .i32) [h 19 3] <| .fn ctr_s [.string ⟨⟨[95,48,49,50,51,52,53,54,55,56,57,97,98,99,100,101,102,103,104,105,106,107,108,109,110,111,112,113,114,115,116,117,118,119,120,121,122,65,66,67,68,69,70,71,72,73,74,75,76,77,78,79,80,81,82,83,84,85,86,87,88,89,90]⟩⟩,h 33 2] 1 <| .br 34 (.ret [.int .i64 (1)]) (.ret [.int .i64 (2)])))) (.no)) (.lt 8 (.eqs) [h 4 3,.int .i64 (32),h 5 3,.int .i64 (0),h 6 3,.int .i64 (0),h 7 3,.int .i64 (0),h 8 3,h 8 3,h 9 3,h 9 3,h 10 3,h 10 3,h 11 3,h 11 3,h 12 3,h 12 3,h 13 3,h 13 3,h 14 3,h 14 3,h 15 3,h 15 3] <| .br 17 (.ret [.int .i64 (0)]) (.lt 8 (.bin .geq) [h 4 3,.int .i64 (128)] <| .br 18 (.ret [.int .i64 (1)]) (.lt 2 (.conv .i32) [h 4 3] <| .fn ctr_s [.string ⟨⟨[95,48,49,50,51,52,53,54,55,56,57,97,98,99,100,101,102,103,104,105,106,107,108,109,110,111,112,113,114,115,116,117,118,119,120,121,122,65,66,67,68,69,70,71,72,73,74,75,76,77,78,79,80,81,82,83,84,85,86,87,88,89,90]⟩⟩,h 19 2] 1 <| .br 20 (.ret [.int .i64 (1)]) (.ret [.int .i64 (2)]))))) (.no)
theorem cls_c {G:Nat→Option Obj} (hst:StartOk Tryd.prog G gl H0 n0):ConOk Tryd.prog G 47 [.a [22,8],.s 3] cls_s [.s 3]:=by
 refine con_of_tree (C:=cx U_cls P_ln2) (d:=60) cls_t (cxg (U_cls_ok hst) (P_ln2_ok hst)) hst ⟨Tryd.f47,_,Tryd.func47,rfl⟩ (by kernel_rfl) (by kernel_rfl) ?_
 intro us outs hs
 unfold cls_s at hs
 split at hs
 ·skip
  rename_i u_s wr i
  have hq_s:=Option.bind_eq_some_iff.1 hs
  clear hs
  obtain ⟨s,hd_s,hs⟩:=hq_s
  replace hd_s:=decS_eq hd_s
  subst hd_s
  split at hs
  ·rename_i hc
   cases hs
   have q4:=rowS_len hc.1
   have q0:=row_cells hc.1 hc.2.1 hc.2.2
   have q1:=fit_bd (fit_of q0.1)
   have q2:(el s |>.getD i.toNat default).2.2.2.1=2→0 < i:=fun h=>(q0.2 h).1
   have q3:0 < i→(0≤((el s).getD (i - 1).toNat default).1∧((el s).getD (i - 1).toNat default).1≤1114111):=fun h=>(fit_bd (fit_of (row_cells hc.1 (i:=i - 1) (by omega) (by omega)).1)).1
   unfold cls_t
   refine s0 (.cons 2 _ (.cons 1 _ (.cons 0 _ (.nil)))) rfl (by simp [Ev.ok,Ev.len]) ?_
   refine s1 (ev_inbsS rfl) rfl rfl rfl ?_
   refine s5 rfl (fun g0=>?_) fun g0=>?_
   ·refine s8 ?_
    first|omega|(trace_state; done)
   refine s1 (u:=.int .i64 _) (ev_getS rfl (by omega) (by omega) rfl) rfl rfl rfl ?_
   refine s1 (u:=.int .i64 _) (ev_getS rfl (by omega) (by omega) rfl) rfl rfl rfl ?_
   refine s1 (u:=.int .i64 _) (ev_getS rfl (by omega) (by omega) rfl) rfl rfl rfl ?_
   refine s1 (u:=.int .i64 _) (ev_getS rfl (by omega) (by omega) rfl) rfl rfl rfl ?_
   refine s1 (u:=.int .i64 _) (ev_getS rfl (by omega) (by omega) rfl) rfl rfl rfl ?_
   refine s1 (u:=.int .i64 _) (ev_getS rfl (by omega) (by omega) rfl) rfl rfl rfl ?_
   refine s1 (u:=.int .i64 _) (ev_getS rfl (by omega) (by omega) rfl) rfl rfl rfl ?_
   refine s1 (u:=.int .i64 _) (ev_getS rfl (by omega) (by omega) rfl) rfl rfl rfl ?_
   refine s1 (u:=.int .i64 _) (ev_getS rfl (by omega) (by omega) rfl) rfl rfl rfl ?_
   refine s1 (u:=.int .i64 _) (ev_getS rfl (by omega) (by omega) rfl) rfl rfl rfl ?_
   refine s1 (u:=.int .i64 _) (ev_getS rfl (by omega) (by omega) rfl) rfl rfl rfl ?_
   refine s1 (u:=.int .i64 _) (ev_getS rfl (by omega) (by omega) rfl) rfl rfl rfl ?_
   refine s1 (ev_eql _ _ _) rfl rfl rfl ?_
   refine s4 rfl (fun g1=>?_) fun g1=>?_
   ·try have q2:=q2 (by assumption)
    first|refine s1 (ev_subW (wrap64 (by omega) (by omega))) rfl rfl rfl ?_|refine s1 (ev_sub _ _ _) rfl rfl rfl ?_
    refine s1 (ev_inbsS rfl) rfl rfl rfl ?_
    refine s5 rfl (fun g2=>?_) fun g2=>?_
    ·try have q3:=q3 (by omega)
     refine s8 ?_
     first|omega|(trace_state; done)
    try have q3:=q3 (by omega)
    refine s1 (u:=.int .i64 _) (ev_getS rfl (by omega) (by omega) rfl) rfl rfl rfl ?_
    refine s1 (u:=.int .i64 _) (ev_getS rfl (by omega) (by omega) rfl) rfl rfl rfl ?_
    refine s1 (u:=.int .i64 _) (ev_getS rfl (by omega) (by omega) rfl) rfl rfl rfl ?_
    refine s1 (u:=.int .i64 _) (ev_getS rfl (by omega) (by omega) rfl) rfl rfl rfl ?_
    refine s1 (u:=.int .i64 _) (ev_getS rfl (by omega) (by omega) rfl) rfl rfl rfl ?_
    refine s1 (u:=.int .i64 _) (ev_getS rfl (by omega) (by omega) rfl) rfl rfl rfl ?_
    refine s1 (u:=.int .i64 _) (ev_getS rfl (by omega) (by omega) rfl) rfl rfl rfl ?_
    refine s1 (u:=.int .i64 _) (ev_getS rfl (by omega) (by omega) rfl) rfl rfl rfl ?_
    refine s1 (u:=.int .i64 _) (ev_getS rfl (by omega) (by omega) rfl) rfl rfl rfl ?_
    refine s1 (u:=.int .i64 _) (ev_getS rfl (by omega) (by omega) rfl) rfl rfl rfl ?_
    refine s1 (u:=.int .i64 _) (ev_getS rfl (by omega) (by omega) rfl) rfl rfl rfl ?_
    refine s1 (u:=.int .i64 _) (ev_getS rfl (by omega) (by omega) rfl) rfl rfl rfl ?_
    refine s1 rfl rfl rfl rfl ?_
    first|refine s4 rfl (fun g3=>?_) (fun g3=>?_)|refine s4B rfl (fun g3=>?_) (fun g3=>?_)
    ·refine s7 [.int .i64 _] rfl ?_
     refine congrArg (fun z=>[U.int .i64 z]) ?_; symm; first|exact cls_0 (eff_2 (by assumption)) (blk_t (by assumption))|exact cls_0 (eff_n (by assumption)) (blk_t (by assumption))|exact cls_1 (eff_2 (by assumption)) (blk_f (by assumption)) (.inl (by assumption))|exact cls_1 (eff_n (by assumption)) (blk_f (by assumption)) (.inl (by assumption))|exact cls_1 (eff_2 (by assumption)) (blk_f (by assumption)) (.inr (decide_eq_true (by assumption)))|exact cls_1 (eff_n (by assumption)) (blk_f (by assumption)) (.inr (decide_eq_true (by assumption)))|exact cls_2 (eff_2 (by assumption)) (blk_f (by assumption)) (fun h=>h.elim (by assumption) (fun h=>absurd (of_decide_eq_true h) (by assumption)))|exact cls_2 (eff_n (by assumption)) (blk_f (by assumption)) (fun h=>h.elim (by assumption) (fun h=>absurd (of_decide_eq_true h) (by assumption)))|(trace_state; done)
    refine s1 (ev_geq _ _ _) rfl rfl rfl ?_
    refine s4 rfl (fun g4=>?_) fun g4=>?_
    ·refine s7 [.int .i64 _] rfl ?_
     refine congrArg (fun z=>[U.int .i64 z]) ?_; symm; first|exact cls_0 (eff_2 (by assumption)) (blk_t (by assumption))|exact cls_0 (eff_n (by assumption)) (blk_t (by assumption))|exact cls_1 (eff_2 (by assumption)) (blk_f (by assumption)) (.inl (by assumption))|exact cls_1 (eff_n (by assumption)) (blk_f (by assumption)) (.inl (by assumption))|exact cls_1 (eff_2 (by assumption)) (blk_f (by assumption)) (.inr (decide_eq_true (by assumption)))|exact cls_1 (eff_n (by assumption)) (blk_f (by assumption)) (.inr (decide_eq_true (by assumption)))|exact cls_2 (eff_2 (by assumption)) (blk_f (by assumption)) (fun h=>h.elim (by assumption) (fun h=>absurd (of_decide_eq_true h) (by assumption)))|exact cls_2 (eff_n (by assumption)) (blk_f (by assumption)) (fun h=>h.elim (by assumption) (fun h=>absurd (of_decide_eq_true h) (by assumption)))|(trace_state; done)
    first|refine s1 (ev_convW (wrap32 (by omega) (by omega))) rfl rfl rfl ?_|refine s1 (ev_conv _ _ _) rfl rfl rfl ?_
    refine s31 (ctr_s_e _ _ (by omega)) rfl ?_
    first|refine s4 rfl (fun g5=>?_) (fun g5=>?_)|refine s4B rfl (fun g5=>?_) (fun g5=>?_)
    ·refine s7 [.int .i64 _] rfl ?_
     refine congrArg (fun z=>[U.int .i64 z]) ?_; symm; first|exact cls_0 (eff_2 (by assumption)) (blk_t (by assumption))|exact cls_0 (eff_n (by assumption)) (blk_t (by assumption))|exact cls_1 (eff_2 (by assumption)) (blk_f (by assumption)) (.inl (by assumption))|exact cls_1 (eff_n (by assumption)) (blk_f (by assumption)) (.inl (by assumption))|exact cls_1 (eff_2 (by assumption)) (blk_f (by assumption)) (.inr (decide_eq_true (by assumption)))|exact cls_1 (eff_n (by assumption)) (blk_f (by assumption)) (.inr (decide_eq_true (by assumption)))|exact cls_2 (eff_2 (by assumption)) (blk_f (by assumption)) (fun h=>h.elim (by assumption) (fun h=>absurd (of_decide_eq_true h) (by assumption)))|exact cls_2 (eff_n (by assumption)) (blk_f (by assumption)) (fun h=>h.elim (by assumption) (fun h=>absurd (of_decide_eq_true h) (by assumption)))|(trace_state; done)
    refine s7 [.int .i64 _] rfl ?_
    refine congrArg (fun z=>[U.int .i64 z]) ?_; symm; first|exact cls_0 (eff_2 (by assumption)) (blk_t (by assumption))|exact cls_0 (eff_n (by assumption)) (blk_t (by assumption))|exact cls_1 (eff_2 (by assumption)) (blk_f (by assumption)) (.inl (by assumption))|exact cls_1 (eff_n (by assumption)) (blk_f (by assumption)) (.inl (by assumption))|exact cls_1 (eff_2 (by assumption)) (blk_f (by assumption)) (.inr (decide_eq_true (by assumption)))|exact cls_1 (eff_n (by assumption)) (blk_f (by assumption)) (.inr (decide_eq_true (by assumption)))|exact cls_2 (eff_2 (by assumption)) (blk_f (by assumption)) (fun h=>h.elim (by assumption) (fun h=>absurd (of_decide_eq_true h) (by assumption)))|exact cls_2 (eff_n (by assumption)) (blk_f (by assumption)) (fun h=>h.elim (by assumption) (fun h=>absurd (of_decide_eq_true h) (by assumption)))|(trace_state; done)
   try have q2:=q2 (by assumption)
   refine s1 rfl rfl rfl rfl ?_
   first|refine s4 rfl (fun g2=>?_) (fun g2=>?_)|refine s4B rfl (fun g2=>?_) (fun g2=>?_)
   ·try have q3:=q3 (by omega)
    refine s7 [.int .i64 _] rfl ?_
    refine congrArg (fun z=>[U.int .i64 z]) ?_; symm; first|exact cls_0 (eff_2 (by assumption)) (blk_t (by assumption))|exact cls_0 (eff_n (by assumption)) (blk_t (by assumption))|exact cls_1 (eff_2 (by assumption)) (blk_f (by assumption)) (.inl (by assumption))|exact cls_1 (eff_n (by assumption)) (blk_f (by assumption)) (.inl (by assumption))|exact cls_1 (eff_2 (by assumption)) (blk_f (by assumption)) (.inr (decide_eq_true (by assumption)))|exact cls_1 (eff_n (by assumption)) (blk_f (by assumption)) (.inr (decide_eq_true (by assumption)))|exact cls_2 (eff_2 (by assumption)) (blk_f (by assumption)) (fun h=>h.elim (by assumption) (fun h=>absurd (of_decide_eq_true h) (by assumption)))|exact cls_2 (eff_n (by assumption)) (blk_f (by assumption)) (fun h=>h.elim (by assumption) (fun h=>absurd (of_decide_eq_true h) (by assumption)))|(trace_state; done)
   try have q3:=q3 (by omega)
   refine s1 (ev_geq _ _ _) rfl rfl rfl ?_
   refine s4 rfl (fun g3=>?_) fun g3=>?_
   ·refine s7 [.int .i64 _] rfl ?_
    refine congrArg (fun z=>[U.int .i64 z]) ?_; symm; first|exact cls_0 (eff_2 (by assumption)) (blk_t (by assumption))|exact cls_0 (eff_n (by assumption)) (blk_t (by assumption))|exact cls_1 (eff_2 (by assumption)) (blk_f (by assumption)) (.inl (by assumption))|exact cls_1 (eff_n (by assumption)) (blk_f (by assumption)) (.inl (by assumption))|exact cls_1 (eff_2 (by assumption)) (blk_f (by assumption)) (.inr (decide_eq_true (by assumption)))|exact cls_1 (eff_n (by assumption)) (blk_f (by assumption)) (.inr (decide_eq_true (by assumption)))|exact cls_2 (eff_2 (by assumption)) (blk_f (by assumption)) (fun h=>h.elim (by assumption) (fun h=>absurd (of_decide_eq_true h) (by assumption)))|exact cls_2 (eff_n (by assumption)) (blk_f (by assumption)) (fun h=>h.elim (by assumption) (fun h=>absurd (of_decide_eq_true h) (by assumption)))|(trace_state; done)
   first|refine s1 (ev_convW (wrap32 (by omega) (by omega))) rfl rfl rfl ?_|refine s1 (ev_conv _ _ _) rfl rfl rfl ?_
   refine s31 (ctr_s_e _ _ (by omega)) rfl ?_
   first|refine s4 rfl (fun g4=>?_) (fun g4=>?_)|refine s4B rfl (fun g4=>?_) (fun g4=>?_)
   ·refine s7 [.int .i64 _] rfl ?_
    refine congrArg (fun z=>[U.int .i64 z]) ?_; symm; first|exact cls_0 (eff_2 (by assumption)) (blk_t (by assumption))|exact cls_0 (eff_n (by assumption)) (blk_t (by assumption))|exact cls_1 (eff_2 (by assumption)) (blk_f (by assumption)) (.inl (by assumption))|exact cls_1 (eff_n (by assumption)) (blk_f (by assumption)) (.inl (by assumption))|exact cls_1 (eff_2 (by assumption)) (blk_f (by assumption)) (.inr (decide_eq_true (by assumption)))|exact cls_1 (eff_n (by assumption)) (blk_f (by assumption)) (.inr (decide_eq_true (by assumption)))|exact cls_2 (eff_2 (by assumption)) (blk_f (by assumption)) (fun h=>h.elim (by assumption) (fun h=>absurd (of_decide_eq_true h) (by assumption)))|exact cls_2 (eff_n (by assumption)) (blk_f (by assumption)) (fun h=>h.elim (by assumption) (fun h=>absurd (of_decide_eq_true h) (by assumption)))|(trace_state; done)
   refine s7 [.int .i64 _] rfl ?_
   refine congrArg (fun z=>[U.int .i64 z]) ?_; symm; first|exact cls_0 (eff_2 (by assumption)) (blk_t (by assumption))|exact cls_0 (eff_n (by assumption)) (blk_t (by assumption))|exact cls_1 (eff_2 (by assumption)) (blk_f (by assumption)) (.inl (by assumption))|exact cls_1 (eff_n (by assumption)) (blk_f (by assumption)) (.inl (by assumption))|exact cls_1 (eff_2 (by assumption)) (blk_f (by assumption)) (.inr (decide_eq_true (by assumption)))|exact cls_1 (eff_n (by assumption)) (blk_f (by assumption)) (.inr (decide_eq_true (by assumption)))|exact cls_2 (eff_2 (by assumption)) (blk_f (by assumption)) (fun h=>h.elim (by assumption) (fun h=>absurd (of_decide_eq_true h) (by assumption)))|exact cls_2 (eff_n (by assumption)) (blk_f (by assumption)) (fun h=>h.elim (by assumption) (fun h=>absurd (of_decide_eq_true h) (by assumption)))|(trace_state; done)
  ·cases hs
 ·cases hs
noncomputable def L_cls:List (FuncId × FnC):=(47,conF Tryd.prog [.a [22,8],.s 3] cls_s [.s 3])::L_ctr
theorem L_cls_ok {G:Nat→Option Obj} (hst:StartOk Tryd.prog G gl H0 n0):ConsOk Tryd.prog G gl L_cls:=.cons (cls_c hst) (L_ctr_ok hst)
end Go.Proofs.YtdkdbjgkedahfaaDoor

namespace Go.Proofs.YtdkdbjgkedahfaaDoor
set_option linter.all false
open Go Go.Sx
set_option maxRecDepth 100000
set_option linter.unusedVariables false
set_option linter.unusedSimpArgs false
def clsK (rows:Option (List Row)) (cols k:Int):Int:=clsS (el ((el rows).getD (k / cols).toNat default).1) (k % cols)
def bkN (rows:Option (List Row)) (cols own lo:Int):Nat→Int→Int→Int→Bool × Int × Int
 | 0,_,r,c=>(false,r,c)
 | n+1,k,r,c=>if k < lo then (false,r,c) else if clsK rows cols k=own then bkN rows cols own lo n (k - 1) (k / cols) (k % cols) else (true,r,c)
def bkS (rows:Option (List Row)) (cols own lo k r c:Int):Bool × Int × Int:=bkN rows cols own lo (k - lo+1).toNat k r c
theorem bk_end {rows:Option (List Row)} {cols own lo k r c:Int} (h:k < lo):bkS rows cols own lo k r c=(false,r,c):=by
 unfold bkS
 cases hn:(k - lo+1).toNat with
 | zero=>rfl
 | succ n=>rw [bkN,if_pos h]
theorem bk_no {rows:Option (List Row)} {cols own lo k r c:Int} (h:lo≤k) (h2:clsK rows cols k≠own):bkS rows cols own lo k r c=(true,r,c):=by
 unfold bkS
 rw [show (k - lo+1).toNat=(k - lo).toNat+1 by omega,bkN,if_neg (by omega),if_neg h2]
theorem bk_go {rows:Option (List Row)} {cols own lo k r c:Int} (h:lo≤k) (h2:¬clsK rows cols k≠own):bkS rows cols own lo k r c=bkS rows cols own lo (k + -1) (k / cols) (k % cols):=by
 unfold bkS
 rw [show (k - lo+1).toNat=(k + -1 - lo+1).toNat+1 by omega,bkN,if_neg (by omega),if_pos (Classical.not_not.1 h2)]
 rfl
theorem mul_bd {a b A B:Int} (h0:0≤a) (h1:a≤A) (h2:0≤b) (h3:b≤B):0≤a * b∧a * b≤A * B:=⟨Int.mul_nonneg h0 h2,Int.mul_le_mul h1 h3 h2 (by omega)⟩
theorem cell_bd {k cols n:Int} (h0:0≤k) (hc:0 < cols) (h1:k < n * cols):0≤k / cols∧k / cols < n∧0≤k % cols∧k % cols < cols :=
 ⟨Int.ediv_nonneg h0 (by omega),Int.ediv_lt_of_lt_mul hc h1,Int.emod_nonneg _ (by omega),Int.emod_lt_of_pos _ hc⟩
def wbU (rows:Option (List Row)) (ar ac r c tr tc own f l:Int):List U:=[.int .i64 f,.int .i64 l,encS rRw rows,.int .i64 ar,.int .i64 ac,.int .i64 r,.int .i64 c,.int .i64 tr,.int .i64 tc,.int .i64 own]
theorem cls_arg {rows:Option (List Row)} {cols k:Int} (h:chkS rows=0) (hc:cols=colN rows) (hk:0≤k / cols∧k / cols < ((el rows).length:Int)∧0≤k % cols∧k % cols < cols):rowS (el ((el rows).getD (k / cols).toNat default).1)=0∧0≤k % cols∧k % cols < ((el ((el rows).getD (k / cols).toNat default).1).length:Int):=by
 obtain ⟨h1,h2⟩:=(chk_len h).2.2 _ (getD_mem hk.1 hk.2.1)
 exact ⟨h1,hk.2.2.1,by rw [h2,← hc]; exact hk.2.2.2⟩
def unB (b:Bool):Option Unit:=if b then some () else none
noncomputable def U_wbk:List (FuncId × FnC):=(61,conF Tryd.prog [.s 12] pck_s [.s 3])::(45,conF Tryd.prog [.s 12,.s 3] lin_s [.s 3,.s 3])::(47,conF Tryd.prog [.a [22,8],.s 3] cls_s [.s 3])::L0
theorem U_wbk_ok {G:Nat→Option Obj} (hst:StartOk Tryd.prog G gl H0 n0):ConsOk Tryd.prog G gl U_wbk:=(.cons (pck_c hst) (.cons (lin_c hst) (.cons (cls_c hst) .nil)))
def wbk_l:List U→Option (Nat × List U)
 | [.int .i64 k,.int .i64 first,.int .i64 last,.int .i64 cols,.int .i64 f,.int .i64 l,u_rows,.int .i64 ar,.int .i64 ac,.int .i64 r,.int .i64 c,.int .i64 tr,.int .i64 tc,.int .i64 own]=>(decS rRw u_rows).bind fun rows=>if chkS rows=0∧cols=colN rows∧0≤first∧first≤last∧last < ((el rows).length:Int)∧first * cols - 1≤k∧k < (last+1) * cols then way01 (unB (bkS rows cols own (first * cols) k r c).1) (wbU rows ar ac (bkS rows cols own (first * cols) k r c).2.1 (bkS rows cols own (first * cols) k r c).2.2 tr tc own f l) (fun _=>wbU rows ar ac (bkS rows cols own (first * cols) k r c).2.1 (bkS rows cols own (first * cols) k r c).2.2 tr tc own f l) else none
 | _=>none
theorem wbk_l_e (k:Int) (first:Int) (last:Int) (cols:Int) (f:Int) (l:Int) (rows:(Option (List ((Option (List (Int × Int × Int × Int × Int × Int × Int × Int × Int × Int × Int × Int))) × Bool)))) (ar:Int) (ac:Int) (r:Int) (c:Int) (tr:Int) (tc:Int) (own:Int) (hc:chkS rows=0∧cols=colN rows∧0≤first∧first≤last∧last < ((el rows).length:Int)∧first * cols - 1≤k∧k < (last+1) * cols):wbk_l [.int .i64 k,.int .i64 first,.int .i64 last,.int .i64 cols,.int .i64 f,.int .i64 l,encS rRw rows,.int .i64 ar,.int .i64 ac,.int .i64 r,.int .i64 c,.int .i64 tr,.int .i64 tc,.int .i64 own]=way01 (unB (bkS rows cols own (first * cols) k r c).1) (wbU rows ar ac (bkS rows cols own (first * cols) k r c).2.1 (bkS rows cols own (first * cols) k r c).2.2 tr tc own f l) (fun _=>wbU rows ar ac (bkS rows cols own (first * cols) k r c).2.1 (bkS rows cols own (first * cols) k r c).2.2 tr tc own f l):=by
 simp only [wbk_l,decS_enc,Option.bind_some]
 exact if_pos hc
def wbk_D:LoopD:=⟨[(0,yv 16),(2,.pointer (some ⟨14,0,none⟩)),(3,.pointer (some ⟨12,0,none⟩)),(4,.pointer (some ⟨13,0,none⟩)),(5,.pointer (some ⟨11,0,none⟩)),(7,h 0 3)],[(11,.cells 3 [.int .i64 (-1)]),(12,.cells 3 [h 1 3]),(13,.cells 3 [h 2 3]),(14,.cells 3 [h 3 3]),(16,.lp 18 [true,true,true,true,false,true,false] [junk,junk,.pointer (some ⟨4,0,none⟩),.pointer (some ⟨5,0,none⟩),.pointer (some ⟨6,0,none⟩),.pointer (some ⟨7,0,none⟩),junk,junk,h 4 3,h 5 3,.pointer (some ⟨9,0,none⟩),junk,junk,junk,junk,junk,junk,junk,junk,junk,junk,junk,junk,junk,junk,junk,junk,junk,junk,junk,junk,junk,junk,junk,junk,junk,junk,junk,junk,junk,junk,junk,junk,junk,junk,junk,junk,junk,junk,junk,junk,junk,junk,junk,junk,junk,junk,junk,junk,junk,junk,junk,junk,junk,junk,junk,junk,junk,junk,junk,junk,junk,junk,junk,junk,junk,junk] 0),(4,.cells 31 [dat 17 6 12]),(5,.cells 29 [h 7 3,h 8 3]),(6,.cells 29 [h 9 3,h 10 3]),(7,.cells 29 [h 11 3,h 12 3]),(9,.cells 3 [h 13 3]),(17,.frz)],14,[⟨.exit 0,[(0,yv 16)],[(16,.lp 18 [true,true,true,true,false,true,false] [junk,junk,.pointer (some ⟨4,0,none⟩),.pointer (some ⟨5,0,none⟩),.pointer (some ⟨6,0,none⟩),.pointer (some ⟨7,0,none⟩),junk,junk,h 0 3,h 1 3,.pointer (some ⟨9,0,none⟩),junk,junk,junk,junk,junk,junk,junk,junk,junk,junk,junk,junk,junk,junk,junk,junk,junk,junk,junk,junk,junk,junk,junk,junk,junk,junk,junk,junk,junk,junk,junk,junk,junk,junk,junk,junk,junk,junk,junk,junk,junk,junk,junk,junk,junk,junk,junk,junk,junk,junk,junk,junk,junk,junk,junk,junk,junk,junk,junk,junk,junk,junk,junk,junk,junk,junk] 0),(4,.cells 31 [dat 18 2 12]),(5,.cells 29 [h 3 3,h 4 3]),(6,.cells 29 [h 5 3,h 6 3]),(7,.cells 29 [h 7 3,h 8 3]),(9,.cells 3 [h 9 3]),(18,.frz)],10⟩,⟨.ret,[(0,yv 16)],[(16,.lp 18 [true,true,true,true,false,true,false] [junk,junk,.pointer (some ⟨4,0,none⟩),.pointer (some ⟨5,0,none⟩),.pointer (some ⟨6,0,none⟩),.pointer (some ⟨7,0,none⟩),junk,junk,h 0 3,h 1 3,.pointer (some ⟨9,0,none⟩),junk,junk,junk,junk,junk,junk,junk,junk,junk,junk,junk,junk,junk,junk,junk,junk,junk,junk,junk,junk,junk,junk,junk,junk,junk,junk,junk,junk,junk,junk,junk,junk,junk,junk,junk,junk,junk,junk,junk,junk,junk,junk,junk,junk,junk,junk,junk,junk,junk,junk,junk,junk,junk,junk,junk,junk,junk,junk,junk,junk,junk,junk,junk,junk,junk,junk] 4),(4,.cells 31 [dat 19 2 12]),(5,.cells 29 [h 3 3,h 4 3]),(6,.cells 29 [h 5 3,h 6 3]),(7,.cells 29 [h 7 3,h 8 3]),(9,.cells 3 [h 9 3]),(19,.frz)],10⟩]⟩
noncomputable def wbk_B:Code:=(Tryd.f69.body).getD .skip
noncomputable def wbk_x:Code:=match codeAt [true,false] wbk_B with|some (.loop x)=>x|_=>.skip
theorem wbk_b:Tryd.f69.body=some wbk_B:=rfl
theorem wbk_p:codeAt [true,false] wbk_B=some (.loop wbk_x):=by kernel_rfl
def wbk_t:Tr:=.lt 3 (.bin .mul) [h 1 3,h 3 3] <| .lt 8 (.bin .geq) [h 0 3,h 14 3] <| .br 15 (.lt 3 (.bin .add) [h 2 3,.int .i64 (1)] <| .lt 3 (.bin .mul) [h 16 3,h 3 3] <| .lt 8 (.bin .lss) [h 0 3,h 17 3] <| .br 18 (.lt 3 (.bin .quo) [h 0 3,h 3 3] <| .lt 3 (.bin .rem) [h 0 3,h 3 3] <| .lt 8 (.inbs 2) [h 19 3,h 6 12] <| .br 21 (.dt 22 (.get 2 0) [h 6 12,h 19 3] <| .lt 8 (.get 2 1) [h 6 12,h 19 3] <| .fn cls_s [h 22 22,h 23 8,h 20 3] 1 <| .lt 8 (.bin .neq) [h 24 3,h 13 3] <| .br 25 (.ret [.int .i64 (1),h 4 3,h 5 3,h 6 12,h 7 3,h 8 3,h 9 3,h 10 3,h 11 3,h 12 3,h 13 3]) (.lt 3 (.bin .add) [h 0 3,.int .i64 (-1)] <| .ret [.int .i64 (-1),h 26 3,h 1 3,h 2 3,h 3 3,h 4 3,h 5 3,h 6 12,h 7 3,h 8 3,h 19 3,h 20 3,h 11 3,h 12 3,h 13 3])) (.no)) (.ret [.int .i64 (0),h 4 3,h 5 3,h 6 12,h 7 3,h 8 3,h 9 3,h 10 3,h 11 3,h 12 3,h 13 3])) (.ret [.int .i64 (0),h 4 3,h 5 3,h 6 12,h 7 3,h 8 3,h 9 3,h 10 3,h 11 3,h 12 3,h 13 3])
def wbk_m:List U→Nat
 | [.int .i64 k,.int .i64 first,.int .i64 last,.int .i64 cols,.int .i64 f,.int .i64 l,u_rows,.int .i64 ar,.int .i64 ac,.int .i64 r,.int .i64 c,.int .i64 tr,.int .i64 tc,.int .i64 own]=>(match decS rRw u_rows with|some rows=>(k - first * cols+1).toNat|none=>0)
 | _=>0
theorem wbk_me (k:Int) (first:Int) (last:Int) (cols:Int) (f:Int) (l:Int) (rows:(Option (List ((Option (List (Int × Int × Int × Int × Int × Int × Int × Int × Int × Int × Int × Int))) × Bool)))) (ar:Int) (ac:Int) (r:Int) (c:Int) (tr:Int) (tc:Int) (own:Int):wbk_m [.int .i64 k,.int .i64 first,.int .i64 last,.int .i64 cols,.int .i64 f,.int .i64 l,encS rRw rows,.int .i64 ar,.int .i64 ac,.int .i64 r,.int .i64 c,.int .i64 tr,.int .i64 tc,.int .i64 own]=(k - first * cols+1).toNat:=by
 simp only [wbk_m,decS_enc]
theorem wbk_c {G:Nat→Option Obj} (hst:StartOk Tryd.prog G gl H0 n0):∀ (E:Nat→U) (base:Nat),@CodeOk ⟨E,G⟩ Tryd.prog base gl Tryd.f69.ntmps wbk_x (loopF Tryd.prog gl n0 20 wbk_D wbk_l):=by
 refine loop_ok (C:=cx U_wbk P_ln2) (dep:=60) (f:=69) (n0:=n0) (nB:=20) (H0:=H0) wbk_m wbk_t (cxg (U_wbk_ok hst) (P_ln2_ok hst)) hst Tryd.func69 wbk_b wbk_p (by kernel_rfl) (by kernel_rfl) (by kernel_rfl) ?_
 intro us d outs hs
 have hs0:=hs
 unfold wbk_l at hs
 split at hs
 ·skip
  rename_i k first last cols f l u_rows ar ac r c tr tc own
  have hq_rows:=Option.bind_eq_some_iff.1 hs
  clear hs
  obtain ⟨rows,hd_rows,hs⟩:=hq_rows
  replace hd_rows:=decS_eq hd_rows
  subst hd_rows
  split at hs
  ·rename_i hc
   clear hs hs0
   have hc0:=chk_col hc.1
   have hl:=chk_len hc.1
   have he:2≤cols∧cols≤80:=by rw [hc.2.1]; exact hc0
   have m1:=mul_bd (a:=first) (b:=cols) (A:=140) (B:=80) (by omega) (by omega) (by omega) (by omega)
   have m2:=mul_bd (a:=last+1) (b:=cols) (A:=140) (B:=80) (by omega) (by omega) (by omega) (by omega)
   have m3:(last+1) * cols≤((el rows).length:Int) * cols:=Int.mul_le_mul_of_nonneg_right (by omega) (by omega)
   have hk:first * cols≤k→k < (last+1) * cols→0≤k / cols∧k / cols < ((el rows).length:Int)∧0≤k % cols∧k % cols < cols:=fun a b=>cell_bd (by omega) (by omega) (by omega)
   refine ⟨rfl,?_⟩
   unfold wbk_t
   refine s0 (.cons 13 _ (.cons 12 _ (.cons 11 _ (.cons 10 _ (.cons 9 _ (.cons 8 _ (.cons 7 _ (.cons 6 _ (.cons 5 _ (.cons 4 _ (.cons 3 _ (.cons 2 _ (.cons 1 _ (.cons 0 _ (.nil))))))))))))))) rfl (by simp [Ev.ok,Ev.len]) ?_
   first|refine s1 (ev_mulW (wrap64 (by omega) (by omega))) rfl rfl rfl ?_|refine s1 (ev_mul _ _ _) rfl rfl rfl ?_
   refine s1 (ev_geq _ _ _) rfl rfl rfl ?_
   refine s5 rfl (fun g0=>?_) fun g0=>?_
   ·refine s7 [.int .i64 _,.int .i64 _,.int .i64 _,encS rRw _,.int .i64 _,.int .i64 _,.int .i64 _,.int .i64 _,.int .i64 _,.int .i64 _,.int .i64 _] rfl ?_
    refine leaf_exit (d:=0) ?_
    first|(exfalso; omega)|(rw [wbk_l_e _ _ _ _ _ _ _ _ _ _ _ _ _ _ hc,bk_end (by omega)]; rfl)
   first|refine s1 (ev_addW (wrap64 (by omega) (by omega))) rfl rfl rfl ?_|refine s1 (ev_add _ _ _) rfl rfl rfl ?_
   first|refine s1 (ev_mulW (wrap64 (by omega) (by omega))) rfl rfl rfl ?_|refine s1 (ev_mul _ _ _) rfl rfl rfl ?_
   refine s1 (ev_lss _ _ _) rfl rfl rfl ?_
   refine s5 rfl (fun g1=>?_) fun g1=>?_
   ·refine s7 [.int .i64 _,.int .i64 _,.int .i64 _,encS rRw _,.int .i64 _,.int .i64 _,.int .i64 _,.int .i64 _,.int .i64 _,.int .i64 _,.int .i64 _] rfl ?_
    refine leaf_exit (d:=0) ?_
    first|(exfalso; omega)|(rw [wbk_l_e _ _ _ _ _ _ _ _ _ _ _ _ _ _ hc,bk_end (by omega)]; rfl)
   have hk:=hk g0 g1
   first|refine s1 (ev_quoW (by omega) (by omega) (wrap64 (by omega) (by omega))) rfl rfl rfl ?_|refine s1 (ev_quo _ _ _ (by omega)) rfl rfl rfl ?_
   first|refine s1 (ev_remW (by omega) (by omega)) rfl rfl rfl ?_|refine s1 (ev_rem _ _ _ (by omega)) rfl rfl rfl ?_
   refine s1 (ev_inbsS rfl) rfl rfl rfl ?_
   refine s5 rfl (fun g2=>?_) fun g2=>?_
   ·refine s8 ?_
    omega
   refine s2 (r:=rCl) (ev_getS rfl (by omega) (by omega) rfl) rfl rfl ?_
   refine s1 (u:=.bool _) (ev_getS rfl (by omega) (by omega) rfl) rfl rfl rfl ?_
   refine s31 (cls_s_e _ _ _ (cls_arg hc.1 hc.2.1 hk)) rfl ?_
   refine s1 (ev_neq _ _ _) rfl rfl rfl ?_
   refine s4 rfl (fun g3=>?_) fun g3=>?_
   ·refine s7 [.int .i64 _,.int .i64 _,.int .i64 _,encS rRw _,.int .i64 _,.int .i64 _,.int .i64 _,.int .i64 _,.int .i64 _,.int .i64 _,.int .i64 _] rfl ?_
    refine leaf_exit (d:=1) ?_
    rw [wbk_l_e _ _ _ _ _ _ _ _ _ _ _ _ _ _ hc,bk_no g0 (by assumption)]; rfl
   first|refine s1 (ev_addW (wrap64 (by omega) (by omega))) rfl rfl rfl ?_|refine s1 (ev_add _ _ _) rfl rfl rfl ?_
   refine s7 [.int .i64 _,.int .i64 _,.int .i64 _,.int .i64 _,.int .i64 _,.int .i64 _,.int .i64 _,encS rRw _,.int .i64 _,.int .i64 _,.int .i64 _,.int .i64 _,.int .i64 _,.int .i64 _,.int .i64 _] rfl ?_
   refine leaf_back ?_ ?_
   ·rw [wbk_l_e _ _ _ _ _ _ _ _ _ _ _ _ _ _ hc,bk_go g0 (by assumption)]; exact wbk_l_e _ _ _ _ _ _ _ _ _ _ _ _ _ _ ⟨hc.1,hc.2.1,by omega,by omega,by omega,by omega,by omega⟩
   ·rw [wbk_me,wbk_me]; omega
  ·cases hs
 ·cases hs
noncomputable def P_wbk:List LpE:=(69,([true,false],loopF Tryd.prog gl n0 20 wbk_D wbk_l))::P_ln2
theorem P_wbk_ok {G:Nat→Option Obj} (hst:StartOk Tryd.prog G gl H0 n0):LpsOk Tryd.prog G gl P_wbk:=.cons Tryd.func69 wbk_b wbk_p (wbk_c hst) (P_ln2_ok hst)
end Go.Proofs.YtdkdbjgkedahfaaDoor

namespace Go.Proofs.YtdkdbjgkedahfaaDoor
set_option linter.all false
open Go Go.Sx
set_option maxRecDepth 100000
set_option linter.unusedVariables false
set_option linter.unusedSimpArgs false
def fwN (rows:Option (List Row)) (cols own hi:Int):Nat→Int→Int→Int→Bool × Int × Int
 | 0,_,r,c=>(false,r,c)
 | n+1,k,r,c=>if hi≤k then (false,r,c) else if clsK rows cols k=own then fwN rows cols own hi n (k+1) (k / cols) (k % cols) else (true,r,c)
def fwS (rows:Option (List Row)) (cols own hi k r c:Int):Bool × Int × Int:=fwN rows cols own hi (hi - k).toNat k r c
theorem fw_end {rows:Option (List Row)} {cols own hi k r c:Int} (h:hi≤k):fwS rows cols own hi k r c=(false,r,c):=by
 unfold fwS
 rw [show (hi - k).toNat=0 by omega]; rfl
theorem fw_no {rows:Option (List Row)} {cols own hi k r c:Int} (h:k < hi) (h2:clsK rows cols k≠own):fwS rows cols own hi k r c=(true,r,c):=by
 unfold fwS
 rw [show (hi - k).toNat=(hi - k - 1).toNat+1 by omega,fwN,if_neg (by omega),if_neg h2]
theorem fw_go {rows:Option (List Row)} {cols own hi k r c:Int} (h:k < hi) (h2:¬clsK rows cols k≠own):fwS rows cols own hi k r c=fwS rows cols own hi (k+1) (k / cols) (k % cols):=by
 unfold fwS
 rw [show (hi - k).toNat=(hi - (k+1)).toNat+1 by omega,fwN,if_neg (by omega),if_pos (Classical.not_not.1 h2)]
def wfU (rows:Option (List Row)) (fr fc r c own:Int):List U:=[encS rRw rows,.int .i64 fr,.int .i64 fc,.int .i64 r,.int .i64 c,.int .i64 own]
noncomputable def U_wfd:List (FuncId × FnC):=(61,conF Tryd.prog [.s 12] pck_s [.s 3])::(45,conF Tryd.prog [.s 12,.s 3] lin_s [.s 3,.s 3])::(47,conF Tryd.prog [.a [22,8],.s 3] cls_s [.s 3])::L0
theorem U_wfd_ok {G:Nat→Option Obj} (hst:StartOk Tryd.prog G gl H0 n0):ConsOk Tryd.prog G gl U_wfd:=(.cons (pck_c hst) (.cons (lin_c hst) (.cons (cls_c hst) .nil)))
def wfd_l:List U→Option (Nat × List U)
 | [.int .i64 k,.int .i64 first,.int .i64 last,.int .i64 cols,u_rows,.int .i64 fr,.int .i64 fc,.int .i64 r,.int .i64 c,.int .i64 own]=>(decS rRw u_rows).bind fun rows=>if chkS rows=0∧cols=colN rows∧0≤first∧first≤last∧last < ((el rows).length:Int)∧first * cols≤k∧k≤(last+1) * cols then way01 (unB (fwS rows cols own ((last+1) * cols) k r c).1) (wfU rows fr fc (fwS rows cols own ((last+1) * cols) k r c).2.1 (fwS rows cols own ((last+1) * cols) k r c).2.2 own) (fun _=>wfU rows fr fc (fwS rows cols own ((last+1) * cols) k r c).2.1 (fwS rows cols own ((last+1) * cols) k r c).2.2 own) else none
 | _=>none
theorem wfd_l_e (k:Int) (first:Int) (last:Int) (cols:Int) (rows:(Option (List ((Option (List (Int × Int × Int × Int × Int × Int × Int × Int × Int × Int × Int × Int))) × Bool)))) (fr:Int) (fc:Int) (r:Int) (c:Int) (own:Int) (hc:chkS rows=0∧cols=colN rows∧0≤first∧first≤last∧last < ((el rows).length:Int)∧first * cols≤k∧k≤(last+1) * cols):wfd_l [.int .i64 k,.int .i64 first,.int .i64 last,.int .i64 cols,encS rRw rows,.int .i64 fr,.int .i64 fc,.int .i64 r,.int .i64 c,.int .i64 own]=way01 (unB (fwS rows cols own ((last+1) * cols) k r c).1) (wfU rows fr fc (fwS rows cols own ((last+1) * cols) k r c).2.1 (fwS rows cols own ((last+1) * cols) k r c).2.2 own) (fun _=>wfU rows fr fc (fwS rows cols own ((last+1) * cols) k r c).2.1 (fwS rows cols own ((last+1) * cols) k r c).2.2 own):=by
 simp only [wfd_l,decS_enc,Option.bind_some]
 exact if_pos hc
def wfd_D:LoopD:=⟨[(0,yv 40),(2,.pointer (some ⟨38,0,none⟩)),(3,.pointer (some ⟨36,0,none⟩)),(4,.pointer (some ⟨37,0,none⟩)),(5,.pointer (some ⟨35,0,none⟩)),(7,h 0 3)],[(35,.cells 3 [.int .i64 (1)]),(36,.cells 3 [h 1 3]),(37,.cells 3 [h 2 3]),(38,.cells 3 [h 3 3]),(40,.lp 18 [true,true,true,true,true,false,true,false] [junk,junk,.pointer (some ⟨4,0,none⟩),junk,.pointer (some ⟨6,0,none⟩),.pointer (some ⟨7,0,none⟩),junk,junk,junk,junk,.pointer (some ⟨9,0,none⟩),junk,junk,junk,junk,junk,junk,junk,junk,junk,junk,junk,junk,junk,junk,junk,junk,junk,junk,junk,junk,junk,junk,junk,junk,junk,junk,junk,junk,junk,junk,junk,junk,junk,junk,junk,junk,junk,junk,junk,junk,junk,junk,junk,junk,junk,junk,junk,junk,junk,junk,junk,junk,junk,junk,junk,junk,junk,junk,junk,junk,junk,junk,junk,junk,junk,junk] 0),(4,.cells 31 [dat 41 4 12]),(6,.cells 29 [h 5 3,h 6 3]),(7,.cells 29 [h 7 3,h 8 3]),(9,.cells 3 [h 9 3]),(41,.frz)],10,[⟨.exit 0,[(0,yv 40)],[(40,.lp 18 [true,true,true,true,true,false,true,false] [junk,junk,.pointer (some ⟨4,0,none⟩),junk,.pointer (some ⟨6,0,none⟩),.pointer (some ⟨7,0,none⟩),junk,junk,junk,junk,.pointer (some ⟨9,0,none⟩),junk,junk,junk,junk,junk,junk,junk,junk,junk,junk,junk,junk,junk,junk,junk,junk,junk,junk,junk,junk,junk,junk,junk,junk,junk,junk,junk,junk,junk,junk,junk,junk,junk,junk,junk,junk,junk,junk,junk,junk,junk,junk,junk,junk,junk,junk,junk,junk,junk,junk,junk,junk,junk,junk,junk,junk,junk,junk,junk,junk,junk,junk,junk,junk,junk,junk] 0),(4,.cells 31 [dat 42 0 12]),(6,.cells 29 [h 1 3,h 2 3]),(7,.cells 29 [h 3 3,h 4 3]),(9,.cells 3 [h 5 3]),(42,.frz)],6⟩,⟨.ret,[(0,yv 40)],[(40,.lp 18 [true,true,true,true,true,false,true,false] [junk,junk,.pointer (some ⟨4,0,none⟩),junk,.pointer (some ⟨6,0,none⟩),.pointer (some ⟨7,0,none⟩),junk,junk,junk,junk,.pointer (some ⟨9,0,none⟩),junk,junk,junk,junk,junk,junk,junk,junk,junk,junk,junk,junk,junk,junk,junk,junk,junk,junk,junk,junk,junk,junk,junk,junk,junk,junk,junk,junk,junk,junk,junk,junk,junk,junk,junk,junk,junk,junk,junk,junk,junk,junk,junk,junk,junk,junk,junk,junk,junk,junk,junk,junk,junk,junk,junk,junk,junk,junk,junk,junk,junk,junk,junk,junk,junk,junk] 6),(4,.cells 31 [dat 43 0 12]),(6,.cells 29 [h 1 3,h 2 3]),(7,.cells 29 [h 3 3,h 4 3]),(9,.cells 3 [h 5 3]),(43,.frz)],6⟩]⟩
noncomputable def wfd_B:Code:=(Tryd.f69.body).getD .skip
noncomputable def wfd_x:Code:=match codeAt [true,false] wfd_B with|some (.loop x)=>x|_=>.skip
theorem wfd_b:Tryd.f69.body=some wfd_B:=rfl
theorem wfd_p:codeAt [true,false] wfd_B=some (.loop wfd_x):=by kernel_rfl
def wfd_t:Tr:=.lt 3 (.bin .mul) [h 1 3,h 3 3] <| .lt 8 (.bin .geq) [h 0 3,h 10 3] <| .br 11 (.lt 3 (.bin .add) [h 2 3,.int .i64 (1)] <| .lt 3 (.bin .mul) [h 12 3,h 3 3] <| .lt 8 (.bin .lss) [h 0 3,h 13 3] <| .br 14 (.lt 3 (.bin .quo) [h 0 3,h 3 3] <| .lt 3 (.bin .rem) [h 0 3,h 3 3] <| .lt 8 (.inbs 2) [h 15 3,h 4 12] <| .br 17 (.dt 22 (.get 2 0) [h 4 12,h 15 3] <| .lt 8 (.get 2 1) [h 4 12,h 15 3] <| .fn cls_s [h 18 22,h 19 8,h 16 3] 1 <| .lt 8 (.bin .neq) [h 20 3,h 9 3] <| .br 21 (.ret [.int .i64 (1),h 4 12,h 5 3,h 6 3,h 7 3,h 8 3,h 9 3]) (.lt 3 (.bin .add) [h 0 3,.int .i64 (1)] <| .ret [.int .i64 (-1),h 22 3,h 1 3,h 2 3,h 3 3,h 4 12,h 5 3,h 6 3,h 15 3,h 16 3,h 9 3])) (.no)) (.ret [.int .i64 (0),h 4 12,h 5 3,h 6 3,h 7 3,h 8 3,h 9 3])) (.ret [.int .i64 (0),h 4 12,h 5 3,h 6 3,h 7 3,h 8 3,h 9 3])
def wfd_m:List U→Nat
 | [.int .i64 k,.int .i64 first,.int .i64 last,.int .i64 cols,u_rows,.int .i64 fr,.int .i64 fc,.int .i64 r,.int .i64 c,.int .i64 own]=>(match decS rRw u_rows with|some rows=>((last+1) * cols - k).toNat|none=>0)
 | _=>0
theorem wfd_me (k:Int) (first:Int) (last:Int) (cols:Int) (rows:(Option (List ((Option (List (Int × Int × Int × Int × Int × Int × Int × Int × Int × Int × Int × Int))) × Bool)))) (fr:Int) (fc:Int) (r:Int) (c:Int) (own:Int):wfd_m [.int .i64 k,.int .i64 first,.int .i64 last,.int .i64 cols,encS rRw rows,.int .i64 fr,.int .i64 fc,.int .i64 r,.int .i64 c,.int .i64 own]=((last+1) * cols - k).toNat:=by
 simp only [wfd_m,decS_enc]
theorem wfd_c {G:Nat→Option Obj} (hst:StartOk Tryd.prog G gl H0 n0):∀ (E:Nat→U) (base:Nat),@CodeOk ⟨E,G⟩ Tryd.prog base gl Tryd.f69.ntmps wfd_x (loopF Tryd.prog gl n0 44 wfd_D wfd_l):=by
 refine loop_ok (C:=cx U_wfd P_wbk) (dep:=60) (f:=69) (n0:=n0) (nB:=44) (H0:=H0) wfd_m wfd_t (cxg (U_wfd_ok hst) (P_wbk_ok hst)) hst Tryd.func69 wfd_b wfd_p (by kernel_rfl) (by kernel_rfl) (by kernel_rfl) ?_
 intro us d outs hs
 have hs0:=hs
 unfold wfd_l at hs
 split at hs
 ·skip
  rename_i k first last cols u_rows fr fc r c own
  have hq_rows:=Option.bind_eq_some_iff.1 hs
  clear hs
  obtain ⟨rows,hd_rows,hs⟩:=hq_rows
  replace hd_rows:=decS_eq hd_rows
  subst hd_rows
  split at hs
  ·rename_i hc
   clear hs hs0
   have hc0:=chk_col hc.1
   have hl:=chk_len hc.1
   have he:2≤cols∧cols≤80:=by rw [hc.2.1]; exact hc0
   have m1:=mul_bd (a:=first) (b:=cols) (A:=140) (B:=80) (by omega) (by omega) (by omega) (by omega)
   have m2:=mul_bd (a:=last+1) (b:=cols) (A:=140) (B:=80) (by omega) (by omega) (by omega) (by omega)
   have m3:(last+1) * cols≤((el rows).length:Int) * cols:=Int.mul_le_mul_of_nonneg_right (by omega) (by omega)
   have hk:first * cols≤k→k < (last+1) * cols→0≤k / cols∧k / cols < ((el rows).length:Int)∧0≤k % cols∧k % cols < cols:=fun a b=>cell_bd (by omega) (by omega) (by omega)
   refine ⟨rfl,?_⟩
   unfold wfd_t
   refine s0 (.cons 9 _ (.cons 8 _ (.cons 7 _ (.cons 6 _ (.cons 5 _ (.cons 4 _ (.cons 3 _ (.cons 2 _ (.cons 1 _ (.cons 0 _ (.nil))))))))))) rfl (by simp [Ev.ok,Ev.len]) ?_
   first|refine s1 (ev_mulW (wrap64 (by omega) (by omega))) rfl rfl rfl ?_|refine s1 (ev_mul _ _ _) rfl rfl rfl ?_
   refine s1 (ev_geq _ _ _) rfl rfl rfl ?_
   refine s5 rfl (fun g0=>?_) fun g0=>?_
   ·refine s7 [.int .i64 _,encS rRw _,.int .i64 _,.int .i64 _,.int .i64 _,.int .i64 _,.int .i64 _] rfl ?_
    refine leaf_exit (d:=0) ?_
    first|(exfalso; omega)|(rw [wfd_l_e _ _ _ _ _ _ _ _ _ _ hc,fw_end (by omega)]; rfl)
   first|refine s1 (ev_addW (wrap64 (by omega) (by omega))) rfl rfl rfl ?_|refine s1 (ev_add _ _ _) rfl rfl rfl ?_
   first|refine s1 (ev_mulW (wrap64 (by omega) (by omega))) rfl rfl rfl ?_|refine s1 (ev_mul _ _ _) rfl rfl rfl ?_
   refine s1 (ev_lss _ _ _) rfl rfl rfl ?_
   refine s5 rfl (fun g1=>?_) fun g1=>?_
   ·refine s7 [.int .i64 _,encS rRw _,.int .i64 _,.int .i64 _,.int .i64 _,.int .i64 _,.int .i64 _] rfl ?_
    refine leaf_exit (d:=0) ?_
    first|(exfalso; omega)|(rw [wfd_l_e _ _ _ _ _ _ _ _ _ _ hc,fw_end (by omega)]; rfl)
   have hk:=hk g0 g1
   first|refine s1 (ev_quoW (by omega) (by omega) (wrap64 (by omega) (by omega))) rfl rfl rfl ?_|refine s1 (ev_quo _ _ _ (by omega)) rfl rfl rfl ?_
   first|refine s1 (ev_remW (by omega) (by omega)) rfl rfl rfl ?_|refine s1 (ev_rem _ _ _ (by omega)) rfl rfl rfl ?_
   refine s1 (ev_inbsS rfl) rfl rfl rfl ?_
   refine s5 rfl (fun g2=>?_) fun g2=>?_
   ·refine s8 ?_
    omega
   refine s2 (r:=rCl) (ev_getS rfl (by omega) (by omega) rfl) rfl rfl ?_
   refine s1 (u:=.bool _) (ev_getS rfl (by omega) (by omega) rfl) rfl rfl rfl ?_
   refine s31 (cls_s_e _ _ _ (cls_arg hc.1 hc.2.1 hk)) rfl ?_
   refine s1 (ev_neq _ _ _) rfl rfl rfl ?_
   refine s4 rfl (fun g3=>?_) fun g3=>?_
   ·refine s7 [.int .i64 _,encS rRw _,.int .i64 _,.int .i64 _,.int .i64 _,.int .i64 _,.int .i64 _] rfl ?_
    refine leaf_exit (d:=1) ?_
    rw [wfd_l_e _ _ _ _ _ _ _ _ _ _ hc,fw_no g1 (by assumption)]; rfl
   first|refine s1 (ev_addW (wrap64 (by omega) (by omega))) rfl rfl rfl ?_|refine s1 (ev_add _ _ _) rfl rfl rfl ?_
   refine s7 [.int .i64 _,.int .i64 _,.int .i64 _,.int .i64 _,.int .i64 _,encS rRw _,.int .i64 _,.int .i64 _,.int .i64 _,.int .i64 _,.int .i64 _] rfl ?_
   refine leaf_back ?_ ?_
   ·rw [wfd_l_e _ _ _ _ _ _ _ _ _ _ hc,fw_go g1 (by assumption)]; exact wfd_l_e _ _ _ _ _ _ _ _ _ _ ⟨hc.1,hc.2.1,by omega,by omega,by omega,by omega,by omega⟩
   ·rw [wfd_me,wfd_me]; omega
  ·cases hs
 ·cases hs
noncomputable def P_wfd:List LpE:=(69,([true,false],orL (loopF Tryd.prog gl n0 44 wfd_D wfd_l) (loopF Tryd.prog gl n0 20 wbk_D wbk_l)))::P_wbk
theorem P_wfd_ok {G:Nat→Option Obj} (hst:StartOk Tryd.prog G gl H0 n0):LpsOk Tryd.prog G gl P_wfd:=.cons Tryd.func69 wfd_b wfd_p (fun E base=>@CodeOk.or ⟨E,G⟩ _ _ _ _ _ _ _ (wfd_c hst E base) ((wbk_c hst) E base)) (P_wbk_ok hst)
end Go.Proofs.YtdkdbjgkedahfaaDoor

namespace Go.Proofs.YtdkdbjgkedahfaaDoor
set_option linter.all false
open Go Go.Sx
set_option maxRecDepth 100000
set_option linter.unusedVariables false
set_option linter.unusedSimpArgs false
theorem fwN_bd {rows:Option (List Row)} {cols own hi:Int} (hc:0 < cols):∀ (n:Nat) (k r c:Int),0≤c→c≤cols→0≤(fwN rows cols own hi n k r c).2.2∧(fwN rows cols own hi n k r c).2.2≤cols
 | 0,k,r,c,h0,h1=>⟨h0,h1⟩
 | n+1,k,r,c,h0,h1=>by
   unfold fwN
   split
   ·exact ⟨h0,h1⟩
   ·split
    ·exact fwN_bd hc n _ _ _ (Int.emod_nonneg _ (by omega)) (Int.le_of_lt (Int.emod_lt_of_pos _ hc))
    ·exact ⟨h0,h1⟩
structure WF (rows:Option (List Row)) (w r c:Int):Prop where
 ck:chkS rows=0
 co:w=colN rows
 w0:2≤w
 w1:w≤80
 n1:((el rows).length:Int)≤140
 r0:0≤r
 r1:r < ((el rows).length:Int)
 c0:0≤c
 c1:c < w
 m0:0≤r * w
 m1:r * w≤11200
 f0:0≤fstS (el rows) r
 f1:fstS (el rows) r≤r
 l0:r≤lstS (el rows) r
 l1:lstS (el rows) r < ((el rows).length:Int)
 k0:fstS (el rows) r * w≤r * w+c
 k1:r * w+c < (lstS (el rows) r+1) * w
 rw:rowS (el ((el rows).getD r.toNat default).1)=0
 rl:((el ((el rows).getD r.toNat default).1).length:Int)=w
 t0:∀ own,0≤(fwS rows w own ((lstS (el rows) r+1) * w) (r * w+c) 0 0).2.2
 t1:∀ own,(fwS rows w own ((lstS (el rows) r+1) * w) (r * w+c) 0 0).2.2≤80
theorem wf_of {rows:Option (List Row)} {w r c:Int} (hw:w=colN rows) (h:chkS rows=0) (r0:0≤r) (r1:r < ((el rows).length:Int)) (c0:0≤c) (c1:c < w):WF rows w r c:=by
 have hc:=chk_col h
 have hl:=chk_len h
 have hb:=line_bd (l:=el rows) r0 r1
 have m:=mul_bd (a:=r) (b:=w) (A:=140) (B:=80) (by omega) (by omega) (by omega) (by omega)
 have e1:fstS (el rows) r * w≤r * w:=Int.mul_le_mul_of_nonneg_right (by omega) (by omega)
 have e2:(r+1) * w≤(lstS (el rows) r+1) * w:=Int.mul_le_mul_of_nonneg_right (by omega) (by omega)
 rw [Int.add_mul,Int.one_mul] at e2
 have hr:=hl.2.2 _ (getD_mem r0 r1)
 have ht:=fun own=>fwN_bd (rows:=rows) (cols:=w) (own:=own) (hi:=(lstS (el rows) r+1) * w) (by omega) ((lstS (el rows) r+1) * w - (r * w+c)).toNat (r * w+c) 0 0 (by omega) (by omega)
 exact ⟨h,hw,by omega,by omega,by omega,r0,r1,c0,c1,by omega,by omega,by omega,by omega,by omega,by omega,by omega,by omega,hr.1,by rw [hr.2,hw],fun own=>(ht own).1,fun own=>by have:=(ht own).2; show (fwN _ _ _ _ _ _ _ _).2.2≤80; omega⟩
def wownS (rows:Option (List Row)) (r c:Int):Int:=clsS (el ((el rows).getD r.toNat default).1) c
def wbkS (rows:Option (List Row)) (r c:Int):Int × Int:=(bkS rows (colN rows) (wownS rows r c) (fstS (el rows) r * colN rows) (r * colN rows+c) 0 0).2
def wfdS (rows:Option (List Row)) (r c:Int):Int × Int:=(fwS rows (colN rows) (wownS rows r c) ((lstS (el rows) r+1) * colN rows) (r * colN rows+c) 0 0).2
def wrdU (rows:Option (List Row)) (r c:Int):List U:=[.int .i64 (ifE (posE rows 1 r c) (wbkS rows r c).1),.int .i64 (ifE (posE rows 1 r c) (wbkS rows r c).2),.int .i64 (ifE (posE rows 1 r c) (wfdS rows r c).1),.int .i64 (ifE (posE rows 1 r c) ((wfdS rows r c).2+1)),.int .i64 (posE rows 1 r c)]
theorem wrd_e {rows:Option (List Row)} {r c e:Int} (h:posE rows 1 r c=e) (he:e≠0):[U.int .i64 0,U.int .i64 0,U.int .i64 0,U.int .i64 0,U.int .i64 e]=wrdU rows r c:=by
 unfold wrdU ifE; rw [h,if_neg he,if_neg he,if_neg he,if_neg he]
theorem wrd_o {rows:Option (List Row)} {r c:Int} (h:posE rows 1 r c=0):[U.int .i64 (wbkS rows r c).1,U.int .i64 (wbkS rows r c).2,U.int .i64 (wfdS rows r c).1,U.int .i64 ((wfdS rows r c).2+1),U.int .i64 0]=wrdU rows r c:=by
 unfold wrdU ifE; rw [h,if_pos rfl,if_pos rfl,if_pos rfl,if_pos rfl]
noncomputable def U_wrd:List (FuncId × FnC):=(61,conF Tryd.prog [.s 12] pck_s [.s 3])::(45,conF Tryd.prog [.s 12,.s 3] lin_s [.s 3,.s 3])::(47,conF Tryd.prog [.a [22,8],.s 3] cls_s [.s 3])::L0
theorem U_wrd_ok {G:Nat→Option Obj} (hst:StartOk Tryd.prog G gl H0 n0):ConsOk Tryd.prog G gl U_wrd:=(.cons (pck_c hst) (.cons (lin_c hst) (.cons (cls_c hst) .nil)))
def wrd_s:List U→Option (Nat × List U)
 | [u_rows,.int .i64 r,.int .i64 c]=>(decS rRw u_rows).bind fun rows=>if aRows rows then some (0,[.int .i64 (ifE (posE rows 1 r c) (wbkS rows r c).1),.int .i64 (ifE (posE rows 1 r c) (wbkS rows r c).2),.int .i64 (ifE (posE rows 1 r c) (wfdS rows r c).1),.int .i64 (ifE (posE rows 1 r c) ((wfdS rows r c).2+1)),.int .i64 (posE rows 1 r c)]) else none
 | _=>none
theorem wrd_s_e (rows:(Option (List ((Option (List (Int × Int × Int × Int × Int × Int × Int × Int × Int × Int × Int × Int))) × Bool)))) (r:Int) (c:Int) (hc:aRows rows):wrd_s [encS rRw rows,.int .i64 r,.int .i64 c]=some (0,[.int .i64 (ifE (posE rows 1 r c) (wbkS rows r c).1),.int .i64 (ifE (posE rows 1 r c) (wbkS rows r c).2),.int .i64 (ifE (posE rows 1 r c) (wfdS rows r c).1),.int .i64 (ifE (posE rows 1 r c) ((wfdS rows r c).2+1)),.int .i64 (posE rows 1 r c)]):=by
 simp only [wrd_s,decS_enc,Option.bind_some]
 exact if_pos hc
def wrd_t:Tr:=.fn pck_s [h 0 12] 1 <| .lt 8 (.bin .neq) [h 3 3,.int .i64 (0)] <| .br 4 (.lt 8 (.bin .neq) [h 3 3,.int .i64 (0)] <| .br 5 (.ret [.int .i64 (0),.int .i64 (0),.int .i64 (0),.int .i64 (0),h 3 3]) (.no)) (.lt 8 (.inbs 2) [.int .i64 (0),h 0 12] <| .br 5 (.dt 22 (.get 2 0) [h 0 12,.int .i64 (0)] <| .lt 3 (.len) [h 6 22] <| .lt 3 (.bin .sub) [h 7 3,.int .i64 (1)] <| .lt 8 (.bin .geq) [h 1 3,.int .i64 (0)] <| .br 9 (.lt 3 (.len) [h 0 12] <| .lt 8 (.bin .lss) [h 1 3,h 10 3] <| .br 11 (.lt 8 (.bin .geq) [h 2 3,.int .i64 (0)] <| .br 12 (.lt 8 (.bin .leq) [h 2 3,h 8 3] <| .lt 8 (.un .not) [h 13 8] <| .br 14 (.ret [.int .i64 (0),.int .i64 (0),.int .i64 (0),.int .i64 (0),.int .i64 (2)]) (.fn lin_s [h 0 12,h 1 3] 2 <| .lt 8 (.inbs 2) [h 1 3,h 0 12] <| .br 17 (.dt 22 (.get 2 0) [h 0 12,h 1 3] <| .lt 8 (.get 2 1) [h 0 12,h 1 3] <| .fn cls_s [h 18 22,h 19 8,h 2 3] 1 <| .lt 8 (.inbs 2) [.int .i64 (0),h 0 12] <| .br 21 (.dt 22 (.get 2 0) [h 0 12,.int .i64 (0)] <| .lt 3 (.len) [h 22 22] <| .lt 3 (.bin .mul) [h 1 3,h 23 3] <| .lt 3 (.bin .add) [h 24 3,h 2 3] <| .lp wbk_l [h 25 3,h 15 3,h 16 3,h 23 3,h 15 3,h 16 3,h 0 12,h 1 3,h 2 3,.int .i64 (0),.int .i64 (0),.int .i64 (0),.int .i64 (0),h 20 3] 0 10 (.lt 8 (.inbs 2) [.int .i64 (0),h 28 12] <| .br 36 (.dt 22 (.get 2 0) [h 28 12,.int .i64 (0)] <| .lt 3 (.len) [h 37 22] <| .lt 3 (.bin .mul) [h 29 3,h 38 3] <| .lt 3 (.bin .add) [h 39 3,h 30 3] <| .lp wfd_l [h 40 3,h 15 3,h 16 3,h 38 3,h 28 12,h 31 3,h 32 3,h 33 3,h 34 3,h 35 3] 0 6 (.lt 3 (.bin .add) [h 45 3,.int .i64 (1)] <| .ret [h 42 3,h 43 3,h 44 3,h 47 3,.int .i64 (0)]) (.lp wfd_l [h 40 3,h 15 3,h 16 3,h 38 3,h 28 12,h 31 3,h 32 3,h 33 3,h 34 3,h 35 3] 1 6 (.lt 3 (.bin .add) [h 45 3,.int .i64 (1)] <| .ret [h 42 3,h 43 3,h 44 3,h 47 3,.int .i64 (0)]) (.no))) (.no)) (.lp wbk_l [h 25 3,h 15 3,h 16 3,h 23 3,h 15 3,h 16 3,h 0 12,h 1 3,h 2 3,.int .i64 (0),.int .i64 (0),.int .i64 (0),.int .i64 (0),h 20 3] 1 10 (.lt 8 (.inbs 2) [.int .i64 (0),h 28 12] <| .br 36 (.dt 22 (.get 2 0) [h 28 12,.int .i64 (0)] <| .lt 3 (.len) [h 37 22] <| .lt 3 (.bin .mul) [h 29 3,h 38 3] <| .lt 3 (.bin .add) [h 39 3,h 30 3] <| .lp wfd_l [h 40 3,h 15 3,h 16 3,h 38 3,h 28 12,h 31 3,h 32 3,h 33 3,h 34 3,h 35 3] 0 6 (.lt 3 (.bin .add) [h 45 3,.int .i64 (1)] <| .ret [h 42 3,h 43 3,h 44 3,h 47 3,.int .i64 (0)]) (.lp wfd_l [h 40 3,h 15 3,h 16 3,h 38 3,h 28 12,h 31 3,h 32 3,h 33 3,h 34 3,h 35 3] 1 6 (.lt 3 (.bin .add) [h 45 3,.int .i64 (1)] <| .ret [h 42 3,h 43 3,h 44 3,h 47 3,.int .i64 (0)]) (.no))) (.no)) (.no))) (.no)) (.no))) (.ret [.int .i64 (0),.int .i64 (0),.int .i64 (0),.int .i64 (0),.int .i64 (2)])) (.ret [.int .i64 (0),.int .i64 (0),.int .i64 (0),.int .i64 (0),.int .i64 (2)])) (.ret [.int .i64 (0),.int .i64 (0),.int .i64 (0),.int .i64 (0),.int .i64 (2)])) (.no))
theorem wrd_c {G:Nat→Option Obj} (hst:StartOk Tryd.prog G gl H0 n0):ConOk Tryd.prog G 18 [.s 12,.a [3,3]] wrd_s [.a [3,3],.a [3,3],.s 3]:=by
 refine con_of_tree (C:=cx U_wrd P_wfd) (d:=60) wrd_t (cxg (U_wrd_ok hst) (P_wfd_ok hst)) hst ⟨Tryd.f18,_,Tryd.func18,rfl⟩ (by kernel_rfl) (by kernel_rfl) ?_
 intro us outs hs
 unfold wrd_s at hs
 split at hs
 ·skip
  rename_i u_rows r c
  have hq_rows:=Option.bind_eq_some_iff.1 hs
  clear hs
  obtain ⟨rows,hd_rows,hs⟩:=hq_rows
  replace hd_rows:=decS_eq hd_rows
  subst hd_rows
  split at hs
  ·rename_i hc
   cases hs
   have qd:=chk_or rows
   unfold wrd_t
   refine s0 (.cons 2 _ (.cons 1 _ (.cons 0 _ (.nil)))) rfl (by simp [Ev.ok,Ev.len]) ?_
   refine s31 (pck_s_e _ hc) rfl ?_
   refine s1 (ev_neq _ _ _) rfl rfl rfl ?_
   refine s4 rfl (fun g0=>?_) fun g0=>?_
   ·refine s1 (ev_neq _ _ _) rfl rfl rfl ?_
    refine s4 rfl (fun g1=>?_) fun g1=>?_
    ·refine s7 [.int .i64 _,.int .i64 _,.int .i64 _,.int .i64 _,.int .i64 _] rfl ?_
     first|exact wrd_e (pos_a (by assumption)) (by assumption)|exact wrd_e (pos_b (by assumption) (by omega)) (by decide)|exact wrd_o (pos_c (by assumption) (by omega))|(trace_state; done)
    refine s8 ?_
    first|omega|(trace_state; done)
   refine s1 (ev_inbsS rfl) rfl rfl rfl ?_
   refine s5 rfl (fun g1=>?_) fun g1=>?_
   ·refine s8 ?_
    first|omega|(trace_state; done)
   refine s2 (r:=rCl) (ev_getS rfl (by omega) (by omega) rfl) rfl rfl ?_
   refine s1 (ev_lenS _ _) rfl rfl rfl ?_
   first|refine s1 (ev_subW (wrap64 (by omega) (by omega))) rfl rfl rfl ?_|refine s1 (ev_sub _ _ _) rfl rfl rfl ?_
   refine s1 (ev_geq _ _ _) rfl rfl rfl ?_
   refine s5 rfl (fun g2=>?_) fun g2=>?_
   ·refine s7 [.int .i64 _,.int .i64 _,.int .i64 _,.int .i64 _,.int .i64 _] rfl ?_
    first|exact wrd_e (pos_a (by assumption)) (by assumption)|exact wrd_e (pos_b (by assumption) (by omega)) (by decide)|exact wrd_o (pos_c (by assumption) (by omega))|(trace_state; done)
   refine s1 (ev_lenS _ _) rfl rfl rfl ?_
   refine s1 (ev_lss _ _ _) rfl rfl rfl ?_
   refine s5 rfl (fun g3=>?_) fun g3=>?_
   ·refine s7 [.int .i64 _,.int .i64 _,.int .i64 _,.int .i64 _,.int .i64 _] rfl ?_
    first|exact wrd_e (pos_a (by assumption)) (by assumption)|exact wrd_e (pos_b (by assumption) (by omega)) (by decide)|exact wrd_o (pos_c (by assumption) (by omega))|(trace_state; done)
   refine s1 (ev_geq _ _ _) rfl rfl rfl ?_
   refine s5 rfl (fun g4=>?_) fun g4=>?_
   ·refine s7 [.int .i64 _,.int .i64 _,.int .i64 _,.int .i64 _,.int .i64 _] rfl ?_
    first|exact wrd_e (pos_a (by assumption)) (by assumption)|exact wrd_e (pos_b (by assumption) (by omega)) (by decide)|exact wrd_o (pos_c (by assumption) (by omega))|(trace_state; done)
   refine s1 (ev_leq _ _ _) rfl rfl rfl ?_
   refine s1 (ev_notD _) rfl rfl rfl ?_
   refine s4 rfl (fun g5=>?_) fun g5=>?_
   ·refine s7 [.int .i64 _,.int .i64 _,.int .i64 _,.int .i64 _,.int .i64 _] rfl ?_
    first|exact wrd_e (pos_a (by assumption)) (by assumption)|exact wrd_e (pos_b (by assumption) (by omega)) (by decide)|exact wrd_o (pos_c (by assumption) (by omega))|(trace_state; done)
   have z:=wf_of (rows:=rows) (w:=((el ((el rows).getD (0:Int).toNat default).1).length:Int)) (r:=r) (c:=c) rfl (by omega) (by omega) (by omega) (by omega) (by omega) ; obtain ⟨z0,z1,z2,z3,z4,z5,z6,z7,z8,z9,y0,y1,y2,y3,y4,y5,y6,y7,y8,y9,x0⟩:=z ; have y9:=y9 (clsS (el ((el rows).getD r.toNat default).1) c) ; have x0:=x0 (clsS (el ((el rows).getD r.toNat default).1) c)
   refine s32 (lin_s_e _ _ ⟨by omega,by omega,by omega⟩) rfl rfl ?_
   refine s1 (ev_inbsS rfl) rfl rfl rfl ?_
   refine s5 rfl (fun g6=>?_) fun g6=>?_
   ·refine s8 ?_
    first|omega|(trace_state; done)
   refine s2 (r:=rCl) (ev_getS rfl (by omega) (by omega) rfl) rfl rfl ?_
   refine s1 (u:=.bool _) (ev_getS rfl (by omega) (by omega) rfl) rfl rfl rfl ?_
   refine s31 (cls_s_e _ _ _ ⟨y7,by omega,by omega⟩) rfl ?_
   refine s1 (ev_inbsS rfl) rfl rfl rfl ?_
   refine s5 rfl (fun g7=>?_) fun g7=>?_
   ·refine s8 ?_
    first|omega|(trace_state; done)
   refine s2 (r:=rCl) (ev_getS rfl (by omega) (by omega) rfl) rfl rfl ?_
   refine s1 (ev_lenS _ _) rfl rfl rfl ?_
   first|refine s1 (ev_mulW (wrap64 (by omega) (by omega))) rfl rfl rfl ?_|refine s1 (ev_mul _ _ _) rfl rfl rfl ?_
   first|refine s1 (ev_addW (wrap64 (by omega) (by omega))) rfl rfl rfl ?_|refine s1 (ev_add _ _ _) rfl rfl rfl ?_
   refine s6 (wbk_l_e _ _ _ _ _ _ _ _ _ _ _ _ _ _ ⟨z0,rfl,by omega,by omega,by omega,by omega,by omega⟩) rfl (fun _=>rfl) (fun g8=>?_) (fun v8 g8=>?_)
   ·show Tr.sav _ _ (.cons 35 _ (.cons 34 _ (.cons 33 _ (.cons 32 _ (.cons 31 _ (.cons 30 _ (.cons 29 _ (.cons 28 _ (.cons 27 _ (.cons 26 _ _))))))))))
    refine s1 (ev_inbsS rfl) rfl rfl rfl ?_
    refine s5 rfl (fun g9=>?_) fun g9=>?_
    ·refine s8 ?_
     first|omega|(trace_state; done)
    refine s2 (r:=rCl) (ev_getS rfl (by omega) (by omega) rfl) rfl rfl ?_
    refine s1 (ev_lenS _ _) rfl rfl rfl ?_
    first|refine s1 (ev_mulW (wrap64 (by omega) (by omega))) rfl rfl rfl ?_|refine s1 (ev_mul _ _ _) rfl rfl rfl ?_
    first|refine s1 (ev_addW (wrap64 (by omega) (by omega))) rfl rfl rfl ?_|refine s1 (ev_add _ _ _) rfl rfl rfl ?_
    refine s6 (wfd_l_e _ _ _ _ _ _ _ _ _ _ ⟨z0,rfl,by omega,by omega,by omega,by omega,by omega⟩) rfl (fun _=>rfl) (fun g10=>?_) (fun v10 g10=>?_)
    ·show Tr.sav _ _ (.cons 46 _ (.cons 45 _ (.cons 44 _ (.cons 43 _ (.cons 42 _ (.cons 41 _ _))))))
     first|refine s1 (ev_addW (wrap64 (by omega) (by omega))) rfl rfl rfl ?_|refine s1 (ev_add _ _ _) rfl rfl rfl ?_
     refine s7 [.int .i64 _,.int .i64 _,.int .i64 _,.int .i64 _,.int .i64 _] rfl ?_
     first|exact wrd_e (pos_a (by assumption)) (by assumption)|exact wrd_e (pos_b (by assumption) (by omega)) (by decide)|exact wrd_o (pos_c (by assumption) (by omega))|(trace_state; done)
    show Tr.sav _ _ (.cons 46 _ (.cons 45 _ (.cons 44 _ (.cons 43 _ (.cons 42 _ (.cons 41 _ _))))))
    first|refine s1 (ev_addW (wrap64 (by omega) (by omega))) rfl rfl rfl ?_|refine s1 (ev_add _ _ _) rfl rfl rfl ?_
    refine s7 [.int .i64 _,.int .i64 _,.int .i64 _,.int .i64 _,.int .i64 _] rfl ?_
    first|exact wrd_e (pos_a (by assumption)) (by assumption)|exact wrd_e (pos_b (by assumption) (by omega)) (by decide)|exact wrd_o (pos_c (by assumption) (by omega))|(trace_state; done)
   show Tr.sav _ _ (.cons 35 _ (.cons 34 _ (.cons 33 _ (.cons 32 _ (.cons 31 _ (.cons 30 _ (.cons 29 _ (.cons 28 _ (.cons 27 _ (.cons 26 _ _))))))))))
   refine s1 (ev_inbsS rfl) rfl rfl rfl ?_
   refine s5 rfl (fun g9=>?_) fun g9=>?_
   ·refine s8 ?_
    first|omega|(trace_state; done)
   refine s2 (r:=rCl) (ev_getS rfl (by omega) (by omega) rfl) rfl rfl ?_
   refine s1 (ev_lenS _ _) rfl rfl rfl ?_
   first|refine s1 (ev_mulW (wrap64 (by omega) (by omega))) rfl rfl rfl ?_|refine s1 (ev_mul _ _ _) rfl rfl rfl ?_
   first|refine s1 (ev_addW (wrap64 (by omega) (by omega))) rfl rfl rfl ?_|refine s1 (ev_add _ _ _) rfl rfl rfl ?_
   refine s6 (wfd_l_e _ _ _ _ _ _ _ _ _ _ ⟨z0,rfl,by omega,by omega,by omega,by omega,by omega⟩) rfl (fun _=>rfl) (fun g10=>?_) (fun v10 g10=>?_)
   ·show Tr.sav _ _ (.cons 46 _ (.cons 45 _ (.cons 44 _ (.cons 43 _ (.cons 42 _ (.cons 41 _ _))))))
    first|refine s1 (ev_addW (wrap64 (by omega) (by omega))) rfl rfl rfl ?_|refine s1 (ev_add _ _ _) rfl rfl rfl ?_
    refine s7 [.int .i64 _,.int .i64 _,.int .i64 _,.int .i64 _,.int .i64 _] rfl ?_
    first|exact wrd_e (pos_a (by assumption)) (by assumption)|exact wrd_e (pos_b (by assumption) (by omega)) (by decide)|exact wrd_o (pos_c (by assumption) (by omega))|(trace_state; done)
   show Tr.sav _ _ (.cons 46 _ (.cons 45 _ (.cons 44 _ (.cons 43 _ (.cons 42 _ (.cons 41 _ _))))))
   first|refine s1 (ev_addW (wrap64 (by omega) (by omega))) rfl rfl rfl ?_|refine s1 (ev_add _ _ _) rfl rfl rfl ?_
   refine s7 [.int .i64 _,.int .i64 _,.int .i64 _,.int .i64 _,.int .i64 _] rfl ?_
   first|exact wrd_e (pos_a (by assumption)) (by assumption)|exact wrd_e (pos_b (by assumption) (by omega)) (by decide)|exact wrd_o (pos_c (by assumption) (by omega))|(trace_state; done)
  ·cases hs
 ·cases hs
noncomputable def L_wrd:List (FuncId × FnC):=(18,conF Tryd.prog [.s 12,.a [3,3]] wrd_s [.a [3,3],.a [3,3],.s 3])::L_cls
theorem L_wrd_ok {G:Nat→Option Obj} (hst:StartOk Tryd.prog G gl H0 n0):ConsOk Tryd.prog G gl L_wrd:=.cons (wrd_c hst) (L_cls_ok hst)
end Go.Proofs.YtdkdbjgkedahfaaDoor
