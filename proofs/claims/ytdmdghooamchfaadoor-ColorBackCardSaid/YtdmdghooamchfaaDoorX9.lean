/- The law ColorBack: for every input the call returns true, and the arguments read behind it as they read before. No condition. -/
import Derived.Test.YtdmdghooamchfaaDoorX8
import Derived.Test.YtdmdghooamchfaaDoorCards
import Derived.Test.YtdmdghooamchfaaDoorTie
import Derived.WalkKit
import Derived.ProofKit
import Derived.OpenShut
import Derived.Below
import Derived.Carry
import Derived.Lib.SmallJoins
import Derived.Deep.DeepHandedRow
import Derived.Lib.LaidTab
import Derived.MakeChecks
namespace Go.Proofs.YtdmdghooamchfaaDoor
set_option linter.all false
open Go Go.Sx
set_option maxRecDepth 100000
set_option linter.unusedVariables false
set_option linter.unusedSimpArgs false
def lowS (c:Int):Int:=if c / 32 % 2=1 then c else c+32
theorem low_eq {c:Int} (h0:0≤c) (h1:c≤255):IntKind.u8.wrap ((BitVec.ofInt IntKind.u8.bits c ||| BitVec.ofInt IntKind.u8.bits 32).toNat)=lowS c:=by
 obtain ⟨n,rfl⟩:∃ n:Nat,c=n:=⟨c.toNat,by omega⟩
 have hn:n < 256:=by omega
 have:((List.range 256).all fun n=>decide (IntKind.u8.wrap ((BitVec.ofInt IntKind.u8.bits (n:Int) ||| BitVec.ofInt IntKind.u8.bits 32).toNat)=lowS n))=true:=by kernel_rfl
 exact of_decide_eq_true (List.all_eq_true.1 this n (List.mem_range.2 hn))
theorem low_bd {c:Int} (h0:0≤c) (h1:c≤255):0≤lowS c∧lowS c≤255:=by unfold lowS; split <;> omega
theorem hv_low {c:Int} (h0:0≤c) (h1:c≤255):hv c=if 48≤c∧c≤57 then c - 48 else if 97≤lowS c∧lowS c≤102 then lowS c - 87 else -1:=by
 unfold hv lowS
 repeat' split
 all_goals omega
theorem getB_bd {l:List Int} (h:∀ x ∈ l,0≤x∧x≤255) (i:Nat):0≤l.getD i default∧l.getD i default≤255:=by
 rw [List.getD_eq_getElem?_getD]
 cases hx:l[i]? with
 | none=>decide
 | some x=>exact h x (List.mem_of_getElem? hx)
def puW (l:List Int) (n:Int):Nat:=if (puGo l n).2=0 then 0 else if (puGo l n).2=2 then 1 else 2
theorem puG_go {l:List Int} {c n:Int} (h:¬hv c < 0) (h2:¬255 < n * 16+hv c):puGo (c::l) n=puGo l (n * 16+hv c):=by
 rw [puGo,if_neg h,if_neg h2]
theorem pul_back {z0:List UInt8} {n i d:Int} {b:Option (List Int)} (h0:0≤i) (h1:i < ((el b).length:Int)) (hd:hv ((el b).getD i.toNat default)=d) (h2:¬d < 0) (h3:¬255 < n * 16+d):way3 (puW ((el b).drop i.toNat) n) [.int .u64 (puGo ((el b).drop i.toNat) n).1,.str z0] [.int .u64 (puGo ((el b).drop i.toNat) n).1] [.int .u64 (puGo ((el b).drop i.toNat) n).1]=way3 (puW ((el b).drop (i+1).toNat) (n * 16+d)) [.int .u64 (puGo ((el b).drop (i+1).toNat) (n * 16+d)).1,.str z0] [.int .u64 (puGo ((el b).drop (i+1).toNat) (n * 16+d)).1] [.int .u64 (puGo ((el b).drop (i+1).toNat) (n * 16+d)).1]:=by
 subst hd
 have e:=drop_step (el b) h0 h1
 rw [e]
 have e2:=puG_go (l:=(el b).drop (i+1).toNat) h2 h3
 unfold puW
 rw [e2]
theorem pul_syn {n i:Int} {b:Option (List Int)} {f0:List U} (h0:0≤i) (h1:i < ((el b).length:Int)) (hd:hv ((el b).getD i.toNat default) < 0):way3 (puW ((el b).drop i.toNat) n) f0 [.int .u64 (puGo ((el b).drop i.toNat) n).1] [.int .u64 (puGo ((el b).drop i.toNat) n).1]=some (1,[.int .u64 0]):=by
 rw [drop_step (el b) h0 h1]
 unfold puW puGo
 rw [if_pos hd]; rfl
theorem pul_rng {n i:Int} {b:Option (List Int)} {f0:List U} (h0:0≤i) (h1:i < ((el b).length:Int)) (h2:¬hv ((el b).getD i.toNat default) < 0) (h3:255 < n * 16+hv ((el b).getD i.toNat default)):way3 (puW ((el b).drop i.toNat) n) f0 [.int .u64 (puGo ((el b).drop i.toNat) n).1] [.int .u64 (puGo ((el b).drop i.toNat) n).1]=some (2,[.int .u64 255]):=by
 rw [drop_step (el b) h0 h1]
 unfold puW puGo
 rw [if_neg h2,if_pos h3]; rfl
def low_s:List U→Option (Nat × List U)
 | [.int .u8 c]=>if 0≤c∧c≤255 then some (0,[.int .u8 (lowS c)]) else none
 | _=>none
theorem low_s_e (c:Int) (hc:0≤c∧c≤255):low_s [.int .u8 c]=some (0,[.int .u8 (lowS c)]):=if_pos hc
def low_t:Tr:=.lt 4 (.bin .or) [h 0 4,.int .u8 (32)] <| .ret [h 1 4]
theorem low_c {G:Nat→Option Obj} (hst:StartOk Tryd.prog G gl H0 n0):ConOk Tryd.prog G 52 [.s 4] low_s [.s 4]:=by
 refine con_of_tree (C:=cx L_spt P_gsp) (d:=60) low_t (cxg (L_spt_ok hst) (P_gsp_ok hst)) hst ⟨Tryd.f52,_,Tryd.func52,rfl⟩ (by kernel_rfl) (by kernel_rfl) ?_
 intro us outs hs
 unfold low_s at hs
 split at hs
 ·skip
  rename_i c
  split at hs
  ·rename_i hc
   cases hs
   unfold low_t
   refine s0 (.cons 0 _ (.nil)) rfl (by simp [Ev.ok,Ev.len]) ?_
   first|refine s1 (ev_orA 8 256 128 (by decide) (by decide) (by omega) (by omega) (by omega) (by omega) (by omega)) rfl rfl rfl ?_|refine s1 (ev_orB 8 256 128 (by decide) (by decide) (by omega) (by omega) (by omega) (by omega) (by omega)) rfl rfl rfl ?_|refine s1 (ev_orA 16 65536 128 (by decide) (by decide) (by omega) (by omega) (by omega) (by omega) (by omega)) rfl rfl rfl ?_|refine s1 (ev_orB 16 65536 128 (by decide) (by decide) (by omega) (by omega) (by omega) (by omega) (by omega)) rfl rfl rfl ?_|refine s1 (ev_or _ _ _) rfl rfl rfl ?_
   refine s7 [.int .u8 _] rfl ?_
   exact congrArg (fun z=>[U.int .u8 z]) (low_eq hc.1 hc.2)
  ·cases hs
 ·cases hs
noncomputable def L_low:List (FuncId × FnC):=(52,conF Tryd.prog [.s 4] low_s [.s 4])::L_spt
theorem L_low_ok {G:Nat→Option Obj} (hst:StartOk Tryd.prog G gl H0 n0):ConsOk Tryd.prog G gl L_low:=.cons (low_c hst) (L_spt_ok hst)
noncomputable def U_pul:List (FuncId × FnC):=(34,conF Tryd.prog [.s 9,.s 9] spt_s [.s 11])::(52,conF Tryd.prog [.s 4] low_s [.s 4])::L0
theorem U_pul_ok {G:Nat→Option Obj} (hst:StartOk Tryd.prog G gl H0 n0):ConsOk Tryd.prog G gl U_pul:=(.cons (spt_c hst) (.cons (low_c hst) .nil))
def pul_l:List U→Option (Nat × List U)
 | [.str z0,.int .u64 n,u_b,.int .i64 k,.int .i64 i]=>(decS rB u_b).bind fun b=>if k=((el b).length:Int)∧0≤i∧i≤k∧k≤1000000000∧(∀ x ∈ el b,0≤x∧x≤255)∧0≤n∧n≤255 then way3 (puW ((el b).drop i.toNat) n) [.int .u64 (puGo ((el b).drop i.toNat) n).1,.str z0] [.int .u64 (puGo ((el b).drop i.toNat) n).1] [.int .u64 (puGo ((el b).drop i.toNat) n).1] else none
 | _=>none
theorem pul_l_e (z0:(List UInt8)) (n:Int) (b:(Option (List Int))) (k:Int) (i:Int) (hc:k=((el b).length:Int)∧0≤i∧i≤k∧k≤1000000000∧(∀ x ∈ el b,0≤x∧x≤255)∧0≤n∧n≤255):pul_l [.str z0,.int .u64 n,encS rB b,.int .i64 k,.int .i64 i]=way3 (puW ((el b).drop i.toNat) n) [.int .u64 (puGo ((el b).drop i.toNat) n).1,.str z0] [.int .u64 (puGo ((el b).drop i.toNat) n).1] [.int .u64 (puGo ((el b).drop i.toNat) n).1]:=by
 simp only [pul_l,decS_enc,Option.bind_some]
 exact if_pos hc
def pul_D:LoopD:=⟨[(1,.int .i64 (16)),(8,.bool false),(9,h 0 9),(10,.int .u64 (1152921504606846976)),(11,.int .u64 (255)),(12,.bool false),(13,h 1 7),(99,own 13 2 11),(100,h 3 3),(101,h 4 3)],[(13,.sq 2 11 5 14),(14,.frz)],5,[⟨.exit 3,[(13,h 0 7),(12,.bool false),(9,h 1 9)],[],2⟩,⟨.ret,[(6,h 0 7),(7,.iface 82 (.int .i64 (2)))],[],1⟩,⟨.ret,[(6,h 0 7),(7,.iface 82 (.int .i64 (1)))],[],1⟩]⟩
noncomputable def pul_B:Code:=(Tryd.f42.body).getD .skip
noncomputable def pul_x:Code:=match codeAt [true,true,true,true,true,true,true,true,true,true,true,false,true,false] pul_B with|some (.loop x)=>x|_=>.skip
theorem pul_b:Tryd.f42.body=some pul_B:=rfl
theorem pul_p:codeAt [true,true,true,true,true,true,true,true,true,true,true,false,true,false] pul_B=some (.loop pul_x):=by kernel_rfl
def pul_t:Tr:=.lt 8 (.bin .lss) [h 4 3,h 3 3] <| .br 5 (.lt 8 (.inbs 1) [h 4 3,h 2 11] <| .br 6 (.lt 4 (.get 1 0) [h 2 11,h 4 3] <| .lt 8 (.bin .eql) [h 7 4,.int .u8 (95)] <| .br 8 (.lt 8 (.bin .leq) [.int .u8 (48),h 7 4] <| .br 9 (.lt 8 (.bin .leq) [h 7 4,.int .u8 (57)] <| .br 10 (.lt 4 (.bin .sub) [h 7 4,.int .u8 (48)] <| .lt 8 (.bin .geq) [h 11 4,.int .u8 (16)] <| .br 12 (.ret [.int .i64 (1),.int .u64 (0)]) (.lt 8 (.bin .geq) [h 1 7,.int .u64 (1152921504606846976)] <| .br 13 (.ret [.int .i64 (2),.int .u64 (255)]) (.lt 7 (.bin .mul) [h 1 7,.int .u64 (16)] <| .lt 7 (.conv .u64) [h 11 4] <| .lt 7 (.bin .add) [h 14 7,h 15 7] <| .lt 8 (.bin .lss) [h 16 7,h 14 7] <| .br 17 (.ret [.int .i64 (2),.int .u64 (255)]) (.lt 8 (.bin .gtr) [h 16 7,.int .u64 (255)] <| .br 18 (.ret [.int .i64 (2),.int .u64 (255)]) (.lt 3 (.bin .add) [h 4 3,.int .i64 (1)] <| .ret [.int .i64 (-1),h 0 9,h 16 7,h 2 11,h 3 3,h 19 3]))))) (.fn low_s [h 7 4] 1 <| .lt 8 (.bin .leq) [.int .u8 (97),h 11 4] <| .br 12 (.fn low_s [h 7 4] 1 <| .lt 8 (.bin .leq) [h 13 4,.int .u8 (122)] <| .br 14 (.fn low_s [h 7 4] 1 <| .lt 4 (.bin .sub) [h 15 4,.int .u8 (97)] <| .lt 4 (.bin .add) [h 16 4,.int .u8 (10)] <| .lt 8 (.bin .geq) [h 17 4,.int .u8 (16)] <| .br 18 (.ret [.int .i64 (1),.int .u64 (0)]) (.lt 8 (.bin .geq) [h 1 7,.int .u64 (1152921504606846976)] <| .br 19 (.ret [.int .i64 (2),.int .u64 (255)]) (.lt 7 (.bin .mul) [h 1 7,.int .u64 (16)] <| .lt 7 (.conv .u64) [h 17 4] <| .lt 7 (.bin .add) [h 20 7,h 21 7] <| .lt 8 (.bin .lss) [h 22 7,h 20 7] <| .br 23 (.ret [.int .i64 (2),.int .u64 (255)]) (.lt 8 (.bin .gtr) [h 22 7,.int .u64 (255)] <| .br 24 (.ret [.int .i64 (2),.int .u64 (255)]) (.lt 3 (.bin .add) [h 4 3,.int .i64 (1)] <| .ret [.int .i64 (-1),h 0 9,h 22 7,h 2 11,h 3 3,h 25 3]))))) (.ret [.int .i64 (1),.int .u64 (0)])) (.ret [.int .i64 (1),.int .u64 (0)]))) (.fn low_s [h 7 4] 1 <| .lt 8 (.bin .leq) [.int .u8 (97),h 10 4] <| .br 11 (.fn low_s [h 7 4] 1 <| .lt 8 (.bin .leq) [h 12 4,.int .u8 (122)] <| .br 13 (.fn low_s [h 7 4] 1 <| .lt 4 (.bin .sub) [h 14 4,.int .u8 (97)] <| .lt 4 (.bin .add) [h 15 4,.int .u8 (10)] <| .lt 8 (.bin .geq) [h 16 4,.int .u8 (16)] <| .br 17 (.ret [.int .i64 (1),.int .u64 (0)]) (.lt 8 (.bin .geq) [h 1 7,.int .u64 (1152921504606846976)] <| .br 18 (.ret [.int .i64 (2),.int .u64 (255)]) (.lt 7 (.bin .mul) [h 1 7,.int .u64 (16)] <| .lt 7 (.conv .u64) [h 16 4] <| .lt 7 (.bin .add) [h 19 7,h 20 7] <| .lt 8 (.bin .lss) [h 21 7,h 19 7] <| .br 22 (.ret [.int .i64 (2),.int .u64 (255)]) (.lt 8 (.bin .gtr) [h 21 7,.int .u64 (255)] <| .br 23 (.ret [.int .i64 (2),.int .u64 (255)]) (.lt 3 (.bin .add) [h 4 3,.int .i64 (1)] <| .ret [.int .i64 (-1),h 0 9,h 21 7,h 2 11,h 3 3,h 24 3]))))) (.ret [.int .i64 (1),.int .u64 (0)])) (.ret [.int .i64 (1),.int .u64 (0)]))) (.lt 8 (.bin .leq) [.int .u8 (48),h 7 4] <| .br 9 (.lt 8 (.bin .leq) [h 7 4,.int .u8 (57)] <| .br 10 (.lt 4 (.bin .sub) [h 7 4,.int .u8 (48)] <| .lt 8 (.bin .geq) [h 11 4,.int .u8 (16)] <| .br 12 (.ret [.int .i64 (1),.int .u64 (0)]) (.lt 8 (.bin .geq) [h 1 7,.int .u64 (1152921504606846976)] <| .br 13 (.ret [.int .i64 (2),.int .u64 (255)]) (.lt 7 (.bin .mul) [h 1 7,.int .u64 (16)] <| .lt 7 (.conv .u64) [h 11 4] <| .lt 7 (.bin .add) [h 14 7,h 15 7] <| .lt 8 (.bin .lss) [h 16 7,h 14 7] <| .br 17 (.ret [.int .i64 (2),.int .u64 (255)]) (.lt 8 (.bin .gtr) [h 16 7,.int .u64 (255)] <| .br 18 (.ret [.int .i64 (2),.int .u64 (255)]) (.lt 3 (.bin .add) [h 4 3,.int .i64 (1)] <| .ret [.int .i64 (-1),h 0 9,h 16 7,h 2 11,h 3 3,h 19 3]))))) (.fn low_s [h 7 4] 1 <| .lt 8 (.bin .leq) [.int .u8 (97),h 11 4] <| .br 12 (.fn low_s [h 7 4] 1 <| .lt 8 (.bin .leq) [h 13 4,.int .u8 (122)] <| .br 14 (.fn low_s [h 7 4] 1 <| .lt 4 (.bin .sub) [h 15 4,.int .u8 (97)] <| .lt 4 (.bin .add) [h 16 4,.int .u8 (10)] <| .lt 8 (.bin .geq) [h 17 4,.int .u8 (16)] <| .br 18 (.ret [.int .i64 (1),.int .u64 (0)]) (.lt 8 (.bin .geq) [h 1 7,.int .u64 (1152921504606846976)] <| .br 19 (.ret [.int .i64 (2),.int .u64 (255)]) (.lt 7 (.bin .mul) [h 1 7,.int .u64 (16)] <| .lt 7 (.conv .u64) [h 17 4] <| .lt 7 (.bin .add) [h 20 7,h 21 7] <| .lt 8 (.bin .lss) [h 22 7,h 20 7] <| .br 23 (.ret [.int .i64 (2),.int .u64 (255)]) (.lt 8 (.bin .gtr) [h 22 7,.int .u64 (255)] <| .br 24 (.ret [.int .i64 (2),.int .u64 (255)]) (.lt 3 (.bin .add) [h 4 3,.int .i64 (1)] <| .ret [.int .i64 (-1),h 0 9,h 22 7,h 2 11,h 3 3,h 25 3]))))) (.ret [.int .i64 (1),.int .u64 (0)])) (.ret [.int .i64 (1),.int .u64 (0)]))) (.fn low_s [h 7 4] 1 <| .lt 8 (.bin .leq) [.int .u8 (97),h 10 4] <| .br 11 (.fn low_s [h 7 4] 1 <| .lt 8 (.bin .leq) [h 12 4,.int .u8 (122)] <| .br 13 (.fn low_s [h 7 4] 1 <| .lt 4 (.bin .sub) [h 14 4,.int .u8 (97)] <| .lt 4 (.bin .add) [h 15 4,.int .u8 (10)] <| .lt 8 (.bin .geq) [h 16 4,.int .u8 (16)] <| .br 17 (.ret [.int .i64 (1),.int .u64 (0)]) (.lt 8 (.bin .geq) [h 1 7,.int .u64 (1152921504606846976)] <| .br 18 (.ret [.int .i64 (2),.int .u64 (255)]) (.lt 7 (.bin .mul) [h 1 7,.int .u64 (16)] <| .lt 7 (.conv .u64) [h 16 4] <| .lt 7 (.bin .add) [h 19 7,h 20 7] <| .lt 8 (.bin .lss) [h 21 7,h 19 7] <| .br 22 (.ret [.int .i64 (2),.int .u64 (255)]) (.lt 8 (.bin .gtr) [h 21 7,.int .u64 (255)] <| .br 23 (.ret [.int .i64 (2),.int .u64 (255)]) (.lt 3 (.bin .add) [h 4 3,.int .i64 (1)] <| .ret [.int .i64 (-1),h 0 9,h 21 7,h 2 11,h 3 3,h 24 3]))))) (.ret [.int .i64 (1),.int .u64 (0)])) (.ret [.int .i64 (1),.int .u64 (0)])))) (.no)) (.ret [.int .i64 (0),h 1 7,h 0 9])
def pul_m:List U→Nat
 | [.str z0,.int .u64 n,u_b,.int .i64 k,.int .i64 i]=>(match decS rB u_b with|some b=>(k - i).toNat|none=>0)
 | _=>0
theorem pul_me (z0:(List UInt8)) (n:Int) (b:(Option (List Int))) (k:Int) (i:Int):pul_m [.str z0,.int .u64 n,encS rB b,.int .i64 k,.int .i64 i]=(k - i).toNat:=by
 simp only [pul_m,decS_enc]
theorem pul_c {G:Nat→Option Obj} (hst:StartOk Tryd.prog G gl H0 n0):∀ (E:Nat→U) (base:Nat),@CodeOk ⟨E,G⟩ Tryd.prog base gl Tryd.f42.ntmps pul_x (loopF Tryd.prog gl n0 15 pul_D pul_l):=by
 refine loop_ok (C:=cx U_pul P_gsp) (dep:=60) (f:=42) (n0:=n0) (nB:=15) (H0:=H0) pul_m pul_t (cxg (U_pul_ok hst) (P_gsp_ok hst)) hst Tryd.func42 pul_b pul_p (by kernel_rfl) (by kernel_rfl) (by kernel_rfl) ?_
 intro us d outs hs
 have hs0:=hs
 unfold pul_l at hs
 split at hs
 ·skip
  rename_i z0 n u_b k i
  have hq_b:=Option.bind_eq_some_iff.1 hs
  clear hs
  obtain ⟨b,hd_b,hs⟩:=hq_b
  replace hd_b:=decS_eq hd_b
  subst hd_b
  split at hs
  ·rename_i hc
   clear hs hs0
   have hg:=getB_bd hc.2.2.2.2.1 i.toNat
   have hh:=hv_low hg.1 hg.2
   have hl:=low_bd hg.1 hg.2
   refine ⟨rfl,?_⟩
   unfold pul_t
   refine s0 (.cons 4 _ (.cons 3 _ (.cons 2 _ (.cons 1 _ (.cons 0 _ (.nil)))))) rfl (by simp [Ev.ok,Ev.len]) ?_
   refine s1 (ev_lss _ _ _) rfl rfl rfl ?_
   refine s5 rfl (fun g0=>?_) fun g0=>?_
   ·refine s7 [.int .i64 _,.int .u64 _,.str _] rfl ?_
    refine leaf_exit (d:=0) ?_
    rw [pul_l_e _ _ _ _ _ hc,drop_end (el b) (by omega)]; rfl
   refine s1 (ev_inbsS rfl) rfl rfl rfl ?_
   refine s5 rfl (fun g1=>?_) fun g1=>?_
   ·refine s8 ?_
    first|omega|(simp_all; done)|(simp_all; omega)
   refine s1 (u:=.int .u8 _) (ev_getS rfl (by omega) (by omega) rfl) rfl rfl rfl ?_
   refine s1 (ev_eql _ _ _) rfl rfl rfl ?_
   refine s4 rfl (fun g2=>?_) fun g2=>?_
   ·refine s1 (ev_leq _ _ _) rfl rfl rfl ?_
    refine s4 rfl (fun g3=>?_) fun g3=>?_
    ·refine s1 (ev_leq _ _ _) rfl rfl rfl ?_
     refine s4 rfl (fun g4=>?_) fun g4=>?_
     ·first|refine s1 (ev_subW (wrap8 (by omega) (by omega))) rfl rfl rfl ?_|refine s1 (ev_sub _ _ _) rfl rfl rfl ?_
      refine s1 (ev_geq _ _ _) rfl rfl rfl ?_
      refine s4 rfl (fun g5=>?_) fun g5=>?_
      ·refine s7 [.int .i64 _,.int .u64 _] rfl ?_
       refine leaf_exit (d:=1) ?_
       rw [pul_l_e _ _ _ _ _ hc]; exact pul_syn hc.2.1 (by omega) (by omega)
      refine s1 (ev_geq _ _ _) rfl rfl rfl ?_
      refine s4 rfl (fun g6=>?_) fun g6=>?_
      ·refine s7 [.int .i64 _,.int .u64 _] rfl ?_
       refine leaf_exit (d:=2) ?_
       rw [pul_l_e _ _ _ _ _ hc]; refine pul_rng hc.2.1 (by omega) ?_ ?_ <;> omega
      first|refine s1 (ev_mulW (wrapu64 (by omega) (by omega))) rfl rfl rfl ?_|refine s1 (ev_mul _ _ _) rfl rfl rfl ?_
      first|refine s1 (ev_convW (wrapu64 (by omega) (by omega))) rfl rfl rfl ?_|refine s1 (ev_conv _ _ _) rfl rfl rfl ?_
      first|refine s1 (ev_addW (wrapu64 (by omega) (by omega))) rfl rfl rfl ?_|refine s1 (ev_add _ _ _) rfl rfl rfl ?_
      refine s1 (ev_lss _ _ _) rfl rfl rfl ?_
      refine s4 rfl (fun g7=>?_) fun g7=>?_
      ·refine s7 [.int .i64 _,.int .u64 _] rfl ?_
       refine leaf_exit (d:=2) ?_
       rw [pul_l_e _ _ _ _ _ hc]; refine pul_rng hc.2.1 (by omega) ?_ ?_ <;> omega
      refine s1 (ev_gtr _ _ _) rfl rfl rfl ?_
      refine s4 rfl (fun g8=>?_) fun g8=>?_
      ·refine s7 [.int .i64 _,.int .u64 _] rfl ?_
       refine leaf_exit (d:=2) ?_
       rw [pul_l_e _ _ _ _ _ hc]; refine pul_rng hc.2.1 (by omega) ?_ ?_ <;> omega
      first|refine s1 (ev_addW (wrap64 (by omega) (by omega))) rfl rfl rfl ?_|refine s1 (ev_add _ _ _) rfl rfl rfl ?_
      refine s7 [.int .i64 _,.str _,.int .u64 _,encS rB _,.int .i64 _,.int .i64 _] rfl ?_
      refine leaf_back ?_ ?_
      ·rw [pul_l_e _ _ _ _ _ ⟨hc.1,by omega,by omega,hc.2.2.2.1,hc.2.2.2.2.1,by omega,by omega⟩,pul_l_e _ _ _ _ _ hc]
       refine (pul_back hc.2.1 (by omega) ?_ ?_ ?_).symm <;> omega
      ·rw [pul_me,pul_me]; omega
     refine s31 (low_s_e _ (by omega)) rfl ?_
     refine s1 (ev_leq _ _ _) rfl rfl rfl ?_
     refine s5 rfl (fun g5=>?_) fun g5=>?_
     ·refine s7 [.int .i64 _,.int .u64 _] rfl ?_
      refine leaf_exit (d:=1) ?_
      rw [pul_l_e _ _ _ _ _ hc]; exact pul_syn hc.2.1 (by omega) (by omega)
     refine s31 (low_s_e _ (by omega)) rfl ?_
     refine s1 (ev_leq _ _ _) rfl rfl rfl ?_
     refine s5 rfl (fun g6=>?_) fun g6=>?_
     ·refine s7 [.int .i64 _,.int .u64 _] rfl ?_
      refine leaf_exit (d:=1) ?_
      rw [pul_l_e _ _ _ _ _ hc]; exact pul_syn hc.2.1 (by omega) (by omega)
     refine s31 (low_s_e _ (by omega)) rfl ?_
     first|refine s1 (ev_subW (wrap8 (by omega) (by omega))) rfl rfl rfl ?_|refine s1 (ev_sub _ _ _) rfl rfl rfl ?_
     first|refine s1 (ev_addW (wrap8 (by omega) (by omega))) rfl rfl rfl ?_|refine s1 (ev_add _ _ _) rfl rfl rfl ?_
     refine s1 (ev_geq _ _ _) rfl rfl rfl ?_
     refine s4 rfl (fun g7=>?_) fun g7=>?_
     ·refine s7 [.int .i64 _,.int .u64 _] rfl ?_
      refine leaf_exit (d:=1) ?_
      rw [pul_l_e _ _ _ _ _ hc]; exact pul_syn hc.2.1 (by omega) (by omega)
     refine s1 (ev_geq _ _ _) rfl rfl rfl ?_
     refine s4 rfl (fun g8=>?_) fun g8=>?_
     ·refine s7 [.int .i64 _,.int .u64 _] rfl ?_
      refine leaf_exit (d:=2) ?_
      rw [pul_l_e _ _ _ _ _ hc]; refine pul_rng hc.2.1 (by omega) ?_ ?_ <;> omega
     first|refine s1 (ev_mulW (wrapu64 (by omega) (by omega))) rfl rfl rfl ?_|refine s1 (ev_mul _ _ _) rfl rfl rfl ?_
     first|refine s1 (ev_convW (wrapu64 (by omega) (by omega))) rfl rfl rfl ?_|refine s1 (ev_conv _ _ _) rfl rfl rfl ?_
     first|refine s1 (ev_addW (wrapu64 (by omega) (by omega))) rfl rfl rfl ?_|refine s1 (ev_add _ _ _) rfl rfl rfl ?_
     refine s1 (ev_lss _ _ _) rfl rfl rfl ?_
     refine s4 rfl (fun g9=>?_) fun g9=>?_
     ·refine s7 [.int .i64 _,.int .u64 _] rfl ?_
      refine leaf_exit (d:=2) ?_
      rw [pul_l_e _ _ _ _ _ hc]; refine pul_rng hc.2.1 (by omega) ?_ ?_ <;> omega
     refine s1 (ev_gtr _ _ _) rfl rfl rfl ?_
     refine s4 rfl (fun g10=>?_) fun g10=>?_
     ·refine s7 [.int .i64 _,.int .u64 _] rfl ?_
      refine leaf_exit (d:=2) ?_
      rw [pul_l_e _ _ _ _ _ hc]; refine pul_rng hc.2.1 (by omega) ?_ ?_ <;> omega
     first|refine s1 (ev_addW (wrap64 (by omega) (by omega))) rfl rfl rfl ?_|refine s1 (ev_add _ _ _) rfl rfl rfl ?_
     refine s7 [.int .i64 _,.str _,.int .u64 _,encS rB _,.int .i64 _,.int .i64 _] rfl ?_
     refine leaf_back ?_ ?_
     ·rw [pul_l_e _ _ _ _ _ ⟨hc.1,by omega,by omega,hc.2.2.2.1,hc.2.2.2.2.1,by omega,by omega⟩,pul_l_e _ _ _ _ _ hc]
      refine (pul_back hc.2.1 (by omega) ?_ ?_ ?_).symm <;> omega
     ·rw [pul_me,pul_me]; omega
    refine s31 (low_s_e _ (by omega)) rfl ?_
    refine s1 (ev_leq _ _ _) rfl rfl rfl ?_
    refine s5 rfl (fun g4=>?_) fun g4=>?_
    ·refine s7 [.int .i64 _,.int .u64 _] rfl ?_
     refine leaf_exit (d:=1) ?_
     rw [pul_l_e _ _ _ _ _ hc]; exact pul_syn hc.2.1 (by omega) (by omega)
    refine s31 (low_s_e _ (by omega)) rfl ?_
    refine s1 (ev_leq _ _ _) rfl rfl rfl ?_
    refine s5 rfl (fun g5=>?_) fun g5=>?_
    ·refine s7 [.int .i64 _,.int .u64 _] rfl ?_
     refine leaf_exit (d:=1) ?_
     rw [pul_l_e _ _ _ _ _ hc]; exact pul_syn hc.2.1 (by omega) (by omega)
    refine s31 (low_s_e _ (by omega)) rfl ?_
    first|refine s1 (ev_subW (wrap8 (by omega) (by omega))) rfl rfl rfl ?_|refine s1 (ev_sub _ _ _) rfl rfl rfl ?_
    first|refine s1 (ev_addW (wrap8 (by omega) (by omega))) rfl rfl rfl ?_|refine s1 (ev_add _ _ _) rfl rfl rfl ?_
    refine s1 (ev_geq _ _ _) rfl rfl rfl ?_
    refine s4 rfl (fun g6=>?_) fun g6=>?_
    ·refine s7 [.int .i64 _,.int .u64 _] rfl ?_
     refine leaf_exit (d:=1) ?_
     rw [pul_l_e _ _ _ _ _ hc]; exact pul_syn hc.2.1 (by omega) (by omega)
    refine s1 (ev_geq _ _ _) rfl rfl rfl ?_
    refine s4 rfl (fun g7=>?_) fun g7=>?_
    ·refine s7 [.int .i64 _,.int .u64 _] rfl ?_
     refine leaf_exit (d:=2) ?_
     rw [pul_l_e _ _ _ _ _ hc]; refine pul_rng hc.2.1 (by omega) ?_ ?_ <;> omega
    first|refine s1 (ev_mulW (wrapu64 (by omega) (by omega))) rfl rfl rfl ?_|refine s1 (ev_mul _ _ _) rfl rfl rfl ?_
    first|refine s1 (ev_convW (wrapu64 (by omega) (by omega))) rfl rfl rfl ?_|refine s1 (ev_conv _ _ _) rfl rfl rfl ?_
    first|refine s1 (ev_addW (wrapu64 (by omega) (by omega))) rfl rfl rfl ?_|refine s1 (ev_add _ _ _) rfl rfl rfl ?_
    refine s1 (ev_lss _ _ _) rfl rfl rfl ?_
    refine s4 rfl (fun g8=>?_) fun g8=>?_
    ·refine s7 [.int .i64 _,.int .u64 _] rfl ?_
     refine leaf_exit (d:=2) ?_
     rw [pul_l_e _ _ _ _ _ hc]; refine pul_rng hc.2.1 (by omega) ?_ ?_ <;> omega
    refine s1 (ev_gtr _ _ _) rfl rfl rfl ?_
    refine s4 rfl (fun g9=>?_) fun g9=>?_
    ·refine s7 [.int .i64 _,.int .u64 _] rfl ?_
     refine leaf_exit (d:=2) ?_
     rw [pul_l_e _ _ _ _ _ hc]; refine pul_rng hc.2.1 (by omega) ?_ ?_ <;> omega
    first|refine s1 (ev_addW (wrap64 (by omega) (by omega))) rfl rfl rfl ?_|refine s1 (ev_add _ _ _) rfl rfl rfl ?_
    refine s7 [.int .i64 _,.str _,.int .u64 _,encS rB _,.int .i64 _,.int .i64 _] rfl ?_
    refine leaf_back ?_ ?_
    ·rw [pul_l_e _ _ _ _ _ ⟨hc.1,by omega,by omega,hc.2.2.2.1,hc.2.2.2.2.1,by omega,by omega⟩,pul_l_e _ _ _ _ _ hc]
     refine (pul_back hc.2.1 (by omega) ?_ ?_ ?_).symm <;> omega
    ·rw [pul_me,pul_me]; omega
   refine s1 (ev_leq _ _ _) rfl rfl rfl ?_
   refine s4 rfl (fun g3=>?_) fun g3=>?_
   ·refine s1 (ev_leq _ _ _) rfl rfl rfl ?_
    refine s4 rfl (fun g4=>?_) fun g4=>?_
    ·first|refine s1 (ev_subW (wrap8 (by omega) (by omega))) rfl rfl rfl ?_|refine s1 (ev_sub _ _ _) rfl rfl rfl ?_
     refine s1 (ev_geq _ _ _) rfl rfl rfl ?_
     refine s4 rfl (fun g5=>?_) fun g5=>?_
     ·refine s7 [.int .i64 _,.int .u64 _] rfl ?_
      refine leaf_exit (d:=1) ?_
      rw [pul_l_e _ _ _ _ _ hc]; exact pul_syn hc.2.1 (by omega) (by omega)
     refine s1 (ev_geq _ _ _) rfl rfl rfl ?_
     refine s4 rfl (fun g6=>?_) fun g6=>?_
     ·refine s7 [.int .i64 _,.int .u64 _] rfl ?_
      refine leaf_exit (d:=2) ?_
      rw [pul_l_e _ _ _ _ _ hc]; refine pul_rng hc.2.1 (by omega) ?_ ?_ <;> omega
     first|refine s1 (ev_mulW (wrapu64 (by omega) (by omega))) rfl rfl rfl ?_|refine s1 (ev_mul _ _ _) rfl rfl rfl ?_
     first|refine s1 (ev_convW (wrapu64 (by omega) (by omega))) rfl rfl rfl ?_|refine s1 (ev_conv _ _ _) rfl rfl rfl ?_
     first|refine s1 (ev_addW (wrapu64 (by omega) (by omega))) rfl rfl rfl ?_|refine s1 (ev_add _ _ _) rfl rfl rfl ?_
     refine s1 (ev_lss _ _ _) rfl rfl rfl ?_
     refine s4 rfl (fun g7=>?_) fun g7=>?_
     ·refine s7 [.int .i64 _,.int .u64 _] rfl ?_
      refine leaf_exit (d:=2) ?_
      rw [pul_l_e _ _ _ _ _ hc]; refine pul_rng hc.2.1 (by omega) ?_ ?_ <;> omega
     refine s1 (ev_gtr _ _ _) rfl rfl rfl ?_
     refine s4 rfl (fun g8=>?_) fun g8=>?_
     ·refine s7 [.int .i64 _,.int .u64 _] rfl ?_
      refine leaf_exit (d:=2) ?_
      rw [pul_l_e _ _ _ _ _ hc]; refine pul_rng hc.2.1 (by omega) ?_ ?_ <;> omega
     first|refine s1 (ev_addW (wrap64 (by omega) (by omega))) rfl rfl rfl ?_|refine s1 (ev_add _ _ _) rfl rfl rfl ?_
     refine s7 [.int .i64 _,.str _,.int .u64 _,encS rB _,.int .i64 _,.int .i64 _] rfl ?_
     refine leaf_back ?_ ?_
     ·rw [pul_l_e _ _ _ _ _ ⟨hc.1,by omega,by omega,hc.2.2.2.1,hc.2.2.2.2.1,by omega,by omega⟩,pul_l_e _ _ _ _ _ hc]
      refine (pul_back hc.2.1 (by omega) ?_ ?_ ?_).symm <;> omega
     ·rw [pul_me,pul_me]; omega
    refine s31 (low_s_e _ (by omega)) rfl ?_
    refine s1 (ev_leq _ _ _) rfl rfl rfl ?_
    refine s5 rfl (fun g5=>?_) fun g5=>?_
    ·refine s7 [.int .i64 _,.int .u64 _] rfl ?_
     refine leaf_exit (d:=1) ?_
     rw [pul_l_e _ _ _ _ _ hc]; exact pul_syn hc.2.1 (by omega) (by omega)
    refine s31 (low_s_e _ (by omega)) rfl ?_
    refine s1 (ev_leq _ _ _) rfl rfl rfl ?_
    refine s5 rfl (fun g6=>?_) fun g6=>?_
    ·refine s7 [.int .i64 _,.int .u64 _] rfl ?_
     refine leaf_exit (d:=1) ?_
     rw [pul_l_e _ _ _ _ _ hc]; exact pul_syn hc.2.1 (by omega) (by omega)
    refine s31 (low_s_e _ (by omega)) rfl ?_
    first|refine s1 (ev_subW (wrap8 (by omega) (by omega))) rfl rfl rfl ?_|refine s1 (ev_sub _ _ _) rfl rfl rfl ?_
    first|refine s1 (ev_addW (wrap8 (by omega) (by omega))) rfl rfl rfl ?_|refine s1 (ev_add _ _ _) rfl rfl rfl ?_
    refine s1 (ev_geq _ _ _) rfl rfl rfl ?_
    refine s4 rfl (fun g7=>?_) fun g7=>?_
    ·refine s7 [.int .i64 _,.int .u64 _] rfl ?_
     refine leaf_exit (d:=1) ?_
     rw [pul_l_e _ _ _ _ _ hc]; exact pul_syn hc.2.1 (by omega) (by omega)
    refine s1 (ev_geq _ _ _) rfl rfl rfl ?_
    refine s4 rfl (fun g8=>?_) fun g8=>?_
    ·refine s7 [.int .i64 _,.int .u64 _] rfl ?_
     refine leaf_exit (d:=2) ?_
     rw [pul_l_e _ _ _ _ _ hc]; refine pul_rng hc.2.1 (by omega) ?_ ?_ <;> omega
    first|refine s1 (ev_mulW (wrapu64 (by omega) (by omega))) rfl rfl rfl ?_|refine s1 (ev_mul _ _ _) rfl rfl rfl ?_
    first|refine s1 (ev_convW (wrapu64 (by omega) (by omega))) rfl rfl rfl ?_|refine s1 (ev_conv _ _ _) rfl rfl rfl ?_
    first|refine s1 (ev_addW (wrapu64 (by omega) (by omega))) rfl rfl rfl ?_|refine s1 (ev_add _ _ _) rfl rfl rfl ?_
    refine s1 (ev_lss _ _ _) rfl rfl rfl ?_
    refine s4 rfl (fun g9=>?_) fun g9=>?_
    ·refine s7 [.int .i64 _,.int .u64 _] rfl ?_
     refine leaf_exit (d:=2) ?_
     rw [pul_l_e _ _ _ _ _ hc]; refine pul_rng hc.2.1 (by omega) ?_ ?_ <;> omega
    refine s1 (ev_gtr _ _ _) rfl rfl rfl ?_
    refine s4 rfl (fun g10=>?_) fun g10=>?_
    ·refine s7 [.int .i64 _,.int .u64 _] rfl ?_
     refine leaf_exit (d:=2) ?_
     rw [pul_l_e _ _ _ _ _ hc]; refine pul_rng hc.2.1 (by omega) ?_ ?_ <;> omega
    first|refine s1 (ev_addW (wrap64 (by omega) (by omega))) rfl rfl rfl ?_|refine s1 (ev_add _ _ _) rfl rfl rfl ?_
    refine s7 [.int .i64 _,.str _,.int .u64 _,encS rB _,.int .i64 _,.int .i64 _] rfl ?_
    refine leaf_back ?_ ?_
    ·rw [pul_l_e _ _ _ _ _ ⟨hc.1,by omega,by omega,hc.2.2.2.1,hc.2.2.2.2.1,by omega,by omega⟩,pul_l_e _ _ _ _ _ hc]
     refine (pul_back hc.2.1 (by omega) ?_ ?_ ?_).symm <;> omega
    ·rw [pul_me,pul_me]; omega
   refine s31 (low_s_e _ (by omega)) rfl ?_
   refine s1 (ev_leq _ _ _) rfl rfl rfl ?_
   refine s5 rfl (fun g4=>?_) fun g4=>?_
   ·refine s7 [.int .i64 _,.int .u64 _] rfl ?_
    refine leaf_exit (d:=1) ?_
    rw [pul_l_e _ _ _ _ _ hc]; exact pul_syn hc.2.1 (by omega) (by omega)
   refine s31 (low_s_e _ (by omega)) rfl ?_
   refine s1 (ev_leq _ _ _) rfl rfl rfl ?_
   refine s5 rfl (fun g5=>?_) fun g5=>?_
   ·refine s7 [.int .i64 _,.int .u64 _] rfl ?_
    refine leaf_exit (d:=1) ?_
    rw [pul_l_e _ _ _ _ _ hc]; exact pul_syn hc.2.1 (by omega) (by omega)
   refine s31 (low_s_e _ (by omega)) rfl ?_
   first|refine s1 (ev_subW (wrap8 (by omega) (by omega))) rfl rfl rfl ?_|refine s1 (ev_sub _ _ _) rfl rfl rfl ?_
   first|refine s1 (ev_addW (wrap8 (by omega) (by omega))) rfl rfl rfl ?_|refine s1 (ev_add _ _ _) rfl rfl rfl ?_
   refine s1 (ev_geq _ _ _) rfl rfl rfl ?_
   refine s4 rfl (fun g6=>?_) fun g6=>?_
   ·refine s7 [.int .i64 _,.int .u64 _] rfl ?_
    refine leaf_exit (d:=1) ?_
    rw [pul_l_e _ _ _ _ _ hc]; exact pul_syn hc.2.1 (by omega) (by omega)
   refine s1 (ev_geq _ _ _) rfl rfl rfl ?_
   refine s4 rfl (fun g7=>?_) fun g7=>?_
   ·refine s7 [.int .i64 _,.int .u64 _] rfl ?_
    refine leaf_exit (d:=2) ?_
    rw [pul_l_e _ _ _ _ _ hc]; refine pul_rng hc.2.1 (by omega) ?_ ?_ <;> omega
   first|refine s1 (ev_mulW (wrapu64 (by omega) (by omega))) rfl rfl rfl ?_|refine s1 (ev_mul _ _ _) rfl rfl rfl ?_
   first|refine s1 (ev_convW (wrapu64 (by omega) (by omega))) rfl rfl rfl ?_|refine s1 (ev_conv _ _ _) rfl rfl rfl ?_
   first|refine s1 (ev_addW (wrapu64 (by omega) (by omega))) rfl rfl rfl ?_|refine s1 (ev_add _ _ _) rfl rfl rfl ?_
   refine s1 (ev_lss _ _ _) rfl rfl rfl ?_
   refine s4 rfl (fun g8=>?_) fun g8=>?_
   ·refine s7 [.int .i64 _,.int .u64 _] rfl ?_
    refine leaf_exit (d:=2) ?_
    rw [pul_l_e _ _ _ _ _ hc]; refine pul_rng hc.2.1 (by omega) ?_ ?_ <;> omega
   refine s1 (ev_gtr _ _ _) rfl rfl rfl ?_
   refine s4 rfl (fun g9=>?_) fun g9=>?_
   ·refine s7 [.int .i64 _,.int .u64 _] rfl ?_
    refine leaf_exit (d:=2) ?_
    rw [pul_l_e _ _ _ _ _ hc]; refine pul_rng hc.2.1 (by omega) ?_ ?_ <;> omega
   first|refine s1 (ev_addW (wrap64 (by omega) (by omega))) rfl rfl rfl ?_|refine s1 (ev_add _ _ _) rfl rfl rfl ?_
   refine s7 [.int .i64 _,.str _,.int .u64 _,encS rB _,.int .i64 _,.int .i64 _] rfl ?_
   refine leaf_back ?_ ?_
   ·rw [pul_l_e _ _ _ _ _ ⟨hc.1,by omega,by omega,hc.2.2.2.1,hc.2.2.2.2.1,by omega,by omega⟩,pul_l_e _ _ _ _ _ hc]
    refine (pul_back hc.2.1 (by omega) ?_ ?_ ?_).symm <;> omega
   ·rw [pul_me,pul_me]; omega
  ·cases hs
 ·cases hs
noncomputable def P_pul:List LpE:=(42,([true,true,true,true,true,true,true,true,true,true,true,false,true,false],loopF Tryd.prog gl n0 15 pul_D pul_l))::P_gsp
theorem P_pul_ok {G:Nat→Option Obj} (hst:StartOk Tryd.prog G gl H0 n0):LpsOk Tryd.prog G gl P_pul:=.cons Tryd.func42 pul_b pul_p (pul_c hst) (P_gsp_ok hst)
end Go.Proofs.YtdmdghooamchfaaDoor

namespace Go.Proofs.YtdmdghooamchfaaDoor
set_option linter.all false
open Go Go.Sx
set_option maxRecDepth 100000
set_option linter.unusedVariables false
set_option linter.unusedSimpArgs false
def nOk (n i:Int):Prop:=0≤n∧((i=0∧n=0)∨(i=1∧n < 256)∨(i=2∧n < 65536)∨(i=3∧n < 16777216))
theorem nOk_of {n i:Int} (h:nOk n i):0≤n∧n < 16777216∧(i < 3→n < 65536):=by unfold nOk at h; omega
theorem nOk_step {n i d:Int} (h:nOk n i) (hi:i < 3) (h0:0≤d) (h1:d < 256):nOk (n * 256+d) (i+1):=by unfold nOk at *; omega
instance (n i:Int):Decidable (nOk n i):=by unfold nOk; infer_instance
def prE (l:List (List UInt8)) (n:Int):Option Unit:=match prow l n with
 | some _=>none
 | none=>some ()
def prV (l:List (List UInt8)) (n:Int):Int:=(prow l n).getD 0
def badP (p:List UInt8):Prop:=(puGo (bI p) 0).2≠0∨p.length≠2∨p.getD 0 0=43∨p.getD 0 0=95
theorem puW_0 {p:List UInt8} (h:puW (bI p) 0=0):(puGo (bI p) 0).2=0:=by
 unfold puW at h
 split at h
 ·assumption
 ·split at h <;> cases h
theorem puW_1 {p:List UInt8} (h:puW (bI p) 0≠0):(puGo (bI p) 0).2≠0:=fun e=>h (by unfold puW; rw [if_pos e])
theorem bad_a {p:List UInt8} (h:p=[]):badP p:=by subst h; exact .inr (.inl (by decide))
theorem bad_b {p:List UInt8} (h:(p.length:Int)≠2):badP p:=.inr (.inl (by omega))
theorem bad_c {p:List UInt8} (h:((p.getD (0:Int).toNat 0).toNat:Int)=43):badP p:=.inr (.inr (.inl (by
 show p.getD (0:Int).toNat 0=43
 apply UInt8.toNat_inj.1; show _=43; omega)))
theorem bad_d {p:List UInt8} (h:((p.getD (0:Int).toNat 0).toNat:Int)=95):badP p:=.inr (.inr (.inr (by
 show p.getD (0:Int).toNat 0=95
 apply UInt8.toNat_inj.1; show _=95; omega)))
theorem notBad {p:List UInt8} (h0:puW (bI p) 0=0) (h1:¬(p.length:Int)≠2) (h2:¬((p.getD (0:Int).toNat 0).toNat:Int)=43) (h3:¬((p.getD (0:Int).toNat 0).toNat:Int)=95):¬badP p:=by
 rintro (h|h|h|h)
 ·exact h (puW_0 h0)
 ·omega
 ·exact h2 (by show ((p.getD 0 0).toNat:Int)=43; rw [h]; rfl)
 ·exact h3 (by show ((p.getD 0 0).toNat:Int)=95; rw [h]; rfl)
theorem pul_R {p z0:List UInt8} (h:p.length≤100000):pul_l [.str z0,.int .u64 0,encS rB (some (bI p)),.int .i64 ((el (some (bI p))).length:Int),.int .i64 0]=way3 (puW (bI p) 0) [.int .u64 (puGo (bI p) 0).1,.str z0] [.int .u64 (puGo (bI p) 0).1] [.int .u64 (puGo (bI p) 0).1]:=by
 have hl:(el (some (bI p))).length=p.length:=bI_len p
 rw [pul_l_e _ _ _ _ _ ⟨rfl,by decide,by omega,by omega,fun x hx=>by have:=bI_rng hx; omega,by decide,by decide⟩]
 rfl
theorem pr_bad {b:Option (List (List UInt8))} {n i:Int} {f0:List U} {f1:Unit→List U} (h0:0≤i) (h1:i < ((el b).length:Int)) (h:badP ((el b).getD i.toNat default)):way01 (prE ((el b).drop i.toNat) n) f0 f1=some (1,f1 ()):=by
 rw [drop_step (el b) h0 h1]
 have e:prow ((el b).getD i.toNat default::(el b).drop (i+1).toNat) n=none:=by rw [prow]; exact if_pos h
 unfold prE
 rw [e]; rfl
theorem pr_go {b:Option (List (List UInt8))} {n i d:Int} {f1:Unit→List U} (h0:0≤i) (h1:i < ((el b).length:Int)) (h:¬badP ((el b).getD i.toNat default)) (hd:(puGo (bI ((el b).getD i.toNat default)) 0).1=d):way01 (prE ((el b).drop i.toNat) n) [.int .i64 (prV ((el b).drop i.toNat) n)] f1=way01 (prE ((el b).drop (i+1).toNat) (n * 256+d)) [.int .i64 (prV ((el b).drop (i+1).toNat) (n * 256+d))] f1:=by
 subst hd
 rw [drop_step (el b) h0 h1]
 unfold prE prV
 have e:prow ((el b).getD i.toNat default::(el b).drop (i+1).toNat) n=prow ((el b).drop (i+1).toNat) (n * 256+(puGo (bI ((el b).getD i.toNat default)) 0).1):=by rw [prow]; exact if_neg h
 rw [e]
noncomputable def U_ppl:List (FuncId × FnC):=(34,conF Tryd.prog [.s 9,.s 9] spt_s [.s 11])::(52,conF Tryd.prog [.s 4] low_s [.s 4])::(67,conF Tryd.prog [.s 9] cln_s [.s 9])::L0
theorem U_ppl_ok {G:Nat→Option Obj} (hst:StartOk Tryd.prog G gl H0 n0):ConsOk Tryd.prog G gl U_ppl:=(.cons (spt_c hst) (.cons (low_c hst) (.cons (cln_c hst) .nil)))
def ppl_l:List U→Option (Nat × List U)
 | [.int .i64 n,u_b,.int .i64 k,.int .i64 i]=>(decS rS u_b).bind fun b=>if k=((el b).length:Int)∧0≤i∧i≤k∧k=3∧nOk n i∧∀ p ∈ el b,p.length≤100000 then way01 (prE ((el b).drop i.toNat) n) [.int .i64 (prV ((el b).drop i.toNat) n)] (fun _=>[.int .i64 6]) else none
 | _=>none
theorem ppl_l_e (n:Int) (b:(Option (List (List UInt8)))) (k:Int) (i:Int) (hc:k=((el b).length:Int)∧0≤i∧i≤k∧k=3∧nOk n i∧∀ p ∈ el b,p.length≤100000):ppl_l [.int .i64 n,encS rS b,.int .i64 k,.int .i64 i]=way01 (prE ((el b).drop i.toNat) n) [.int .i64 (prV ((el b).drop i.toNat) n)] (fun _=>[.int .i64 6]):=by
 simp only [ppl_l,decS_enc,Option.bind_some]
 exact if_pos hc
def ppl_D:LoopD:=⟨[(2,.pointer (some ⟨9,0,none⟩)),(7,h 0 3),(27,dat 11 1 11),(28,h 2 3),(29,h 3 3)],[(9,.cells 23 [.int .i64 (0),.int .i64 (0)]),(11,.frz)],4,[⟨.exit 0,[(2,.pointer (some ⟨9,0,none⟩)),(7,h 0 3)],[(9,.cells 23 [.int .i64 (0),.int .i64 (0)])],1⟩,⟨.ret,[(2,.pointer (some ⟨9,0,none⟩)),(3,h 0 3)],[(9,.cells 23 [.int .i64 (0),.int .i64 (0)])],1⟩]⟩
noncomputable def ppl_B:Code:=(Tryd.f20.body).getD .skip
noncomputable def ppl_x:Code:=match codeAt [true,true,true,true,true,false,true,false] ppl_B with|some (.loop x)=>x|_=>.skip
theorem ppl_b:Tryd.f20.body=some ppl_B:=rfl
theorem ppl_p:codeAt [true,true,true,true,true,false,true,false] ppl_B=some (.loop ppl_x):=by kernel_rfl
def ppl_t:Tr:=.lt 8 (.bin .lss) [h 3 3,h 2 3] <| .br 4 (.lt 8 (.inbs 1) [h 3 3,h 1 11] <| .br 5 (.lt 9 (.get 1 0) [h 1 11,h 3 3] <| .lt 8 (.bin .eql) [h 6 9,.string ⟨⟨[]⟩⟩] <| .br 7 (.fn cln_s [h 6 9] 1 <| .ret [.int .i64 (1),.int .i64 (6)]) (.dt 11 (.byt) [h 6 9] <| .lt 3 (.len) [h 8 11] <| .lp pul_l [h 6 9,.int .u64 (0),h 8 11,h 9 3,.int .i64 (0)] 0 2 (.lt 3 (.len) [h 6 9] <| .lt 8 (.bin .neq) [h 12 3,.int .i64 (2)] <| .br 13 (.ret [.int .i64 (1),.int .i64 (6)]) (.lt 4 (.idx) [h 6 9,.int .i64 (0)] <| .lt 8 (.bin .eql) [h 14 4,.int .u8 (43)] <| .br 15 (.ret [.int .i64 (1),.int .i64 (6)]) (.lt 4 (.idx) [h 6 9,.int .i64 (0)] <| .lt 8 (.bin .eql) [h 16 4,.int .u8 (95)] <| .br 17 (.ret [.int .i64 (1),.int .i64 (6)]) (.lt 3 (.bin .shl) [h 0 3,.int .u64 (8)] <| .lt 3 (.conv .i64) [h 10 7] <| .lt 3 (.bin .or) [h 18 3,h 19 3] <| .lt 3 (.bin .add) [h 3 3,.int .i64 (1)] <| .ret [.int .i64 (-1),h 20 3,h 1 11,h 2 3,h 21 3])))) (.lp pul_l [h 6 9,.int .u64 (0),h 8 11,h 9 3,.int .i64 (0)] 1 1 (.fn cln_s [h 6 9] 1 <| .ret [.int .i64 (1),.int .i64 (6)]) (.lp pul_l [h 6 9,.int .u64 (0),h 8 11,h 9 3,.int .i64 (0)] 2 1 (.fn cln_s [h 6 9] 1 <| .ret [.int .i64 (1),.int .i64 (6)]) (.no))))) (.no)) (.ret [.int .i64 (0),h 0 3])
def ppl_m:List U→Nat
 | [.int .i64 n,u_b,.int .i64 k,.int .i64 i]=>(match decS rS u_b with|some b=>(k - i).toNat|none=>0)
 | _=>0
theorem ppl_me (n:Int) (b:(Option (List (List UInt8)))) (k:Int) (i:Int):ppl_m [.int .i64 n,encS rS b,.int .i64 k,.int .i64 i]=(k - i).toNat:=by
 simp only [ppl_m,decS_enc]
theorem ppl_c {G:Nat→Option Obj} (hst:StartOk Tryd.prog G gl H0 n0):∀ (E:Nat→U) (base:Nat),@CodeOk ⟨E,G⟩ Tryd.prog base gl Tryd.f20.ntmps ppl_x (loopF Tryd.prog gl n0 12 ppl_D ppl_l):=by
 refine loop_ok (C:=cx U_ppl P_pul) (dep:=60) (f:=20) (n0:=n0) (nB:=12) (H0:=H0) ppl_m ppl_t (cxg (U_ppl_ok hst) (P_pul_ok hst)) hst Tryd.func20 ppl_b ppl_p (by kernel_rfl) (by kernel_rfl) (by kernel_rfl) ?_
 intro us d outs hs
 have hs0:=hs
 unfold ppl_l at hs
 split at hs
 ·skip
  rename_i n u_b k i
  have hq_b:=Option.bind_eq_some_iff.1 hs
  clear hs
  obtain ⟨b,hd_b,hs⟩:=hq_b
  replace hd_b:=decS_eq hd_b
  subst hd_b
  split at hs
  ·rename_i hc
   clear hs hs0
   have hn:=nOk_of hc.2.2.2.2.1
   have hp:0≤i→i < ((el b).length:Int)→((el b).getD i.toNat default).length≤100000:=fun h0 h1=>all_get hc.2.2.2.2.2 h0 h1
   have hb:=puGo_bd (bI ((el b).getD i.toNat default)) 0 (by decide) (by decide)
   refine ⟨rfl,?_⟩
   unfold ppl_t
   refine s0 (.cons 3 _ (.cons 2 _ (.cons 1 _ (.cons 0 _ (.nil))))) rfl (by simp [Ev.ok,Ev.len]) ?_
   refine s1 (ev_lss _ _ _) rfl rfl rfl ?_
   refine s5 rfl (fun g0=>?_) fun g0=>?_
   ·refine s7 [.int .i64 _,.int .i64 _] rfl ?_
    refine leaf_exit (d:=0) ?_
    rw [ppl_l_e _ _ _ _ hc,drop_end (el b) (by omega)]; rfl
   refine s1 (ev_inbsS rfl) rfl rfl rfl ?_
   refine s5 rfl (fun g1=>?_) fun g1=>?_
   ·refine s8 ?_
    omega
   refine s1 (u:=.str _) (ev_getS rfl (by omega) (by omega) rfl) rfl rfl rfl ?_
   refine s1 (ev_seq _ _) rfl rfl rfl ?_
   refine s4 rfl (fun g2=>?_) fun g2=>?_
   ·refine s31 (cln_s_e _ (by have:=hp (by omega) (by omega); omega)) rfl ?_
    refine s7 [.int .i64 _,.int .i64 _] rfl ?_
    refine leaf_exit (d:=1) ?_
    rw [ppl_l_e _ _ _ _ hc]
    exact pr_bad hc.2.1 (by omega) (by first|exact bad_a (by assumption)|exact bad_b (by assumption)|exact bad_c (by assumption)|exact bad_d (by assumption)|exact .inl (puW_1 (by omega)))
   refine s2 (r:=rB) (ev_bytS _ rfl) rfl rfl ?_
   refine s1 (ev_lenS _ _) rfl rfl rfl ?_
   refine s63 (pul_R (hp (by omega) (by omega))) rfl rfl rfl (fun g3=>?_) (fun g3=>?_) (fun g3=>?_)
   ·show Tr.sav _ _ (.cons 11 _ (.cons 10 _ _))
    refine s1 (ev_len _) rfl rfl rfl ?_
    refine s1 (ev_neq _ _ _) rfl rfl rfl ?_
    refine s4 rfl (fun g4=>?_) fun g4=>?_
    ·refine s7 [.int .i64 _,.int .i64 _] rfl ?_
     refine leaf_exit (d:=1) ?_
     rw [ppl_l_e _ _ _ _ hc]
     exact pr_bad hc.2.1 (by omega) (by first|exact bad_a (by assumption)|exact bad_b (by assumption)|exact bad_c (by assumption)|exact bad_d (by assumption)|exact .inl (puW_1 (by omega)))
    refine s1 (ev_idx _ _ _ (by omega) (by omega)) rfl rfl rfl ?_
    refine s1 (ev_eql _ _ _) rfl rfl rfl ?_
    refine s4 rfl (fun g5=>?_) fun g5=>?_
    ·refine s7 [.int .i64 _,.int .i64 _] rfl ?_
     refine leaf_exit (d:=1) ?_
     rw [ppl_l_e _ _ _ _ hc]
     exact pr_bad hc.2.1 (by omega) (by first|exact bad_a (by assumption)|exact bad_b (by assumption)|exact bad_c (by assumption)|exact bad_d (by assumption)|exact .inl (puW_1 (by omega)))
    refine s1 (ev_idx _ _ _ (by omega) (by omega)) rfl rfl rfl ?_
    refine s1 (ev_eql _ _ _) rfl rfl rfl ?_
    refine s4 rfl (fun g6=>?_) fun g6=>?_
    ·refine s7 [.int .i64 _,.int .i64 _] rfl ?_
     refine leaf_exit (d:=1) ?_
     rw [ppl_l_e _ _ _ _ hc]
     exact pr_bad hc.2.1 (by omega) (by first|exact bad_a (by assumption)|exact bad_b (by assumption)|exact bad_c (by assumption)|exact bad_d (by assumption)|exact .inl (puW_1 (by omega)))
    first|refine s1 (ev_shlW 256 (by decide) (by decide) (wrap64 (by omega) (by omega))) rfl rfl rfl ?_|refine s1 (ev_shlL 256 (by decide) (by decide)) rfl rfl rfl ?_
    first|refine s1 (ev_convW (wrap64 (by omega) (by omega))) rfl rfl rfl ?_|refine s1 (ev_conv _ _ _) rfl rfl rfl ?_
    first|refine s1 (ev_orA 8 256 9223372036854775808 (by decide) (by decide) (by omega) (by omega) (by omega) (by omega) (by omega)) rfl rfl rfl ?_|refine s1 (ev_orB 8 256 9223372036854775808 (by decide) (by decide) (by omega) (by omega) (by omega) (by omega) (by omega)) rfl rfl rfl ?_|refine s1 (ev_or _ _ _) rfl rfl rfl ?_
    first|refine s1 (ev_addW (wrap64 (by omega) (by omega))) rfl rfl rfl ?_|refine s1 (ev_add _ _ _) rfl rfl rfl ?_
    refine s7 [.int .i64 _,.int .i64 _,encS rS _,.int .i64 _,.int .i64 _] rfl ?_
    refine leaf_back ?_ ?_
    ·rw [ppl_l_e _ _ _ _ ⟨hc.1,by omega,by omega,hc.2.2.2.1,nOk_step hc.2.2.2.2.1 (by omega) (by omega) (by omega),hc.2.2.2.2.2⟩,ppl_l_e _ _ _ _ hc]
     exact (pr_go hc.2.1 (by omega) (notBad (by assumption) (by assumption) (by assumption) (by assumption)) rfl).symm
    ·rw [ppl_me,ppl_me]; omega
   ·show Tr.sav _ _ (.cons 10 _ _)
    refine s31 (cln_s_e _ (by have:=hp (by omega) (by omega); omega)) rfl ?_
    refine s7 [.int .i64 _,.int .i64 _] rfl ?_
    refine leaf_exit (d:=1) ?_
    rw [ppl_l_e _ _ _ _ hc]
    exact pr_bad hc.2.1 (by omega) (by first|exact bad_a (by assumption)|exact bad_b (by assumption)|exact bad_c (by assumption)|exact bad_d (by assumption)|exact .inl (puW_1 (by omega)))
   ·show Tr.sav _ _ (.cons 10 _ _)
    refine s31 (cln_s_e _ (by have:=hp (by omega) (by omega); omega)) rfl ?_
    refine s7 [.int .i64 _,.int .i64 _] rfl ?_
    refine leaf_exit (d:=1) ?_
    rw [ppl_l_e _ _ _ _ hc]
    exact pr_bad hc.2.1 (by omega) (by first|exact bad_a (by assumption)|exact bad_b (by assumption)|exact bad_c (by assumption)|exact bad_d (by assumption)|exact .inl (puW_1 (by omega)))
  ·cases hs
 ·cases hs
noncomputable def P_ppl:List LpE:=(20,([true,true,true,true,true,false,true,false],loopF Tryd.prog gl n0 12 ppl_D ppl_l))::P_pul
theorem P_ppl_ok {G:Nat→Option Obj} (hst:StartOk Tryd.prog G gl H0 n0):LpsOk Tryd.prog G gl P_ppl:=.cons Tryd.func20 ppl_b ppl_p (ppl_c hst) (P_pul_ok hst)
end Go.Proofs.YtdmdghooamchfaaDoor

namespace Go.Proofs.YtdmdghooamchfaaDoor
set_option linter.all false
open Go Go.Sx
set_option maxRecDepth 100000
set_option linter.unusedVariables false
set_option linter.unusedSimpArgs false
def parR (s:List UInt8):Int × Int × Int:=match parC s with
 | some n=>(2,n,0)
 | none=>(0,0,6)
theorem par_no {s:List UInt8} (h:parC s=none):[U.int .i64 0,U.int .i64 0,U.int .i64 6]=[U.int .i64 (parR s).1,U.int .i64 (parR s).2.1,U.int .i64 (parR s).2.2]:=by unfold parR; rw [h]
theorem par_so {s:List UInt8} {n:Int} (h:parC s=some n):[U.int .i64 2,U.int .i64 n,U.int .i64 0]=[U.int .i64 (parR s).1,U.int .i64 (parR s).2.1,U.int .i64 (parR s).2.2]:=by unfold parR; rw [h]
theorem pre_of {s:List UInt8} (h:(s.drop (0:Int).toNat).take ((4:Int).toNat - (0:Int).toNat)=[114,103,98,58]):s.take 4=[114,103,98,58]:=h
theorem par_1 {s:List UInt8} (h:¬(4:Int)≤s.length):parC s=none:=by
 unfold parC
 rw [if_neg]
 rintro ⟨h1,_⟩
 have:=congrArg List.length h1
 rw [List.length_take] at this
 simp at this
 omega
theorem par_2 {s:List UInt8} (h:¬(s.drop (0:Int).toNat).take ((4:Int).toNat - (0:Int).toNat)=[114,103,98,58]):parC s=none:=by
 unfold parC
 rw [if_neg (fun h1=>h h1.1)]
theorem cut_eq {s:List UInt8} (h:s.take 4=[114,103,98,58]):cutP4 s=s.drop (4:Int).toNat:=by unfold cutP4; rw [if_pos h]; rfl
theorem par_3 {s:List UInt8} (h0:(s.drop (0:Int).toNat).take ((4:Int).toNat - (0:Int).toNat)=[114,103,98,58]) (h:((el (some (parts (s.drop (4:Int).toNat) 47))).length:Int)≠3):parC s=none:=by
 unfold parC
 rw [cut_eq (pre_of h0)]
 rw [if_neg]
 rintro ⟨_,h2⟩
 exact h (by rw [el_some,h2]; rfl)
theorem par_4 {s:List UInt8} (h0:(s.drop (0:Int).toNat).take ((4:Int).toNat - (0:Int).toNat)=[114,103,98,58]) (h:¬((el (some (parts (s.drop (4:Int).toNat) 47))).length:Int)≠3):parC s=prow (parts (s.drop (4:Int).toNat) 47) 0:=by
 unfold parC
 rw [cut_eq (pre_of h0),if_pos]
 exact ⟨h0,by have:=Classical.not_not.1 h; rw [el_some] at this; omega⟩
theorem pr_some {l:List (List UInt8)} {n:Int} (h:prE l n=none):prow l n=some (prV l n):=by
 unfold prE at h
 unfold prV
 cases hp:prow l n with
 | some v=>rfl
 | none=>rw [hp] at h; cases h
theorem pr_none {l:List (List UInt8)} {n:Int} {u:Unit} (h:prE l n=some u):prow l n=none:=by
 unfold prE at h
 cases hp:prow l n with
 | some v=>rw [hp] at h; cases h
 | none=>rfl
theorem join_mem {c:UInt8} {P:List (List UInt8)} {p:List UInt8} (h:p ∈ P):p.length≤(joinC c P).length:=by
 induction P with
 | nil=>cases h
 | cons q P ih =>
   have e:joinC c (q::P)=(q++[c])++joinC c P:=by simp [joinC]
   rw [e,List.length_append,List.length_append]
   rcases List.mem_cons.1 h with rfl|h
   ·omega
   ·have:=ih h; omega
theorem parts_le {s:List UInt8} {c:UInt8} {p:List UInt8} (h:p ∈ parts s c):p.length≤s.length:=by
 obtain ⟨P,t,q1,q2,q3⟩:=parts_all s c
 rw [q1] at h
 have hl:=congrArg List.length q3
 rw [List.length_append] at hl
 rcases List.mem_append.1 h with h|h
 ·have:=join_mem (c:=c) h; omega
 ·have:=List.mem_singleton.1 h; subst this; omega
theorem ppl_R {t:List UInt8} (h:t.length≤100000) (h3:¬((el (some (parts t 47))).length:Int)≠3):ppl_l [.int .i64 0,encS rS (some (parts t 47)),.int .i64 ((el (some (parts t 47))).length:Int),.int .i64 0]=way01 (prE (parts t 47) 0) [.int .i64 (prV (parts t 47) 0)] (fun _=>[.int .i64 6]):=by
 rw [ppl_l_e _ _ _ _ ⟨rfl,by decide,by omega,Classical.not_not.1 h3,⟨by decide,.inl ⟨rfl,rfl⟩⟩,fun p hp=>by have:=parts_le (c:=47) hp; omega⟩]
 rfl
noncomputable def U_par:List (FuncId × FnC):=(34,conF Tryd.prog [.s 9,.s 9] spt_s [.s 11])::(52,conF Tryd.prog [.s 4] low_s [.s 4])::(67,conF Tryd.prog [.s 9] cln_s [.s 9])::L0
theorem U_par_ok {G:Nat→Option Obj} (hst:StartOk Tryd.prog G gl H0 n0):ConsOk Tryd.prog G gl U_par:=(.cons (spt_c hst) (.cons (low_c hst) (.cons (cln_c hst) .nil)))
def par_s:List U→Option (Nat × List U)
 | [.str s]=>if s.length≤100000 then some (0,[.int .i64 ((parR s).1),.int .i64 ((parR s).2.1),.int .i64 ((parR s).2.2)]) else none
 | _=>none
theorem par_s_e (s:(List UInt8)) (hc:s.length≤100000):par_s [.str s]=some (0,[.int .i64 ((parR s).1),.int .i64 ((parR s).2.1),.int .i64 ((parR s).2.2)]):=if_pos hc
def par_t:Tr:=.lt 3 (.len) [h 0 9] <| .lt 8 (.bin .geq) [h 1 3,.int .i64 (4)] <| .br 2 (.lt 9 (.sub) [h 0 9,.int .i64 (0),.int .i64 (4)] <| .lt 8 (.bin .eql) [h 3 9,.string ⟨⟨[114,103,98,58]⟩⟩] <| .lt 8 (.un .not) [h 4 8] <| .br 5 (.fn spt_s [h 0 9,.string ⟨⟨[47]⟩⟩] 1 <| .ret [.int .i64 (0),.int .i64 (0),.int .i64 (6)]) (.lt 9 (.sub1) [h 0 9,.int .i64 (4)] <| .fn spt_s [h 6 9,.string ⟨⟨[47]⟩⟩] 1 <| .lt 3 (.len) [h 7 11] <| .lt 8 (.bin .neq) [h 8 3,.int .i64 (3)] <| .br 9 (.ret [.int .i64 (0),.int .i64 (0),.int .i64 (6)]) (.lp ppl_l [.int .i64 (0),h 7 11,h 8 3,.int .i64 (0)] 0 1 (.ret [.int .i64 (2),h 10 3,.int .i64 (0)]) (.lp ppl_l [.int .i64 (0),h 7 11,h 8 3,.int .i64 (0)] 1 1 (.ret [.int .i64 (0),.int .i64 (0),h 10 3]) (.no))))) (.fn spt_s [h 0 9,.string ⟨⟨[47]⟩⟩] 1 <| .ret [.int .i64 (0),.int .i64 (0),.int .i64 (6)])
theorem par_c {G:Nat→Option Obj} (hst:StartOk Tryd.prog G gl H0 n0):ConOk Tryd.prog G 20 [.s 9] par_s [.a [3,3],.s 3]:=by
 refine con_of_tree (C:=cx U_par P_ppl) (d:=60) par_t (cxg (U_par_ok hst) (P_ppl_ok hst)) hst ⟨Tryd.f20,_,Tryd.func20,rfl⟩ (by kernel_rfl) (by kernel_rfl) ?_
 intro us outs hs
 unfold par_s at hs
 split at hs
 ·skip
  rename_i s
  split at hs
  ·rename_i hc
   cases hs
   unfold par_t
   refine s0 (.cons 0 _ (.nil)) rfl (by simp [Ev.ok,Ev.len]) ?_
   refine s1 (ev_len _) rfl rfl rfl ?_
   refine s1 (ev_geq _ _ _) rfl rfl rfl ?_
   refine s4 rfl (fun g0=>?_) fun g0=>?_
   ·refine s1 (ev_sub' _ _ _ _ _ (by omega) (by omega) (by omega)) rfl rfl rfl ?_
    refine s1 (ev_seq _ _) rfl rfl rfl ?_
    refine s1 (ev_notD _) rfl rfl rfl ?_
    refine s4 rfl (fun g1=>?_) fun g1=>?_
    ·refine s31 (spt_s_e _ _ ⟨rfl,by first|omega|(rw [List.length_drop]; omega)⟩) rfl ?_
     refine s7 [.int .i64 _,.int .i64 _,.int .i64 _] rfl ?_
     first|exact par_no (par_1 g0)|exact par_no (par_2 g1)|exact par_no (par_3 (Classical.not_not.1 g1) (by assumption))|exact par_so ((par_4 (Classical.not_not.1 g1) (by assumption)).trans (pr_some (by assumption)))|exact par_no ((par_4 (Classical.not_not.1 g1) (by assumption)).trans (pr_none (by assumption)))|(trace_state; done)
    refine s1 (ev_sub1 _ _ _ (by omega) (by omega)) rfl rfl rfl ?_
    refine s31 (spt_s_e _ _ ⟨rfl,by first|omega|(rw [List.length_drop]; omega)⟩) rfl ?_
    refine s1 (ev_lenS _ _) rfl rfl rfl ?_
    refine s1 (ev_neq _ _ _) rfl rfl rfl ?_
    refine s4 rfl (fun g2=>?_) fun g2=>?_
    ·refine s7 [.int .i64 _,.int .i64 _,.int .i64 _] rfl ?_
     first|exact par_no (par_1 g0)|exact par_no (par_2 g1)|exact par_no (par_3 (Classical.not_not.1 g1) (by assumption))|exact par_so ((par_4 (Classical.not_not.1 g1) (by assumption)).trans (pr_some (by assumption)))|exact par_no ((par_4 (Classical.not_not.1 g1) (by assumption)).trans (pr_none (by assumption)))|(trace_state; done)
    refine s6 (ppl_R (by rw [List.length_drop]; omega) g2) rfl (fun _=>rfl) (fun g3=>?_) (fun v3 g3=>?_)
    ·show Tr.sav _ _ (.cons 10 _ _)
     refine s7 [.int .i64 _,.int .i64 _,.int .i64 _] rfl ?_
     first|exact par_no (par_1 g0)|exact par_no (par_2 g1)|exact par_no (par_3 (Classical.not_not.1 g1) (by assumption))|exact par_so ((par_4 (Classical.not_not.1 g1) (by assumption)).trans (pr_some (by assumption)))|exact par_no ((par_4 (Classical.not_not.1 g1) (by assumption)).trans (pr_none (by assumption)))|(trace_state; done)
    show Tr.sav _ _ (.cons 10 _ _)
    refine s7 [.int .i64 _,.int .i64 _,.int .i64 _] rfl ?_
    first|exact par_no (par_1 g0)|exact par_no (par_2 g1)|exact par_no (par_3 (Classical.not_not.1 g1) (by assumption))|exact par_so ((par_4 (Classical.not_not.1 g1) (by assumption)).trans (pr_some (by assumption)))|exact par_no ((par_4 (Classical.not_not.1 g1) (by assumption)).trans (pr_none (by assumption)))|(trace_state; done)
   refine s31 (spt_s_e _ _ ⟨rfl,by first|omega|(rw [List.length_drop]; omega)⟩) rfl ?_
   refine s7 [.int .i64 _,.int .i64 _,.int .i64 _] rfl ?_
   first|exact par_no (par_1 g0)|exact par_no (par_2 g1)|exact par_no (par_3 (Classical.not_not.1 g1) (by assumption))|exact par_so ((par_4 (Classical.not_not.1 g1) (by assumption)).trans (pr_some (by assumption)))|exact par_no ((par_4 (Classical.not_not.1 g1) (by assumption)).trans (pr_none (by assumption)))|(trace_state; done)
  ·cases hs
 ·cases hs
noncomputable def L_par:List (FuncId × FnC):=(20,conF Tryd.prog [.s 9] par_s [.a [3,3],.s 3])::L_low
theorem L_par_ok {G:Nat→Option Obj} (hst:StartOk Tryd.prog G gl H0 n0):ConsOk Tryd.prog G gl L_par:=.cons (par_c hst) (L_low_ok hst)
end Go.Proofs.YtdmdghooamchfaaDoor

namespace Go.Proofs.YtdmdghooamchfaaDoor
set_option linter.all false
open Go Go.Sx
set_option maxRecDepth 100000
set_option linter.unusedVariables false
set_option linter.unusedSimpArgs false
def dig_s:List U→Option (Nat × List U)
 | [.int .u8 c]=>if 0≤c∧c≤255 then some (0,[.int .i64 (hv c)]) else none
 | _=>none
theorem dig_s_e (c:Int) (hc:0≤c∧c≤255):dig_s [.int .u8 c]=some (0,[.int .i64 (hv c)]):=if_pos hc
def dig_t:Tr:=.lt 8 (.bin .geq) [h 0 4,.int .u8 (48)] <| .br 1 (.lt 8 (.bin .leq) [h 0 4,.int .u8 (57)] <| .br 2 (.lt 4 (.bin .sub) [h 0 4,.int .u8 (48)] <| .lt 3 (.conv .i64) [h 3 4] <| .ret [h 4 3]) (.lt 8 (.bin .geq) [h 0 4,.int .u8 (97)] <| .br 3 (.lt 8 (.bin .leq) [h 0 4,.int .u8 (102)] <| .br 4 (.lt 4 (.bin .sub) [h 0 4,.int .u8 (97)] <| .lt 3 (.conv .i64) [h 5 4] <| .lt 3 (.bin .add) [h 6 3,.int .i64 (10)] <| .ret [h 7 3]) (.lt 8 (.bin .geq) [h 0 4,.int .u8 (65)] <| .br 5 (.lt 8 (.bin .leq) [h 0 4,.int .u8 (70)] <| .br 6 (.lt 4 (.bin .sub) [h 0 4,.int .u8 (65)] <| .lt 3 (.conv .i64) [h 7 4] <| .lt 3 (.bin .add) [h 8 3,.int .i64 (10)] <| .ret [h 9 3]) (.ret [.int .i64 (-1)])) (.ret [.int .i64 (-1)]))) (.lt 8 (.bin .geq) [h 0 4,.int .u8 (65)] <| .br 4 (.lt 8 (.bin .leq) [h 0 4,.int .u8 (70)] <| .br 5 (.lt 4 (.bin .sub) [h 0 4,.int .u8 (65)] <| .lt 3 (.conv .i64) [h 6 4] <| .lt 3 (.bin .add) [h 7 3,.int .i64 (10)] <| .ret [h 8 3]) (.ret [.int .i64 (-1)])) (.ret [.int .i64 (-1)])))) (.lt 8 (.bin .geq) [h 0 4,.int .u8 (97)] <| .br 2 (.lt 8 (.bin .leq) [h 0 4,.int .u8 (102)] <| .br 3 (.lt 4 (.bin .sub) [h 0 4,.int .u8 (97)] <| .lt 3 (.conv .i64) [h 4 4] <| .lt 3 (.bin .add) [h 5 3,.int .i64 (10)] <| .ret [h 6 3]) (.lt 8 (.bin .geq) [h 0 4,.int .u8 (65)] <| .br 4 (.lt 8 (.bin .leq) [h 0 4,.int .u8 (70)] <| .br 5 (.lt 4 (.bin .sub) [h 0 4,.int .u8 (65)] <| .lt 3 (.conv .i64) [h 6 4] <| .lt 3 (.bin .add) [h 7 3,.int .i64 (10)] <| .ret [h 8 3]) (.ret [.int .i64 (-1)])) (.ret [.int .i64 (-1)]))) (.lt 8 (.bin .geq) [h 0 4,.int .u8 (65)] <| .br 3 (.lt 8 (.bin .leq) [h 0 4,.int .u8 (70)] <| .br 4 (.lt 4 (.bin .sub) [h 0 4,.int .u8 (65)] <| .lt 3 (.conv .i64) [h 5 4] <| .lt 3 (.bin .add) [h 6 3,.int .i64 (10)] <| .ret [h 7 3]) (.ret [.int .i64 (-1)])) (.ret [.int .i64 (-1)])))
theorem dig_c {G:Nat→Option Obj} (hst:StartOk Tryd.prog G gl H0 n0):ConOk Tryd.prog G 36 [.s 4] dig_s [.s 3]:=by
 refine con_of_tree (C:=cx L_par P_ppl) (d:=60) dig_t (cxg (L_par_ok hst) (P_ppl_ok hst)) hst ⟨Tryd.f36,_,Tryd.func36,rfl⟩ (by kernel_rfl) (by kernel_rfl) ?_
 intro us outs hs
 unfold dig_s at hs
 split at hs
 ·skip
  rename_i c
  split at hs
  ·rename_i hc
   cases hs
   unfold dig_t
   refine s0 (.cons 0 _ (.nil)) rfl (by simp [Ev.ok,Ev.len]) ?_
   refine s1 (ev_geq _ _ _) rfl rfl rfl ?_
   refine s4 rfl (fun g0=>?_) fun g0=>?_
   ·refine s1 (ev_leq _ _ _) rfl rfl rfl ?_
    refine s4 rfl (fun g1=>?_) fun g1=>?_
    ·first|refine s1 (ev_subW (wrap8 (by omega) (by omega))) rfl rfl rfl ?_|refine s1 (ev_sub _ _ _) rfl rfl rfl ?_
     first|refine s1 (ev_convW (wrap64 (by omega) (by omega))) rfl rfl rfl ?_|refine s1 (ev_conv _ _ _) rfl rfl rfl ?_
     refine s7 [.int .i64 _] rfl ?_
     refine congrArg (fun z=>[U.int .i64 z]) ?_; unfold hv; repeat' split
     all_goals omega
    refine s1 (ev_geq _ _ _) rfl rfl rfl ?_
    refine s4 rfl (fun g2=>?_) fun g2=>?_
    ·refine s1 (ev_leq _ _ _) rfl rfl rfl ?_
     refine s4 rfl (fun g3=>?_) fun g3=>?_
     ·first|refine s1 (ev_subW (wrap8 (by omega) (by omega))) rfl rfl rfl ?_|refine s1 (ev_sub _ _ _) rfl rfl rfl ?_
      first|refine s1 (ev_convW (wrap64 (by omega) (by omega))) rfl rfl rfl ?_|refine s1 (ev_conv _ _ _) rfl rfl rfl ?_
      first|refine s1 (ev_addW (wrap64 (by omega) (by omega))) rfl rfl rfl ?_|refine s1 (ev_add _ _ _) rfl rfl rfl ?_
      refine s7 [.int .i64 _] rfl ?_
      refine congrArg (fun z=>[U.int .i64 z]) ?_; unfold hv; repeat' split
      all_goals omega
     refine s1 (ev_geq _ _ _) rfl rfl rfl ?_
     refine s5 rfl (fun g4=>?_) fun g4=>?_
     ·refine s7 [.int .i64 _] rfl ?_
      refine congrArg (fun z=>[U.int .i64 z]) ?_; unfold hv; repeat' split
      all_goals omega
     refine s1 (ev_leq _ _ _) rfl rfl rfl ?_
     refine s5 rfl (fun g5=>?_) fun g5=>?_
     ·refine s7 [.int .i64 _] rfl ?_
      refine congrArg (fun z=>[U.int .i64 z]) ?_; unfold hv; repeat' split
      all_goals omega
     first|refine s1 (ev_subW (wrap8 (by omega) (by omega))) rfl rfl rfl ?_|refine s1 (ev_sub _ _ _) rfl rfl rfl ?_
     first|refine s1 (ev_convW (wrap64 (by omega) (by omega))) rfl rfl rfl ?_|refine s1 (ev_conv _ _ _) rfl rfl rfl ?_
     first|refine s1 (ev_addW (wrap64 (by omega) (by omega))) rfl rfl rfl ?_|refine s1 (ev_add _ _ _) rfl rfl rfl ?_
     refine s7 [.int .i64 _] rfl ?_
     refine congrArg (fun z=>[U.int .i64 z]) ?_; unfold hv; repeat' split
     all_goals omega
    refine s1 (ev_geq _ _ _) rfl rfl rfl ?_
    refine s5 rfl (fun g3=>?_) fun g3=>?_
    ·refine s7 [.int .i64 _] rfl ?_
     refine congrArg (fun z=>[U.int .i64 z]) ?_; unfold hv; repeat' split
     all_goals omega
    refine s1 (ev_leq _ _ _) rfl rfl rfl ?_
    refine s5 rfl (fun g4=>?_) fun g4=>?_
    ·refine s7 [.int .i64 _] rfl ?_
     refine congrArg (fun z=>[U.int .i64 z]) ?_; unfold hv; repeat' split
     all_goals omega
    first|refine s1 (ev_subW (wrap8 (by omega) (by omega))) rfl rfl rfl ?_|refine s1 (ev_sub _ _ _) rfl rfl rfl ?_
    first|refine s1 (ev_convW (wrap64 (by omega) (by omega))) rfl rfl rfl ?_|refine s1 (ev_conv _ _ _) rfl rfl rfl ?_
    first|refine s1 (ev_addW (wrap64 (by omega) (by omega))) rfl rfl rfl ?_|refine s1 (ev_add _ _ _) rfl rfl rfl ?_
    refine s7 [.int .i64 _] rfl ?_
    refine congrArg (fun z=>[U.int .i64 z]) ?_; unfold hv; repeat' split
    all_goals omega
   refine s1 (ev_geq _ _ _) rfl rfl rfl ?_
   refine s4 rfl (fun g1=>?_) fun g1=>?_
   ·refine s1 (ev_leq _ _ _) rfl rfl rfl ?_
    refine s4 rfl (fun g2=>?_) fun g2=>?_
    ·first|refine s1 (ev_subW (wrap8 (by omega) (by omega))) rfl rfl rfl ?_|refine s1 (ev_sub _ _ _) rfl rfl rfl ?_
     first|refine s1 (ev_convW (wrap64 (by omega) (by omega))) rfl rfl rfl ?_|refine s1 (ev_conv _ _ _) rfl rfl rfl ?_
     first|refine s1 (ev_addW (wrap64 (by omega) (by omega))) rfl rfl rfl ?_|refine s1 (ev_add _ _ _) rfl rfl rfl ?_
     refine s7 [.int .i64 _] rfl ?_
     refine congrArg (fun z=>[U.int .i64 z]) ?_; unfold hv; repeat' split
     all_goals omega
    refine s1 (ev_geq _ _ _) rfl rfl rfl ?_
    refine s5 rfl (fun g3=>?_) fun g3=>?_
    ·refine s7 [.int .i64 _] rfl ?_
     refine congrArg (fun z=>[U.int .i64 z]) ?_; unfold hv; repeat' split
     all_goals omega
    refine s1 (ev_leq _ _ _) rfl rfl rfl ?_
    refine s5 rfl (fun g4=>?_) fun g4=>?_
    ·refine s7 [.int .i64 _] rfl ?_
     refine congrArg (fun z=>[U.int .i64 z]) ?_; unfold hv; repeat' split
     all_goals omega
    first|refine s1 (ev_subW (wrap8 (by omega) (by omega))) rfl rfl rfl ?_|refine s1 (ev_sub _ _ _) rfl rfl rfl ?_
    first|refine s1 (ev_convW (wrap64 (by omega) (by omega))) rfl rfl rfl ?_|refine s1 (ev_conv _ _ _) rfl rfl rfl ?_
    first|refine s1 (ev_addW (wrap64 (by omega) (by omega))) rfl rfl rfl ?_|refine s1 (ev_add _ _ _) rfl rfl rfl ?_
    refine s7 [.int .i64 _] rfl ?_
    refine congrArg (fun z=>[U.int .i64 z]) ?_; unfold hv; repeat' split
    all_goals omega
   refine s1 (ev_geq _ _ _) rfl rfl rfl ?_
   refine s5 rfl (fun g2=>?_) fun g2=>?_
   ·refine s7 [.int .i64 _] rfl ?_
    refine congrArg (fun z=>[U.int .i64 z]) ?_; unfold hv; repeat' split
    all_goals omega
   refine s1 (ev_leq _ _ _) rfl rfl rfl ?_
   refine s5 rfl (fun g3=>?_) fun g3=>?_
   ·refine s7 [.int .i64 _] rfl ?_
    refine congrArg (fun z=>[U.int .i64 z]) ?_; unfold hv; repeat' split
    all_goals omega
   first|refine s1 (ev_subW (wrap8 (by omega) (by omega))) rfl rfl rfl ?_|refine s1 (ev_sub _ _ _) rfl rfl rfl ?_
   first|refine s1 (ev_convW (wrap64 (by omega) (by omega))) rfl rfl rfl ?_|refine s1 (ev_conv _ _ _) rfl rfl rfl ?_
   first|refine s1 (ev_addW (wrap64 (by omega) (by omega))) rfl rfl rfl ?_|refine s1 (ev_add _ _ _) rfl rfl rfl ?_
   refine s7 [.int .i64 _] rfl ?_
   refine congrArg (fun z=>[U.int .i64 z]) ?_; unfold hv; repeat' split
   all_goals omega
  ·cases hs
 ·cases hs
theorem p16 {i:Int} (h0:0≤i) (h1:i≤12):(16:Int) ^ i.toNat≤281474976710656∧(16:Int) ^ (i+1).toNat=16 * 16 ^ i.toNat:=by
 refine ⟨?_,by rw [show (i+1).toNat=i.toNat+1 by omega,Int.pow_succ,Int.mul_comm]⟩
 have:((List.range 13).all fun k=>decide ((16:Int) ^ k≤281474976710656))=true:=by decide
 exact of_decide_eq_true (List.all_eq_true.1 this i.toNat (List.mem_range.2 (by omega)))
def rgE (s:List UInt8) (k i:Nat) (n:Int):Option Unit:=match rgo s k i n with
 | some _=>none
 | none=>some ()
def rgV (s:List UInt8) (k i:Nat) (n:Int):Int:=(rgo s k i n).getD 0
def rgW (s:List UInt8) (i n:Int):Option (Nat × List U):=way01 (rgE s (12 - i).toNat i.toNat n) [.int .i64 (rgV s (12 - i).toNat i.toNat n)] (fun _=>[.int .i64 6])
theorem u8_eq {a b:UInt8}:(a.toNat:Int)=b.toNat↔a=b:=by
 rw [← UInt8.toNat_inj]; omega
theorem rg_step {s:List UInt8} {i n:Int} (h0:0≤i) (h1:i < 12):rgo s (12 - i).toNat i.toNat n=if shape.getD i.toNat 0≠48 then (if s.getD i.toNat 0≠shape.getD i.toNat 0 then none else rgo s (12 - (i+1)).toNat (i+1).toNat n) else if hb (s.getD i.toNat 0) < 0 then none else rgo s (12 - (i+1)).toNat (i+1).toNat (16 * n+hb (s.getD i.toNat 0)):=by
 rw [show (12 - i).toNat=(12 - (i+1)).toNat+1 by omega,rgo,show (i+1).toNat=i.toNat+1 by omega]
theorem rg_a {s:List UInt8} {i n:Int} (h0:0≤i) (h1:i < 12) (h:((shape.getD i.toNat 0).toNat:Int)≠48) (h2:((s.getD i.toNat 0).toNat:Int)≠(shape.getD i.toNat 0).toNat):rgW s i n=some (1,[.int .i64 6]):=by
 unfold rgW rgE
 rw [rg_step h0 h1,if_pos (fun e=>h (by rw [e]; rfl)),if_pos (fun e=>h2 (by rw [e]))]; rfl
theorem rg_b {s:List UInt8} {i n:Int} (h0:0≤i) (h1:i < 12) (h:((shape.getD i.toNat 0).toNat:Int)≠48) (h2:¬((s.getD i.toNat 0).toNat:Int)≠(shape.getD i.toNat 0).toNat):rgW s i n=rgW s (i+1) n:=by
 unfold rgW rgE rgV
 rw [rg_step h0 h1,if_pos (fun e=>h (by rw [e]; rfl)),if_neg (fun e=>h2 (fun e2=>e (u8_eq.1 e2)))]
theorem rg_c {s:List UInt8} {i n:Int} (h0:0≤i) (h1:i < 12) (h:¬((shape.getD i.toNat 0).toNat:Int)≠48) (h2:hv ((s.getD i.toNat 0).toNat:Int) < 0):rgW s i n=some (1,[.int .i64 6]):=by
 unfold rgW rgE
 rw [rg_step h0 h1,if_neg (fun e=>h (fun e2=>e (u8_eq.1 e2))),if_pos (show hb (s.getD i.toNat 0) < 0 from h2)]; rfl
theorem rg_d {s:List UInt8} {i n:Int} (h0:0≤i) (h1:i < 12) (h:¬((shape.getD i.toNat 0).toNat:Int)≠48) (h2:¬hv ((s.getD i.toNat 0).toNat:Int) < 0):rgW s i n=rgW s (i+1) (16 * n+hv ((s.getD i.toNat 0).toNat:Int)):=by
 unfold rgW rgE rgV
 rw [rg_step h0 h1,if_neg (fun e=>h (fun e2=>e (u8_eq.1 e2))),if_neg (show ¬hb (s.getD i.toNat 0) < 0 from h2)]; rfl
theorem rg_e {s:List UInt8} {i n:Int} (h1:i=12):rgW s i n=some (0,[.int .i64 n]):=by subst h1; rfl
noncomputable def U_rpl:List (FuncId × FnC):=(36,conF Tryd.prog [.s 4] dig_s [.s 3])::L0
theorem U_rpl_ok {G:Nat→Option Obj} (hst:StartOk Tryd.prog G gl H0 n0):ConsOk Tryd.prog G gl U_rpl:=(.cons (dig_c hst) .nil)
def rpl_l:List U→Option (Nat × List U)
 | [.str s,.int .i64 n,.int .i64 i]=>if s.length=12∧0≤i∧i≤12∧0≤n∧n < 16 ^ i.toNat then rgW s i n else none
 | _=>none
theorem rpl_l_e (s:(List UInt8)) (n:Int) (i:Int) (hc:s.length=12∧0≤i∧i≤12∧0≤n∧n < 16 ^ i.toNat):rpl_l [.str s,.int .i64 n,.int .i64 i]=rgW s i n:=if_pos hc
def rpl_D:LoopD:=⟨[(0,h 0 9),(2,.pointer (some ⟨9,0,none⟩)),(4,h 1 3),(5,h 2 3)],[(9,.cells 23 [.int .i64 (0),.int .i64 (0)])],3,[⟨.exit 0,[(2,.pointer (some ⟨9,0,none⟩)),(4,h 0 3)],[(9,.cells 23 [.int .i64 (0),.int .i64 (0)])],1⟩,⟨.ret,[(2,.pointer (some ⟨9,0,none⟩)),(3,h 0 3)],[(9,.cells 23 [.int .i64 (0),.int .i64 (0)])],1⟩]⟩
noncomputable def rpl_B:Code:=(Tryd.f21.body).getD .skip
noncomputable def rpl_x:Code:=match codeAt [true,true,true,false,true,false] rpl_B with|some (.loop x)=>x|_=>.skip
theorem rpl_b:Tryd.f21.body=some rpl_B:=rfl
theorem rpl_p:codeAt [true,true,true,false,true,false] rpl_B=some (.loop rpl_x):=by kernel_rfl
def rpl_t:Tr:=.lt 3 (.len) [h 0 9] <| .lt 8 (.bin .lss) [h 2 3,h 3 3] <| .br 4 (.lt 4 (.idx) [.string ⟨⟨[114,103,98,58,48,48,47,48,48,47,48,48]⟩⟩,h 2 3] <| .lt 8 (.bin .neq) [h 5 4,.int .u8 (48)] <| .br 6 (.lt 4 (.idx) [h 0 9,h 2 3] <| .lt 4 (.idx) [.string ⟨⟨[114,103,98,58,48,48,47,48,48,47,48,48]⟩⟩,h 2 3] <| .lt 8 (.bin .neq) [h 7 4,h 8 4] <| .br 9 (.ret [.int .i64 (1),.int .i64 (6)]) (.lt 3 (.bin .add) [h 2 3,.int .i64 (1)] <| .ret [.int .i64 (-1),h 0 9,h 1 3,h 10 3])) (.lt 4 (.idx) [h 0 9,h 2 3] <| .fn dig_s [h 7 4] 1 <| .lt 8 (.bin .lss) [h 8 3,.int .i64 (0)] <| .br 9 (.ret [.int .i64 (1),.int .i64 (6)]) (.lt 3 (.bin .mul) [.int .i64 (16),h 1 3] <| .lt 3 (.bin .add) [h 10 3,h 8 3] <| .lt 3 (.bin .add) [h 2 3,.int .i64 (1)] <| .ret [.int .i64 (-1),h 0 9,h 11 3,h 12 3]))) (.ret [.int .i64 (0),h 1 3])
def rpl_m:List U→Nat
 | [.str s,.int .i64 n,.int .i64 i]=>(12 - i).toNat
 | _=>0
theorem rpl_c {G:Nat→Option Obj} (hst:StartOk Tryd.prog G gl H0 n0):∀ (E:Nat→U) (base:Nat),@CodeOk ⟨E,G⟩ Tryd.prog base gl Tryd.f21.ntmps rpl_x (loopF Tryd.prog gl n0 10 rpl_D rpl_l):=by
 refine loop_ok (C:=cx U_rpl P_ppl) (dep:=60) (f:=21) (n0:=n0) (nB:=10) (H0:=H0) rpl_m rpl_t (cxg (U_rpl_ok hst) (P_ppl_ok hst)) hst Tryd.func21 rpl_b rpl_p (by kernel_rfl) (by kernel_rfl) (by kernel_rfl) ?_
 intro us d outs hs
 have hs0:=hs
 unfold rpl_l at hs
 split at hs
 ·skip
  rename_i s n i
  split at hs
  ·rename_i hc
   clear hs hs0
   have hP:=p16 hc.2.1 hc.2.2.1
   have hu:=(s.getD i.toNat 0).toNat_lt
   have hd:=hv_bd ((s.getD i.toNat 0).toNat:Int)
   refine ⟨rfl,?_⟩
   unfold rpl_t
   refine s0 (.cons 2 _ (.cons 1 _ (.cons 0 _ (.nil)))) rfl (by simp [Ev.ok,Ev.len]) ?_
   refine s1 (ev_len _) rfl rfl rfl ?_
   refine s1 (ev_lss _ _ _) rfl rfl rfl ?_
   refine s5 rfl (fun g0=>?_) fun g0=>?_
   ·refine s7 [.int .i64 _,.int .i64 _] rfl ?_
    refine leaf_exit (d:=0) ?_
    rw [rpl_l_e _ _ _ hc]; exact rg_e (by omega)
   refine s1 (ev_idx _ _ _ (by omega) (by first|(show _ < ((12:Nat):Int); omega)|omega)) rfl rfl rfl ?_
   refine s1 (ev_neq _ _ _) rfl rfl rfl ?_
   refine s4 rfl (fun g1=>?_) fun g1=>?_
   ·refine s1 (ev_idx _ _ _ (by omega) (by first|(show _ < ((12:Nat):Int); omega)|omega)) rfl rfl rfl ?_
    refine s1 (ev_idx _ _ _ (by omega) (by first|(show _ < ((12:Nat):Int); omega)|omega)) rfl rfl rfl ?_
    refine s1 (ev_neq _ _ _) rfl rfl rfl ?_
    refine s4 rfl (fun g2=>?_) fun g2=>?_
    ·refine s7 [.int .i64 _,.int .i64 _] rfl ?_
     refine leaf_exit (d:=1) ?_
     rw [rpl_l_e _ _ _ hc]; first|exact rg_a hc.2.1 (by omega) g1 g2|exact rg_c hc.2.1 (by omega) g1 g2
    first|refine s1 (ev_addW (wrap64 (by omega) (by omega))) rfl rfl rfl ?_|refine s1 (ev_add _ _ _) rfl rfl rfl ?_
    refine s7 [.int .i64 _,.str _,.int .i64 _,.int .i64 _] rfl ?_
    refine leaf_back ?_ ?_
    ·rw [rpl_l_e _ _ _ ⟨hc.1,by omega,by omega,by omega,by omega⟩,rpl_l_e _ _ _ hc]
     first|exact (rg_b hc.2.1 (by omega) g1 g2).symm|exact (rg_d hc.2.1 (by omega) g1 g2).symm
    ·show (12 - (i+1)).toNat < (12 - i).toNat
     omega
   refine s1 (ev_idx _ _ _ (by omega) (by first|(show _ < ((12:Nat):Int); omega)|omega)) rfl rfl rfl ?_
   refine s31 (dig_s_e _ (by omega)) rfl ?_
   refine s1 (ev_lss _ _ _) rfl rfl rfl ?_
   refine s4 rfl (fun g2=>?_) fun g2=>?_
   ·refine s7 [.int .i64 _,.int .i64 _] rfl ?_
    refine leaf_exit (d:=1) ?_
    rw [rpl_l_e _ _ _ hc]; first|exact rg_a hc.2.1 (by omega) g1 g2|exact rg_c hc.2.1 (by omega) g1 g2
   first|refine s1 (ev_mulW (wrap64 (by omega) (by omega))) rfl rfl rfl ?_|refine s1 (ev_mul _ _ _) rfl rfl rfl ?_
   first|refine s1 (ev_addW (wrap64 (by omega) (by omega))) rfl rfl rfl ?_|refine s1 (ev_add _ _ _) rfl rfl rfl ?_
   first|refine s1 (ev_addW (wrap64 (by omega) (by omega))) rfl rfl rfl ?_|refine s1 (ev_add _ _ _) rfl rfl rfl ?_
   refine s7 [.int .i64 _,.str _,.int .i64 _,.int .i64 _] rfl ?_
   refine leaf_back ?_ ?_
   ·rw [rpl_l_e _ _ _ ⟨hc.1,by omega,by omega,by omega,by omega⟩,rpl_l_e _ _ _ hc]
    first|exact (rg_b hc.2.1 (by omega) g1 g2).symm|exact (rg_d hc.2.1 (by omega) g1 g2).symm
   ·show (12 - (i+1)).toNat < (12 - i).toNat
    omega
  ·cases hs
 ·cases hs
noncomputable def P_rpl:List LpE:=(21,([true,true,true,false,true,false],loopF Tryd.prog gl n0 10 rpl_D rpl_l))::P_ppl
theorem P_rpl_ok {G:Nat→Option Obj} (hst:StartOk Tryd.prog G gl H0 n0):LpsOk Tryd.prog G gl P_rpl:=.cons Tryd.func21 rpl_b rpl_p (rpl_c hst) (P_ppl_ok hst)
end Go.Proofs.YtdmdghooamchfaaDoor

namespace Go.Proofs.YtdmdghooamchfaaDoor
set_option linter.all false
open Go Go.Sx
set_option maxRecDepth 100000
set_option linter.unusedVariables false
set_option linter.unusedSimpArgs false
noncomputable def U_works:List (FuncId × FnC):=(27,tabF Tryd.prog [.s 3,.s 3] near_s [.s 8] [([.int .i64 (0),.int .i64 (0)],[.bool true]),([.int .i64 (16777215),.int .i64 (15)],[.bool true]),([.int .i64 (6260480),.int .i64 (64)],[.bool true]),([.int .i64 (657930),.int .i64 (232)],[.bool true])])::(12,tabF Tryd.prog [.a [3,3]] text_s [.s 9,.s 3] [([.int .i64 (1),.int .i64 (9)],[.str [114,103,98,58,102,102,47,48,48,47,48,48],.int .i64 (0)]),([.int .i64 (0),.int .i64 (0)],[.str [],.int .i64 (2)]),([.int .i64 (2),.int .i64 (-1)],[.str [],.int .i64 (130)])])::(20,tabF Tryd.prog [.s 9] par_s [.a [3,3],.s 3] [([.str [114,103,98,58,65,98,47,48,49,47,102,70]],[.int .i64 (2),.int .i64 (11207167),.int .i64 (0)]),([.str [114,103,98,58,97,98,47,48,49]],[.int .i64 (0),.int .i64 (0),.int .i64 (6)]),([.str [114,103,98,58,97,98,47,48,49,47,102]],[.int .i64 (0),.int .i64 (0),.int .i64 (6)])])::L0
theorem U_works_ok {G:Nat→Option Obj} (hst:StartOk Tryd.prog G gl H0 n0):ConsOk Tryd.prog G gl U_works:=(.consT [([.int .i64 (0),.int .i64 (0)],[.bool true]),([.int .i64 (16777215),.int .i64 (15)],[.bool true]),([.int .i64 (6260480),.int .i64 (64)],[.bool true]),([.int .i64 (657930),.int .i64 (232)],[.bool true])] (near_c hst) (tb_cons (near_k (n:=0) (i:=0) (by decide) (by kernel_rfl)) (tb_cons (near_k (n:=16777215) (i:=15) (by decide) (by kernel_rfl)) (tb_cons (near_k (n:=6260480) (i:=64) (by decide) (by kernel_rfl)) (tb_cons (near_k (n:=657930) (i:=232) (by decide) (by kernel_rfl)) rfl)))) (.consT [([.int .i64 (1),.int .i64 (9)],[.str [114,103,98,58,102,102,47,48,48,47,48,48],.int .i64 (0)]),([.int .i64 (0),.int .i64 (0)],[.str [],.int .i64 (2)]),([.int .i64 (2),.int .i64 (-1)],[.str [],.int .i64 (130)])] (text_c hst) (tb_cons ((by kernel_rfl)) (tb_cons ((by kernel_rfl)) (tb_cons ((by kernel_rfl)) rfl))) (.consT [([.str [114,103,98,58,65,98,47,48,49,47,102,70]],[.int .i64 (2),.int .i64 (11207167),.int .i64 (0)]),([.str [114,103,98,58,97,98,47,48,49]],[.int .i64 (0),.int .i64 (0),.int .i64 (6)]),([.str [114,103,98,58,97,98,47,48,49,47,102]],[.int .i64 (0),.int .i64 (0),.int .i64 (6)])] (par_c hst) (tb_cons ((by kernel_rfl)) (tb_cons ((by kernel_rfl)) (tb_cons ((by kernel_rfl)) rfl))) .nil)))
def works_s:List U→Option (Nat × List U)
 | []=>some (0,[.bool (true)])
 | _=>none
def works_t:Tr:=.ret [.bool true]
theorem works_c {G:Nat→Option Obj} (hst:StartOk Tryd.prog G gl H0 n0):ConOk Tryd.prog G 16 [] works_s [.s 8]:=by
 refine con_of_tree (C:=cx U_works P_rpl) (d:=60) works_t (cxg (U_works_ok hst) (P_rpl_ok hst)) hst ⟨Tryd.f16,_,Tryd.func16,rfl⟩ (by kernel_rfl) (by kernel_rfl) ?_
 intro us outs hs
 unfold works_s at hs
 split at hs
 ·skip
  skip
  cases hs
  unfold works_t
  refine s0 (.nil) rfl (by simp [Ev.ok,Ev.len]) ?_
  refine s7 [.bool _] rfl ?_
  first|rfl|(simp [*]; done)|(simp [*]; omega)
 ·cases hs
end Go.Proofs.YtdmdghooamchfaaDoor

namespace Go.Proofs.YtdmdghooamchfaaDoor
set_option linter.all false
open Go Go.Sx
set_option maxRecDepth 100000
set_option linter.unusedVariables false
set_option linter.unusedSimpArgs false
theorem rtext_2 {m:Int} (h:0≤m∧m≤16777215):rtext_s [.int .i64 2,.int .i64 m]=some (0,[.str (textB m),.int .i64 0]):=by
 have h1:rgbB 2 m=true:=decide_eq_true (.inr ⟨rfl,h⟩)
 have h2:rgbS 2 m=m:=by unfold rgbS; rw [if_neg (by omega),if_pos ⟨rfl,h⟩]
 have h3:checkS 2 m=0:=check_iff.2 (.inr (.inr ⟨rfl,h⟩))
 rw [rtext_s_e]
 unfold textS textE
 rw [if_pos h1,h2,if_neg (by rw [h3]; decide),if_pos h1]
theorem iB_len (l:List Int):(iB l).length=l.length:=by simp [iB]
end Go.Proofs.YtdmdghooamchfaaDoor

namespace Go.Proofs.YtdmdghooamchfaaDoor
set_option linter.all false
open Go Go.Sx
set_option maxRecDepth 100000
set_option linter.unusedVariables false
set_option linter.unusedSimpArgs false
def upC (g k x:Int):Bool:=decide (97≤x) && decide (g.fdiv (2 ^ (min k.toNat 16)) % 2=1)
theorem upC_t {g k x:Int} (h:97≤x) (h2:g.fdiv (2 ^ (min k.toNat IntKind.u16.bits)) % 2=1):upC g k x=true:=by
 unfold upC; rw [decide_eq_true h]; exact decide_eq_true h2
theorem upC_a {g k x:Int} (h:¬97≤x):¬upC g k x=true:=by unfold upC; rw [decide_eq_false h,Bool.false_and]; decide
theorem upC_b {g k x:Int} (h2:¬g.fdiv (2 ^ (min k.toNat IntKind.u16.bits)) % 2=1):¬upC g k x=true:=by
 unfold upC
 have h2:¬g.fdiv (2 ^ (min k.toNat 16)) % 2=1:=h2
 rw [decide_eq_false h2,Bool.and_false]; decide
def upGo (g:Int):Nat→Int→List Int→List Int
 | 0,_,l=>l
 | j+1,k,l=>upGo g j (k+1) (if upC g k (l.getD k.toNat default)=true then l.set k.toNat (l.getD k.toNat default - 32) else l)
theorem up_step {g k:Int} {l:List Int} (h0:0≤k) (h1:k < 12):upGo g (12 - k).toNat k l=upGo g (12 - (k+1)).toNat (k+1) (if upC g k (l.getD k.toNat default)=true then l.set k.toNat (l.getD k.toNat default - 32) else l):=by
 rw [show (12 - k).toNat=(12 - (k+1)).toNat+1 by omega,upGo]
def UpR (x y:Int):Prop:=y=x∨(97≤x∧y=x - 32)
theorem up_ok (g:Int):∀ (j:Nat) (k:Int) (l:List Int),0≤k→(upGo g j k l).length=l.length∧(∀ q:Nat,(q:Int) < k→(upGo g j k l).getD q 0=l.getD q 0)∧∀ q:Nat,l.getD q 0≤122→UpR (l.getD q 0) ((upGo g j k l).getD q 0)
 | 0,k,l,_=>⟨rfl,fun _ _=>rfl,fun _ _=>.inl rfl⟩
 | j+1,k,l,hk=>by
   rw [upGo]
   split
   ·rename_i hu
    obtain ⟨i1,i2,i3⟩:=up_ok g j (k+1) (l.set k.toNat (l.getD k.toNat default - 32)) (by omega)
    have hx:97≤l.getD k.toNat default:=by
     unfold upC at hu
     rw [Bool.and_eq_true] at hu
     exact of_decide_eq_true hu.1
    refine ⟨by rw [i1,List.length_set],fun q hq=>?_,fun q hq=>?_⟩
    ·rw [i2 q (by omega)]
     rw [List.getD_eq_getElem?_getD,List.getD_eq_getElem?_getD,List.getElem?_set_ne (by omega)]; rfl
    ·by_cases e:k.toNat=q
     ·subst e
      have hlt:k.toNat < l.length:=by
       by_cases h:k.toNat < l.length
       ·exact h
       ·rw [List.getD_eq_getElem?_getD,List.getElem?_eq_none (by omega)] at hx
        exact absurd hx (by decide)
      have e1:l.getD k.toNat default=l.getD k.toNat 0:=rfl
      have e2:(l.set k.toNat (l.getD k.toNat default - 32)).getD k.toNat 0=l.getD k.toNat 0 - 32:=by
       rw [List.getD_eq_getElem?_getD,List.getElem?_set_self hlt]; rfl
      have:=i3 k.toNat (by rw [e2]; omega)
      rw [e2] at this
      rw [e1] at hx
      unfold UpR at this ⊢
      omega
     ·have e2:(l.set k.toNat (l.getD k.toNat default - 32)).getD q 0=l.getD q 0:=by
       rw [List.getD_eq_getElem?_getD,List.getD_eq_getElem?_getD,List.getElem?_set_ne e]; rfl
      have:=i3 q (by rw [e2]; exact hq)
      rwa [e2] at this
   ·obtain ⟨i1,i2,i3⟩:=up_ok g j (k+1) l (by omega)
    exact ⟨i1,fun q hq=>i2 q (by omega),i3⟩
theorem hexd_R {d y:Int} (h0:0≤d) (h1:d < 16) (h:((hexd d).toNat:Int)≤122→UpR ((hexd d).toNat:Int) y):hb (UInt8.ofNat y.toNat)=d:=by
 obtain ⟨n,rfl⟩:∃ n:Nat,d=n:=⟨d.toNat,by omega⟩
 have:n < 16:=by omega
 rcases n with _|_|_|_|_|_|_|_|_|_|_|_|_|_|_|_|n <;> first|(rcases h (by decide) with rfl|⟨h2,rfl⟩ <;> first|rfl|(exfalso; revert h2; decide))|(exfalso; omega)
theorem len12I {s:List Int} (h:s.length=12):∃ a0 a1 a2 a3 a4 a5 a6 a7 a8 a9 b0 b1,s=[a0,a1,a2,a3,a4,a5,a6,a7,a8,a9,b0,b1]:=by
 match s,h with
 | [a0,a1,a2,a3,a4,a5,a6,a7,a8,a9,b0,b1],_=>exact ⟨_,_,_,_,_,_,_,_,_,_,_,_,rfl⟩
theorem par_up {g m:Int} (h:0≤m∧m≤16777215):parC (iB (upGo g 8 4 (bI (textB m))))=some m:=by
 obtain ⟨h1,h2,h3⟩:=up_ok g 8 4 (bI (textB m)) (by decide)
 generalize upGo g 8 4 (bI (textB m))=l at h1 h2 h3
 obtain ⟨a0,a1,a2,a3,a4,a5,a6,a7,a8,a9,b0,b1,rfl⟩:=len12I (h1.trans rfl)
 have e0:a0=114:=h2 0 (by decide)
 have e1:a1=103:=h2 1 (by decide)
 have e2:a2=98:=h2 2 (by decide)
 have e3:a3=58:=h2 3 (by decide)
 have c4:hb (UInt8.ofNat a4.toNat)=m / 1048576 % 16:=hexd_R (by omega) (by omega) (h3 4)
 have c5:hb (UInt8.ofNat a5.toNat)=m / 65536 % 16:=hexd_R (by omega) (by omega) (h3 5)
 have c7:hb (UInt8.ofNat a7.toNat)=m / 4096 % 16:=hexd_R (by omega) (by omega) (h3 7)
 have c8:hb (UInt8.ofNat a8.toNat)=m / 256 % 16:=hexd_R (by omega) (by omega) (h3 8)
 have d0:hb (UInt8.ofNat b0.toNat)=m / 16 % 16:=hexd_R (by omega) (by omega) (h3 10)
 have d1:hb (UInt8.ofNat b1.toNat)=m % 16:=hexd_R (by omega) (by omega) (h3 11)
 have e6:a6=47:=by
  rcases h3 6 (show (47:Int)≤122 by decide) with h|⟨h,_⟩
  ·exact h
  ·exact absurd h (show ¬(97:Int)≤47 by decide)
 have e9:a9=47:=by
  rcases h3 9 (show (47:Int)≤122 by decide) with h|⟨h,_⟩
  ·exact h
  ·exact absurd h (show ¬(97:Int)≤47 by decide)
 subst e0 e1 e2 e3 e6 e9
 have e:iB [114,103,98,58,a4,a5,47,a7,a8,47,b0,b1]=[114,103,98,58,UInt8.ofNat a4.toNat,UInt8.ofNat a5.toNat,47,UInt8.ofNat a7.toNat,UInt8.ofNat a8.toNat,47,UInt8.ofNat b0.toNat,UInt8.ofNat b1.toNat]:=rfl
 rw [e,par_eq,rpar_6 (by omega) (by omega) (by omega) (by omega) (by omega) (by omega)]
 unfold num6
 rw [c4,c5,c7,c8,d0,d1]
 congr 1
 omega
theorem hexd_rng (k:Int):0≤((hexd k).toNat:Int)∧((hexd k).toNat:Int)≤122:=by
 unfold hexd
 rw [List.getD_eq_getElem?_getD]
 cases hx:([48,49,50,51,52,53,54,55,56,57,97,98,99,100,101,102]:List UInt8)[k.toNat]? with
 | none=>decide
 | some x =>
   have hm:=List.mem_of_getElem? hx
   have:(([48,49,50,51,52,53,54,55,56,57,97,98,99,100,101,102]:List UInt8).all fun x=>decide (0≤(x.toNat:Int)∧(x.toNat:Int)≤122))=true:=by decide
   exact of_decide_eq_true (List.all_eq_true.1 this x hm)
theorem text_rng (m:Int) (q:Nat):0≤(bI (textB m)).getD q 0∧(bI (textB m)).getD q 0≤122:=by
 rcases q with _|_|_|_|_|_|_|_|_|_|_|_|q
 all_goals first|exact hexd_rng _|exact (show 0≤(114:Int)∧(114:Int)≤122 by decide)|exact (show 0≤(103:Int)∧(103:Int)≤122 by decide)|exact (show 0≤(98:Int)∧(98:Int)≤122 by decide)|exact (show 0≤(58:Int)∧(58:Int)≤122 by decide)|exact (show 0≤(47:Int)∧(47:Int)≤122 by decide)|exact (show 0≤(0:Int)∧(0:Int)≤122 by decide)
theorem par_text {m:Int} (h:0≤m∧m≤16777215):parC (textB m)=some m:=by
 have e1:=hexd_hb (k:=m / 1048576 % 16) (by omega) (by omega)
 have e2:=hexd_hb (k:=m / 65536 % 16) (by omega) (by omega)
 have e3:=hexd_hb (k:=m / 4096 % 16) (by omega) (by omega)
 have e4:=hexd_hb (k:=m / 256 % 16) (by omega) (by omega)
 have e5:=hexd_hb (k:=m / 16 % 16) (by omega) (by omega)
 have e6:=hexd_hb (k:=m % 16) (by omega) (by omega)
 unfold textB
 rw [parC_6 (by omega) (by omega) (by omega) (by omega) (by omega) (by omega)]
 unfold num6
 rw [e1,e2,e3,e4,e5,e6]
 congr 1
 omega
theorem par_k {s:List UInt8} {m:Int} (hl:s.length≤100000) (h:parC s=some m):par_s [.str s]=some (0,[.int .i64 2,.int .i64 m,.int .i64 0]):=by
 rw [par_s_e _ hl]
 unfold parR
 rw [h]
theorem text_2 {m:Int} (h:0≤m∧m≤16777215):text_s [.int .i64 2,.int .i64 m]=some (0,[.str (textB m),.int .i64 0]):=(rtext_2 h)
theorem text_1 {i:Int} (h:0≤i∧i≤255):text_s [.int .i64 1,.int .i64 i]=some (0,[.str (textB (atS i)),.int .i64 0]):=by
 have h1:rgbB 1 i=true:=decide_eq_true (.inl ⟨rfl,h⟩)
 have h2:rgbS 1 i=atS i:=by unfold rgbS; rw [if_pos ⟨rfl,h⟩]
 have h3:checkS 1 i=0:=check_iff.2 (.inr (.inl ⟨rfl,h⟩))
 rw [text_s_e]
 unfold textS textE
 rw [if_pos h1,h2,if_neg (by rw [h3]; decide),if_pos h1]
theorem rgb_k {n:Int} (h:0≤n∧n≤255):rgb_s [.int .i64 1,.int .i64 n]=some (0,[.int .i64 (atS n),.bool true]):=by
 rw [rgb_s_e]
 have e1:rgbS 1 n=atS n:=by unfold rgbS; rw [if_pos (by omega)]
 have e2:rgbB 1 n=true:=decide_eq_true (by omega)
 rw [e1,e2]
noncomputable def U_upl:List (FuncId × FnC):=(12,conF Tryd.prog [.a [3,3]] text_s [.s 9,.s 3])::(20,conF Tryd.prog [.s 9] par_s [.a [3,3],.s 3])::(10,conF Tryd.prog [.a [3,3]] rgb_s [.s 3,.s 8])::(16,tabF Tryd.prog [] works_s [.s 8] [([],[.bool true])])::L0
theorem U_upl_ok {G:Nat→Option Obj} (hst:StartOk Tryd.prog G gl H0 n0):ConsOk Tryd.prog G gl U_upl:=(.cons (text_c hst) (.cons (par_c hst) (.cons (rgb_c hst) (.consT [([],[.bool true])] (works_c hst) (by kernel_rfl) .nil))))
def upl_s:List U→Option (Nat × List U)
 | [.int .u16 g,.int .u8 i,u_b,.int .i64 k,.int .i64 c0,.int .i64 c1]=>(decS rB u_b).bind fun b=>if (4≤k∧k≤12)∧(el b).length=12∧b=some (el b)∧(∀ x ∈ el b,0≤x∧x≤255)∧0≤g∧g≤65535 then some (0,[.int .u8 i,encS rB (some (upGo g (12 - k).toNat k (el b))),.int .i64 c0,.int .i64 c1]) else none
 | _=>none
theorem upl_s_e (g:Int) (i:Int) (b:(Option (List Int))) (k:Int) (c0:Int) (c1:Int) (hc:(4≤k∧k≤12)∧(el b).length=12∧b=some (el b)∧(∀ x ∈ el b,0≤x∧x≤255)∧0≤g∧g≤65535):upl_s [.int .u16 g,.int .u8 i,encS rB b,.int .i64 k,.int .i64 c0,.int .i64 c1]=some (0,[.int .u8 i,encS rB (some (upGo g (12 - k).toNat k (el b))),.int .i64 c0,.int .i64 c1]):=by
 simp only [upl_s,decS_enc,Option.bind_some]
 exact if_pos hc
def upl_D:LoopD:=⟨[(1,h 0 5),(2,h 1 4),(7,.pointer (some ⟨9,0,none⟩)),(12,own 13 2 11),(13,h 3 3)],[(9,.cells 23 [h 4 3,h 5 3]),(13,.sq 2 11 5 14),(14,.frz)],6,[⟨.exit 0,[(2,h 0 4),(7,.pointer (some ⟨9,0,none⟩)),(12,own 15 1 11)],[(9,.cells 23 [h 2 3,h 3 3]),(15,.sq 1 11 5 16),(16,.frz)],4⟩]⟩
noncomputable def upl_B:Code:=(Tryd.f7.body).getD .skip
noncomputable def upl_x:Code:=match codeAt [true,true,true,true,true,true,true,false,true,false] upl_B with|some (.loop x)=>x|_=>.skip
theorem upl_b:Tryd.f7.body=some upl_B:=rfl
theorem upl_p:codeAt [true,true,true,true,true,true,true,false,true,false] upl_B=some (.loop upl_x):=by kernel_rfl
def upl_t:Tr:=.lt 8 (.bin .lss) [h 3 3,.int .i64 (12)] <| .br 6 (.lt 8 (.inbs 1) [h 3 3,h 2 11] <| .br 7 (.lt 4 (.get 1 0) [h 2 11,h 3 3] <| .lt 8 (.bin .geq) [h 8 4,.int .u8 (97)] <| .br 9 (.lt 7 (.conv .u64) [h 3 3] <| .lt 5 (.bin .shr) [h 0 5,h 10 7] <| .lt 5 (.bin .and) [h 11 5,.int .u16 (1)] <| .lt 8 (.bin .eql) [h 12 5,.int .u16 (1)] <| .br 13 (.lt 8 (.inbs 1) [h 3 3,h 2 11] <| .br 14 (.lt 4 (.get 1 0) [h 2 11,h 3 3] <| .lt 4 (.bin .sub) [h 15 4,.int .u8 (32)] <| .lt 8 (.inbs 1) [h 3 3,h 2 11] <| .br 17 (.dt 11 (.set 1 0) [h 2 11,h 3 3,h 16 4] <| .lt 3 (.bin .add) [h 3 3,.int .i64 (1)] <| .ret [.int .i64 (-1),h 0 5,h 1 4,h 18 11,h 19 3,h 4 3,h 5 3]) (.no)) (.no)) (.lt 3 (.bin .add) [h 3 3,.int .i64 (1)] <| .ret [.int .i64 (-1),h 0 5,h 1 4,h 2 11,h 14 3,h 4 3,h 5 3])) (.lt 3 (.bin .add) [h 3 3,.int .i64 (1)] <| .ret [.int .i64 (-1),h 0 5,h 1 4,h 2 11,h 10 3,h 4 3,h 5 3])) (.no)) (.ret [.int .i64 (0),h 1 4,h 2 11,h 4 3,h 5 3])
def upl_m:List U→Nat
 | [.int .u16 g,.int .u8 i,u_b,.int .i64 k,.int .i64 c0,.int .i64 c1]=>(match decS rB u_b with|some b=>(12 - k).toNat|none=>0)
 | _=>0
theorem upl_me (g:Int) (i:Int) (b:(Option (List Int))) (k:Int) (c0:Int) (c1:Int):upl_m [.int .u16 g,.int .u8 i,encS rB b,.int .i64 k,.int .i64 c0,.int .i64 c1]=(12 - k).toNat:=by
 simp only [upl_m,decS_enc]
theorem upl_c {G:Nat→Option Obj} (hst:StartOk Tryd.prog G gl H0 n0):∀ (E:Nat→U) (base:Nat),@CodeOk ⟨E,G⟩ Tryd.prog base gl Tryd.f7.ntmps upl_x (loopF Tryd.prog gl n0 17 upl_D upl_s):=by
 refine loop_ok (C:=cx U_upl P_rpl) (dep:=60) (f:=7) (n0:=n0) (nB:=17) (H0:=H0) upl_m upl_t (cxg (U_upl_ok hst) (P_rpl_ok hst)) hst Tryd.func7 upl_b upl_p (by kernel_rfl) (by kernel_rfl) (by kernel_rfl) ?_
 intro us d outs hs
 have hs0:=hs
 unfold upl_s at hs
 split at hs
 ·skip
  rename_i g i u_b k c0 c1
  have hq_b:=Option.bind_eq_some_iff.1 hs
  clear hs
  obtain ⟨b,hd_b,hs⟩:=hq_b
  replace hd_b:=decS_eq hd_b
  subst hd_b
  split at hs
  ·rename_i hc
   clear hs hs0
   have hg:=getB_bd hc.2.2.2.1 k.toNat
   refine ⟨rfl,?_⟩
   unfold upl_t
   refine s0 (.cons 5 _ (.cons 4 _ (.cons 3 _ (.cons 2 _ (.cons 1 _ (.cons 0 _ (.nil))))))) rfl (by simp [Ev.ok,Ev.len]) ?_
   refine s1 (ev_lss _ _ _) rfl rfl rfl ?_
   refine s5 rfl (fun g0=>?_) fun g0=>?_
   ·refine s7 [.int .i64 _,.int .u8 _,encS rB _,.int .i64 _,.int .i64 _] rfl ?_
    refine leaf_exit (d:=0) ?_
    rw [upl_s_e _ _ _ _ _ _ hc,show (12 - k).toNat=0 by omega]
    exact congrArg (fun z=>some (0,[U.int .u8 i,encS rB z,U.int .i64 c0,U.int .i64 c1])) hc.2.2.1.symm
   refine s1 (ev_inbsS rfl) rfl rfl rfl ?_
   refine s5 rfl (fun g1=>?_) fun g1=>?_
   ·refine s8 ?_
    first|omega|(simp_all; done)|(simp_all; omega)
   refine s1 (u:=.int .u8 _) (ev_getS rfl (by omega) (by omega) rfl) rfl rfl rfl ?_
   refine s1 (ev_geq _ _ _) rfl rfl rfl ?_
   refine s4 rfl (fun g2=>?_) fun g2=>?_
   ·first|refine s1 (ev_convW (wrapu64 (by omega) (by omega))) rfl rfl rfl ?_|refine s1 (ev_conv _ _ _) rfl rfl rfl ?_
    refine s1 (ev_shr _ _ _ _ (by omega)) rfl rfl rfl ?_
    refine s1 (ev_andR 1 2 (by decide) (by decide) (by decide)) rfl rfl rfl ?_
    refine s1 (ev_eql _ _ _) rfl rfl rfl ?_
    refine s4 rfl (fun g3=>?_) fun g3=>?_
    ·refine s1 (ev_inbsS rfl) rfl rfl rfl ?_
     refine s5 rfl (fun g4=>?_) fun g4=>?_
     ·refine s8 ?_
      first|omega|(simp_all; done)|(simp_all; omega)
     refine s1 (u:=.int .u8 _) (ev_getS rfl (by omega) (by omega) rfl) rfl rfl rfl ?_
     first|refine s1 (ev_subW (wrap8 (by omega) (by omega))) rfl rfl rfl ?_|refine s1 (ev_sub _ _ _) rfl rfl rfl ?_
     refine s1 (ev_inbsS rfl) rfl rfl rfl ?_
     refine s5 rfl (fun g5=>?_) fun g5=>?_
     ·refine s8 ?_
      first|omega|(simp_all; done)|(simp_all; omega)
     refine s2 (r:=rB) (ev_setS _ rfl (Nat.le_of_ble_eq_true rfl) (by omega) (by omega) rfl) rfl rfl ?_
     first|refine s1 (ev_addW (wrap64 (by omega) (by omega))) rfl rfl rfl ?_|refine s1 (ev_add _ _ _) rfl rfl rfl ?_
     refine s7 [.int .i64 _,.int .u16 _,.int .u8 _,encS rB _,.int .i64 _,.int .i64 _,.int .i64 _] rfl ?_
     refine leaf_back ?_ ?_
     ·have hl:∀ x ∈ (el b).set k.toNat ((el b).getD k.toNat default - 32),97≤(el b).getD k.toNat default→0≤x∧x≤255:=fun x hx h97=>by
       rcases List.mem_or_eq_of_mem_set hx with hx|rfl
       ·exact hc.2.2.2.1 x hx
       ·omega
      rw [upl_s_e _ _ _ _ _ _ hc,up_step (by omega) (by omega)]
      first
       | (rw [if_pos (upC_t (by assumption) (by assumption))]; exact upl_s_e _ _ _ _ _ _ ⟨by omega,by rw [el_setR,List.length_set]; exact hc.2.1,rfl,fun x hx=>hl x hx (by assumption),hc.2.2.2.2⟩)
       | (rw [if_neg (upC_a (by assumption))]; exact upl_s_e _ _ _ _ _ _ ⟨by omega,hc.2⟩)
       | (rw [if_neg (upC_b (by assumption))]; exact upl_s_e _ _ _ _ _ _ ⟨by omega,hc.2⟩)
     ·rw [upl_me,upl_me]; omega
    first|refine s1 (ev_addW (wrap64 (by omega) (by omega))) rfl rfl rfl ?_|refine s1 (ev_add _ _ _) rfl rfl rfl ?_
    refine s7 [.int .i64 _,.int .u16 _,.int .u8 _,encS rB _,.int .i64 _,.int .i64 _,.int .i64 _] rfl ?_
    refine leaf_back ?_ ?_
    ·have hl:∀ x ∈ (el b).set k.toNat ((el b).getD k.toNat default - 32),97≤(el b).getD k.toNat default→0≤x∧x≤255:=fun x hx h97=>by
      rcases List.mem_or_eq_of_mem_set hx with hx|rfl
      ·exact hc.2.2.2.1 x hx
      ·omega
     rw [upl_s_e _ _ _ _ _ _ hc,up_step (by omega) (by omega)]
     first
      | (rw [if_pos (upC_t (by assumption) (by assumption))]; exact upl_s_e _ _ _ _ _ _ ⟨by omega,by rw [el_setR,List.length_set]; exact hc.2.1,rfl,fun x hx=>hl x hx (by assumption),hc.2.2.2.2⟩)
      | (rw [if_neg (upC_a (by assumption))]; exact upl_s_e _ _ _ _ _ _ ⟨by omega,hc.2⟩)
      | (rw [if_neg (upC_b (by assumption))]; exact upl_s_e _ _ _ _ _ _ ⟨by omega,hc.2⟩)
    ·rw [upl_me,upl_me]; omega
   first|refine s1 (ev_addW (wrap64 (by omega) (by omega))) rfl rfl rfl ?_|refine s1 (ev_add _ _ _) rfl rfl rfl ?_
   refine s7 [.int .i64 _,.int .u16 _,.int .u8 _,encS rB _,.int .i64 _,.int .i64 _,.int .i64 _] rfl ?_
   refine leaf_back ?_ ?_
   ·have hl:∀ x ∈ (el b).set k.toNat ((el b).getD k.toNat default - 32),97≤(el b).getD k.toNat default→0≤x∧x≤255:=fun x hx h97=>by
     rcases List.mem_or_eq_of_mem_set hx with hx|rfl
     ·exact hc.2.2.2.1 x hx
     ·omega
    rw [upl_s_e _ _ _ _ _ _ hc,up_step (by omega) (by omega)]
    first
     | (rw [if_pos (upC_t (by assumption) (by assumption))]; exact upl_s_e _ _ _ _ _ _ ⟨by omega,by rw [el_setR,List.length_set]; exact hc.2.1,rfl,fun x hx=>hl x hx (by assumption),hc.2.2.2.2⟩)
     | (rw [if_neg (upC_a (by assumption))]; exact upl_s_e _ _ _ _ _ _ ⟨by omega,hc.2⟩)
     | (rw [if_neg (upC_b (by assumption))]; exact upl_s_e _ _ _ _ _ _ ⟨by omega,hc.2⟩)
   ·rw [upl_me,upl_me]; omega
  ·cases hs
 ·cases hs
noncomputable def P_upl:List LpE:=(7,([true,true,true,true,true,true,true,false,true,false],loopF Tryd.prog gl n0 17 upl_D upl_s))::P_rpl
theorem P_upl_ok {G:Nat→Option Obj} (hst:StartOk Tryd.prog G gl H0 n0):LpsOk Tryd.prog G gl P_upl:=.cons Tryd.func7 upl_b upl_p (upl_c hst) (P_rpl_ok hst)
noncomputable def U_cbk:List (FuncId × FnC):=(12,conF Tryd.prog [.a [3,3]] text_s [.s 9,.s 3])::(20,conF Tryd.prog [.s 9] par_s [.a [3,3],.s 3])::(10,conF Tryd.prog [.a [3,3]] rgb_s [.s 3,.s 8])::(16,tabF Tryd.prog [] works_s [.s 8] [([],[.bool true])])::L0
theorem U_cbk_ok {G:Nat→Option Obj} (hst:StartOk Tryd.prog G gl H0 n0):ConsOk Tryd.prog G gl U_cbk:=(.cons (text_c hst) (.cons (par_c hst) (.cons (rgb_c hst) (.consT [([],[.bool true])] (works_c hst) (by kernel_rfl) .nil))))
def cbk_s:List U→Option (Nat × List U)
 | [.int .u32 n,.int .u16 g,.int .u8 i]=>if (0≤n∧n≤4294967295)∧(0≤g∧g≤65535)∧0≤i∧i≤255 then some (0,[.bool (true)]) else none
 | _=>none
theorem cbk_s_e (n:Int) (g:Int) (i:Int) (hc:(0≤n∧n≤4294967295)∧(0≤g∧g≤65535)∧0≤i∧i≤255):cbk_s [.int .u32 n,.int .u16 g,.int .u8 i]=some (0,[.bool (true)]):=if_pos hc
def cbk_t:Tr:=.lt 6 (.bin .rem) [h 0 6,.int .u32 (16777216)] <| .lt 3 (.conv .i64) [h 3 6] <| .fn text_s [.int .i64 (2),h 4 3] 2 <| .fn par_s [h 5 9] 3 <| .dt 11 (.byt) [h 5 9] <| .lt 8 (.bin .neq) [h 6 3,.int .i64 (0)] <| .br 11 (.ret [.bool false]) (.lt 8 (.bin .neq) [h 9 3,.int .i64 (0)] <| .br 12 (.ret [.bool false]) (.lt 8 (.eqs) [h 7 3,.int .i64 (2),h 8 3,h 4 3] <| .lt 8 (.un .not) [h 13 8] <| .br 14 (.ret [.bool false]) (.lt 3 (.len) [h 10 11] <| .lt 8 (.bin .neq) [h 15 3,.int .i64 (12)] <| .br 16 (.ret [.bool false]) (.fn upl_s [h 1 5,h 2 4,h 10 11,.int .i64 (4),.int .i64 (2),h 4 3] 4 <| .lt 9 (.str) [h 18 11] <| .fn par_s [h 21 9] 3 <| .lt 3 (.conv .i64) [h 17 4] <| .fn text_s [.int .i64 (1),h 25 3] 2 <| .fn par_s [h 26 9] 3 <| .lt 3 (.conv .i64) [h 17 4] <| .fn rgb_s [.int .i64 (1),h 31 3] 2 <| .lt 8 (.bin .eql) [h 24 3,.int .i64 (0)] <| .br 34 (.lt 8 (.eqs) [h 22 3,h 19 3,h 23 3,h 20 3] <| .br 35 (.lt 8 (.bin .eql) [h 27 3,.int .i64 (0)] <| .br 36 (.lt 8 (.bin .eql) [h 30 3,.int .i64 (0)] <| .br 37 (.lt 8 (.eqs) [h 28 3,.int .i64 (2),h 29 3,h 32 3] <| .ret [h 38 8]) (.ret [.bool false])) (.ret [.bool false])) (.ret [.bool false])) (.ret [.bool false])))))
theorem cbk_c {G:Nat→Option Obj} (hst:StartOk Tryd.prog G gl H0 n0):ConOk Tryd.prog G 7 [.s 6,.s 5,.s 4] cbk_s [.s 8]:=by
 refine con_of_tree (C:=cx U_cbk P_upl) (d:=60) cbk_t (cxg (U_cbk_ok hst) (P_upl_ok hst)) hst ⟨Tryd.f7,_,Tryd.func7,rfl⟩ (by kernel_rfl) (by kernel_rfl) ?_
 intro us outs hs
 unfold cbk_s at hs
 split at hs
 ·skip
  rename_i n g i
  split at hs
  ·rename_i hc
   cases hs
   have hm:0≤n % 16777216∧n % 16777216≤16777215:=by omega
   have hi:=at_bd hc.2.2
   obtain ⟨T,hT⟩:∃ T,T=textB (n % 16777216):=⟨_,rfl⟩
   obtain ⟨V,hV⟩:∃ V,V=textB (atS i):=⟨_,rfl⟩
   obtain ⟨Q,hQ⟩:∃ Q,Q=upGo g 8 4 (bI T):=⟨_,rfl⟩
   have t1:((el (some (bI T))).length:Int)=12:=by rw [hT]; rfl
   have hl:Q.length=12:=by rw [hQ,(up_ok g 8 4 (bI T) (by decide)).1,hT]; rfl
   have hq:(iB Q).length=12:=by rw [iB_len,hl]
   have hU:upl_s [.int .u16 g,.int .u8 i,encS rB (some (bI T)),.int .i64 4,.int .i64 2,.int .i64 (n % 16777216)]=some (0,[.int .u8 i,encS rB (some Q),.int .i64 2,.int .i64 (n % 16777216)]):=by
    rw [upl_s_e _ _ _ _ _ _ ⟨by decide,by omega,rfl,fun x hx=>by have:=bI_rng hx; omega,hc.2.1⟩,hQ]; rfl
   have hR:∀ x ∈ el (some Q),0≤x∧x < 256:=fun x hx=>by
    have hx:x ∈ Q:=hx
    obtain ⟨q,hq,rfl⟩:=List.mem_iff_getElem.1 hx
    obtain ⟨_,_,i3⟩:=up_ok g 8 4 (bI T) (by decide)
    rw [← hQ] at i3
    have hb:=i3 q
    have e1:Q[q]=Q.getD q 0:=by simp [List.getD,hq]
    have e2:0≤(bI T).getD q 0∧(bI T).getD q 0≤122:=by
     subst hT
     exact text_rng _ q
    have:=hb e2.2
    rw [e1]
    unfold UpR at this
    omega
   have p1:par_s [.str T]=some (0,[.int .i64 2,.int .i64 (n % 16777216),.int .i64 0]):=par_k (by rw [hT]; exact Nat.le_of_ble_eq_true rfl) (by rw [hT]; exact par_text hm)
   have p2:par_s [.str (iB (el (some Q)))]=some (0,[.int .i64 2,.int .i64 (n % 16777216),.int .i64 0]):=par_k (by show (iB Q).length≤_; omega) (by show parC (iB Q)=_; rw [hQ,hT]; exact par_up hm)
   have p3:par_s [.str V]=some (0,[.int .i64 2,.int .i64 (atS i),.int .i64 0]):=par_k (by rw [hV]; exact Nat.le_of_ble_eq_true rfl) (by rw [hV]; exact par_text hi)
   have x1:text_s [.int .i64 2,.int .i64 (n % 16777216)]=some (0,[.str T,.int .i64 0]):=by rw [hT]; exact text_2 hm
   have x2:text_s [.int .i64 1,.int .i64 i]=some (0,[.str V,.int .i64 0]):=by rw [hV]; exact text_1 hc.2.2
   clear hT hV hQ
   unfold cbk_t
   refine s0 (.cons 2 _ (.cons 1 _ (.cons 0 _ (.nil)))) rfl (by simp [Ev.ok,Ev.len]) ?_
   first|refine s1 (ev_remW (by omega) (by omega)) rfl rfl rfl ?_|refine s1 (ev_rem _ _ _ (by omega)) rfl rfl rfl ?_
   first|refine s1 (ev_convW (wrap64 (by omega) (by omega))) rfl rfl rfl ?_|refine s1 (ev_conv _ _ _) rfl rfl rfl ?_
   refine s32 (by first|exact x1|exact x2) rfl rfl ?_
   refine s3 (by first|exact p1|exact p2|exact p3) rfl ?_
   show Tr.sav _ _ (.cons 9 _ (.cons 8 _ (.cons 7 _ _)))
   refine s2 (r:=rB) (ev_bytS _ rfl) rfl rfl ?_
   refine s1 (ev_neq _ _ _) rfl rfl rfl ?_
   refine s4 rfl (fun g0=>?_) fun g0=>?_
   ·refine s7 [.bool _] rfl ?_
    first|rfl|exact absurd t1 g0|exact absurd rfl g0|(simp at g0; done)|(refine congrArg (fun z=>[U.bool z]) ?_; simp; done)
   refine s1 (ev_neq _ _ _) rfl rfl rfl ?_
   refine s4 rfl (fun g1=>?_) fun g1=>?_
   ·refine s7 [.bool _] rfl ?_
    first|rfl|exact absurd t1 g1|exact absurd rfl g1|(simp at g1; done)|(refine congrArg (fun z=>[U.bool z]) ?_; simp; done)
   refine s1 rfl rfl rfl rfl ?_
   first|refine s1 (ev_notD _) rfl rfl rfl ?_|refine s1 (ev_not _) rfl rfl rfl ?_
   first|refine s4 rfl (fun g2=>?_) (fun g2=>?_)|refine s4B rfl (fun g2=>?_) (fun g2=>?_)
   ·refine s7 [.bool _] rfl ?_
    first|rfl|exact absurd t1 g2|exact absurd rfl g2|(simp at g2; done)|(refine congrArg (fun z=>[U.bool z]) ?_; simp; done)
   refine s1 (ev_lenS _ _) rfl rfl rfl ?_
   refine s1 (ev_neq _ _ _) rfl rfl rfl ?_
   refine s4 rfl (fun g3=>?_) fun g3=>?_
   ·refine s7 [.bool _] rfl ?_
    first|rfl|exact absurd t1 g3|exact absurd rfl g3|(simp at g3; done)|(refine congrArg (fun z=>[U.bool z]) ?_; simp; done)
   refine s3 hU rfl ?_
   show Tr.sav _ _ (.cons 20 _ (.cons 19 _ (.cons 18 _ (.cons 17 _ _))))
   refine s1 (ev_strS rfl hR) rfl rfl rfl ?_
   refine s3 (by first|exact p1|exact p2|exact p3) rfl ?_
   show Tr.sav _ _ (.cons 24 _ (.cons 23 _ (.cons 22 _ _)))
   first|refine s1 (ev_convW (wrap64 (by omega) (by omega))) rfl rfl rfl ?_|refine s1 (ev_conv _ _ _) rfl rfl rfl ?_
   refine s32 (by first|exact x1|exact x2) rfl rfl ?_
   refine s3 (by first|exact p1|exact p2|exact p3) rfl ?_
   show Tr.sav _ _ (.cons 30 _ (.cons 29 _ (.cons 28 _ _)))
   first|refine s1 (ev_convW (wrap64 (by omega) (by omega))) rfl rfl rfl ?_|refine s1 (ev_conv _ _ _) rfl rfl rfl ?_
   refine s32 (rgb_k hc.2.2) rfl rfl ?_
   refine s1 (ev_eql _ _ _) rfl rfl rfl ?_
   refine s5 rfl (fun g4=>?_) fun g4=>?_
   ·refine s7 [.bool _] rfl ?_
    first|rfl|exact absurd t1 g4|exact absurd rfl g4|(simp at g4; done)|(refine congrArg (fun z=>[U.bool z]) ?_; simp; done)
   refine s1 rfl rfl rfl rfl ?_
   first|refine s5 rfl (fun g5=>?_) (fun g5=>?_)|refine s5B rfl (fun g5=>?_) (fun g5=>?_)
   ·refine s7 [.bool _] rfl ?_
    first|rfl|exact absurd t1 g5|exact absurd rfl g5|(simp at g5; done)|(refine congrArg (fun z=>[U.bool z]) ?_; simp; done)
   refine s1 (ev_eql _ _ _) rfl rfl rfl ?_
   refine s5 rfl (fun g6=>?_) fun g6=>?_
   ·refine s7 [.bool _] rfl ?_
    first|rfl|exact absurd t1 g6|exact absurd rfl g6|(simp at g6; done)|(refine congrArg (fun z=>[U.bool z]) ?_; simp; done)
   refine s1 (ev_eql _ _ _) rfl rfl rfl ?_
   refine s5 rfl (fun g7=>?_) fun g7=>?_
   ·refine s7 [.bool _] rfl ?_
    first|rfl|exact absurd t1 g7|exact absurd rfl g7|(simp at g7; done)|(refine congrArg (fun z=>[U.bool z]) ?_; simp; done)
   refine s1 rfl rfl rfl rfl ?_
   refine s7 [.bool _] rfl ?_
   first|rfl|exact absurd t1 g7|exact absurd rfl g7|(simp at g7; done)|(refine congrArg (fun z=>[U.bool z]) ?_; simp; done)
  ·cases hs
 ·cases hs
end Go.Proofs.YtdmdghooamchfaaDoor

namespace Go.Proofs.YtdmdghooamchfaaDoor.colorBackDone
set_option linter.all false
open Go Go.Sx Go.ChangeShapes Go.WideShapes Go.ChangeAt Go.RowKit
set_option linter.unusedVariables false
set_option maxRecDepth 100000
theorem start {W:World} (h:laidMetH Tryd.prog Rows.colorBackRow.laid W):StartOk Tryd.prog (fun k=>W.heap[k]?) gl H0 n0:=by
 rw [MakeChecks.laidMetH_plain _ _ _ (by kernel_rfl)] at h
 have r5:RowAt W 5 [.int .u8 (0),.int .u8 (1),.int .u8 (28),.int .u8 (2),.int .u8 (29),.int .u8 (14),.int .u8 (24),.int .u8 (3),.int .u8 (30),.int .u8 (22),.int .u8 (20),.int .u8 (15),.int .u8 (25),.int .u8 (17),.int .u8 (4),.int .u8 (8),.int .u8 (31),.int .u8 (27),.int .u8 (13),.int .u8 (23),.int .u8 (21),.int .u8 (19),.int .u8 (16),.int .u8 (7),.int .u8 (26),.int .u8 (12),.int .u8 (18),.int .u8 (6),.int .u8 (11),.int .u8 (5),.int .u8 (10),.int .u8 (9)]:=rowAt_data (by kernel_rfl) (laid_row (n := "math/bits.deBruijn32tab") (d:=Rows.laid_math_bits_deBruijn32tab) (g:=5) (k:=6) (t:=105) h (List.mem_of_getElem? (i:=0) rfl) (by kernel_rfl) (by kernel_rfl) (by kernel_rfl))
 have r6:RowAt W 6 [.int .u8 (0),.int .u8 (1),.int .u8 (56),.int .u8 (2),.int .u8 (57),.int .u8 (49),.int .u8 (28),.int .u8 (3),.int .u8 (61),.int .u8 (58),.int .u8 (42),.int .u8 (50),.int .u8 (38),.int .u8 (29),.int .u8 (17),.int .u8 (4),.int .u8 (62),.int .u8 (47),.int .u8 (59),.int .u8 (36),.int .u8 (45),.int .u8 (43),.int .u8 (51),.int .u8 (22),.int .u8 (53),.int .u8 (39),.int .u8 (33),.int .u8 (30),.int .u8 (24),.int .u8 (18),.int .u8 (12),.int .u8 (5),.int .u8 (63),.int .u8 (55),.int .u8 (48),.int .u8 (27),.int .u8 (60),.int .u8 (41),.int .u8 (37),.int .u8 (16),.int .u8 (46),.int .u8 (35),.int .u8 (44),.int .u8 (21),.int .u8 (52),.int .u8 (32),.int .u8 (23),.int .u8 (11),.int .u8 (54),.int .u8 (26),.int .u8 (40),.int .u8 (15),.int .u8 (34),.int .u8 (20),.int .u8 (31),.int .u8 (10),.int .u8 (25),.int .u8 (14),.int .u8 (19),.int .u8 (9),.int .u8 (13),.int .u8 (8),.int .u8 (7),.int .u8 (6)]:=rowAt_data (by kernel_rfl) (laid_row (n := "math/bits.deBruijn64tab") (d:=Rows.laid_math_bits_deBruijn64tab) (g:=6) (k:=6) (t:=106) h (List.mem_of_getElem? (i:=1) rfl) (by kernel_rfl) (by kernel_rfl) (by kernel_rfl))
 have r1:RowAt W 1 [.int .u64 (1),.int .u64 (10),.int .u64 (100),.int .u64 (1000),.int .u64 (10000),.int .u64 (100000),.int .u64 (1000000),.int .u64 (10000000),.int .u64 (100000000),.int .u64 (1000000000),.int .u64 (10000000000),.int .u64 (100000000000),.int .u64 (1000000000000),.int .u64 (10000000000000),.int .u64 (100000000000000),.int .u64 (1000000000000000),.int .u64 (10000000000000000),.int .u64 (100000000000000000),.int .u64 (1000000000000000000),.int .u64 (10000000000000000000)]:=rowAt_data (by kernel_rfl) (laid_row (n := "internal/strconv.uint64pow10") (d:=Rows.laid_internal_strconv_uint64pow10) (g:=1) (k:=6) (t:=88) h (List.mem_of_getElem? (i:=2) rfl) (by kernel_rfl) (by kernel_rfl) (by kernel_rfl))
 have r8:RowAt W 8 [.int .u8 (128),.int .u8 (191),.int .u8 (160),.int .u8 (191),.int .u8 (128),.int .u8 (159),.int .u8 (144),.int .u8 (191),.int .u8 (128),.int .u8 (143),.int .u8 (0),.int .u8 (0),.int .u8 (0),.int .u8 (0),.int .u8 (0),.int .u8 (0),.int .u8 (0),.int .u8 (0),.int .u8 (0),.int .u8 (0),.int .u8 (0),.int .u8 (0),.int .u8 (0),.int .u8 (0),.int .u8 (0),.int .u8 (0),.int .u8 (0),.int .u8 (0),.int .u8 (0),.int .u8 (0),.int .u8 (0),.int .u8 (0)]:=rowAt_data (by kernel_rfl) (laid_row (n := "unicode/utf8.acceptRanges") (d:=Rows.laid_unicode_utf8_acceptRanges) (g:=8) (k:=6) (t:=110) h (List.mem_of_getElem? (i:=3) rfl) (by kernel_rfl) (by kernel_rfl) (by kernel_rfl))
 have r3:RowAt W 3 [one]:=rowAt_one (laid_iface (n := "strconv.ErrRange") (d:=Rows.laid_strconv_ErrRange) (g:=3) (t:=67) h (List.mem_of_getElem? (i:=4) rfl) (by kernel_rfl) (by kernel_rfl) (by kernel_rfl))
 have r2:RowAt W 2 [one]:=rowAt_one (laid_iface (n := "strconv.ErrSyntax") (d:=Rows.laid_strconv_ErrSyntax) (g:=2) (t:=67) h (List.mem_of_getElem? (i:=5) rfl) (by kernel_rfl) (by kernel_rfl) (by kernel_rfl))
 have r0:RowAt W 0 [.int .i64 (0),.int .i64 (13434880),.int .i64 (52480),.int .i64 (13487360),.int .i64 (238),.int .i64 (13435085),.int .i64 (52685),.int .i64 (15066597),.int .i64 (8355711),.int .i64 (16711680),.int .i64 (65280),.int .i64 (16776960),.int .i64 (6053119),.int .i64 (16711935),.int .i64 (65535),.int .i64 (16777215)]:=rowAt_data (by kernel_rfl) (laid_row (n := "fenestra/color.named") (d:=Rows.laid_fenestra_color_named) (g:=0) (k:=6) (t:=59) h (List.mem_of_getElem? (i:=6) rfl) (by kernel_rfl) (by kernel_rfl) (by kernel_rfl))
 have r7:RowAt W 7 [.int .u8 (240),.int .u8 (240),.int .u8 (240),.int .u8 (240),.int .u8 (240),.int .u8 (240),.int .u8 (240),.int .u8 (240),.int .u8 (240),.int .u8 (240),.int .u8 (240),.int .u8 (240),.int .u8 (240),.int .u8 (240),.int .u8 (240),.int .u8 (240),.int .u8 (240),.int .u8 (240),.int .u8 (240),.int .u8 (240),.int .u8 (240),.int .u8 (240),.int .u8 (240),.int .u8 (240),.int .u8 (240),.int .u8 (240),.int .u8 (240),.int .u8 (240),.int .u8 (240),.int .u8 (240),.int .u8 (240),.int .u8 (240),.int .u8 (240),.int .u8 (240),.int .u8 (240),.int .u8 (240),.int .u8 (240),.int .u8 (240),.int .u8 (240),.int .u8 (240),.int .u8 (240),.int .u8 (240),.int .u8 (240),.int .u8 (240),.int .u8 (240),.int .u8 (240),.int .u8 (240),.int .u8 (240),.int .u8 (240),.int .u8 (240),.int .u8 (240),.int .u8 (240),.int .u8 (240),.int .u8 (240),.int .u8 (240),.int .u8 (240),.int .u8 (240),.int .u8 (240),.int .u8 (240),.int .u8 (240),.int .u8 (240),.int .u8 (240),.int .u8 (240),.int .u8 (240),.int .u8 (240),.int .u8 (240),.int .u8 (240),.int .u8 (240),.int .u8 (240),.int .u8 (240),.int .u8 (240),.int .u8 (240),.int .u8 (240),.int .u8 (240),.int .u8 (240),.int .u8 (240),.int .u8 (240),.int .u8 (240),.int .u8 (240),.int .u8 (240),.int .u8 (240),.int .u8 (240),.int .u8 (240),.int .u8 (240),.int .u8 (240),.int .u8 (240),.int .u8 (240),.int .u8 (240),.int .u8 (240),.int .u8 (240),.int .u8 (240),.int .u8 (240),.int .u8 (240),.int .u8 (240),.int .u8 (240),.int .u8 (240),.int .u8 (240),.int .u8 (240),.int .u8 (240),.int .u8 (240),.int .u8 (240),.int .u8 (240),.int .u8 (240),.int .u8 (240),.int .u8 (240),.int .u8 (240),.int .u8 (240),.int .u8 (240),.int .u8 (240),.int .u8 (240),.int .u8 (240),.int .u8 (240),.int .u8 (240),.int .u8 (240),.int .u8 (240),.int .u8 (240),.int .u8 (240),.int .u8 (240),.int .u8 (240),.int .u8 (240),.int .u8 (240),.int .u8 (240),.int .u8 (240),.int .u8 (240),.int .u8 (240),.int .u8 (240),.int .u8 (240),.int .u8 (240),.int .u8 (241),.int .u8 (241),.int .u8 (241),.int .u8 (241),.int .u8 (241),.int .u8 (241),.int .u8 (241),.int .u8 (241),.int .u8 (241),.int .u8 (241),.int .u8 (241),.int .u8 (241),.int .u8 (241),.int .u8 (241),.int .u8 (241),.int .u8 (241),.int .u8 (241),.int .u8 (241),.int .u8 (241),.int .u8 (241),.int .u8 (241),.int .u8 (241),.int .u8 (241),.int .u8 (241),.int .u8 (241),.int .u8 (241),.int .u8 (241),.int .u8 (241),.int .u8 (241),.int .u8 (241),.int .u8 (241),.int .u8 (241),.int .u8 (241),.int .u8 (241),.int .u8 (241),.int .u8 (241),.int .u8 (241),.int .u8 (241),.int .u8 (241),.int .u8 (241),.int .u8 (241),.int .u8 (241),.int .u8 (241),.int .u8 (241),.int .u8 (241),.int .u8 (241),.int .u8 (241),.int .u8 (241),.int .u8 (241),.int .u8 (241),.int .u8 (241),.int .u8 (241),.int .u8 (241),.int .u8 (241),.int .u8 (241),.int .u8 (241),.int .u8 (241),.int .u8 (241),.int .u8 (241),.int .u8 (241),.int .u8 (241),.int .u8 (241),.int .u8 (241),.int .u8 (241),.int .u8 (241),.int .u8 (241),.int .u8 (2),.int .u8 (2),.int .u8 (2),.int .u8 (2),.int .u8 (2),.int .u8 (2),.int .u8 (2),.int .u8 (2),.int .u8 (2),.int .u8 (2),.int .u8 (2),.int .u8 (2),.int .u8 (2),.int .u8 (2),.int .u8 (2),.int .u8 (2),.int .u8 (2),.int .u8 (2),.int .u8 (2),.int .u8 (2),.int .u8 (2),.int .u8 (2),.int .u8 (2),.int .u8 (2),.int .u8 (2),.int .u8 (2),.int .u8 (2),.int .u8 (2),.int .u8 (2),.int .u8 (2),.int .u8 (19),.int .u8 (3),.int .u8 (3),.int .u8 (3),.int .u8 (3),.int .u8 (3),.int .u8 (3),.int .u8 (3),.int .u8 (3),.int .u8 (3),.int .u8 (3),.int .u8 (3),.int .u8 (3),.int .u8 (35),.int .u8 (3),.int .u8 (3),.int .u8 (52),.int .u8 (4),.int .u8 (4),.int .u8 (4),.int .u8 (68),.int .u8 (241),.int .u8 (241),.int .u8 (241),.int .u8 (241),.int .u8 (241),.int .u8 (241),.int .u8 (241),.int .u8 (241),.int .u8 (241),.int .u8 (241),.int .u8 (241)]:=rowAt_data (by kernel_rfl) (laid_row (n := "unicode/utf8.first") (d:=Rows.laid_unicode_utf8_first) (g:=7) (k:=6) (t:=107) h (List.mem_of_getElem? (i:=7) rfl) (by kernel_rfl) (by kernel_rfl) (by kernel_rfl))
 have hs:gl≤W.heap.size:=by
  obtain ⟨C,T,fz,e,_⟩:=r8
  have:=(Array.getElem?_eq_some_iff.1 e).1
  show 9≤_
  omega
 refine start_of hs (by decide) ?_ ?_
 ·have e:(rows0.all fun r=>Nat.blt r.1 gl)=true:=by kernel_rfl
  exact fun r hr=>Nat.le_of_ble_eq_true (List.all_eq_true.1 e r hr)
 ·intro r hr
  unfold rows0 at hr
  rcases List.mem_cons.1 hr with rfl|hr
  ·exact r5
  rcases List.mem_cons.1 hr with rfl|hr
  ·exact r6
  rcases List.mem_cons.1 hr with rfl|hr
  ·exact r1
  rcases List.mem_cons.1 hr with rfl|hr
  ·exact r8
  rcases List.mem_cons.1 hr with rfl|hr
  ·exact r3
  rcases List.mem_cons.1 hr with rfl|hr
  ·exact r2
  rcases List.mem_cons.1 hr with rfl|hr
  ·exact r0
  rcases List.mem_cons.1 hr with rfl|hr
  ·exact r7
  cases hr
theorem own:ownKnob Tryd.prog.godebug=none:=by kernel_rfl
theorem laidOut:laidOutB Tryd.prog=true:=by kernel_rfl
noncomputable def low:Nat:=(World.holding Tryd.prog default ⟨#[],#[.int .u32 0,.int .u16 0,.int .u8 0],[]⟩).heap.size
noncomputable def put (g:Nat) (cs:Array Value) (h:Array Obj):Array Obj:=h.modify g fun
 | .cells _ t frozen=>.cells cs t frozen
 | o=>o
noncomputable def laidWorld (os:Os):World :=
 let w0:=World.holding Tryd.prog os ⟨#[.cells #[.string ⟨#[118,97,108,117,101,32,111,117,116,32,111,102,32,114,97,110,103,101]⟩] 104,.cells #[.string ⟨#[105,110,118,97,108,105,100,32,115,121,110,116,97,120]⟩] 104],#[.int .u32 0,.int .u16 0,.int .u8 0],[]⟩
 { w0 with heap:=(put 7 (rows0.getD 7 (0,[])).2.toArray (put 0 (rows0.getD 6 (0,[])).2.toArray (put 2 #[.iface 102 (.pointer (some ⟨low+1,0,none⟩))] (put 3 #[.iface 102 (.pointer (some ⟨low+0,0,none⟩))] (put 8 (rows0.getD 3 (0,[])).2.toArray (put 1 (rows0.getD 2 (0,[])).2.toArray (put 6 (rows0.getD 1 (0,[])).2.toArray (put 5 (rows0.getD 0 (0,[])).2.toArray w0.heap)))))))) }
theorem laid_met (os:Os):laidMet Tryd.prog Rows.colorBackRow.laid ((laidWorld os).forCall (fun _ _=>0) ⟨#[],#[.int .u32 0,.int .u16 0,.int .u8 0],[]⟩).memory :=
 laidMet_of_run' 8 (by kernel_rfl) (by kernel_rfl)
theorem reads (os:Os) {H:Type} (enc:TypeId × Value→H):∃ places,DataW.whole enc Tryd.prog ((laidWorld os).forCall (fun _ _=>0) ⟨#[],#[.int .u32 0,.int .u16 0,.int .u8 0],[]⟩).memory Tryd.f7.params.toList Rows.colorBackSpec.vars false [.int .u32 0,.int .u16 0,.int .u8 0] 8=some ([.lit (.int .u32 0),.lit (.int .u16 0),.lit (.int .u8 0)],[],places) :=
 ⟨[],by kernel_rfl⟩
theorem contract (H:Type) (enc:TypeId × Value→H) (W:World) (base:Nat) (args:Array Value) (ds gs:List (DataW H)) (before:List MemPlace)
  (hval:∀ (j:Nat) t v,Tryd.f7.params[j]? = some t→args[j]? = some v→Value.okWide Tryd.prog W .any base t v)
  (hW:DataW.Whole enc Tryd.prog Tryd.f7.params.toList Rows.colorBackSpec.vars false W args.toList ds gs before) (hL:laidMetH Tryd.prog Rows.colorBackRow.laid W)
  (hwt:(DataW.weightsEach Tryd.prog (Tryd.f7.params.toList++(OpenSpec.ofChange Rows.colorBackSpec).bare.plain.varTypes Tryd.prog) (ds++gs)).all (·≤reachBytes)=true) :
  Calls Tryd.prog 7 args W fun e W'=>∃ v,e=.returned v∧Rows.colorBackSpec.post enc Tryd.prog Tryd.f7 false true false false W args v W':=by
 have hW':=hW
 obtain ⟨p,q,hA0,hV,rfl,hfz,hnd⟩:=hW
 have hA:DataW.TrodAll enc Tryd.prog W 0 (fun _=>true) true Tryd.f7.params.toList args.toList ds p:=hA0
 rw [Tryd.params7] at hA hval hwt
 obtain ⟨v0,vs0,d0,ds0,p0,q0,hargs,rfl,rfl,h0,tl0⟩:=trodAll_cons hA
 obtain ⟨v1,vs1,d1,ds1,p1,q1,rfl,rfl,rfl,h1,tl1⟩:=trodAll_cons tl0
 obtain ⟨v2,vs2,d2,ds2,p2,q2,rfl,rfl,rfl,h2,tl2⟩:=trodAll_cons tl1
 obtain ⟨rfl,rfl,rfl⟩:=trodAll_nil tl2
 obtain rfl:args=#[v0,v1,v2]:=by cases args; simp_all
 obtain ⟨rfl,rfl⟩:=trodVars_none hV
 have lt0:∀ x ∈ p0,x.block < W.heap.size:=by obtain ⟨m,hm⟩:=h0; exact DataW.trod_lt m _ _ _ hm
 have wl0:Light Tryd.prog 40 d0:=weightsEach_get (i:=0) hwt rfl rfl
 obtain ⟨a0,s0,q0⟩:=arg_s (c:=(cInt .u32)) (RdC.u32 (by kernel_rfl)) (by kernel_rfl) (hval 0 40 v0 rfl rfl) h0 wl0
 try simp only at q0
 have lt1:∀ x ∈ p1,x.block < W.heap.size:=by obtain ⟨m,hm⟩:=h1; exact DataW.trod_lt m _ _ _ hm
 have wl1:Light Tryd.prog 34 d1:=weightsEach_get (i:=1) hwt rfl rfl
 obtain ⟨a1,s1,q1⟩:=arg_s (c:=(cInt .u16)) (RdC.u16 (by kernel_rfl)) (by kernel_rfl) (hval 1 34 v1 rfl rfl) h1 wl1
 try simp only at q1
 have lt2:∀ x ∈ p2,x.block < W.heap.size:=by obtain ⟨m,hm⟩:=h2; exact DataW.trod_lt m _ _ _ hm
 have wl2:Light Tryd.prog 5 d2:=weightsEach_get (i:=2) hwt rfl rfl
 obtain ⟨a2,s2,q2⟩:=arg_s (c:=(cInt .u8)) (RdC.u8 (by kernel_rfl)) (by kernel_rfl) (hval 2 5 v2 rfl rfl) h2 wl2
 try simp only at q2
 clear hA0
 simp only [List.append_nil] at hW'
 have hsh:ShL (hpOf W) [.s 6,.s 5,.s 4] [.int .u32 a0,.int .u16 a1,.int .u8 a2] [v0,v1,v2]:=(.cons s0 (.cons s1 (.cons s2 .nil)))
 obtain ⟨_,hc⟩:=cbk_c (start hL) [.int .u32 a0,.int .u16 a1,.int .u8 a2] [.bool true] W _ (hpOf W) hsh (cbk_s_e _ _ _ ⟨q0,q1,q2⟩) (fun k o h=>h) (fun k o h=>h)
 refine hc.mono fun e W' ⟨r,R',hr,he,hg,_⟩=>?_
 have hrv:=val_of_shL (vs2:=[.bool true]) hr rfl
 subst hrv
 subst he
 have bel:Below W.heap.size W W':=⟨hg.os.1,hg.os.2.1,hg.os.2.2,hg.size,hg.keep⟩
 exact ⟨_,rfl,_,_,_,[],_,[],hW',trodAll_mk1 (shut_bool Tryd.underlying4 _),(trodAll_cons_mk (Below.trod laidOut (by kernel_rfl) (of_decide_eq_true (by kernel_rfl)) h0 bel lt0) (trodAll_cons_mk (Below.trod laidOut (by kernel_rfl) (of_decide_eq_true (by kernel_rfl)) h1 bel lt1) (trodAll_cons_mk (Below.trod laidOut (by kernel_rfl) (of_decide_eq_true (by kernel_rfl)) h2 bel lt2) trodAll_mk0))),rfl,hg.kept _,fun h=>by cases h⟩
theorem lifted (os:Os) (started:os.Started) (H:Type) (enc:TypeId × Value→H) (F:Stop.Interp) :
  ReturnsInHanded {} Tryd.checked os 7 .any ((OpenSpec.ofChange Rows.colorBackSpec).preRow enc Tryd.prog Tryd.f7 Rows.colorBackRow.domain false Rows.colorBackRow.laid) (((OpenSpec.ofChange Rows.colorBackSpec).at F).post enc Tryd.prog Tryd.f7 false true false false):=by
 obtain ⟨places,hx⟩:=reads os enc
 refine returnsInHanded_of_row (C:=Tryd.checked) (s:=OpenSpec.ofChange Rows.colorBackSpec) own started (by kernel_rfl) Tryd.func7
  (witness_row_at (enc:=enc) (C:=Tryd.checked) false (laidWorld os) #[.int .u32 0,.int .u16 0,.int .u8 0] rfl (by kernel_rfl) (by kernel_rfl) (by kernel_rfl)
    (OpenSpec.preRow_of_cond 8 hx (by kernel_rfl) (fun k hk=>by cases hk) (by kernel_rfl) (laid_met os))) ?_
 intro W base args ds gs before hval hW _ _ hwt hL _ _
 exact contract H enc W base args ds gs before hval hW hL hwt
theorem said:Rows.ColorBackSaid :=
 OpenClaim.holds_of_cond 7 Tryd.f7 rfl rfl rfl rfl rfl rfl rfl ⟨rfl,rfl,rfl,rfl,rfl⟩ rfl rfl rfl rfl rfl (by kernel_rfl) Tryd.func7 (by kernel_rfl)
  (of_decide_eq_true (by kernel_rfl)) (by unfold Func.isWrapper; first|(rw [if_pos (by decide +kernel)]; kernel_rfl)|(rw [if_neg (by decide +kernel)]; exact ⟨rfl,rfl⟩))
  (fun os started H enc _ F=>by rw [OpenClaim.pre_eq_preRow]; exact lifted os started H enc F)
theorem plain (f:FuncId) (fn:Func) (hf:Tryd.pinned.checked.prog.funcNamed "fenestra/fenestralaw03.ColorBack"=some f) (hfn:Tryd.pinned.checked.prog.funcs[f]? = some fn) :
  true=Tryd.pinned.checked.prog.looks []∧∀ (j:Nat) t,fn.params[j]? = some t→Tryd.pinned.checked.prog.wantsStandIn t=false:=by
 obtain rfl:f=7:=Option.some.inj ((show Tryd.prog.funcNamed "fenestra/fenestralaw03.ColorBack"=some 7 by kernel_rfl).symm.trans hf) |>.symm
 obtain rfl:fn=Tryd.f7:=(Option.some.inj (Tryd.func7.symm.trans hfn)).symm
 refine ⟨by kernel_rfl,fun j t ht=>?_⟩
 have hall:(Tryd.f7.params.toList.all fun t=>!Tryd.prog.wantsStandIn t)=true:=by kernel_rfl
 have:=List.all_eq_true.1 hall t (Array.mem_def.1 (Array.mem_of_getElem? ht))
 have h2:Tryd.prog.wantsStandIn t=false:=by simpa using this
 exact h2
theorem proved:Rows.ColorBackCardSaid :=
 Claim7.holds_tied_plain_at .later [] _ _ _ _ said (fun _ h=>by cases h) (by kernel_rfl) (fun _ h=>by cases h) colorBack_row_tie rfl ⟨rfl,rfl⟩ (by kernel_rfl) rfl plain (by kernel_rfl)
#print axioms proved
end Go.Proofs.YtdmdghooamchfaaDoor.colorBackDone
