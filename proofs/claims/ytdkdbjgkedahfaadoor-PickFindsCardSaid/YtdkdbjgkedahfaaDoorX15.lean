/- The law PickFinds: for every input the call returns true, and the arguments read behind it as they read before. No condition. -/
import Derived.Test.YtdkdbjgkedahfaaDoorX14
import Derived.Test.YtdkdbjgkedahfaaDoorCards
import Derived.Test.YtdkdbjgkedahfaaDoorTie
import Derived.WalkKit
import Derived.ProofKit
import Derived.OpenShut
import Derived.Below
import Derived.Carry
import Derived.Lib.SmallJoins
import Derived.Deep.DeepHandedRow
import Derived.Lib.LaidTab
import Derived.MakeChecks
namespace Go.Proofs.YtdkdbjgkedahfaaDoor.pickFindsDone
set_option linter.all false
open Go Go.Sx Go.ChangeShapes Go.WideShapes Go.ChangeAt Go.RowKit
set_option linter.unusedVariables false
set_option maxRecDepth 100000
theorem start{W:World}(h:laidMetH Tryd.prog Rows.pickFindsRow.laid W):B9 Tryd.prog (fun k=>W.heap[k]?) gl H0 n0:=by
 rw[MakeChecks.laidMetH_plain _ _ _ (by kernel_rfl)]at h;have r1:B7V W 1 [.int .i64 (768),.int .i64 (879),.int .i64 (1155),.int .i64 (1161),.int .i64 (1425),.int .i64 (1469),.int .i64 (1552),.int .i64 (1562),.int .i64 (1611),.int .i64 (1631),.int .i64 (6832),.int .i64 (6911),.int .i64 (7616),.int .i64 (7679),.int .i64 (8203),.int .i64 (8207),.int .i64 (8400),.int .i64 (8447),.int .i64 (65024),.int .i64 (65039),.int .i64 (65056),.int .i64 (65071)]:=A9S (by kernel_rfl) (B4G (n := "fenestra/width.marks") (d:=Rows.laid_fenestra_width_marks) (g:=1) (k:=6) (t:=152) h (E8 (i:=0) rfl) (by kernel_rfl) (by kernel_rfl) (by kernel_rfl));have r2:B7V W 2 [.int .i64 (4352),.int .i64 (4447),.int .i64 (11904),.int .i64 (12350),.int .i64 (12353),.int .i64 (19903),.int .i64 (19968),.int .i64 (42191),.int .i64 (44032),.int .i64 (55203),.int .i64 (63744),.int .i64 (64255),.int .i64 (65072),.int .i64 (65135),.int .i64 (65280),.int .i64 (65376),.int .i64 (65504),.int .i64 (65510),.int .i64 (127744),.int .i64 (128591),.int .i64 (128640),.int .i64 (128767),.int .i64 (129280),.int .i64 (129535),.int .i64 (131072),.int .i64 (262141)]:=A9S (by kernel_rfl) (B4G (n := "fenestra/width.wides") (d:=Rows.laid_fenestra_width_wides) (g:=2) (k:=6) (t:=154) h (E8 (i:=1) rfl) (by kernel_rfl) (by kernel_rfl) (by kernel_rfl));have hs:gl≤W.heap.size:=by
  obtain⟨C,T,fz,e,_⟩:=r2
  have:=(E1.1 e).1;show 3≤_;omega
 refine B9P hs (by decide) ?_ ?_
 ·have e:(A9M.all fun r=>Nat.blt r.1 gl)=true:=by kernel_rfl
  exact fun r hr=>A1 (E7.1 e r hr)
 ·intro r hr;unfold A9M at hr;rcases C7.1 hr with rfl|hr
  ·exact r1
  rcases C7.1 hr with rfl|hr
  ·exact r2
  cases hr
theorem own:ownKnob Tryd.prog.godebug=none:=by kernel_rfl
theorem A65:laidOutB Tryd.prog=true:=by kernel_rfl
noncomputable def low:Nat:=(World.holding Tryd.prog default ⟨#[],#[.agg #[.int .u8 0,.slice none 0 0],.agg #[.slice none 0 0,.bool false],.int .u8 0,.string ⟨#[]⟩,.agg #[.int .i64 0,.int .i64 0,.int .i64 0,.int .i64 0,.int .i64 0,.int .i64 0]],[]⟩).heap.size
noncomputable def put(g:Nat)(cs:Array Value)(h:Array Obj):Array Obj:=h.modify g fun
 | .cells _ t frozen=>.cells cs t frozen
 | o=>o
noncomputable def A7e(os:Os):World :=
 let w0:=World.holding Tryd.prog os ⟨#[],#[.agg #[.int .u8 0,.slice none 0 0],.agg #[.slice none 0 0,.bool false],.int .u8 0,.string ⟨#[]⟩,.agg #[.int .i64 0,.int .i64 0,.int .i64 0,.int .i64 0,.int .i64 0,.int .i64 0]],[]⟩
 { w0 with heap:=(put 2 (A9M.getD 1 (0,[])).2.toArray (put 1 (A9M.getD 0 (0,[])).2.toArray w0.heap)) }
theorem C0v(os:Os):laidMet Tryd.prog Rows.pickFindsRow.laid ((A7e os).forCall (fun _ _=>0) ⟨#[],#[.agg #[.int .u8 0,.slice none 0 0],.agg #[.slice none 0 0,.bool false],.int .u8 0,.string ⟨#[]⟩,.agg #[.int .i64 0,.int .i64 0,.int .i64 0,.int .i64 0,.int .i64 0,.int .i64 0]],[]⟩).memory :=
 laidMet_of_run' 8 (by kernel_rfl) (by kernel_rfl)
theorem C9e(os:Os){H:Type}(enc:TypeId×Value→H):∃ places,DataW.whole enc Tryd.prog ((A7e os).forCall (fun _ _=>0) ⟨#[],#[.agg #[.int .u8 0,.slice none 0 0],.agg #[.slice none 0 0,.bool false],.int .u8 0,.string ⟨#[]⟩,.agg #[.int .i64 0,.int .i64 0,.int .i64 0,.int .i64 0,.int .i64 0,.int .i64 0]],[]⟩).memory Tryd.f5.params.toList Rows.pickFindsSpec.vars false [.agg #[.int .u8 0,.slice none 0 0],.agg #[.slice none 0 0,.bool false],.int .u8 0,.string ⟨#[]⟩,.agg #[.int .i64 0,.int .i64 0,.int .i64 0,.int .i64 0,.int .i64 0,.int .i64 0]] 8=some ([.agg [.lit (.int .u8 0),.nil],.agg [.nil,.lit (.bool false)],.lit (.int .u8 0),.lit (.string []),.agg [.agg [.lit (.int .i64 0),.lit (.int .i64 0)],.agg [.lit (.int .i64 0),.lit (.int .i64 0)],.agg [.lit (.int .i64 0),.lit (.int .i64 0)]]],[],places) :=
 ⟨[],by kernel_rfl⟩
theorem C1b(H:Type)(enc:TypeId×Value→H)(W:World)(base:Nat)(args:Array Value)(ds gs:List (DataW H))(before:List MemPlace)
  (hval:∀ (j:Nat) t v,Tryd.f5.params[j]? = some t→args[j]? = some v→Value.okWide Tryd.prog W .any base t v)
  (hW:DataW.Whole enc Tryd.prog Tryd.f5.params.toList Rows.pickFindsSpec.vars false W args.toList ds gs before) (hL:laidMetH Tryd.prog Rows.pickFindsRow.laid W)
  (hwt:(DataW.weightsEach Tryd.prog (Tryd.f5.params.toList++(OpenSpec.ofChange Rows.pickFindsSpec).bare.plain.varTypes Tryd.prog) (ds++gs)).all (·≤reachBytes)=true) :
  Calls Tryd.prog 5 args W fun e W'=>∃ v,e=.returned v∧Rows.pickFindsSpec.post enc Tryd.prog Tryd.f5 false true false false W args v W':=by
 have hW':=hW;obtain⟨p,q,hA0,hV,rfl,hfz,hnd⟩:=hW;have hA:DataW.TrodAll enc Tryd.prog W 0 (fun _=>true) true Tryd.f5.params.toList args.toList ds p:=hA0;rw[Tryd.params5]at hA hval hwt;obtain⟨v0,vs0,d0,ds0,p0,q0,hargs,rfl,rfl,h0,tl0⟩:=trodAll_cons hA;obtain⟨v1,vs1,d1,ds1,p1,q1,rfl,rfl,rfl,h1,tl1⟩:=trodAll_cons tl0;obtain⟨v2,vs2,d2,ds2,p2,q2,rfl,rfl,rfl,h2,tl2⟩:=trodAll_cons tl1;obtain⟨v3,vs3,d3,ds3,p3,q3,rfl,rfl,rfl,h3,tl3⟩:=trodAll_cons tl2;obtain⟨v4,vs4,d4,ds4,p4,q4,rfl,rfl,rfl,h4,tl4⟩:=trodAll_cons tl3;obtain⟨rfl,rfl,rfl⟩:=trodAll_nil tl4;obtain rfl:args=#[v0,v1,v2,v3,v4]:=by cases args;simp_all
 obtain⟨rfl,rfl⟩:=trodVars_none hV;have lt0:∀ x ∈ p0,x.block<W.heap.size:=by obtain⟨m,hm⟩:=h0;exact DataW.trod_lt m _ _ _ hm
 have wl0:A0p Tryd.prog 24 d0:=X1 (i:=0) hwt rfl rfl;obtain⟨⟨a0_0,a0_1⟩,s0,q0⟩:=C1u (r:=(rC (m9 .u8) (r1 (cSl rDr)))) (tg:=[4,13]) (RdR.of (k:=12) (ts:=[5,22]) (by kernel_rfl) (RdL.cons (RdC.u8 (by kernel_rfl)) (RdL.nil1 (RdC.slice' (r:=rDr) (e:=101) 40 (by kernel_rfl) (by kernel_rfl) (by decide) (by kernel_rfl) (by decide) (RdR.of (k:=12) (ts:=[5,74,4]) (by kernel_rfl) (RdL.cons (RdC.u8 (by kernel_rfl)) (RdL.cons (RdC.slice' (r:=rB) (e:=5) 1 (by kernel_rfl) (by kernel_rfl) (by decide) (by kernel_rfl) (by decide) (RdR.of (k:=12) (ts:=[5]) (by kernel_rfl) (RdL.nil1 (RdC.u8 (by kernel_rfl))))) (RdL.nil1 (RdC.bool (by kernel_rfl)))))))))) (fun _=>by simp only[rC,r1,G4,J6,cSl,m9,B0E,B8P,B9I];rfl) (A55 (by kernel_rfl) (hval 0 24 v0 rfl rfl)) h0 wl0;try simp only at q0
 have lt1:∀ x ∈ p1,x.block<W.heap.size:=by obtain⟨m,hm⟩:=h1;exact DataW.trod_lt m _ _ _ hm
 have wl1:A0p Tryd.prog 27 d1:=X1 (i:=1) hwt rfl rfl;obtain⟨⟨a1_0,a1_1⟩,s1,q1⟩:=C1u (r:=(rC (cSl rCl) (r1 B0E))) (tg:=[22,8]) (RdR.of (k:=12) (ts:=[25,4]) (by kernel_rfl) (RdL.cons (RdC.slice' (r:=rCl) (e:=60) 96 (by kernel_rfl) (by kernel_rfl) (by decide) (by kernel_rfl) (by decide) (RdR.of (k:=12) (ts:=[3,3,3,3,3,3,3,3,3,3,3,3]) (by kernel_rfl) (RdL.cons (RdC.i64 (by kernel_rfl)) (RdL.cons (RdC.i64 (by kernel_rfl)) (RdL.cons (RdC.i64 (by kernel_rfl)) (RdL.cons (RdC.i64 (by kernel_rfl)) (RdL.cons (RdC.i64 (by kernel_rfl)) (RdL.cons (RdC.i64 (by kernel_rfl)) (RdL.cons (RdC.i64 (by kernel_rfl)) (RdL.cons (RdC.i64 (by kernel_rfl)) (RdL.cons (RdC.i64 (by kernel_rfl)) (RdL.cons (RdC.i64 (by kernel_rfl)) (RdL.cons (RdC.i64 (by kernel_rfl)) (RdL.nil1 (RdC.i64 (by kernel_rfl)))))))))))))))) (RdL.nil1 (RdC.bool (by kernel_rfl))))) (fun _=>by simp only[rC,r1,G4,J6,cSl,m9,B0E,B8P,B9I];rfl) (A55 (by kernel_rfl) (hval 1 27 v1 rfl rfl)) h1 wl1;try simp only at q1
 have lt2:∀ x ∈ p2,x.block<W.heap.size:=by obtain⟨m,hm⟩:=h2;exact DataW.trod_lt m _ _ _ hm
 have wl2:A0p Tryd.prog 5 d2:=X1 (i:=2) hwt rfl rfl;obtain⟨a2,s2,q2⟩:=C7M (c:=(m9 .u8)) (RdC.u8 (by kernel_rfl)) (by kernel_rfl) (hval 2 5 v2 rfl rfl) h2 wl2;try simp only at q2
 have lt3:∀ x ∈ p3,x.block<W.heap.size:=by obtain⟨m,hm⟩:=h3;exact DataW.trod_lt m _ _ _ hm
 have wl3:A0p Tryd.prog 9 d3:=X1 (i:=3) hwt rfl rfl;obtain⟨a3,s3,q3⟩:=C7M (c:=B8P) (RdC.str' (by kernel_rfl)) (by kernel_rfl) (hval 3 9 v3 rfl rfl) h3 wl3;try simp only at q3
 have lt4:∀ x ∈ p4,x.block<W.heap.size:=by obtain⟨m,hm⟩:=h4;exact DataW.trod_lt m _ _ _ hm
 have wl4:A0p Tryd.prog 41 d4:=X1 (i:=4) hwt rfl rfl;obtain⟨⟨a4_0,a4_1,a4_2,a4_3,a4_4,a4_5⟩,s4,q4⟩:=C1u (r:=(rC (m9 .i64) (rC (m9 .i64) (rC (m9 .i64) (rC (m9 .i64) (rC (m9 .i64) (r1 (m9 .i64)))))))) (tg:=[3,3,3,3,3,3]) (RdR.of (k:=12) (ts:=[3,3,3,3,3,3]) (by kernel_rfl) (RdL.cons (RdC.i64 (by kernel_rfl)) (RdL.cons (RdC.i64 (by kernel_rfl)) (RdL.cons (RdC.i64 (by kernel_rfl)) (RdL.cons (RdC.i64 (by kernel_rfl)) (RdL.cons (RdC.i64 (by kernel_rfl)) (RdL.nil1 (RdC.i64 (by kernel_rfl))))))))) (fun _=>by simp only[rC,r1,G4,J6,cSl,m9,B0E,B8P,B9I];rfl) (A55 (by kernel_rfl) (hval 4 41 v4 rfl rfl)) h4 wl4;try simp only at q4
 clear hA0;simp only[B8]at hW';have hsh:ShL (B4Q W) [.a [4,13],.a [22,8],.s 4,.s 9,.a [3,3,3,3,3,3]] [.int .u8 a0_0,B3 rDr a0_1,B3 rCl a1_0,.bool a1_1,.int .u8 a2,.str a3,.int .i64 a4_0,.int .i64 a4_1,.int .i64 a4_2,.int .i64 a4_3,.int .i64 a4_4,.int .i64 a4_5] [v0,v1,v2,v3,v4]:=(.cons s0 (.cons s1 (.cons s2 (.cons s3 (.cons s4 .nil)))));obtain⟨_,hc⟩:=D0i (start hL) [.int .u8 a0_0,B3 rDr a0_1,B3 rCl a1_0,.bool a1_1,.int .u8 a2,.str a3,.int .i64 a4_0,.int .i64 a4_1,.int .i64 a4_2,.int .i64 a4_3,.int .i64 a4_4,.int .i64 a4_5] [.bool true] W _ (B4Q W) hsh (C8j _ _ _ _ _ _ _ _ _ _ _ _ ⟨q0.1.1,q0.1.2,⟨q0.2.1,fun x hx=>⟨(q0.2.2 x hx).2.1.2,(q0.2.2 x hx).2.1.1⟩⟩,(by have:=q1.1.1;omega),(fun x hx=>(q1.1.2 x hx).2.2.2.2.1),q2.1,q2.2⟩) (fun k o h=>h) (fun k o h=>h);refine hc.mono fun e W' ⟨r,R',hr,he,hg,_⟩=>?_
 have hrv:=A5n (vs2:=[.bool true]) hr rfl;subst hrv;subst he;have bel:Below W.heap.size W W':=⟨hg.os.1,hg.os.2.1,hg.os.2.2,hg.size,hg.keep⟩;exact⟨_,rfl,_,_,_,[],_,[],hW',trodAll_mk1 (shut_bool Tryd.underlying4 _),(trodAll_cons_mk (Below.trod A65 (by kernel_rfl) (of_decide_eq_true (by kernel_rfl)) h0 bel lt0) (trodAll_cons_mk (Below.trod A65 (by kernel_rfl) (of_decide_eq_true (by kernel_rfl)) h1 bel lt1) (trodAll_cons_mk (Below.trod A65 (by kernel_rfl) (of_decide_eq_true (by kernel_rfl)) h2 bel lt2) (trodAll_cons_mk (Below.trod A65 (by kernel_rfl) (of_decide_eq_true (by kernel_rfl)) h3 bel lt3) (trodAll_cons_mk (Below.trod A65 (by kernel_rfl) (of_decide_eq_true (by kernel_rfl)) h4 bel lt4) trodAll_mk0))))),rfl,hg.kept _,fun h=>by cases h⟩
theorem C8u(os:Os)(started:os.Started)(H:Type)(enc:TypeId×Value→H)(F:Stop.Interp) :
  ReturnsInHanded {} Tryd.checked os 5 .any ((OpenSpec.ofChange Rows.pickFindsSpec).preRow enc Tryd.prog Tryd.f5 Rows.pickFindsRow.domain false Rows.pickFindsRow.laid) (((OpenSpec.ofChange Rows.pickFindsSpec).at F).post enc Tryd.prog Tryd.f5 false true false false):=by
 obtain⟨places,hx⟩:=C9e os enc;refine returnsInHanded_of_row (C:=Tryd.checked) (s:=OpenSpec.ofChange Rows.pickFindsSpec) own started (by kernel_rfl) Tryd.func5
  (witness_row_at (enc:=enc) (C:=Tryd.checked) false (A7e os) #[.agg #[.int .u8 0,.slice none 0 0],.agg #[.slice none 0 0,.bool false],.int .u8 0,.string ⟨#[]⟩,.agg #[.int .i64 0,.int .i64 0,.int .i64 0,.int .i64 0,.int .i64 0,.int .i64 0]] rfl (by kernel_rfl) (by kernel_rfl) (by kernel_rfl)
    (OpenSpec.preRow_of_cond 8 hx (by kernel_rfl) (fun k hk=>by cases hk) (by kernel_rfl) (C0v os))) ?_
 intro W base args ds gs before hval hW _ _ hwt hL _ _;exact C1b H enc W base args ds gs before hval hW hL hwt
theorem D0e:Rows.PickFindsSaid :=
 OpenClaim.holds_of_cond 5 Tryd.f5 rfl rfl rfl rfl rfl rfl rfl ⟨rfl,rfl,rfl,rfl,rfl⟩ rfl rfl rfl rfl rfl (by kernel_rfl) Tryd.func5 (by kernel_rfl)
  (of_decide_eq_true (by kernel_rfl)) (by unfold Func.isWrapper;first|(rw[if_pos (by decide +kernel)];kernel_rfl)|(rw[if_neg (by decide +kernel)];exact⟨rfl,rfl⟩))
  (fun os started H enc _ F=>by rw[OpenClaim.pre_eq_preRow];exact C8u os started H enc F)
theorem plain(f:FuncId)(fn:Func)(hf:Tryd.pinned.checked.prog.funcNamed "fenestra/fenestralaw32.PickFinds"=some f)(hfn:Tryd.pinned.checked.prog.funcs[f]? = some fn) :
  false=Tryd.pinned.checked.prog.looks []∧∀ (j:Nat) t,fn.params[j]? = some t→Tryd.pinned.checked.prog.wantsStandIn t=false:=by
 obtain rfl:f=5:=A8 ((show Tryd.prog.funcNamed "fenestra/fenestralaw32.PickFinds"=some 5 by kernel_rfl).symm.trans hf) |>.symm;obtain rfl:fn=Tryd.f5:=(A8 (Tryd.func5.symm.trans hfn)).symm;refine⟨by kernel_rfl,fun j t ht=>?_⟩;have hall:(Tryd.f5.params.toList.all fun t=>!Tryd.prog.wantsStandIn t)=true:=by kernel_rfl
 have:=E7.1 hall t (Array.mem_def.1 (Array.mem_of_getElem? ht));have h2:Tryd.prog.wantsStandIn t=false:=by simpa using this
 exact h2
theorem proved:Rows.PickFindsCardSaid :=
 Claim7.holds_tied_plain_at .later [] _ _ _ _ D0e (fun _ h=>by cases h) (by kernel_rfl) (fun _ h=>by cases h) pickFinds_row_tie rfl ⟨rfl,rfl⟩ (by kernel_rfl) rfl plain (by kernel_rfl)
#print axioms proved
end Go.Proofs.YtdkdbjgkedahfaaDoor.pickFindsDone
