/- The law PickSplits: for every input the call returns true, and the arguments read behind it as they read before. No condition. -/
import Derived.Test.YtdkdbjgkedahfaaDoorX12
import Derived.Test.YtdkdbjgkedahfaaDoorCards
import Derived.Test.YtdkdbjgkedahfaaDoorTie
import Derived.WalkKit
import Derived.ProofKit
import Derived.OpenShut
import Derived.Below
import Derived.Carry
import Derived.Lib.SmallJoins
import Derived.Deep.DeepHandedRow
import Derived.Lib.LaidTab
import Derived.MakeChecks
namespace Go.Proofs.YtdkdbjgkedahfaaDoor.pickSplitsDone
set_option linter.all false
open Go Go.Sx Go.ChangeShapes Go.WideShapes Go.ChangeAt Go.RowKit
set_option linter.unusedVariables false
set_option maxRecDepth 100000
theorem start{W:World}(h:laidMetH Tryd.prog Rows.pickSplitsRow.laid W):D0 Tryd.prog (fun k=>W.heap[k]?) gl H0 n0:=by
 rw[MakeChecks.laidMetH_plain _ _ _ (by kernel_rfl)]at h;have r1:B6A W 1 [.int .i64 (768),.int .i64 (879),.int .i64 (1155),.int .i64 (1161),.int .i64 (1425),.int .i64 (1469),.int .i64 (1552),.int .i64 (1562),.int .i64 (1611),.int .i64 (1631),.int .i64 (6832),.int .i64 (6911),.int .i64 (7616),.int .i64 (7679),.int .i64 (8203),.int .i64 (8207),.int .i64 (8400),.int .i64 (8447),.int .i64 (65024),.int .i64 (65039),.int .i64 (65056),.int .i64 (65071)]:=A8J (by kernel_rfl) (B21 (n := "fenestra/width.marks") (d:=Rows.laid_fenestra_width_marks) (g:=1) (k:=6) (t:=152) h (D9 (i:=0) rfl) (by kernel_rfl) (by kernel_rfl) (by kernel_rfl));have r2:B6A W 2 [.int .i64 (4352),.int .i64 (4447),.int .i64 (11904),.int .i64 (12350),.int .i64 (12353),.int .i64 (19903),.int .i64 (19968),.int .i64 (42191),.int .i64 (44032),.int .i64 (55203),.int .i64 (63744),.int .i64 (64255),.int .i64 (65072),.int .i64 (65135),.int .i64 (65280),.int .i64 (65376),.int .i64 (65504),.int .i64 (65510),.int .i64 (127744),.int .i64 (128591),.int .i64 (128640),.int .i64 (128767),.int .i64 (129280),.int .i64 (129535),.int .i64 (131072),.int .i64 (262141)]:=A8J (by kernel_rfl) (B21 (n := "fenestra/width.wides") (d:=Rows.laid_fenestra_width_wides) (g:=2) (k:=6) (t:=154) h (D9 (i:=1) rfl) (by kernel_rfl) (by kernel_rfl) (by kernel_rfl));have hs:gl≤W.heap.size:=by
  obtain⟨C,T,fz,e,_⟩:=r2
  have:=(D4.1 e).1;show 3≤_;omega
 refine B7u hs (by decide) ?_ ?_
 ·have e:(A8D.all fun r=>Nat.blt r.1 gl)=true:=by kernel_rfl
  exact fun r hr=>A1 (D8.1 e r hr)
 ·intro r hr;unfold A8D at hr;rcases B3.1 hr with rfl|hr
  ·exact r1
  rcases B3.1 hr with rfl|hr
  ·exact r2
  cases hr
theorem own:ownKnob Tryd.prog.godebug=none:=by kernel_rfl
theorem C1U:laidOutB Tryd.prog=true:=by kernel_rfl
noncomputable def low:Nat:=(World.holding Tryd.prog default ⟨#[],#[.agg #[.int .u8 0,.slice none 0 0]],[]⟩).heap.size
noncomputable def put(g:Nat)(cs:Array Value)(h:Array Obj):Array Obj:=h.modify g fun
 | .cells _ t frozen=>.cells cs t frozen
 | o=>o
noncomputable def A6h(os:Os):World :=
 let w0:=World.holding Tryd.prog os ⟨#[],#[.agg #[.int .u8 0,.slice none 0 0]],[]⟩
 { w0 with heap:=(put 2 (A8D.getD 1 (0,[])).2.toArray (put 1 (A8D.getD 0 (0,[])).2.toArray w0.heap)) }
theorem B8z(os:Os):laidMet Tryd.prog Rows.pickSplitsRow.laid ((A6h os).forCall (fun _ _=>0) ⟨#[],#[.agg #[.int .u8 0,.slice none 0 0]],[]⟩).memory :=
 laidMet_of_run' 8 (by kernel_rfl) (by kernel_rfl)
theorem C5o(os:Os){H:Type}(enc:TypeId×Value→H):∃ places,DataW.whole enc Tryd.prog ((A6h os).forCall (fun _ _=>0) ⟨#[],#[.agg #[.int .u8 0,.slice none 0 0]],[]⟩).memory Tryd.f8.params.toList Rows.pickSplitsSpec.vars false [.agg #[.int .u8 0,.slice none 0 0]] 8=some ([.agg [.lit (.int .u8 0),.nil]],[],places) :=
 ⟨[],by kernel_rfl⟩
theorem B9a(H:Type)(enc:TypeId×Value→H)(W:World)(base:Nat)(args:Array Value)(ds gs:List (DataW H))(before:List MemPlace)
  (hval:∀ (j:Nat) t v,Tryd.f8.params[j]? = some t→args[j]? = some v→Value.okWide Tryd.prog W .any base t v)
  (hW:DataW.Whole enc Tryd.prog Tryd.f8.params.toList Rows.pickSplitsSpec.vars false W args.toList ds gs before) (hL:laidMetH Tryd.prog Rows.pickSplitsRow.laid W)
  (hwt:(DataW.weightsEach Tryd.prog (Tryd.f8.params.toList++(OpenSpec.ofChange Rows.pickSplitsSpec).bare.plain.varTypes Tryd.prog) (ds++gs)).all (·≤reachBytes)=true) :
  Calls Tryd.prog 8 args W fun e W'=>∃ v,e=.returned v∧Rows.pickSplitsSpec.post enc Tryd.prog Tryd.f8 false true false false W args v W':=by
 have hW':=hW;obtain⟨p,q,hA0,hV,rfl,hfz,hnd⟩:=hW;have hA:DataW.TrodAll enc Tryd.prog W 0 (fun _=>true) true Tryd.f8.params.toList args.toList ds p:=hA0;rw[Tryd.params8]at hA hval hwt;obtain⟨v0,vs0,d0,ds0,p0,q0,hargs,rfl,rfl,h0,tl0⟩:=trodAll_cons hA;obtain⟨rfl,rfl,rfl⟩:=trodAll_nil tl0;obtain rfl:args=#[v0]:=by cases args;simp_all
 obtain⟨rfl,rfl⟩:=trodVars_none hV;have lt0:∀ x ∈ p0,x.block<W.heap.size:=by obtain⟨m,hm⟩:=h0;exact DataW.trod_lt m _ _ _ hm
 have wl0:A1o Tryd.prog 24 d0:=A0v (i:=0) hwt rfl rfl;obtain⟨⟨a0_0,a0_1⟩,s0,q0⟩:=C6V (r:=(rC (r7 .u8) (r1 (cSl rDr)))) (tg:=[4,13]) (RdR.of (k:=12) (ts:=[5,22]) (by kernel_rfl) (RdL.cons (RdC.u8 (by kernel_rfl)) (RdL.nil1 (RdC.slice' (r:=rDr) (e:=101) 40 (by kernel_rfl) (by kernel_rfl) (by decide) (by kernel_rfl) (by decide) (RdR.of (k:=12) (ts:=[5,74,4]) (by kernel_rfl) (RdL.cons (RdC.u8 (by kernel_rfl)) (RdL.cons (RdC.slice' (r:=rB) (e:=5) 1 (by kernel_rfl) (by kernel_rfl) (by decide) (by kernel_rfl) (by decide) (RdR.of (k:=12) (ts:=[5]) (by kernel_rfl) (RdL.nil1 (RdC.u8 (by kernel_rfl))))) (RdL.nil1 (RdC.bool (by kernel_rfl)))))))))) (fun _=>by simp only[rC,r1,F9,I5,cSl,r7,B53,C5U,C4g];rfl) (B4H (by kernel_rfl) (hval 0 24 v0 rfl rfl)) h0 wl0;try simp only at q0
 clear hA0;simp only[C5]at hW';have hsh:ShL (B4Y W) [.a [4,13]] [.int .u8 a0_0,B6 rDr a0_1] [v0]:=(.cons s0 .nil);obtain⟨_,hc⟩:=C6d (start hL) [.int .u8 a0_0,B6 rDr a0_1] [.bool true] W _ (B4Y W) hsh (C4y _ _ ⟨q0.1.1,q0.1.2,⟨q0.2.1,fun x hx=>⟨(q0.2.2 x hx).2.1.2,(q0.2.2 x hx).2.1.1⟩⟩⟩) (fun k o h=>h) (fun k o h=>h);refine hc.mono fun e W' ⟨r,R',hr,he,hg,_⟩=>?_
 have hrv:=A2v (vs2:=[.bool true]) hr rfl;subst hrv;subst he;have bel:Below W.heap.size W W':=⟨hg.os.1,hg.os.2.1,hg.os.2.2,hg.size,hg.keep⟩;exact⟨_,rfl,_,_,_,[],_,[],hW',trodAll_mk1 (shut_bool Tryd.underlying4 _),(trodAll_cons_mk (Below.trod C1U (by kernel_rfl) (of_decide_eq_true (by kernel_rfl)) h0 bel lt0) trodAll_mk0),rfl,hg.kept _,fun h=>by cases h⟩
theorem C48(os:Os)(started:os.Started)(H:Type)(enc:TypeId×Value→H)(F:Stop.Interp) :
  ReturnsInHanded {} Tryd.checked os 8 .any ((OpenSpec.ofChange Rows.pickSplitsSpec).preRow enc Tryd.prog Tryd.f8 Rows.pickSplitsRow.domain false Rows.pickSplitsRow.laid) (((OpenSpec.ofChange Rows.pickSplitsSpec).at F).post enc Tryd.prog Tryd.f8 false true false false):=by
 obtain⟨places,hx⟩:=C5o os enc;refine returnsInHanded_of_row (C:=Tryd.checked) (s:=OpenSpec.ofChange Rows.pickSplitsSpec) own started (by kernel_rfl) Tryd.func8
  (witness_row_at (enc:=enc) (C:=Tryd.checked) false (A6h os) #[.agg #[.int .u8 0,.slice none 0 0]] rfl (by kernel_rfl) (by kernel_rfl) (by kernel_rfl)
    (OpenSpec.preRow_of_cond 8 hx (by kernel_rfl) (fun k hk=>by cases hk) (by kernel_rfl) (B8z os))) ?_
 intro W base args ds gs before hval hW _ _ hwt hL _ _;exact B9a H enc W base args ds gs before hval hW hL hwt
theorem C6b:Rows.PickSplitsSaid :=
 OpenClaim.holds_of_cond 8 Tryd.f8 rfl rfl rfl rfl rfl rfl rfl ⟨rfl,rfl,rfl,rfl,rfl⟩ rfl rfl rfl rfl rfl (by kernel_rfl) Tryd.func8 (by kernel_rfl)
  (of_decide_eq_true (by kernel_rfl)) (by unfold Func.isWrapper;first|(rw[if_pos (by decide +kernel)];kernel_rfl)|(rw[if_neg (by decide +kernel)];exact⟨rfl,rfl⟩))
  (fun os started H enc _ F=>by rw[OpenClaim.pre_eq_preRow];exact C48 os started H enc F)
theorem plain(f:FuncId)(fn:Func)(hf:Tryd.pinned.checked.prog.funcNamed "fenestra/fenestralaw32.PickSplits"=some f)(hfn:Tryd.pinned.checked.prog.funcs[f]? = some fn) :
  false=Tryd.pinned.checked.prog.looks []∧∀ (j:Nat) t,fn.params[j]? = some t→Tryd.pinned.checked.prog.wantsStandIn t=false:=by
 obtain rfl:f=8:=A8 ((show Tryd.prog.funcNamed "fenestra/fenestralaw32.PickSplits"=some 8 by kernel_rfl).symm.trans hf) |>.symm;obtain rfl:fn=Tryd.f8:=(A8 (Tryd.func8.symm.trans hfn)).symm;refine⟨by kernel_rfl,fun j t ht=>?_⟩;have hall:(Tryd.f8.params.toList.all fun t=>!Tryd.prog.wantsStandIn t)=true:=by kernel_rfl
 have:=D8.1 hall t (Array.mem_def.1 (Array.mem_of_getElem? ht));have h2:Tryd.prog.wantsStandIn t=false:=by simpa using this
 exact h2
theorem proved:Rows.PickSplitsCardSaid :=
 Claim7.holds_tied_plain_at .later [] _ _ _ _ C6b (fun _ h=>by cases h) (by kernel_rfl) (fun _ h=>by cases h) pickSplits_row_tie rfl ⟨rfl,rfl⟩ (by kernel_rfl) rfl plain (by kernel_rfl)
#print axioms proved
end Go.Proofs.YtdkdbjgkedahfaaDoor.pickSplitsDone
