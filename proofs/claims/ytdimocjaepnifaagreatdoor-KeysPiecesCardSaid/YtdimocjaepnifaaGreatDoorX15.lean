/- The law KeysPieces: for every input the call returns true, and the arguments read behind it as they read before. No condition. -/
import Derived.Test.YtdimocjaepnifaaGreatDoorX14
import Derived.Test.YtdimocjaepnifaaGreatDoorCards
import Derived.Test.YtdimocjaepnifaaGreatDoorTie
import Derived.WalkKit
import Derived.ProofKit
import Derived.OpenShut
import Derived.Below
import Derived.Carry
import Derived.Lib.SmallJoins
import Derived.Deep.DeepHandedRow
import Derived.Lib.LaidTab
import Derived.MakeChecks
namespace Go.Proofs.YtdimocjaepnifaaGreatDoor.keysPiecesDone
set_option linter.all false
open Go Go.Sx Go.ChangeShapes Go.WideShapes Go.ChangeAt Go.RowKit
set_option linter.unusedVariables false
set_option maxRecDepth 100000
theorem start{W:World}(hsh:W.ShapedOpen Tryz.prog)(h:laidMetH Tryz.prog Rows.keysPiecesRow.laid W):B9 Tryz.prog (fun k=>W.heap[k]?) gl H0 n0:=by
 rw[MakeChecks.laidMetH_plain _ _ _ (by kernel_rfl)]at h;have r4:B0B W 4 [.int .u8 (0),.int .u8 (1),.int .u8 (28),.int .u8 (2),.int .u8 (29),.int .u8 (14),.int .u8 (24),.int .u8 (3),.int .u8 (30),.int .u8 (22),.int .u8 (20),.int .u8 (15),.int .u8 (25),.int .u8 (17),.int .u8 (4),.int .u8 (8),.int .u8 (31),.int .u8 (27),.int .u8 (13),.int .u8 (23),.int .u8 (21),.int .u8 (19),.int .u8 (16),.int .u8 (7),.int .u8 (26),.int .u8 (12),.int .u8 (18),.int .u8 (6),.int .u8 (11),.int .u8 (5),.int .u8 (10),.int .u8 (9)]:=A1m (by kernel_rfl) (A4L (n := "math/bits.deBruijn32tab") (d:=Rows.laid_math_bits_deBruijn32tab) (g:=4) (k:=6) (t:=198) h (D4 (i:=0) rfl) (by kernel_rfl) (by kernel_rfl) (by kernel_rfl));have r5:B0B W 5 [.int .u8 (0),.int .u8 (1),.int .u8 (56),.int .u8 (2),.int .u8 (57),.int .u8 (49),.int .u8 (28),.int .u8 (3),.int .u8 (61),.int .u8 (58),.int .u8 (42),.int .u8 (50),.int .u8 (38),.int .u8 (29),.int .u8 (17),.int .u8 (4),.int .u8 (62),.int .u8 (47),.int .u8 (59),.int .u8 (36),.int .u8 (45),.int .u8 (43),.int .u8 (51),.int .u8 (22),.int .u8 (53),.int .u8 (39),.int .u8 (33),.int .u8 (30),.int .u8 (24),.int .u8 (18),.int .u8 (12),.int .u8 (5),.int .u8 (63),.int .u8 (55),.int .u8 (48),.int .u8 (27),.int .u8 (60),.int .u8 (41),.int .u8 (37),.int .u8 (16),.int .u8 (46),.int .u8 (35),.int .u8 (44),.int .u8 (21),.int .u8 (52),.int .u8 (32),.int .u8 (23),.int .u8 (11),.int .u8 (54),.int .u8 (26),.int .u8 (40),.int .u8 (15),.int .u8 (34),.int .u8 (20),.int .u8 (31),.int .u8 (10),.int .u8 (25),.int .u8 (14),.int .u8 (19),.int .u8 (9),.int .u8 (13),.int .u8 (8),.int .u8 (7),.int .u8 (6)]:=A1m (by kernel_rfl) (A4L (n := "math/bits.deBruijn64tab") (d:=Rows.laid_math_bits_deBruijn64tab) (g:=5) (k:=6) (t:=199) h (D4 (i:=1) rfl) (by kernel_rfl) (by kernel_rfl) (by kernel_rfl));have r3:B0B W 3 [.int .u64 (1),.int .u64 (10),.int .u64 (100),.int .u64 (1000),.int .u64 (10000),.int .u64 (100000),.int .u64 (1000000),.int .u64 (10000000),.int .u64 (100000000),.int .u64 (1000000000),.int .u64 (10000000000),.int .u64 (100000000000),.int .u64 (1000000000000),.int .u64 (10000000000000),.int .u64 (100000000000000),.int .u64 (1000000000000000),.int .u64 (10000000000000000),.int .u64 (100000000000000000),.int .u64 (1000000000000000000),.int .u64 (10000000000000000000)]:=A1m (by kernel_rfl) (A4L (n := "internal/strconv.uint64pow10") (d:=Rows.laid_internal_strconv_uint64pow10) (g:=3) (k:=6) (t:=184) h (D4 (i:=2) rfl) (by kernel_rfl) (by kernel_rfl) (by kernel_rfl));have r2:B0B W 2 [.int .u8 (128),.int .u8 (191),.int .u8 (160),.int .u8 (191),.int .u8 (128),.int .u8 (159),.int .u8 (144),.int .u8 (191),.int .u8 (128),.int .u8 (143),.int .u8 (0),.int .u8 (0),.int .u8 (0),.int .u8 (0),.int .u8 (0),.int .u8 (0),.int .u8 (0),.int .u8 (0),.int .u8 (0),.int .u8 (0),.int .u8 (0),.int .u8 (0),.int .u8 (0),.int .u8 (0),.int .u8 (0),.int .u8 (0),.int .u8 (0),.int .u8 (0),.int .u8 (0),.int .u8 (0),.int .u8 (0),.int .u8 (0)]:=A1m (by kernel_rfl) (A4L (n := "unicode/utf8.acceptRanges") (d:=Rows.laid_unicode_utf8_acceptRanges) (g:=2) (k:=6) (t:=159) h (D4 (i:=3) rfl) (by kernel_rfl) (by kernel_rfl) (by kernel_rfl));have r1:B0B W 1 [.int .u8 (240),.int .u8 (240),.int .u8 (240),.int .u8 (240),.int .u8 (240),.int .u8 (240),.int .u8 (240),.int .u8 (240),.int .u8 (240),.int .u8 (240),.int .u8 (240),.int .u8 (240),.int .u8 (240),.int .u8 (240),.int .u8 (240),.int .u8 (240),.int .u8 (240),.int .u8 (240),.int .u8 (240),.int .u8 (240),.int .u8 (240),.int .u8 (240),.int .u8 (240),.int .u8 (240),.int .u8 (240),.int .u8 (240),.int .u8 (240),.int .u8 (240),.int .u8 (240),.int .u8 (240),.int .u8 (240),.int .u8 (240),.int .u8 (240),.int .u8 (240),.int .u8 (240),.int .u8 (240),.int .u8 (240),.int .u8 (240),.int .u8 (240),.int .u8 (240),.int .u8 (240),.int .u8 (240),.int .u8 (240),.int .u8 (240),.int .u8 (240),.int .u8 (240),.int .u8 (240),.int .u8 (240),.int .u8 (240),.int .u8 (240),.int .u8 (240),.int .u8 (240),.int .u8 (240),.int .u8 (240),.int .u8 (240),.int .u8 (240),.int .u8 (240),.int .u8 (240),.int .u8 (240),.int .u8 (240),.int .u8 (240),.int .u8 (240),.int .u8 (240),.int .u8 (240),.int .u8 (240),.int .u8 (240),.int .u8 (240),.int .u8 (240),.int .u8 (240),.int .u8 (240),.int .u8 (240),.int .u8 (240),.int .u8 (240),.int .u8 (240),.int .u8 (240),.int .u8 (240),.int .u8 (240),.int .u8 (240),.int .u8 (240),.int .u8 (240),.int .u8 (240),.int .u8 (240),.int .u8 (240),.int .u8 (240),.int .u8 (240),.int .u8 (240),.int .u8 (240),.int .u8 (240),.int .u8 (240),.int .u8 (240),.int .u8 (240),.int .u8 (240),.int .u8 (240),.int .u8 (240),.int .u8 (240),.int .u8 (240),.int .u8 (240),.int .u8 (240),.int .u8 (240),.int .u8 (240),.int .u8 (240),.int .u8 (240),.int .u8 (240),.int .u8 (240),.int .u8 (240),.int .u8 (240),.int .u8 (240),.int .u8 (240),.int .u8 (240),.int .u8 (240),.int .u8 (240),.int .u8 (240),.int .u8 (240),.int .u8 (240),.int .u8 (240),.int .u8 (240),.int .u8 (240),.int .u8 (240),.int .u8 (240),.int .u8 (240),.int .u8 (240),.int .u8 (240),.int .u8 (240),.int .u8 (240),.int .u8 (240),.int .u8 (240),.int .u8 (240),.int .u8 (240),.int .u8 (241),.int .u8 (241),.int .u8 (241),.int .u8 (241),.int .u8 (241),.int .u8 (241),.int .u8 (241),.int .u8 (241),.int .u8 (241),.int .u8 (241),.int .u8 (241),.int .u8 (241),.int .u8 (241),.int .u8 (241),.int .u8 (241),.int .u8 (241),.int .u8 (241),.int .u8 (241),.int .u8 (241),.int .u8 (241),.int .u8 (241),.int .u8 (241),.int .u8 (241),.int .u8 (241),.int .u8 (241),.int .u8 (241),.int .u8 (241),.int .u8 (241),.int .u8 (241),.int .u8 (241),.int .u8 (241),.int .u8 (241),.int .u8 (241),.int .u8 (241),.int .u8 (241),.int .u8 (241),.int .u8 (241),.int .u8 (241),.int .u8 (241),.int .u8 (241),.int .u8 (241),.int .u8 (241),.int .u8 (241),.int .u8 (241),.int .u8 (241),.int .u8 (241),.int .u8 (241),.int .u8 (241),.int .u8 (241),.int .u8 (241),.int .u8 (241),.int .u8 (241),.int .u8 (241),.int .u8 (241),.int .u8 (241),.int .u8 (241),.int .u8 (241),.int .u8 (241),.int .u8 (241),.int .u8 (241),.int .u8 (241),.int .u8 (241),.int .u8 (241),.int .u8 (241),.int .u8 (241),.int .u8 (241),.int .u8 (2),.int .u8 (2),.int .u8 (2),.int .u8 (2),.int .u8 (2),.int .u8 (2),.int .u8 (2),.int .u8 (2),.int .u8 (2),.int .u8 (2),.int .u8 (2),.int .u8 (2),.int .u8 (2),.int .u8 (2),.int .u8 (2),.int .u8 (2),.int .u8 (2),.int .u8 (2),.int .u8 (2),.int .u8 (2),.int .u8 (2),.int .u8 (2),.int .u8 (2),.int .u8 (2),.int .u8 (2),.int .u8 (2),.int .u8 (2),.int .u8 (2),.int .u8 (2),.int .u8 (2),.int .u8 (19),.int .u8 (3),.int .u8 (3),.int .u8 (3),.int .u8 (3),.int .u8 (3),.int .u8 (3),.int .u8 (3),.int .u8 (3),.int .u8 (3),.int .u8 (3),.int .u8 (3),.int .u8 (3),.int .u8 (35),.int .u8 (3),.int .u8 (3),.int .u8 (52),.int .u8 (4),.int .u8 (4),.int .u8 (4),.int .u8 (68),.int .u8 (241),.int .u8 (241),.int .u8 (241),.int .u8 (241),.int .u8 (241),.int .u8 (241),.int .u8 (241),.int .u8 (241),.int .u8 (241),.int .u8 (241),.int .u8 (241)]:=A1m (by kernel_rfl) (A4L (n := "unicode/utf8.first") (d:=Rows.laid_unicode_utf8_first) (g:=1) (k:=6) (t:=156) h (D4 (i:=4) rfl) (by kernel_rfl) (by kernel_rfl) (by kernel_rfl));have hs:gl≤W.heap.size:=by
  obtain⟨C,T,fz,e,_⟩:=r5
  have:=(C7.1 e).1;show 6≤_;omega
 refine B80 hsh hs (by decide) ?_ ?_
 ·have e:(A5O.all fun r=>Nat.blt r.1 gl)=true:=by kernel_rfl
  exact fun r hr=>A1 (D1.1 e r hr)
 ·intro r hr;unfold A5O at hr;rcases B8.1 hr with rfl|hr
  ·exact r4
  rcases B8.1 hr with rfl|hr
  ·exact r5
  rcases B8.1 hr with rfl|hr
  ·exact r3
  rcases B8.1 hr with rfl|hr
  ·exact r2
  rcases B8.1 hr with rfl|hr
  ·exact r1
  cases hr
theorem own:ownKnob Tryz.prog.godebug=none:=by kernel_rfl
theorem B6u:laidOutB Tryz.prog=true:=by kernel_rfl
noncomputable def low:Nat:=(World.holding Tryz.prog default ⟨#[],#[.slice none 0 0,.int .u16 0],[]⟩).heap.size
noncomputable def put(g:Nat)(cs:Array Value)(h:Array Obj):Array Obj:=h.modify g fun
 | .cells _ t frozen=>.cells cs t frozen
 | o=>o
noncomputable def A66(os:Os):World :=
 let w0:=World.holding Tryz.prog os ⟨#[],#[.slice none 0 0,.int .u16 0],[]⟩
 { w0 with heap:=(put 1 (A5O.getD 4 (0,[])).2.toArray (put 2 (A5O.getD 3 (0,[])).2.toArray (put 3 (A5O.getD 2 (0,[])).2.toArray (put 5 (A5O.getD 1 (0,[])).2.toArray (put 4 (A5O.getD 0 (0,[])).2.toArray w0.heap))))) }
theorem C0A(os:Os):laidMet Tryz.prog Rows.keysPiecesRow.laid ((A66 os).forCall (fun _ _=>0) ⟨#[],#[.slice none 0 0,.int .u16 0],[]⟩).memory :=
 laidMet_of_run' 8 (by kernel_rfl) (by kernel_rfl)
theorem C9U(os:Os){H:Type}(enc:TypeId×Value→H):∃ places,DataW.whole enc Tryz.prog ((A66 os).forCall (fun _ _=>0) ⟨#[],#[.slice none 0 0,.int .u16 0],[]⟩).memory Tryz.f6.params.toList Rows.keysPiecesSpec.vars false [.slice none 0 0,.int .u16 0] 8=some ([.nil,.lit (.int .u16 0)],[],places) :=
 ⟨[],by kernel_rfl⟩
theorem C05(H:Type)(enc:TypeId×Value→H)(W:World)(base:Nat)(args:Array Value)(ds gs:List (DataW H))(before:List MemPlace)
  (hval:∀ (j:Nat) t v,Tryz.f6.params[j]? = some t→args[j]? = some v→Value.okWide Tryz.prog W .any base t v)
  (hW:DataW.Whole enc Tryz.prog Tryz.f6.params.toList Rows.keysPiecesSpec.vars false W args.toList ds gs before) (hL:laidMetH Tryz.prog Rows.keysPiecesRow.laid W) (hSO:W.ShapedOpen Tryz.prog)
  (hwt:(DataW.weightsEach Tryz.prog (Tryz.f6.params.toList++(OpenSpec.ofChange Rows.keysPiecesSpec).bare.plain.varTypes Tryz.prog) (ds++gs)).all (·≤reachBytes)=true) :
  Calls Tryz.prog 6 args W fun e W'=>∃ v,e=.returned v∧Rows.keysPiecesSpec.post enc Tryz.prog Tryz.f6 false true false false W args v W':=by
 have hW':=hW;obtain⟨p,q,hA0,hV,rfl,hfz,hnd⟩:=hW;have hA:DataW.TrodAll enc Tryz.prog W 0 (fun _=>true) true Tryz.f6.params.toList args.toList ds p:=hA0;rw[Tryz.params6]at hA hval hwt;obtain⟨v0,vs0,d0,ds0,p0,q0,hargs,rfl,rfl,h0,tl0⟩:=trodAll_cons hA;obtain⟨v1,vs1,d1,ds1,p1,q1,rfl,rfl,rfl,h1,tl1⟩:=trodAll_cons tl0;obtain⟨rfl,rfl,rfl⟩:=trodAll_nil tl1;obtain rfl:args=#[v0,v1]:=by cases args;simp_all
 obtain⟨rfl,rfl⟩:=trodVars_none hV;have lt0:∀ x ∈ p0,x.block<W.heap.size:=by obtain⟨m,hm⟩:=h0;exact DataW.trod_lt m _ _ _ hm
 have wl0:A1H Tryz.prog 35 d0:=r7 (i:=0) hwt rfl rfl;obtain⟨a0,s0,q0⟩:=C6V (c:=(cSl rB)) (RdC.slice' (r:=rB) (e:=5) 1 (by kernel_rfl) (by kernel_rfl) (by decide) (by kernel_rfl) (by decide) (RdR.of (k:=12) (ts:=[5]) (by kernel_rfl) (RdL.nil1 (RdC.u8 (by kernel_rfl))))) (by kernel_rfl) (hval 0 35 v0 rfl rfl) h0 wl0;try simp only at q0
 have lt1:∀ x ∈ p1,x.block<W.heap.size:=by obtain⟨m,hm⟩:=h1;exact DataW.trod_lt m _ _ _ hm
 have wl1:A1H Tryz.prog 41 d1:=r7 (i:=1) hwt rfl rfl;obtain⟨a1,s1,q1⟩:=C6V (c:=(u6 .u16)) (RdC.u16 (by kernel_rfl)) (by kernel_rfl) (hval 1 41 v1 rfl rfl) h1 wl1;try simp only at q1
 clear hA0;simp only[List.append_nil]at hW';have hsh:ShL (B5q W) [.s 11,.s 5] [A7 rB a0,.int .u16 a1] [v0,v1]:=(.cons s0 (.cons s1 .nil));obtain⟨_,hc⟩:=C92 (start hSO hL) [A7 rB a0,.int .u16 a1] [.bool true] W _ (B5q W) hsh (C3I _ _ ⟨by have:=q0.1;omega,fun x hx=>⟨(q0.2 x hx).1,by have:=(q0.2 x hx).2;omega⟩,q1.1,by have:=q1.2;omega⟩) (fun k o h=>h) (fun k o h=>h);refine hc.mono fun e W' ⟨r,R',hr,he,hg,_⟩=>?_
 have hrv:=Z4 (vs2:=[.bool true]) hr rfl;subst hrv;subst he;have bel:Below W.heap.size W W':=⟨hg.os.1,hg.os.2.1,hg.os.2.2,hg.size,hg.keep⟩;exact⟨_,rfl,_,_,_,[],_,[],hW',trodAll_mk1 (shut_bool Tryz.underlying4 _),(trodAll_cons_mk (Below.trod B6u (by kernel_rfl) (of_decide_eq_true (by kernel_rfl)) h0 bel lt0) (trodAll_cons_mk (Below.trod B6u (by kernel_rfl) (of_decide_eq_true (by kernel_rfl)) h1 bel lt1) trodAll_mk0)),rfl,hg.kept _,fun h=>by cases h⟩
theorem C73(os:Os)(started:os.Started)(H:Type)(enc:TypeId×Value→H)(F:Stop.Interp) :
  ReturnsInHanded {} Tryz.checked os 6 .any ((OpenSpec.ofChange Rows.keysPiecesSpec).preRow enc Tryz.prog Tryz.f6 Rows.keysPiecesRow.domain false Rows.keysPiecesRow.laid) (((OpenSpec.ofChange Rows.keysPiecesSpec).at F).post enc Tryz.prog Tryz.f6 false true false false):=by
 obtain⟨places,hx⟩:=C9U os enc;refine returnsInHanded_of_row (C:=Tryz.checked) (s:=OpenSpec.ofChange Rows.keysPiecesSpec) own started (by kernel_rfl) Tryz.func6
  (witness_row_at (enc:=enc) (C:=Tryz.checked) false (A66 os) #[.slice none 0 0,.int .u16 0] rfl (by kernel_rfl) (by kernel_rfl) (by kernel_rfl)
    (OpenSpec.preRow_of_cond 8 hx (by kernel_rfl) (fun k hk=>by cases hk) (by kernel_rfl) (C0A os))) ?_
 intro W base args ds gs before hval hW _ _ hwt hL hSO _;exact C05 H enc W base args ds gs before hval hW hL hSO hwt
theorem D1G:Rows.KeysPiecesSaid :=
 OpenClaim.holds_of_cond 6 Tryz.f6 rfl rfl rfl rfl rfl rfl rfl ⟨rfl,rfl,rfl,rfl,rfl⟩ rfl rfl rfl rfl rfl (by kernel_rfl) Tryz.func6 (by kernel_rfl)
  (of_decide_eq_true (by kernel_rfl)) (by unfold Func.isWrapper;first|(rw[if_pos (by decide +kernel)];kernel_rfl)|(rw[if_neg (by decide +kernel)];exact⟨rfl,rfl⟩))
  (fun os started H enc _ F=>by rw[OpenClaim.pre_eq_preRow];exact C73 os started H enc F)
theorem plain(f:FuncId)(fn:Func)(hf:Tryz.pinned.checked.prog.funcNamed "fenestra/fenestralaw33.KeysPieces"=some f)(hfn:Tryz.pinned.checked.prog.funcs[f]? = some fn) :
  false=Tryz.pinned.checked.prog.looks []∧∀ (j:Nat) t,fn.params[j]? = some t→Tryz.pinned.checked.prog.wantsStandIn t=false:=by
 obtain rfl:f=6:=A4 ((show Tryz.prog.funcNamed "fenestra/fenestralaw33.KeysPieces"=some 6 by kernel_rfl).symm.trans hf) |>.symm;obtain rfl:fn=Tryz.f6:=(A4 (Tryz.func6.symm.trans hfn)).symm;refine⟨by kernel_rfl,fun j t ht=>?_⟩;have hall:(Tryz.f6.params.toList.all fun t=>!Tryz.prog.wantsStandIn t)=true:=by kernel_rfl
 have:=D1.1 hall t (Array.mem_def.1 (Array.mem_of_getElem? ht));have h2:Tryz.prog.wantsStandIn t=false:=by simpa using this
 exact h2
theorem proved:Rows.KeysPiecesCardSaid :=
 Claim7.holds_tied_plain_at .later [] _ _ _ _ D1G (fun _ h=>by cases h) (by kernel_rfl) (fun _ h=>by cases h) keysPieces_row_tie rfl ⟨rfl,rfl⟩ (by kernel_rfl) rfl plain (by kernel_rfl)
#print axioms proved
end Go.Proofs.YtdimocjaepnifaaGreatDoor.keysPiecesDone
