import Derived.Test.YtdimocjaepnifaaGreatDoorX14
import Derived.Test.YtdimocjaepnifaaGreatDoorCards
import Derived.Test.YtdimocjaepnifaaGreatDoorTie
import Derived.WalkKit
import Derived.ProofKit
import Derived.OpenShut
import Derived.Below
import Derived.Carry
import Derived.Lib.SmallJoins
import Derived.Deep.DeepHandedRow
import Derived.Lib.LaidTab
import Derived.MakeChecks
set_option linter.all false
set_option maxRecDepth 100000
set_option maxHeartbeats 4000000
namespace Go.Proofs.YtdimocjaepnifaaGreatDoor.keysBackDone
open Go Go.Sx Go.ChangeShapes Go.WideShapes Go.ChangeAt Go.RowKit
def start{W:World}(hsh:W.ShapedOpen Tryz.prog)(h:laidMetH Tryz.prog Rows.keysBackRow.laid W):y5 Tryz.prog (fun k=>W.heap[k]?) gl H0 n0:=by
 rw[MakeChecks.laidMetH_plain _ _ _ D0]at h;have r4:CX W 4 [.int .u8 (0),.int .u8 (1),.int .u8 (28),.int .u8 (2),.int .u8 (29),.int .u8 (14),.int .u8 (24),.int .u8 (3),.int .u8 (30),.int .u8 (22),.int .u8 (20),.int .u8 (15),.int .u8 (25),.int .u8 (17),.int .u8 (4),.int .u8 (8),.int .u8 (31),.int .u8 (27),.int .u8 (13),.int .u8 (23),.int .u8 (21),.int .u8 (19),.int .u8 (16),.int .u8 (7),.int .u8 (26),.int .u8 (12),.int .u8 (18),.int .u8 (6),.int .u8 (11),.int .u8 (5),.int .u8 (10),.int .u8 (9)]:=gD D0 (nN (n := "math/bits.deBruijn32tab") (d:=Rows.laid_math_bits_deBruijn32tab) (g:=4) (k:=6) (t:=198) h (E6 (i:=0) rfl) D0 D0 D0);have r5:CX W 5 [.int .u8 (0),.int .u8 (1),.int .u8 (56),.int .u8 (2),.int .u8 (57),.int .u8 (49),.int .u8 (28),.int .u8 (3),.int .u8 (61),.int .u8 (58),.int .u8 (42),.int .u8 (50),.int .u8 (38),.int .u8 (29),.int .u8 (17),.int .u8 (4),.int .u8 (62),.int .u8 (47),.int .u8 (59),.int .u8 (36),.int .u8 (45),.int .u8 (43),.int .u8 (51),.int .u8 (22),.int .u8 (53),.int .u8 (39),.int .u8 (33),.int .u8 (30),.int .u8 (24),.int .u8 (18),.int .u8 (12),.int .u8 (5),.int .u8 (63),.int .u8 (55),.int .u8 (48),.int .u8 (27),.int .u8 (60),.int .u8 (41),.int .u8 (37),.int .u8 (16),.int .u8 (46),.int .u8 (35),.int .u8 (44),.int .u8 (21),.int .u8 (52),.int .u8 (32),.int .u8 (23),.int .u8 (11),.int .u8 (54),.int .u8 (26),.int .u8 (40),.int .u8 (15),.int .u8 (34),.int .u8 (20),.int .u8 (31),.int .u8 (10),.int .u8 (25),.int .u8 (14),.int .u8 (19),.int .u8 (9),.int .u8 (13),.int .u8 (8),.int .u8 (7),.int .u8 (6)]:=gD D0 (nN (n := "math/bits.deBruijn64tab") (d:=Rows.laid_math_bits_deBruijn64tab) (g:=5) (k:=6) (t:=199) h (E6 (i:=1) rfl) D0 D0 D0);have r3:CX W 3 [.int .u64 (1),.int .u64 (10),.int .u64 (100),.int .u64 (1000),.int .u64 (10000),.int .u64 (100000),.int .u64 (1000000),.int .u64 (10000000),.int .u64 (100000000),.int .u64 (1000000000),.int .u64 (10000000000),.int .u64 (100000000000),.int .u64 (1000000000000),.int .u64 (10000000000000),.int .u64 (100000000000000),.int .u64 (1000000000000000),.int .u64 (10000000000000000),.int .u64 (100000000000000000),.int .u64 (1000000000000000000),.int .u64 (10000000000000000000)]:=gD D0 (nN (n := "internal/strconv.uint64pow10") (d:=Rows.laid_internal_strconv_uint64pow10) (g:=3) (k:=6) (t:=184) h (E6 (i:=2) rfl) D0 D0 D0);have r2:CX W 2 [.int .u8 (128),.int .u8 (191),.int .u8 (160),.int .u8 (191),.int .u8 (128),.int .u8 (159),.int .u8 (144),.int .u8 (191),.int .u8 (128),.int .u8 (143),.int .u8 (0),.int .u8 (0),.int .u8 (0),.int .u8 (0),.int .u8 (0),.int .u8 (0),.int .u8 (0),.int .u8 (0),.int .u8 (0),.int .u8 (0),.int .u8 (0),.int .u8 (0),.int .u8 (0),.int .u8 (0),.int .u8 (0),.int .u8 (0),.int .u8 (0),.int .u8 (0),.int .u8 (0),.int .u8 (0),.int .u8 (0),.int .u8 (0)]:=gD D0 (nN (n := "unicode/utf8.acceptRanges") (d:=Rows.laid_unicode_utf8_acceptRanges) (g:=2) (k:=6) (t:=159) h (E6 (i:=3) rfl) D0 D0 D0);have r1:CX W 1 [.int .u8 (240),.int .u8 (240),.int .u8 (240),.int .u8 (240),.int .u8 (240),.int .u8 (240),.int .u8 (240),.int .u8 (240),.int .u8 (240),.int .u8 (240),.int .u8 (240),.int .u8 (240),.int .u8 (240),.int .u8 (240),.int .u8 (240),.int .u8 (240),.int .u8 (240),.int .u8 (240),.int .u8 (240),.int .u8 (240),.int .u8 (240),.int .u8 (240),.int .u8 (240),.int .u8 (240),.int .u8 (240),.int .u8 (240),.int .u8 (240),.int .u8 (240),.int .u8 (240),.int .u8 (240),.int .u8 (240),.int .u8 (240),.int .u8 (240),.int .u8 (240),.int .u8 (240),.int .u8 (240),.int .u8 (240),.int .u8 (240),.int .u8 (240),.int .u8 (240),.int .u8 (240),.int .u8 (240),.int .u8 (240),.int .u8 (240),.int .u8 (240),.int .u8 (240),.int .u8 (240),.int .u8 (240),.int .u8 (240),.int .u8 (240),.int .u8 (240),.int .u8 (240),.int .u8 (240),.int .u8 (240),.int .u8 (240),.int .u8 (240),.int .u8 (240),.int .u8 (240),.int .u8 (240),.int .u8 (240),.int .u8 (240),.int .u8 (240),.int .u8 (240),.int .u8 (240),.int .u8 (240),.int .u8 (240),.int .u8 (240),.int .u8 (240),.int .u8 (240),.int .u8 (240),.int .u8 (240),.int .u8 (240),.int .u8 (240),.int .u8 (240),.int .u8 (240),.int .u8 (240),.int .u8 (240),.int .u8 (240),.int .u8 (240),.int .u8 (240),.int .u8 (240),.int .u8 (240),.int .u8 (240),.int .u8 (240),.int .u8 (240),.int .u8 (240),.int .u8 (240),.int .u8 (240),.int .u8 (240),.int .u8 (240),.int .u8 (240),.int .u8 (240),.int .u8 (240),.int .u8 (240),.int .u8 (240),.int .u8 (240),.int .u8 (240),.int .u8 (240),.int .u8 (240),.int .u8 (240),.int .u8 (240),.int .u8 (240),.int .u8 (240),.int .u8 (240),.int .u8 (240),.int .u8 (240),.int .u8 (240),.int .u8 (240),.int .u8 (240),.int .u8 (240),.int .u8 (240),.int .u8 (240),.int .u8 (240),.int .u8 (240),.int .u8 (240),.int .u8 (240),.int .u8 (240),.int .u8 (240),.int .u8 (240),.int .u8 (240),.int .u8 (240),.int .u8 (240),.int .u8 (240),.int .u8 (240),.int .u8 (240),.int .u8 (240),.int .u8 (240),.int .u8 (240),.int .u8 (241),.int .u8 (241),.int .u8 (241),.int .u8 (241),.int .u8 (241),.int .u8 (241),.int .u8 (241),.int .u8 (241),.int .u8 (241),.int .u8 (241),.int .u8 (241),.int .u8 (241),.int .u8 (241),.int .u8 (241),.int .u8 (241),.int .u8 (241),.int .u8 (241),.int .u8 (241),.int .u8 (241),.int .u8 (241),.int .u8 (241),.int .u8 (241),.int .u8 (241),.int .u8 (241),.int .u8 (241),.int .u8 (241),.int .u8 (241),.int .u8 (241),.int .u8 (241),.int .u8 (241),.int .u8 (241),.int .u8 (241),.int .u8 (241),.int .u8 (241),.int .u8 (241),.int .u8 (241),.int .u8 (241),.int .u8 (241),.int .u8 (241),.int .u8 (241),.int .u8 (241),.int .u8 (241),.int .u8 (241),.int .u8 (241),.int .u8 (241),.int .u8 (241),.int .u8 (241),.int .u8 (241),.int .u8 (241),.int .u8 (241),.int .u8 (241),.int .u8 (241),.int .u8 (241),.int .u8 (241),.int .u8 (241),.int .u8 (241),.int .u8 (241),.int .u8 (241),.int .u8 (241),.int .u8 (241),.int .u8 (241),.int .u8 (241),.int .u8 (241),.int .u8 (241),.int .u8 (241),.int .u8 (241),.int .u8 (2),.int .u8 (2),.int .u8 (2),.int .u8 (2),.int .u8 (2),.int .u8 (2),.int .u8 (2),.int .u8 (2),.int .u8 (2),.int .u8 (2),.int .u8 (2),.int .u8 (2),.int .u8 (2),.int .u8 (2),.int .u8 (2),.int .u8 (2),.int .u8 (2),.int .u8 (2),.int .u8 (2),.int .u8 (2),.int .u8 (2),.int .u8 (2),.int .u8 (2),.int .u8 (2),.int .u8 (2),.int .u8 (2),.int .u8 (2),.int .u8 (2),.int .u8 (2),.int .u8 (2),.int .u8 (19),.int .u8 (3),.int .u8 (3),.int .u8 (3),.int .u8 (3),.int .u8 (3),.int .u8 (3),.int .u8 (3),.int .u8 (3),.int .u8 (3),.int .u8 (3),.int .u8 (3),.int .u8 (3),.int .u8 (35),.int .u8 (3),.int .u8 (3),.int .u8 (52),.int .u8 (4),.int .u8 (4),.int .u8 (4),.int .u8 (68),.int .u8 (241),.int .u8 (241),.int .u8 (241),.int .u8 (241),.int .u8 (241),.int .u8 (241),.int .u8 (241),.int .u8 (241),.int .u8 (241),.int .u8 (241),.int .u8 (241)]:=gD D0 (nN (n := "unicode/utf8.first") (d:=Rows.laid_unicode_utf8_first) (g:=1) (k:=6) (t:=156) h (E6 (i:=4) rfl) D0 D0 D0);have hs:gl≤W.heap.size:=by
  obtain⟨C,T,fz,e,_⟩:=r5
  have:=(D9.1 e).1;show 6≤_;omega
 refine A0c hsh hs (by decide) ?_ ?_
 ·have e:(pY.all fun r=>Nat.blt r.1 gl)=true:=D0;exact fun r hr=>A2 (E4.1 e r hr)
 ·intro r hr;unfold pY at hr;rcases C6.1 hr with rfl|hr
  ·exact r4
  rcases C6.1 hr with rfl|hr
  ·exact r5
  rcases C6.1 hr with rfl|hr
  ·exact r3
  rcases C6.1 hr with rfl|hr
  ·exact r2
  rcases C6.1 hr with rfl|hr
  ·exact r1
  cases hr
def own:ownKnob Tryz.prog.godebug=none:=D0
def IU:laidOutB Tryz.prog=true:=D0
noncomputable def low:Nat:=(World.holding Tryz.prog default ⟨#[],#[.slice none 0 0,.int .u16 0,.int .u8 0],[]⟩).heap.size
noncomputable def put(g:Nat)(cs:Array Value)(h:Array Obj):Array Obj:=h.modify g fun
 | .cells _ t frozen=>.cells cs t frozen
 | o=>o
noncomputable def vA(os:Os):World :=
 let w0:=World.holding Tryz.prog os ⟨#[],#[.slice none 0 0,.int .u16 0,.int .u8 0],[]⟩
 { w0 with heap:=(put 1 (pY.getD 4 (0,[])).2.toArray (put 2 (pY.getD 3 (0,[])).2.toArray (put 3 (pY.getD 2 (0,[])).2.toArray (put 5 (pY.getD 1 (0,[])).2.toArray (put 4 (pY.getD 0 (0,[])).2.toArray w0.heap))))) }
def A2B(os:Os):laidMet Tryz.prog Rows.keysBackRow.laid ((vA os).forCall (fun _ _=>0) ⟨#[],#[.slice none 0 0,.int .u16 0,.int .u8 0],[]⟩).memory :=
 laidMet_of_run' 8 D0 D0
def B2D(os:Os){H:Type}(enc:TypeId×Value→H):∃ places,DataW.whole enc Tryz.prog ((vA os).forCall (fun _ _=>0) ⟨#[],#[.slice none 0 0,.int .u16 0,.int .u8 0],[]⟩).memory Tryz.f8.params.toList Rows.keysBackSpec.vars false [.slice none 0 0,.int .u16 0,.int .u8 0] 8=some ([.nil,.lit (.int .u16 0),.lit (.int .u8 0)],[],places) :=
 ⟨[],by kernel_rfl⟩
def A3l(H:Type)(enc:TypeId×Value→H)(W:World)(base:Nat)(args:Array Value)(ds gs:List (DataW H))(before:List MemPlace)
  (hval:∀ (j:Nat) t v,Tryz.f8.params[j]? = some t→args[j]? = some v→Value.okWide Tryz.prog W .any base t v)
  (hW:DataW.Whole enc Tryz.prog Tryz.f8.params.toList Rows.keysBackSpec.vars false W args.toList ds gs before) (hL:laidMetH Tryz.prog Rows.keysBackRow.laid W) (hSO:W.ShapedOpen Tryz.prog)
  (hwt:(DataW.weightsEach Tryz.prog (Tryz.f8.params.toList++(OpenSpec.ofChange Rows.keysBackSpec).bare.plain.varTypes Tryz.prog) (ds++gs)).all (·≤reachBytes)=true) :
  Calls Tryz.prog 8 args W fun e W'=>∃ v,e=.returned v∧Rows.keysBackSpec.post enc Tryz.prog Tryz.f8 false true false false W args v W':=by
 have hW':=hW;obtain⟨p,q,hA0,hV,rfl,hfz,hnd⟩:=hW;have hA:DataW.TrodAll enc Tryz.prog W 0 (fun _=>true) true Tryz.f8.params.toList args.toList ds p:=hA0;rw[Tryz.params8]at hA hval hwt;obtain⟨v0,vs0,d0,ds0,p0,q0,hargs,rfl,rfl,h0,tl0⟩:=trodAll_cons hA;obtain⟨v1,vs1,d1,ds1,p1,q1,rfl,rfl,rfl,h1,tl1⟩:=trodAll_cons tl0;obtain⟨v2,vs2,d2,ds2,p2,q2,rfl,rfl,rfl,h2,tl2⟩:=trodAll_cons tl1;obtain⟨rfl,rfl,rfl⟩:=trodAll_nil tl2;obtain rfl:args=#[v0,v1,v2]:=by cases args;simp_all
 obtain⟨rfl,rfl⟩:=trodVars_none hV;have lt0:∀ x ∈ p0,x.block<W.heap.size:=by obtain⟨m,hm⟩:=h0;exact DataW.trod_lt m _ _ _ hm
 have wl0:dQ Tryz.prog 57 d0:=d9 (i:=0) hwt rfl rfl;obtain⟨a0,s0,q0⟩:=A4C (c:=(cSl rD)) (RdC.slice' (r:=rD) (e:=26) 32 D0 D0 (by decide) D0 (by decide) (RdR.of (k:=12) (ts:=[5,5,5,5,5,5,5,24,9]) D0 (RdL.cons (RdC.u8 D0) (RdL.cons (RdC.u8 D0) (RdL.cons (RdC.u8 D0) (RdL.cons (RdC.u8 D0) (RdL.cons (RdC.u8 D0) (RdL.cons (RdC.u8 D0) (RdL.cons (RdC.u8 D0) (RdL.cons (RdC.u32 D0) (RdL.nil1 (RdC.str' D0)))))))))))) D0 (hval 0 57 v0 rfl rfl) h0 wl0;try simp only at q0
 have lt1:∀ x ∈ p1,x.block<W.heap.size:=by obtain⟨m,hm⟩:=h1;exact DataW.trod_lt m _ _ _ hm
 have wl1:dQ Tryz.prog 41 d1:=d9 (i:=1) hwt rfl rfl;obtain⟨a1,s1,q1⟩:=A4C (c:=(Z8 .u16)) (RdC.u16 D0) D0 (hval 1 41 v1 rfl rfl) h1 wl1;try simp only at q1
 have lt2:∀ x ∈ p2,x.block<W.heap.size:=by obtain⟨m,hm⟩:=h2;exact DataW.trod_lt m _ _ _ hm
 have wl2:dQ Tryz.prog 5 d2:=d9 (i:=2) hwt rfl rfl;obtain⟨a2,s2,q2⟩:=A4C (c:=(Z8 .u8)) (RdC.u8 D0) D0 (hval 2 5 v2 rfl rfl) h2 wl2;try simp only at q2
 clear hA0;simp only[y6]at hW';have hsh:ShL (SM W) [.s 19,.s 5,.s 4] [B6 rD a0,.int .u16 a1,.int .u8 a2] [v0,v1,v2]:=(.cons s0 (.cons s1 (.cons s2 .nil)));obtain⟨_,hc⟩:=B2x (start hSO hL) [B6 rD a0,.int .u16 a1,.int .u8 a2] [.bool true] W _ (SM W) hsh (A5a _ _ _ ⟨q1.1,by have:=q1.2;omega,q2.1,by have:=q2.2;omega,by have:=q0.1;omega,fun d hd=>(by have z:=q0.2 d hd;unfold Dok;omega)⟩) (fun k o h=>h) (fun k o h=>h);refine hc.mono fun e W' ⟨r,R',hr,he,hg,_⟩=>?_
 have hrv:=m9 (vs2:=[.bool true]) hr rfl;subst hrv;subst he;have bel:Below W.heap.size W W':=⟨hg.os.1,hg.os.2.1,hg.os.2.2,hg.size,hg.keep⟩;exact⟨_,rfl,_,_,_,[],_,[],hW',trodAll_mk1 (shut_bool Tryz.underlying4 _),(trodAll_cons_mk (Below.trod IU D0 (J0 D0) h0 bel lt0) (trodAll_cons_mk (Below.trod IU D0 (J0 D0) h1 bel lt1) (trodAll_cons_mk (Below.trod IU D0 (J0 D0) h2 bel lt2) trodAll_mk0))),rfl,hg.kept _,fun h=>by cases h⟩
def B0V(os:Os)(started:os.Started)(H:Type)(enc:TypeId×Value→H)(F:Stop.Interp) :
  ReturnsInHanded {} Tryz.checked os 8 .any ((OpenSpec.ofChange Rows.keysBackSpec).preRow enc Tryz.prog Tryz.f8 Rows.keysBackRow.domain false Rows.keysBackRow.laid) (((OpenSpec.ofChange Rows.keysBackSpec).at F).post enc Tryz.prog Tryz.f8 false true false false):=by
 obtain⟨places,hx⟩:=B2D os enc;refine returnsInHanded_of_row (C:=Tryz.checked) (s:=OpenSpec.ofChange Rows.keysBackSpec) own started D0 Tryz.func8
  (witness_row_at (enc:=enc) (C:=Tryz.checked) false (vA os) #[.slice none 0 0,.int .u16 0,.int .u8 0] rfl D0 D0 D0
    (OpenSpec.preRow_of_cond 8 hx D0 (fun k hk=>by cases hk) D0 (A2B os))) ?_
 intro W base args ds gs before hval hW _ _ hwt hL hSO _;exact A3l H enc W base args ds gs before hval hW hL hSO hwt
def B5T:Rows.KeysBackSaid :=
 OpenClaim.holds_of_cond 8 Tryz.f8 rfl rfl rfl rfl rfl rfl rfl ⟨rfl,rfl,rfl,rfl,rfl⟩ rfl rfl rfl rfl rfl D0 Tryz.func8 D0
  (J0 D0) (by unfold Func.isWrapper;first|(rw[A4 (by decide +kernel)];kernel_rfl)|(rw[A3 (by decide +kernel)];exact⟨rfl,rfl⟩))
  (fun os started H enc _ F=>by rw[OpenClaim.pre_eq_preRow];exact B0V os started H enc F)
def plain(f:FuncId)(fn:Func)(hf:Tryz.pinned.checked.prog.funcNamed "fenestra/fenestralaw33.KeysBack"=some f)(hfn:Tryz.pinned.checked.prog.funcs[f]? = some fn) :
  false=Tryz.pinned.checked.prog.looks []∧∀ (j:Nat) t,fn.params[j]? = some t→Tryz.pinned.checked.prog.wantsStandIn t=false:=by
 obtain rfl:f=8:=B1 ((show Tryz.prog.funcNamed "fenestra/fenestralaw33.KeysBack"=some 8 by kernel_rfl).symm.trans hf) |>.symm;obtain rfl:fn=Tryz.f8:=(B1 (Tryz.func8.symm.trans hfn)).symm;refine⟨by kernel_rfl,fun j t ht=>?_⟩;have hall:(Tryz.f8.params.toList.all fun t=>!Tryz.prog.wantsStandIn t)=true:=D0
 have:=E4.1 hall t (Array.mem_def.1 (Array.mem_of_getElem? ht));have h2:Tryz.prog.wantsStandIn t=false:=by simpa using this
 exact h2
theorem proved:Rows.KeysBackCardSaid :=
 Claim7.holds_tied_plain_at .later [] _ _ _ _ B5T (fun _ h=>by cases h) D0 (fun _ h=>by cases h) keysBack_row_tie rfl ⟨rfl,rfl⟩ D0 rfl plain D0
#print axioms proved
end Go.Proofs.YtdimocjaepnifaaGreatDoor.keysBackDone
