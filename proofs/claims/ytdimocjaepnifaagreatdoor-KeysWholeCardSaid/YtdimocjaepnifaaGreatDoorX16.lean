import Derived.Test.YtdimocjaepnifaaGreatDoorX15
import Derived.Test.YtdimocjaepnifaaGreatDoorCards
import Derived.Test.YtdimocjaepnifaaGreatDoorTie
import Derived.WalkKit
import Derived.ProofKit
import Derived.OpenShut
import Derived.Below
import Derived.Carry
import Derived.Lib.SmallJoins
import Derived.Deep.DeepHandedRow
import Derived.Lib.LaidTab
import Derived.MakeChecks
set_option linter.all false
set_option maxRecDepth 100000
set_option maxHeartbeats 4000000
namespace Go.Proofs.YtdimocjaepnifaaGreatDoor.keysWholeDone
open Go Go.Sx Go.ChangeShapes Go.WideShapes Go.ChangeAt Go.RowKit
def start{W:World}(a:W.ShapedOpen Tryz.prog)(h:laidMetH Tryz.prog Rows.keysWholeRow.laid W):y4 Tryz.prog (fun k=>W.heap[k]?) gl H0 n0:=by
 rw[MakeChecks.laidMetH_plain _ _ _ C3]at h;have j:GT W 4 (iM.getD 0 (0,[])).2:=iN C3 (pZ (n := "math/bits.deBruijn32tab") (d:=Rows.laid_math_bits_deBruijn32tab) (g:=4) (k:=6) (t:=198) h (E6 (i:=0) rfl) C3 C3 C3);have b:GT W 5 (iM.getD 1 (0,[])).2:=iN C3 (pZ (n := "math/bits.deBruijn64tab") (d:=Rows.laid_math_bits_deBruijn64tab) (g:=5) (k:=6) (t:=199) h (E6 (i:=1) rfl) C3 C3 C3);have c:GT W 3 (iM.getD 2 (0,[])).2:=iN C3 (pZ (n := "internal/strconv.uint64pow10") (d:=Rows.laid_internal_strconv_uint64pow10) (g:=3) (k:=6) (t:=184) h (E6 (i:=2) rfl) C3 C3 C3);have f:GT W 2 (iM.getD 3 (0,[])).2:=iN C3 (pZ (n := "unicode/utf8.acceptRanges") (d:=Rows.laid_unicode_utf8_acceptRanges) (g:=2) (k:=6) (t:=159) h (E6 (i:=3) rfl) C3 C3 C3);have r1:GT W 1 (iM.getD 4 (0,[])).2:=iN C3 (pZ (n := "unicode/utf8.first") (d:=Rows.laid_unicode_utf8_first) (g:=1) (k:=6) (t:=156) h (E6 (i:=4) rfl) C3 C3 C3);have l:gl<=W.heap.size:=by
  obtain⟨C,T,fz,e,_⟩:=b
  have:=(E4.1 e).1;show 6<=_;omega
 refine A3P a l (by decide) ?_ ?_
 .have e:(iM.all fun r=>Nat.blt r.1 gl)=true:=C3;exact fun r hr=>A2 (D7.1 e r hr)
 .intro r hr;unfold iM at hr;rcases B7.1 hr with rfl|hr
  .exact j
  rcases B7.1 hr with rfl|hr
  .exact b
  rcases B7.1 hr with rfl|hr
  .exact c
  rcases B7.1 hr with rfl|hr
  .exact f
  rcases B7.1 hr with rfl|hr
  .exact r1
  cases hr
def own:ownKnob Tryz.prog.godebug=none:=C3
def wF:laidOutB Tryz.prog=true:=C3
noncomputable def low:Nat:=(World.holding Tryz.prog default ⟨#[],#[.agg #[.int .u8 0,.int .u8 0,.int .u8 0,.int .u8 0,.int .u8 0,.int .u8 0,.int .u8 0,.int .u32 0,.string ⟨#[]⟩],.int .u16 0,.int .u16 0,.int .u8 0,.slice none 0 0],[]⟩).heap.size
noncomputable def put(g:Nat)(cs:Array Value)(h:Array Obj):Array Obj:=h.modify g fun
 | .cells _ t frozen=>.cells cs t frozen
 | o=>o
noncomputable def yA(os:Os):World :=
 let w0:=World.holding Tryz.prog os ⟨#[],#[.agg #[.int .u8 0,.int .u8 0,.int .u8 0,.int .u8 0,.int .u8 0,.int .u8 0,.int .u8 0,.int .u32 0,.string ⟨#[]⟩],.int .u16 0,.int .u16 0,.int .u8 0,.slice none 0 0],[]⟩
 { w0 with heap:=(put 1 (iM.getD 4 (0,[])).2.toArray (put 2 (iM.getD 3 (0,[])).2.toArray (put 3 (iM.getD 2 (0,[])).2.toArray (put 5 (iM.getD 1 (0,[])).2.toArray (put 4 (iM.getD 0 (0,[])).2.toArray w0.heap))))) }
def A5n(os:Os):laidMet Tryz.prog Rows.keysWholeRow.laid ((yA os).forCall (fun _ _=>0) ⟨#[],#[.agg #[.int .u8 0,.int .u8 0,.int .u8 0,.int .u8 0,.int .u8 0,.int .u8 0,.int .u8 0,.int .u32 0,.string ⟨#[]⟩],.int .u16 0,.int .u16 0,.int .u8 0,.slice none 0 0],[]⟩).memory :=
 laidMet_of_run' 8 C3 C3
def B7K(os:Os){H:Type}(enc:TypeId×Value->H):∃ places,DataW.whole enc Tryz.prog ((yA os).forCall (fun _ _=>0) ⟨#[],#[.agg #[.int .u8 0,.int .u8 0,.int .u8 0,.int .u8 0,.int .u8 0,.int .u8 0,.int .u8 0,.int .u32 0,.string ⟨#[]⟩],.int .u16 0,.int .u16 0,.int .u8 0,.slice none 0 0],[]⟩).memory Tryz.f5.params.toList Rows.keysWholeSpec.vars false [.agg #[.int .u8 0,.int .u8 0,.int .u8 0,.int .u8 0,.int .u8 0,.int .u8 0,.int .u8 0,.int .u32 0,.string ⟨#[]⟩],.int .u16 0,.int .u16 0,.int .u8 0,.slice none 0 0] 8=some ([.agg [.lit (.int .u8 0),.lit (.int .u8 0),.lit (.int .u8 0),.lit (.int .u8 0),.lit (.int .u8 0),.lit (.int .u8 0),.lit (.int .u8 0),.lit (.int .u32 0),.lit (.string [])],.lit (.int .u16 0),.lit (.int .u16 0),.lit (.int .u8 0),.nil],[],places) :=
 ⟨[],by kernel_rfl⟩
def A63(H:Type)(enc:TypeId×Value->H)(W:World)(base:Nat)(args:Array Value)(G gs:List (DataW H))(before:List MemPlace)
  (b:∀ (j:Nat) t v,Tryz.f5.params[j]? = some t->args[j]? = some v->Value.okWide Tryz.prog W .any base t v)
  (hW:DataW.Whole enc Tryz.prog Tryz.f5.params.toList Rows.keysWholeSpec.vars false W args.toList G gs before) (hL:laidMetH Tryz.prog Rows.keysWholeRow.laid W) (L:W.ShapedOpen Tryz.prog)
  (d:(DataW.weightsEach Tryz.prog (Tryz.f5.params.toList++(OpenSpec.ofChange Rows.keysWholeSpec).bare.plain.varTypes Tryz.prog) (G++gs)).all (·<=reachBytes)=true) :
  Calls Tryz.prog 5 args W fun e W'=>∃ v,e=.returned v/\Rows.keysWholeSpec.post enc Tryz.prog Tryz.f5 false true false false W args v W':=by
 have F:=hW;obtain⟨p,q,E,hV,rfl,ar,aq⟩:=hW;have hA:DataW.TrodAll enc Tryz.prog W 0 (fun _=>true) true Tryz.f5.params.toList args.toList G p:=E;rw[Tryz.params5]at hA b d;obtain⟨v0,av,d0,ao,p0,q0,M,rfl,rfl,h0,ax⟩:=trodAll_cons hA;obtain⟨v1,au,d1,ai,p1,q1,rfl,rfl,rfl,h1,O⟩:=trodAll_cons ax;obtain⟨v2,vs2,d2,aj,p2,q2,rfl,rfl,rfl,T,U⟩:=trodAll_cons O;obtain⟨v3,al,d3,ak,p3,q3,rfl,rfl,rfl,h3,J⟩:=trodAll_cons U;obtain⟨v4,ah,d4,an,p4,D,rfl,rfl,rfl,R,aw⟩:=trodAll_cons J;obtain⟨rfl,rfl,rfl⟩:=trodAll_nil aw;obtain rfl:args=#[v0,v1,v2,v3,v4]:=by cases args;simp_all
 obtain⟨rfl,rfl⟩:=trodVars_none hV;have S:∀ x ∈ p0,x.block<W.heap.size:=by obtain⟨m,hm⟩:=h0;exact DataW.trod_lt m _ _ _ hm
 have N:cU Tryz.prog 26 d0:=W9 (i:=0) d rfl rfl;obtain⟨⟨y,B,A,u,w,n,g,l,z⟩,s0,q0⟩:=B9k (r:=(rC (m7 .u8) (rC (m7 .u8) (rC (m7 .u8) (rC (m7 .u8) (rC (m7 .u8) (rC (m7 .u8) (rC (m7 .u8) (rC (m7 .u32) (r1 UT)))))))))) (tg:=[4,4,4,4,4,4,4,6,9]) (RdR.of (k:=12) (ts:=[5,5,5,5,5,5,5,24,9]) C3 (RdL.cons (RdC.u8 C3) (RdL.cons (RdC.u8 C3) (RdL.cons (RdC.u8 C3) (RdL.cons (RdC.u8 C3) (RdL.cons (RdC.u8 C3) (RdL.cons (RdC.u8 C3) (RdL.cons (RdC.u8 C3) (RdL.cons (RdC.u32 C3) (RdL.nil1 (RdC.str' C3))))))))))) (fun _=>by simp only[rC,r1,F0,K7,cSl,m7,B4D,UT,B4f];rfl) (XH C3 (b 0 26 v0 rfl rfl)) h0 N;try simp only at q0
 have ay:∀ x ∈ p1,x.block<W.heap.size:=by obtain⟨m,hm⟩:=h1;exact DataW.trod_lt m _ _ _ hm
 have I:cU Tryz.prog 41 d1:=W9 (i:=1) d rfl rfl;obtain⟨a1,s1,q1⟩:=A1d (c:=(m7 .u16)) (RdC.u16 C3) C3 (b 1 41 v1 rfl rfl) h1 I;try simp only at q1
 have X:∀ x ∈ p2,x.block<W.heap.size:=by obtain⟨m,hm⟩:=T;exact DataW.trod_lt m _ _ _ hm
 have Y:cU Tryz.prog 41 d2:=W9 (i:=2) d rfl rfl;obtain⟨a2,s2,q2⟩:=A1d (c:=(m7 .u16)) (RdC.u16 C3) C3 (b 2 41 v2 rfl rfl) T Y;try simp only at q2
 have V:∀ x ∈ p3,x.block<W.heap.size:=by obtain⟨m,hm⟩:=h3;exact DataW.trod_lt m _ _ _ hm
 have Q:cU Tryz.prog 5 d3:=W9 (i:=3) d rfl rfl;obtain⟨a3,s3,q3⟩:=A1d (c:=(m7 .u8)) (RdC.u8 C3) C3 (b 3 5 v3 rfl rfl) h3 Q;try simp only at q3
 have K:∀ x ∈ p4,x.block<W.heap.size:=by obtain⟨m,hm⟩:=R;exact DataW.trod_lt m _ _ _ hm
 have az:cU Tryz.prog 35 d4:=W9 (i:=4) d rfl rfl;obtain⟨a4,s4,D⟩:=A1d (c:=(cSl rB)) (RdC.slice' (r:=rB) (e:=5) 1 C3 C3 (by decide) C3 (by decide) (RdR.of (k:=12) (ts:=[5]) C3 (RdL.nil1 (RdC.u8 C3)))) C3 (b 4 35 v4 rfl rfl) R az;try simp only at D
 clear E;simp only[fY]at F;have P:ShL (TO W) [.a [4,4,4,4,4,4,4,6,9],.s 5,.s 5,.s 4,.s 11] [.int .u8 y,.int .u8 B,.int .u8 A,.int .u8 u,.int .u8 w,.int .u8 n,.int .u8 g,.int .u32 l,.str z,.int .u16 a1,.int .u16 a2,.int .u8 a3,B2 rB a4] [v0,v1,v2,v3,v4]:=(.cons s0 (.cons s1 (.cons s2 (.cons s3 (.cons s4 .nil)))));obtain⟨_,hc⟩:=B8D (start L hL) [.int .u8 y,.int .u8 B,.int .u8 A,.int .u8 u,.int .u8 w,.int .u8 n,.int .u8 g,.int .u32 l,.str z,.int .u16 a1,.int .u16 a2,.int .u8 a3,B2 rB a4] [.bool true] W _ (TO W) P (A82 _ _ _ _ _ _ _ _ _ _ _ _ _ ⟨by omega,by omega,by omega,by omega,by omega,by omega,by have:=D.1;omega,fun x hx=>⟨(D.2 x hx).1,by have:=(D.2 x hx).2;omega⟩,by omega,by omega,by omega,by omega,by omega,by omega,by omega,by omega,by omega,by omega,by omega,by omega,by omega,by omega,by omega,by omega,by omega⟩) (fun k o h=>h) (fun k o h=>h);refine hc.mono fun e W' ⟨r,R',hr,he,C,_⟩=>?_
 have Z:=y9 (vs2:=[.bool true]) hr rfl;subst Z;subst he;have f:Below W.heap.size W W':=⟨C.os.1,C.os.2.1,C.os.2.2,C.size,C.keep⟩;exact⟨_,rfl,_,_,_,[],_,[],F,trodAll_mk1 (shut_bool Tryz.underlying4 _),(trodAll_cons_mk (Below.trod wF C3 (F4 C3) h0 f S) (trodAll_cons_mk (Below.trod wF C3 (F4 C3) h1 f ay) (trodAll_cons_mk (Below.trod wF C3 (F4 C3) T f X) (trodAll_cons_mk (Below.trod wF C3 (F4 C3) h3 f V) (trodAll_cons_mk (Below.trod wF C3 (F4 C3) R f K) trodAll_mk0))))),rfl,C.kept _,fun h=>by cases h⟩
def B5R(os:Os)(started:os.Started)(H:Type)(enc:TypeId×Value->H)(F:Stop.Interp) :
  ReturnsInHanded {} Tryz.checked os 5 .any ((OpenSpec.ofChange Rows.keysWholeSpec).preRow enc Tryz.prog Tryz.f5 Rows.keysWholeRow.domain false Rows.keysWholeRow.laid) (((OpenSpec.ofChange Rows.keysWholeSpec).at F).post enc Tryz.prog Tryz.f5 false true false false):=by
 obtain⟨places,i⟩:=B7K os enc;refine returnsInHanded_of_row (C:=Tryz.checked) (s:=OpenSpec.ofChange Rows.keysWholeSpec) own started C3 Tryz.func5
  (witness_row_at (enc:=enc) (C:=Tryz.checked) false (yA os) #[.agg #[.int .u8 0,.int .u8 0,.int .u8 0,.int .u8 0,.int .u8 0,.int .u8 0,.int .u8 0,.int .u32 0,.string ⟨#[]⟩],.int .u16 0,.int .u16 0,.int .u8 0,.slice none 0 0] rfl C3 C3 C3
    (OpenSpec.preRow_of_cond 8 i C3 (fun k g=>by cases g) C3 (A5n os))) ?_
 intro W base args e gs before a f _ _ b d c _;exact A63 H enc W base args e gs before a f d c b
def C1j:Rows.KeysWholeSaid :=
 OpenClaim.holds_of_cond 5 Tryz.f5 rfl rfl rfl rfl rfl rfl rfl ⟨rfl,rfl,rfl,rfl,rfl⟩ rfl rfl rfl rfl rfl C3 Tryz.func5 C3
  (F4 C3) (by unfold Func.isWrapper;first|(rw[A4 (by decide +kernel)];kernel_rfl)|(rw[A3 (by decide +kernel)];exact⟨rfl,rfl⟩))
  (fun os started H enc _ F=>by rw[OpenClaim.pre_eq_preRow];exact B5R os started H enc F)
def plain(f:FuncId)(fn:Func)(e:Tryz.pinned.checked.prog.funcNamed "fenestra/fenestralaw33.KeysWhole"=some f)(b:Tryz.pinned.checked.prog.funcs[f]? = some fn) :
  false=Tryz.pinned.checked.prog.looks []/\∀ (j:Nat) t,fn.params[j]? = some t->Tryz.pinned.checked.prog.wantsStandIn t=false:=by
 obtain rfl:f=5:=A9 ((show Tryz.prog.funcNamed "fenestra/fenestralaw33.KeysWhole"=some 5 by kernel_rfl).symm.trans e) |>.symm;obtain rfl:fn=Tryz.f5:=(A9 (Tryz.func5.symm.trans b)).symm;refine⟨by kernel_rfl,fun j t d=>?_⟩;have a:(Tryz.f5.params.toList.all fun t=>!Tryz.prog.wantsStandIn t)=true:=C3
 have:=D7.1 a t (Array.mem_def.1 (Array.mem_of_getElem? d));have c:Tryz.prog.wantsStandIn t=false:=by simpa using this
 exact c
theorem proved:Rows.KeysWholeCardSaid :=
 Claim7.holds_tied_plain_at .later [] _ _ _ _ C1j (fun _ h=>by cases h) C3 (fun _ h=>by cases h) keysWhole_row_tie rfl ⟨rfl,rfl⟩ C3 rfl plain C3
#print axioms proved
end Go.Proofs.YtdimocjaepnifaaGreatDoor.keysWholeDone
