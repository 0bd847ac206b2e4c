import Derived.Test.YtjdnjfnhdeplfaaX11
import Derived.Test.YtjdnjfnhdeplfaaRows
import Derived.WalkKit
import Derived.ProofKit
import Derived.OpenShut
import Derived.Below
import Derived.Carry
import Derived.Lib.SmallJoins
import Derived.Deep.DeepHandedRow
import Derived.Lib.LaidTab
import Derived.MakeChecks
set_option linter.all false
set_option maxRecDepth 100000
set_option maxHeartbeats 4000000
namespace Go.Proofs.Ytjdnjfnhdeplfaa.borderCodesDone
open Go Go.Sx Go.ChangeShapes Go.WideShapes Go.ChangeAt Go.RowKit
def start{W:World}(a:W.ShapedOpen Try.prog)(h:laidMetH Try.prog Rows.borderCodesRow.laid W):d7 Try.prog (fun k=>W.heap[k]?) gl H0 n0:=by
 rw[MakeChecks.laidMetH_plain _ _ _ F6]at h;have b:gl<=W.heap.size:=iT _;refine NI a b (by decide) ?_ ?_
 .have e:(BG.all fun r=>Nat.blt r.1 gl)=true:=F6;exact fun r hr=>A1 (D2.1 e r hr)
 .intro r hr;unfold BG at hr;cases hr
def own:ownKnob Try.prog.godebug=none:=F6
def qS:laidOutB Try.prog=true:=F6
noncomputable def low:Nat:=(World.holding Try.prog default ⟨#[],#[.bool false,.bool false,.bool false,.bool false],[]⟩).heap.size
noncomputable def put(g:Nat)(cs:Array Value)(h:Array Obj):Array Obj:=h.modify g fun
 | .cells _ t frozen=>.cells cs t frozen
 | o=>o
noncomputable def oH(os:Os):World :=
 let w0:=World.holding Try.prog os ⟨#[],#[.bool false,.bool false,.bool false,.bool false],[]⟩
 { w0 with heap:=w0.heap }
def PU(os:Os):laidMet Try.prog Rows.borderCodesRow.laid ((oH os).forCall (fun _ _=>0) ⟨#[],#[.bool false,.bool false,.bool false,.bool false],[]⟩).memory :=
 laidMet_of_run' 8 F6 F6
def A1A(os:Os){H:Type}(enc:TypeId×Value->H):∃ places,DataW.whole enc Try.prog ((oH os).forCall (fun _ _=>0) ⟨#[],#[.bool false,.bool false,.bool false,.bool false],[]⟩).memory Try.f4.params.toList Rows.borderCodesSpec.vars false [.bool false,.bool false,.bool false,.bool false] 8=some ([.lit (.bool false),.lit (.bool false),.lit (.bool false),.lit (.bool false)],[],places) :=
 ⟨[],by kernel_rfl⟩
def RJ(H:Type)(enc:TypeId×Value->H)(W:World)(base:Nat)(args:Array Value)(C gs:List (DataW H))(before:List MemPlace)
  (a:∀ (j:Nat) t v,Try.f4.params[j]? = some t->args[j]? = some v->Value.okWide Try.prog W .any base t v)
  (Q:DataW.Whole enc Try.prog Try.f4.params.toList Rows.borderCodesSpec.vars false W args.toList C gs before) (X:laidMetH Try.prog Rows.borderCodesRow.laid W) (y:W.ShapedOpen Try.prog)
  (b:(DataW.weightsEach Try.prog (Try.f4.params.toList++(OpenSpec.ofChange Rows.borderCodesSpec).bare.plain.varTypes Try.prog) (C++gs)).all (·<=reachBytes)=true) :
  Calls Try.prog 4 args W fun e O=>∃ v,e=.returned v/\Rows.borderCodesSpec.post enc Try.prog Try.f4 false true false false W args v O:=by
 have g:=Q;obtain⟨p,q,l,T,rfl,av,au⟩:=Q;have P:DataW.TrodAll enc Try.prog W 0 (fun _=>true) true Try.f4.params.toList args.toList C p:=l;rw[Try.params4]at P a b;obtain⟨v0,ax,d0,Y,p0,q0,D,rfl,rfl,h0,A⟩:=trodAll_cons P;obtain⟨v1,U,d1,aw,p1,q1,rfl,rfl,rfl,h1,I⟩:=trodAll_cons A;obtain⟨v2,vs2,d2,ay,V,q2,rfl,rfl,rfl,K,n⟩:=trodAll_cons I;obtain⟨v3,S,d3,az,Z,q3,rfl,rfl,rfl,h3,G⟩:=trodAll_cons n;obtain⟨rfl,rfl,rfl⟩:=trodAll_nil G;obtain rfl:args=#[v0,v1,v2,v3]:=by cases args;simp_all
 obtain⟨rfl,rfl⟩:=trodVars_none T;have L:∀ x ∈ p0,x.block<W.heap.size:=by obtain⟨m,hm⟩:=h0;exact DataW.trod_lt m _ _ _ hm
 have B:u9 Try.prog 4 d0:=Q7 (i:=0) b rfl rfl;obtain⟨a0,s0,q0⟩:=KA (c:=qC) (RdC.bool F6) F6 (a 0 4 v0 rfl rfl) h0 B;try simp only at q0
 have u:∀ x ∈ p1,x.block<W.heap.size:=by obtain⟨m,hm⟩:=h1;exact DataW.trod_lt m _ _ _ hm
 have J:u9 Try.prog 4 d1:=Q7 (i:=1) b rfl rfl;obtain⟨R,s1,q1⟩:=KA (c:=qC) (RdC.bool F6) F6 (a 1 4 v1 rfl rfl) h1 J;try simp only at q1
 have M:∀ x ∈ V,x.block<W.heap.size:=by obtain⟨m,hm⟩:=K;exact DataW.trod_lt m _ _ _ hm
 have z:u9 Try.prog 4 d2:=Q7 (i:=2) b rfl rfl;obtain⟨a2,s2,q2⟩:=KA (c:=qC) (RdC.bool F6) F6 (a 2 4 v2 rfl rfl) K z;try simp only at q2
 have F:∀ x ∈ Z,x.block<W.heap.size:=by obtain⟨m,hm⟩:=h3;exact DataW.trod_lt m _ _ _ hm
 have N:u9 Try.prog 4 d3:=Q7 (i:=3) b rfl rfl;obtain⟨a3,s3,q3⟩:=KA (c:=qC) (RdC.bool F6) F6 (a 3 4 v3 rfl rfl) h3 N;try simp only at q3
 clear l;simp only[List.append_nil]at g;have w:ShL (GH W) [.s 8,.s 8,.s 8,.s 8] [.bool a0,.bool R,.bool a2,.bool a3] [v0,v1,v2,v3]:=(.cons s0 (.cons s1 (.cons s2 (.cons s3 .nil))));obtain⟨_,hc⟩:=A2H (start y X) [.bool a0,.bool R,.bool a2,.bool a3] [.bool true] W _ (GH W) w (rfl) (fun k o h=>h) (fun k o h=>h);refine hc.mono fun e O ⟨r,R',hr,he,f,_⟩=>?_
 have E:=kL (vs2:=[.bool true]) hr rfl;subst E;subst he;have d:Below W.heap.size W O:=⟨f.os.1,f.os.2.1,f.os.2.2,f.size,f.keep⟩;exact⟨_,rfl,_,_,_,[],_,[],g,trodAll_mk1 (shut_bool Try.underlying4 _),(trodAll_cons_mk (Below.trod qS F6 (I9 F6) h0 d L) (trodAll_cons_mk (Below.trod qS F6 (I9 F6) h1 d u) (trodAll_cons_mk (Below.trod qS F6 (I9 F6) K d M) (trodAll_cons_mk (Below.trod qS F6 (I9 F6) h3 d F) trodAll_mk0)))),rfl,f.kept _,fun h=>by cases h⟩
def A0G(os:Os)(started:os.Started)(H:Type)(enc:TypeId×Value->H)(F:Stop.Interp) :
  ReturnsInHanded {} Try.checked os 4 .any ((OpenSpec.ofChange Rows.borderCodesSpec).preRow enc Try.prog Try.f4 Rows.borderCodesRow.domain false Rows.borderCodesRow.laid) (((OpenSpec.ofChange Rows.borderCodesSpec).at F).post enc Try.prog Try.f4 false true false false):=by
 obtain⟨places,g⟩:=A1A os enc;refine returnsInHanded_of_row (C:=Try.checked) (s:=OpenSpec.ofChange Rows.borderCodesSpec) own started F6 Try.func4
  (witness_row_at (enc:=enc) (C:=Try.checked) false (oH os) #[.bool false,.bool false,.bool false,.bool false] rfl F6 F6 F6
    (OpenSpec.preRow_of_cond 8 g F6 (fun k hk=>by cases hk) F6 (PU os))) ?_
 intro W base args f gs before a d _ _ b e c _;exact RJ H enc W base args f gs before a d e c b
def A2s:Rows.BorderCodesSaid :=
 OpenClaim.holds_of_cond 4 Try.f4 rfl rfl rfl rfl rfl rfl rfl ⟨rfl,rfl,rfl,rfl,rfl⟩ rfl rfl rfl rfl rfl F6 Try.func4 F6
  (I9 F6) (by unfold Func.isWrapper;first|(rw[B2 (by decide +kernel)];kernel_rfl)|(rw[B1 (by decide +kernel)];exact⟨rfl,rfl⟩))
  (fun os started H enc _ F=>by rw[OpenClaim.pre_eq_preRow];exact A0G os started H enc F)
theorem proved:Rows.BorderCodesSaid:=A2s
#print axioms proved
end Go.Proofs.Ytjdnjfnhdeplfaa.borderCodesDone
