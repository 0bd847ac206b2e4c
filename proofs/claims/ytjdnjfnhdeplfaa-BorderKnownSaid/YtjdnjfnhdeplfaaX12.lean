import Derived.Test.YtjdnjfnhdeplfaaX11
import Derived.Test.YtjdnjfnhdeplfaaRows
import Derived.WalkKit
import Derived.ProofKit
import Derived.OpenShut
import Derived.Below
import Derived.Carry
import Derived.Lib.SmallJoins
import Derived.Deep.DeepHandedRow
import Derived.Lib.LaidTab
import Derived.MakeChecks
set_option linter.all false
set_option maxRecDepth 100000
set_option maxHeartbeats 4000000
namespace Go.Proofs.Ytjdnjfnhdeplfaa.borderKnownDone
open Go Go.Sx Go.ChangeShapes Go.WideShapes Go.ChangeAt Go.RowKit
def start{W:World}(a:W.ShapedOpen Try.prog)(h:laidMetH Try.prog Rows.borderKnownRow.laid W):c9 Try.prog (fun k=>W.heap[k]?) gl H0 n0:=by
 rw[MakeChecks.laidMetH_plain _ _ _ G9]at h;have b:gl<=W.heap.size:=iR _;refine MZ a b (by decide) ?_ ?_
 .have e:(BC.all fun r=>Nat.blt r.1 gl)=true:=G9;exact fun r hr=>A1 (D2.1 e r hr)
 .intro r hr;unfold BC at hr;cases hr
def own:ownKnob Try.prog.godebug=none:=G9
noncomputable def low:Nat:=(World.holding Try.prog default ⟨#[],#[],[]⟩).heap.size
noncomputable def put(g:Nat)(cs:Array Value)(h:Array Obj):Array Obj:=h.modify g fun
 | .cells _ t frozen=>.cells cs t frozen
 | o=>o
noncomputable def oE(os:Os):World :=
 let w0:=World.holding Try.prog os ⟨#[],#[],[]⟩
 { w0 with heap:=w0.heap }
def PL(os:Os):laidMet Try.prog Rows.borderKnownRow.laid ((oE os).forCall (fun _ _=>0) ⟨#[],#[],[]⟩).memory :=
 laidMet_of_run' 8 G9 G9
def A03(os:Os){H:Type}(enc:TypeId×Value->H):∃ places,DataW.whole enc Try.prog ((oE os).forCall (fun _ _=>0) ⟨#[],#[],[]⟩).memory Try.f7.params.toList Rows.borderKnownSpec.vars false [] 8=some ([],[],places) :=
 ⟨[],by kernel_rfl⟩
def RB(H:Type)(enc:TypeId×Value->H)(W:World)(base:Nat)(args:Array Value)(g gs:List (DataW H))(before:List MemPlace)
  (d:∀ (j:Nat) t v,Try.f7.params[j]? = some t->args[j]? = some v->Value.okWide Try.prog W .any base t v)
  (u:DataW.Whole enc Try.prog Try.f7.params.toList Rows.borderKnownSpec.vars false W args.toList g gs before) (w:laidMetH Try.prog Rows.borderKnownRow.laid W) (l:W.ShapedOpen Try.prog)
  (m:(DataW.weightsEach Try.prog (Try.f7.params.toList++(OpenSpec.ofChange Rows.borderKnownSpec).bare.plain.varTypes Try.prog) (g++gs)).all (·<=reachBytes)=true) :
  Calls Try.prog 7 args W fun e n=>∃ v,e=.returned v/\Rows.borderKnownSpec.post enc Try.prog Try.f7 false true false false W args v n:=by
 have c:=u;obtain⟨p,q,b,A,rfl,B,y⟩:=u;have s:DataW.TrodAll enc Try.prog W 0 (fun _=>true) true Try.f7.params.toList args.toList g p:=b;rw[Try.params7]at s d m;obtain⟨rfl,rfl,rfl⟩:=trodAll_none s;obtain⟨rfl,rfl⟩:=trodVars_none A;clear b;simp only[List.append_nil]at c;have i:ShL (LG W) [] [] []:=.nil;obtain⟨_,x⟩:=A18 (start l w) [] [.bool true] W _ (LG W) i (rfl) (fun k o h=>h) (fun k o h=>h);refine x.mono fun e n ⟨r,C,hr,he,a,_⟩=>?_
 have f:=kL (vs2:=[.bool true]) hr rfl;subst f;subst he;have z:Below W.heap.size W n:=⟨a.os.1,a.os.2.1,a.os.2.2,a.size,a.keep⟩;exact⟨_,rfl,_,_,_,[],_,[],c,trodAll_mk1 (shut_bool Try.underlying4 _),rfl,rfl,a.kept _,fun h=>by cases h⟩
def ZY(os:Os)(started:os.Started)(H:Type)(enc:TypeId×Value->H)(F:Stop.Interp) :
  ReturnsInHanded {} Try.checked os 7 .any ((OpenSpec.ofChange Rows.borderKnownSpec).preRow enc Try.prog Try.f7 Rows.borderKnownRow.domain false Rows.borderKnownRow.laid) (((OpenSpec.ofChange Rows.borderKnownSpec).at F).post enc Try.prog Try.f7 false true false false):=by
 obtain⟨places,e⟩:=A03 os enc;refine returnsInHanded_of_row (C:=Try.checked) (s:=OpenSpec.ofChange Rows.borderKnownSpec) own started G9 Try.func7
  (witness_row_at (enc:=enc) (C:=Try.checked) false (oE os) #[] rfl G9 G9 G9
    (OpenSpec.preRow_of_cond 8 e G9 (fun k hk=>by cases hk) G9 (PL os))) ?_
 intro W base args f gs before a g _ _ c d b _;exact RB H enc W base args f gs before a g d b c
def A2h:Rows.BorderKnownSaid :=
 OpenClaim.holds_of_cond 7 Try.f7 rfl rfl rfl rfl rfl rfl rfl ⟨rfl,rfl,rfl,rfl,rfl⟩ rfl rfl rfl rfl rfl G9 Try.func7 G9
  (O0 G9) (by unfold Func.isWrapper;first|(rw[B2 (by decide +kernel)];kernel_rfl)|(rw[B1 (by decide +kernel)];exact⟨rfl,rfl⟩))
  (fun os started H enc _ F=>by rw[OpenClaim.pre_eq_preRow];exact ZY os started H enc F)
theorem proved:Rows.BorderKnownSaid:=A2h
#print axioms proved
end Go.Proofs.Ytjdnjfnhdeplfaa.borderKnownDone
