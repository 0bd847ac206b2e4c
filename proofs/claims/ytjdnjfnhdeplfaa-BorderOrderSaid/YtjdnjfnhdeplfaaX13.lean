import Derived.Test.YtjdnjfnhdeplfaaX12
import Derived.Test.YtjdnjfnhdeplfaaRows
import Derived.WalkKit
import Derived.ProofKit
import Derived.OpenShut
import Derived.Below
import Derived.Carry
import Derived.Lib.SmallJoins
import Derived.Deep.DeepHandedRow
import Derived.Lib.LaidTab
import Derived.MakeChecks
set_option linter.all false
set_option maxRecDepth 100000
set_option maxHeartbeats 4000000
namespace Go.Proofs.Ytjdnjfnhdeplfaa.borderOrderDone
open Go Go.Sx Go.ChangeShapes Go.WideShapes Go.ChangeAt Go.RowKit
def start{W:World}(a:W.ShapedOpen Try.prog)(h:laidMetH Try.prog Rows.borderOrderRow.laid W):j7 Try.prog (fun k=>W.heap[k]?) gl H0 n0:=by
 rw[MakeChecks.laidMetH_plain _ _ _ F8]at h;have b:gl<=W.heap.size:=jQ _;refine PO a b (by decide) ?_ ?_
 .have e:(CV.all fun r=>Nat.blt r.1 gl)=true:=F8;exact fun r hr=>A1 (D3.1 e r hr)
 .intro r hr;unfold CV at hr;cases hr
def own:ownKnob Try.prog.godebug=none:=F8
def rQ:laidOutB Try.prog=true:=F8
noncomputable def low:Nat:=(World.holding Try.prog default ⟨#[],#[.agg #[.slice none 0 0],.int .u8 0,.int .u8 0,.int .u8 0],[]⟩).heap.size
noncomputable def put(g:Nat)(cs:Array Value)(h:Array Obj):Array Obj:=h.modify g fun
 | .cells _ t frozen=>.cells cs t frozen
 | o=>o
noncomputable def pC(os:Os):World :=
 let w0:=World.holding Try.prog os ⟨#[],#[.agg #[.slice none 0 0],.int .u8 0,.int .u8 0,.int .u8 0],[]⟩
 { w0 with heap:=w0.heap }
def SK(os:Os):laidMet Try.prog Rows.borderOrderRow.laid ((pC os).forCall (fun _ _=>0) ⟨#[],#[.agg #[.slice none 0 0],.int .u8 0,.int .u8 0,.int .u8 0],[]⟩).memory :=
 laidMet_of_run' 8 F8 F8
def A2e(os:Os){H:Type}(enc:TypeId×Value->H):∃ places,DataW.whole enc Try.prog ((pC os).forCall (fun _ _=>0) ⟨#[],#[.agg #[.slice none 0 0],.int .u8 0,.int .u8 0,.int .u8 0],[]⟩).memory Try.f6.params.toList Rows.borderOrderSpec.vars false [.agg #[.slice none 0 0],.int .u8 0,.int .u8 0,.int .u8 0] 8=some ([.agg [.nil],.lit (.int .u8 0),.lit (.int .u8 0),.lit (.int .u8 0)],[],places) :=
 ⟨[],by kernel_rfl⟩
def UD(H:Type)(enc:TypeId×Value->H)(W:World)(base:Nat)(args:Array Value)(L gs:List (DataW H))(before:List MemPlace)
  (b:∀ (j:Nat) t v,Try.f6.params[j]? = some t->args[j]? = some v->Value.okWide Try.prog W .any base t v)
  (T:DataW.Whole enc Try.prog Try.f6.params.toList Rows.borderOrderSpec.vars false W args.toList L gs before) (hL:laidMetH Try.prog Rows.borderOrderRow.laid W) (Q:W.ShapedOpen Try.prog)
  (d:(DataW.weightsEach Try.prog (Try.f6.params.toList++(OpenSpec.ofChange Rows.borderOrderSpec).bare.plain.varTypes Try.prog) (L++gs)).all (·<=reachBytes)=true) :
  Calls Try.prog 6 args W fun e G=>∃ v,e=.returned v/\Rows.borderOrderSpec.post enc Try.prog Try.f6 false true false false W args v G:=by
 have u:=T;obtain⟨p,q,n,hV,rfl,ax,V⟩:=T;have S:DataW.TrodAll enc Try.prog W 0 (fun _=>true) true Try.f6.params.toList args.toList L p:=n;rw[Try.params6]at S b d;obtain⟨v0,Y,d0,az,p0,q0,C,rfl,rfl,h0,R⟩:=trodAll_cons S;obtain⟨v1,Z,d1,X,p1,q1,rfl,rfl,rfl,h1,P⟩:=trodAll_cons R;obtain⟨v2,vs2,d2,ay,p2,q2,rfl,rfl,rfl,F,y⟩:=trodAll_cons P;obtain⟨v3,aw,d3,av,p3,q3,rfl,rfl,rfl,h3,E⟩:=trodAll_cons y;obtain⟨rfl,rfl,rfl⟩:=trodAll_nil E;obtain rfl:args=#[v0,v1,v2,v3]:=by cases args;simp_all
 obtain⟨rfl,rfl⟩:=trodVars_none hV;have M:∀ x ∈ p0,x.block<W.heap.size:=by obtain⟨m,hm⟩:=h0;exact DataW.trod_lt m _ _ _ hm
 have B:w9 Try.prog 25 d0:=R8 (i:=0) d rfl rfl;obtain⟨g,s0,q0⟩:=A3q (r:=(r1 (cSl rN))) (tg:=[14]) (RdR.of (k:=12) (ts:=[23]) F8 (RdL.nil1 (RdC.slice' (r:=rN) (e:=54) 4 F8 F8 (by decide) F8 (by decide) (RdR.of (k:=12) (ts:=[5,5,5,4]) F8 (RdL.cons (RdC.u8 F8) (RdL.cons (RdC.u8 F8) (RdL.cons (RdC.u8 F8) (RdL.nil1 (RdC.bool F8))))))))) (fun _=>by simp only[rC,r1,B9,E5,cSl,cY,yS,A3j,A1C];rfl) (HN F8 (b 0 25 v0 rfl rfl)) h0 B;try simp only at q0
 have I:∀ x ∈ p1,x.block<W.heap.size:=by obtain⟨m,hm⟩:=h1;exact DataW.trod_lt m _ _ _ hm
 have D:w9 Try.prog 5 d1:=R8 (i:=1) d rfl rfl;obtain⟨U,s1,q1⟩:=VZ (c:=(cY .u8)) (RdC.u8 F8) F8 (b 1 5 v1 rfl rfl) h1 D;try simp only at q1
 have A:∀ x ∈ p2,x.block<W.heap.size:=by obtain⟨m,hm⟩:=F;exact DataW.trod_lt m _ _ _ hm
 have w:w9 Try.prog 5 d2:=R8 (i:=2) d rfl rfl;obtain⟨a2,s2,q2⟩:=VZ (c:=(cY .u8)) (RdC.u8 F8) F8 (b 2 5 v2 rfl rfl) F w;try simp only at q2
 have N:∀ x ∈ p3,x.block<W.heap.size:=by obtain⟨m,hm⟩:=h3;exact DataW.trod_lt m _ _ _ hm
 have K:w9 Try.prog 5 d3:=R8 (i:=3) d rfl rfl;obtain⟨a3,s3,q3⟩:=VZ (c:=(cY .u8)) (RdC.u8 F8) F8 (b 3 5 v3 rfl rfl) h3 K;try simp only at q3
 clear n;simp only[List.append_nil]at u;have O:ShL (ER W) [.a [14],.s 4,.s 4,.s 4] [D7 rN g,.int .u8 U,.int .u8 a2,.int .u8 a3] [v0,v1,v2,v3]:=(.cons s0 (.cons s1 (.cons s2 (.cons s3 .nil))));obtain⟨_,hc⟩:=A3l (start Q hL) [D7 rN g,.int .u8 U,.int .u8 a2,.int .u8 a3] [.bool true] W _ (ER W) O (ZI _ _ _ _ ⟨⟨fun x hx=>(by have z:=q0.2 x hx;simp only[nOk,u8P];omega),(by have:=q0.1;omega)⟩,by omega⟩) (fun k o h=>h) (fun k o h=>h);refine hc.mono fun e G ⟨r,R',hr,he,l,_⟩=>?_
 have J:=lJ (vs2:=[.bool true]) hr rfl;subst J;subst he;have f:Below W.heap.size W G:=⟨l.os.1,l.os.2.1,l.os.2.2,l.size,l.keep⟩;exact⟨_,rfl,_,_,_,[],_,[],u,trodAll_mk1 (shut_bool Try.underlying4 _),(trodAll_cons_mk (Below.trod rQ F8 (J4 F8) h0 f M) (trodAll_cons_mk (Below.trod rQ F8 (J4 F8) h1 f I) (trodAll_cons_mk (Below.trod rQ F8 (J4 F8) F f A) (trodAll_cons_mk (Below.trod rQ F8 (J4 F8) h3 f N) trodAll_mk0)))),rfl,l.kept _,fun h=>by cases h⟩
def A1g(os:Os)(started:os.Started)(H:Type)(enc:TypeId×Value->H)(F:Stop.Interp) :
  ReturnsInHanded {} Try.checked os 6 .any ((OpenSpec.ofChange Rows.borderOrderSpec).preRow enc Try.prog Try.f6 Rows.borderOrderRow.domain false Rows.borderOrderRow.laid) (((OpenSpec.ofChange Rows.borderOrderSpec).at F).post enc Try.prog Try.f6 false true false false):=by
 obtain⟨places,e⟩:=A2e os enc;refine returnsInHanded_of_row (C:=Try.checked) (s:=OpenSpec.ofChange Rows.borderOrderSpec) own started F8 Try.func6
  (witness_row_at (enc:=enc) (C:=Try.checked) false (pC os) #[.agg #[.slice none 0 0],.int .u8 0,.int .u8 0,.int .u8 0] rfl F8 F8 F8
    (OpenSpec.preRow_of_cond 8 e F8 (fun k hk=>by cases hk) F8 (SK os))) ?_
 intro W base args f gs before a d _ _ b g c _;exact UD H enc W base args f gs before a d g c b
def A4M:Rows.BorderOrderSaid :=
 OpenClaim.holds_of_cond 6 Try.f6 rfl rfl rfl rfl rfl rfl rfl ⟨rfl,rfl,rfl,rfl,rfl⟩ rfl rfl rfl rfl rfl F8 Try.func6 F8
  (J4 F8) (by unfold Func.isWrapper;first|(rw[B2 (by decide +kernel)];kernel_rfl)|(rw[B0 (by decide +kernel)];exact⟨rfl,rfl⟩))
  (fun os started H enc _ F=>by rw[OpenClaim.pre_eq_preRow];exact A1g os started H enc F)
theorem proved:Rows.BorderOrderSaid:=A4M
#print axioms proved
end Go.Proofs.Ytjdnjfnhdeplfaa.borderOrderDone
