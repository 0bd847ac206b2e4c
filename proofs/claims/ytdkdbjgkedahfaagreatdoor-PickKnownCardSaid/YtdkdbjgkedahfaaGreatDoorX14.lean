import Derived.Test.YtdkdbjgkedahfaaGreatDoorX13
import Derived.Test.YtdkdbjgkedahfaaGreatDoorCards
import Derived.Test.YtdkdbjgkedahfaaGreatDoorTie
import Derived.WalkKit
import Derived.ProofKit
import Derived.OpenShut
import Derived.Below
import Derived.Carry
import Derived.Lib.SmallJoins
import Derived.Deep.DeepHandedRow
import Derived.Lib.LaidTab
import Derived.MakeChecks
set_option linter.all false
set_option maxRecDepth 100000
set_option maxHeartbeats 4000000
namespace Go.Proofs.YtdkdbjgkedahfaaGreatDoor.pickKnownDone
open Go Go.Sx Go.ChangeShapes Go.WideShapes Go.ChangeAt Go.RowKit
def start{W:World}(a:W.ShapedOpen Tryz.prog)(h:laidMetH Tryz.prog Rows.pickKnownRow.laid W):jA Tryz.prog (fun k=>W.heap[k]?) gl H0 n0:=by
 rw[MakeChecks.laidMetH_plain _ _ _ G4]at h;have j:xA W 8 (eC.getD 0 (0,[])).2:=dL G4 (kI (n := "math/bits.deBruijn32tab") (d:=Rows.laid_math_bits_deBruijn32tab) (g:=8) (k:=6) (t:=324) h (E6 (i:=0) rfl) G4 G4 G4);have b:xA W 9 (eC.getD 1 (0,[])).2:=dL G4 (kI (n := "math/bits.deBruijn64tab") (d:=Rows.laid_math_bits_deBruijn64tab) (g:=9) (k:=6) (t:=325) h (E6 (i:=1) rfl) G4 G4 G4);have o:xA W 7 (eC.getD 2 (0,[])).2:=dL G4 (kI (n := "internal/strconv.uint64pow10") (d:=Rows.laid_internal_strconv_uint64pow10) (g:=7) (k:=6) (t:=319) h (E6 (i:=2) rfl) G4 G4 G4);have l:xA W 6 (eC.getD 3 (0,[])).2:=dL G4 (kI (n := "fenestra/color.named") (d:=Rows.laid_fenestra_color_named) (g:=6) (k:=6) (t:=306) h (E6 (i:=3) rfl) G4 G4 G4);have c:xA W 3 (eC.getD 4 (0,[])).2:=dL G4 (kI (n := "fenestra/width.marks") (d:=Rows.laid_fenestra_width_marks) (g:=3) (k:=6) (t:=236) h (E6 (i:=4) rfl) G4 G4 G4);have f:xA W 4 (eC.getD 5 (0,[])).2:=dL G4 (kI (n := "fenestra/width.wides") (d:=Rows.laid_fenestra_width_wides) (g:=4) (k:=6) (t:=238) h (E6 (i:=5) rfl) G4 G4 G4);have m:gl<=W.heap.size:=by
  obtain⟨C,T,fz,e,_⟩:=b
  have:=(D5.1 e).1;show 10<=_;omega
 refine YQ a m (by decide) ?_ ?_
 .have e:(eC.all fun r=>Nat.blt r.1 gl)=true:=G4;exact fun r hr=>A2 (E8.1 e r hr)
 .intro r hr;unfold eC at hr;rcases C4.1 hr with rfl|hr
  .exact j
  rcases C4.1 hr with rfl|hr
  .exact b
  rcases C4.1 hr with rfl|hr
  .exact o
  rcases C4.1 hr with rfl|hr
  .exact l
  rcases C4.1 hr with rfl|hr
  .exact c
  rcases C4.1 hr with rfl|hr
  .exact f
  cases hr
def own:ownKnob Tryz.prog.godebug=none:=G4
noncomputable def low:Nat:=(World.holding Tryz.prog default ⟨#[],#[],[]⟩).heap.size
noncomputable def put(g:Nat)(cs:Array Value)(h:Array Obj):Array Obj:=h.modify g fun
 | .cells _ t frozen=>.cells cs t frozen
 | o=>o
noncomputable def uW(os:Os):World :=
 let w0:=World.holding Tryz.prog os ⟨#[],#[],[]⟩
 { w0 with heap:=(put 4 (eC.getD 5 (0,[])).2.toArray (put 3 (eC.getD 4 (0,[])).2.toArray (put 6 (eC.getD 3 (0,[])).2.toArray (put 7 (eC.getD 2 (0,[])).2.toArray (put 9 (eC.getD 1 (0,[])).2.toArray (put 8 (eC.getD 0 (0,[])).2.toArray w0.heap)))))) }
def A0d(os:Os):laidMet Tryz.prog Rows.pickKnownRow.laid ((uW os).forCall (fun _ _=>0) ⟨#[],#[],[]⟩).memory :=
 laidMet_of_run' 8 G4 G4
def A6b(os:Os){H:Type}(enc:TypeId×Value->H):∃ places,DataW.whole enc Tryz.prog ((uW os).forCall (fun _ _=>0) ⟨#[],#[],[]⟩).memory Tryz.f4.params.toList Rows.pickKnownSpec.vars false [] 8=some ([],[],places) :=
 ⟨[],by kernel_rfl⟩
def A1N(H:Type)(enc:TypeId×Value->H)(W:World)(base:Nat)(args:Array Value)(i gs:List (DataW H))(before:List MemPlace)
  (b:∀ (j:Nat) t v,Tryz.f4.params[j]? = some t->args[j]? = some v->Value.okWide Tryz.prog W .any base t v)
  (s:DataW.Whole enc Tryz.prog Tryz.f4.params.toList Rows.pickKnownSpec.vars false W args.toList i gs before) (B:laidMetH Tryz.prog Rows.pickKnownRow.laid W) (g:W.ShapedOpen Tryz.prog)
  (l:(DataW.weightsEach Tryz.prog (Tryz.f4.params.toList++(OpenSpec.ofChange Rows.pickKnownSpec).bare.plain.varTypes Tryz.prog) (i++gs)).all (·<=reachBytes)=true) :
  Calls Tryz.prog 4 args W fun e n=>∃ v,e=.returned v/\Rows.pickKnownSpec.post enc Tryz.prog Tryz.f4 false true false false W args v n:=by
 have d:=s;obtain⟨p,q,c,x,rfl,z,A⟩:=s;have u:DataW.TrodAll enc Tryz.prog W 0 (fun _=>true) true Tryz.f4.params.toList args.toList i p:=c;rw[Tryz.params4]at u b l;obtain⟨rfl,rfl,rfl⟩:=trodAll_none u;obtain⟨rfl,rfl⟩:=trodVars_none x;clear c;simp only[D6]at d;have m:ShL (VS W) [] [] []:=.nil;obtain⟨_,w⟩:=A6c (start g B) [] [.bool true] W _ (VS W) m (A2E) (fun k o h=>h) (fun k o h=>h);refine w.mono fun e n ⟨r,C,hr,he,a,_⟩=>?_
 have f:=fU (vs2:=[.bool true]) hr rfl;subst f;subst he;have y:Below W.heap.size W n:=⟨a.os.1,a.os.2.1,a.os.2.2,a.size,a.keep⟩;exact⟨_,rfl,_,_,_,[],_,[],d,trodAll_mk1 (shut_bool Tryz.underlying4 _),rfl,rfl,a.kept _,fun h=>by cases h⟩
def A5z(os:Os)(started:os.Started)(H:Type)(enc:TypeId×Value->H)(F:Stop.Interp) :
  ReturnsInHanded {} Tryz.checked os 4 .any ((OpenSpec.ofChange Rows.pickKnownSpec).preRow enc Tryz.prog Tryz.f4 Rows.pickKnownRow.domain false Rows.pickKnownRow.laid) (((OpenSpec.ofChange Rows.pickKnownSpec).at F).post enc Tryz.prog Tryz.f4 false true false false):=by
 obtain⟨places,i⟩:=A6b os enc;refine returnsInHanded_of_row (C:=Tryz.checked) (s:=OpenSpec.ofChange Rows.pickKnownSpec) own started G4 Tryz.func4
  (witness_row_at (enc:=enc) (C:=Tryz.checked) false (uW os) #[] rfl G4 G4 G4
    (OpenSpec.preRow_of_cond 8 i G4 (fun k f=>by cases f) G4 (A0d os))) ?_
 intro W base args d gs before a e _ _ c g b _;exact A1N H enc W base args d gs before a e g b c
def A7w:Rows.PickKnownSaid :=
 OpenClaim.holds_of_cond 4 Tryz.f4 rfl rfl rfl rfl rfl rfl rfl ⟨rfl,rfl,rfl,rfl,rfl⟩ rfl rfl rfl rfl rfl G4 Tryz.func4 G4
  (F8 G4) (by unfold Func.isWrapper;first|(rw[B0 (by decide +kernel)];kernel_rfl)|(rw[A9 (by decide +kernel)];exact⟨rfl,rfl⟩))
  (fun os started H enc _ F=>by rw[OpenClaim.pre_eq_preRow];exact A5z os started H enc F)
def plain(f:FuncId)(fn:Func)(c:Tryz.pinned.checked.prog.funcNamed "fenestra/fenestralaw32.PickKnown"=some f)(b:Tryz.pinned.checked.prog.funcs[f]? = some fn) :
  true=Tryz.pinned.checked.prog.looks []/\∀ (j:Nat) t,fn.params[j]? = some t->Tryz.pinned.checked.prog.wantsStandIn t=false:=by
 obtain rfl:f=4:=A8 ((show Tryz.prog.funcNamed "fenestra/fenestralaw32.PickKnown"=some 4 by kernel_rfl).symm.trans c) |>.symm;obtain rfl:fn=Tryz.f4:=(A8 (Tryz.func4.symm.trans b)).symm;refine⟨by kernel_rfl,fun j t d=>?_⟩;have a:(Tryz.f4.params.toList.all fun t=>!Tryz.prog.wantsStandIn t)=true:=G4
 have:=E8.1 a t (Array.mem_def.1 (Array.mem_of_getElem? d));have e:Tryz.prog.wantsStandIn t=false:=by simpa using this
 exact e
theorem proved:Rows.PickKnownCardSaid :=
 Claim7.holds_tied_plain_at .later [] _ _ _ _ A7w (fun _ h=>by cases h) G4 (fun _ h=>by cases h) pickKnown_row_tie rfl ⟨rfl,rfl⟩ G4 rfl plain G4
#print axioms proved
end Go.Proofs.YtdkdbjgkedahfaaGreatDoor.pickKnownDone
