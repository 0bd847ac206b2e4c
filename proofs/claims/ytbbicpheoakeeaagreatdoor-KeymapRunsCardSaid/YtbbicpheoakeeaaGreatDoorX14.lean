import Derived.Test.YtbbicpheoakeeaaGreatDoorX13
import Derived.Test.YtbbicpheoakeeaaGreatDoorCards
import Derived.Test.YtbbicpheoakeeaaGreatDoorTie
import Derived.WalkKit
import Derived.ProofKit
import Derived.OpenShut
import Derived.Below
import Derived.Carry
import Derived.Lib.SmallJoins
import Derived.Deep.DeepHandedRow
import Derived.Lib.LaidTab
import Derived.MakeChecks
import Derived.Lay
import Derived.Deep.DeepWitnessRef
set_option linter.all false
set_option maxRecDepth 100000
set_option maxHeartbeats 4000000
namespace Go.Proofs.YtbbicpheoakeeaaGreatDoor.keymapRunsDone
open Go Go.Sx Go.ChangeShapes Go.WideShapes Go.ChangeAt Go.RowKit
def NE{P:Program}{G:Nat->Option Obj}{gl n0:Nat}{H0:Hp AB}(h1:gl<=n0)(c:n0<H7)(h:aZ P G gl H0 gl):aZ P G gl H0 n0:=fun w a=>(h w a).imp fun ρ s=>⟨s.hr,s.gr,fun b d=>s.out b (by omega),s.inG,s.ro,c,h1,s.ex,s.shp⟩
def start{W:World}(a:W.ShapedOpen Tryz.prog)(h:laidMetH Tryz.prog Rows.keymapRunsRow.laid W):aZ Tryz.prog (fun k=>W.heap[k]?) gl H0 n0:=by
 rw[MakeChecks.laidMetH_plain _ _ _ C6]at h;have b:kH W 10 (jW.getD 0 (0,[])).2:=o9 C6 (eU (n := "math/bits.deBruijn32tab") (d:=Rows.laid_math_bits_deBruijn32tab) (g:=10) (k:=6) (t:=211) h (C8 (i:=0) rfl) C6 C6 C6);have c:kH W 11 (jW.getD 1 (0,[])).2:=o9 C6 (eU (n := "math/bits.deBruijn64tab") (d:=Rows.laid_math_bits_deBruijn64tab) (g:=11) (k:=6) (t:=212) h (C8 (i:=1) rfl) C6 C6 C6);have p:kH W 6 (jW.getD 2 (0,[])).2:=o9 C6 (eU (n := "internal/strconv.uint64pow10") (d:=Rows.laid_internal_strconv_uint64pow10) (g:=6) (k:=6) (t:=194) h (C8 (i:=2) rfl) C6 C6 C6);have f:kH W 8 (jW.getD 3 (0,[])).2:=o9 C6 (eU (n := "unicode/utf8.acceptRanges") (d:=Rows.laid_unicode_utf8_acceptRanges) (g:=8) (k:=6) (t:=199) h (C8 (i:=3) rfl) C6 C6 C6);have m:kH W 5 [one]:=CA (yN (n := "strconv.ErrRange") (d:=Rows.laid_strconv_ErrRange) (g:=5) (t:=105) h (C8 (i:=4) rfl) C6 C6 C6);have o:kH W 4 [one]:=CA (yN (n := "strconv.ErrSyntax") (d:=Rows.laid_strconv_ErrSyntax) (g:=4) (t:=105) h (C8 (i:=5) rfl) C6 C6 C6);have r1:kH W 1 (jW.getD 6 (0,[])).2:=o9 C6 (eU (n := "strings.asciiSpace") (d:=Rows.laid_strings_asciiSpace) (g:=1) (k:=6) (t:=116) h (C8 (i:=7) rfl) C6 C6 C6);have j:kH W 0 (jW.getD 7 (0,[])).2:=o9 C6 (eU (n := "fenestra/keymap.modifiers") (d:=Rows.laid_fenestra_keymap_modifiers) (g:=0) (k:=6) (t:=93) h (C8 (i:=8) rfl) C6 C6 C6);have l:kH W 7 (jW.getD 8 (0,[])).2:=o9 C6 (eU (n := "unicode/utf8.first") (d:=Rows.laid_unicode_utf8_first) (g:=7) (k:=6) (t:=116) h (C8 (i:=10) rfl) C6 C6 C6);have s:gl<=W.heap.size:=by
  have q:(((begin Tryz.prog (fun _ _=>0) default).world.heap[12]?).bind Obj.row?).isSome=true:=C6;obtain⟨⟨z,t⟩,q⟩:=Option.isSome_iff_exists.1 q;obtain⟨cs,e,_⟩:=a.1 12 z t (G7 C6) q
  have:=(C7.1 e).1;show 13<=_;omega
 refine NE (by decide) (by decide) (WV a s (by decide) ?_ ?_)
 .have e:(jW.all fun r=>Nat.blt r.1 gl)=true:=C6;exact fun r hr=>A1 (D4.1 e r hr)
 .intro r hr;unfold jW at hr;rcases B5.1 hr with rfl|hr
  .exact b
  rcases B5.1 hr with rfl|hr
  .exact c
  rcases B5.1 hr with rfl|hr
  .exact p
  rcases B5.1 hr with rfl|hr
  .exact f
  rcases B5.1 hr with rfl|hr
  .exact m
  rcases B5.1 hr with rfl|hr
  .exact o
  rcases B5.1 hr with rfl|hr
  .exact r1
  rcases B5.1 hr with rfl|hr
  .exact j
  rcases B5.1 hr with rfl|hr
  .exact l
  cases hr
def own:ownKnob Tryz.prog.godebug=none:=C6
def FS:laidOutB Tryz.prog=true:=C6
noncomputable def tF(os:Os):World:=World.laidAll Tryz.prog os Rows.keymapRunsRow.laid
def A0V(os:Os):laidMet Tryz.prog Rows.keymapRunsRow.laid ((tF os).forCall (fun _ _=>0) ⟨#[],#[.agg #[.int .u8 0,.int .u8 0,.int .u8 0,.int .u8 0,.int .u8 0,.int .u8 0,.int .u8 0,.int .u32 0,.string ⟨#[]⟩,.slice none 0 0,.slice none 0 0],.slice none 0 0,.slice none 0 0],[]⟩).memory :=
 laidMet_laidAll _ C6 C6
def vO{H:Type}{enc:TypeId×Value->H}{C:Checked}{os:Os}{f:FuncId}{fn:Func}{s:OpenSpec}{conds:List PathCond}{apart:Bool}{laid:List (String×DataW Unit)}(modest:Bool)(w0:World)(args:Array Value)(c:w0.os=os)
  (hv:(w0.forCall (fun _ _=>0) ⟨#[],args,[]⟩).variablesZipB C.prog=true)
  (hr:((w0.forCall (fun _ _=>0) ⟨#[],args,[]⟩).heap.toList.drop C.prog.globals.size).take ((begin C.prog (fun _ _=>0) default).world.heap.size-C.prog.globals.size) =
    (begin C.prog (fun _ _=>0) default).world.heap.toList.drop C.prog.globals.size)
  (b:Input.okWideB C.prog (w0.forCall (fun _ _=>0) ⟨#[],args,[]⟩) f ⟨#[],args,[]⟩=true)
  (a:s.preRow enc C.prog fn conds apart laid (w0.forCall (fun _ _=>0) ⟨#[],args,[]⟩).memory args) :
  ∃ (w:World) (tape:Tape) (i:Input),w.os=os/\(w.forCall tape i).Shaped C.prog/\i.vars=[]/\Input.okWide C.prog (w.forCall tape i) .any w.heap.size f i /\
   s.preRow enc C.prog fn conds apart laid (w.forCall tape i).memory i.args/\({ modest:=modest }:Assume).holds C.prog (lone (Frame.enter C.prog f i.args .normal) [] (w.forCall tape i)):=by
 exact⟨w0,fun _ _=>0,⟨#[],args,[]⟩,c,World.shaped_of_ZipB hv hr,(Input.okWide_of_okWideB (base:=0) b).1,(Input.okWide_of_okWideB b).2,a,by
  simp only[Assume.holds];exact⟨by simp,by simp,fun _=>Modest.zero,by simp,by simp⟩⟩
def A8v(os:Os){H:Type}(enc:TypeId×Value->H):∃ places,DataW.whole enc Tryz.prog ((tF os).forCall (fun _ _=>0) ⟨#[],#[.agg #[.int .u8 0,.int .u8 0,.int .u8 0,.int .u8 0,.int .u8 0,.int .u8 0,.int .u8 0,.int .u32 0,.string ⟨#[]⟩,.slice none 0 0,.slice none 0 0],.slice none 0 0,.slice none 0 0],[]⟩).memory Tryz.f6.params.toList Rows.keymapRunsSpec.vars false [.agg #[.int .u8 0,.int .u8 0,.int .u8 0,.int .u8 0,.int .u8 0,.int .u8 0,.int .u8 0,.int .u32 0,.string ⟨#[]⟩,.slice none 0 0,.slice none 0 0],.slice none 0 0,.slice none 0 0] 8=some ([.agg [.agg [.lit (.int .u8 0),.lit (.int .u8 0),.lit (.int .u8 0),.lit (.int .u8 0),.lit (.int .u8 0),.lit (.int .u8 0),.lit (.int .u8 0),.lit (.int .u32 0),.lit (.string [])],.nil,.nil],.nil,.nil],[],places) :=
 ⟨[],by kernel_rfl⟩
def A10(H:Type)(enc:TypeId×Value->H)(W:World)(base:Nat)(args:Array Value)(ds gs:List (DataW H))(before:List MemPlace)
  (b:∀ (j:Nat) t v,Tryz.f6.params[j]? = some t->args[j]? = some v->Value.okWide Tryz.prog W .any base t v)
  (hW:DataW.Whole enc Tryz.prog Tryz.f6.params.toList Rows.keymapRunsSpec.vars false W args.toList ds gs before) (hL:laidMetH Tryz.prog Rows.keymapRunsRow.laid W) (T:W.ShapedOpen Tryz.prog)
  (g:(DataW.weightsEach Tryz.prog (Tryz.f6.params.toList++(OpenSpec.ofChange Rows.keymapRunsSpec).bare.plain.varTypes Tryz.prog) (ds++gs)).all (·<=reachBytes)=true) :
  Calls Tryz.prog 6 args W fun e R=>∃ v,e=.returned v/\Rows.keymapRunsSpec.post enc Tryz.prog Tryz.f6 false true false false W args v R:=by
 have L:=hW;obtain⟨p,q,K,hV,rfl,ar,au⟩:=hW;have hA:DataW.TrodAll enc Tryz.prog W 0 (fun _=>true) true Tryz.f6.params.toList args.toList ds p:=K;rw[Tryz.params6]at hA b g;obtain⟨v0,aq,d0,an,p0,O,X,rfl,rfl,h0,U⟩:=trodAll_cons hA;obtain⟨v1,ak,d1,al,p1,M,rfl,rfl,rfl,h1,av⟩:=trodAll_cons U;obtain⟨v2,vs2,d2,ao,p2,N,rfl,rfl,rfl,h2,P⟩:=trodAll_cons av;obtain⟨rfl,rfl,rfl⟩:=trodAll_nil P;obtain rfl:args=#[v0,v1,v2]:=by cases args;simp_all
 obtain⟨rfl,rfl⟩:=trodVars_none hV;have az:∀ x ∈ p0,x.block<W.heap.size:=by obtain⟨m,hm⟩:=h0;exact DataW.trod_lt m _ _ _ hm
 have Q:bK Tryz.prog 28 d0:=X4 (i:=0) g rfl rfl;obtain⟨⟨n,F,E,l,A,D,B,G,C,u,f⟩,s0,O⟩:=B0T (r:=(rC (Q2 .u8) (rC (Q2 .u8) (rC (Q2 .u8) (rC (Q2 .u8) (rC (Q2 .u8) (rC (Q2 .u8) (rC (Q2 .u8) (rC (Q2 .u32) (rC zX (rC (cSl rD) (r1 (cSl rB))))))))))))) (tg:=[4,4,4,4,4,4,4,6,9,19,11]) (RdR.of (k:=12) (ts:=[5,5,5,5,5,5,5,22,9,25,26]) C6 (RdL.cons (RdC.u8 C6) (RdL.cons (RdC.u8 C6) (RdL.cons (RdC.u8 C6) (RdL.cons (RdC.u8 C6) (RdL.cons (RdC.u8 C6) (RdL.cons (RdC.u8 C6) (RdL.cons (RdC.u8 C6) (RdL.cons (RdC.u32 C6) (RdL.cons (RdC.str' C6) (RdL.cons (RdC.slice' (r:=rD) (e:=24) 32 C6 C6 (by decide) C6 (by decide) (RdR.of (k:=12) (ts:=[5,5,5,5,5,5,5,22,9]) C6 (RdL.cons (RdC.u8 C6) (RdL.cons (RdC.u8 C6) (RdL.cons (RdC.u8 C6) (RdL.cons (RdC.u8 C6) (RdL.cons (RdC.u8 C6) (RdL.cons (RdC.u8 C6) (RdL.cons (RdC.u8 C6) (RdL.cons (RdC.u32 C6) (RdL.nil1 (RdC.str' C6)))))))))))) (RdL.nil1 (RdC.slice' (r:=rB) (e:=5) 1 C6 C6 (by decide) C6 (by decide) (RdR.of (k:=12) (ts:=[5]) C6 (RdL.nil1 (RdC.u8 C6)))))))))))))))) (fun _=>by simp only[rC,r1,C3,F9,cSl,Q2,TI,zX,A64];rfl) (NY C6 (b 0 28 v0 rfl rfl)) h0 Q;try simp only at O
 have aw:∀ x ∈ p1,x.block<W.heap.size:=by obtain⟨m,hm⟩:=h1;exact DataW.trod_lt m _ _ _ hm
 have ax:bK Tryz.prog 26 d1:=X4 (i:=1) g rfl rfl;obtain⟨a1,s1,M⟩:=A6j (c:=(cSl rB)) (RdC.slice' (r:=rB) (e:=5) 1 C6 C6 (by decide) C6 (by decide) (RdR.of (k:=12) (ts:=[5]) C6 (RdL.nil1 (RdC.u8 C6)))) C6 (b 1 26 v1 rfl rfl) h1 ax;try simp only at M
 have S:∀ x ∈ p2,x.block<W.heap.size:=by obtain⟨m,hm⟩:=h2;exact DataW.trod_lt m _ _ _ hm
 have V:bK Tryz.prog 25 d2:=X4 (i:=2) g rfl rfl;obtain⟨a2,s2,N⟩:=A6j (c:=(cSl rD)) (RdC.slice' (r:=rD) (e:=24) 32 C6 C6 (by decide) C6 (by decide) (RdR.of (k:=12) (ts:=[5,5,5,5,5,5,5,22,9]) C6 (RdL.cons (RdC.u8 C6) (RdL.cons (RdC.u8 C6) (RdL.cons (RdC.u8 C6) (RdL.cons (RdC.u8 C6) (RdL.cons (RdC.u8 C6) (RdL.cons (RdC.u8 C6) (RdL.cons (RdC.u8 C6) (RdL.cons (RdC.u32 C6) (RdL.nil1 (RdC.str' C6)))))))))))) C6 (b 2 25 v2 rfl rfl) h2 V;try simp only at N
 clear K;simp only[R2]at L;have Y:ShL (KS W) [.a [4,4,4,4,4,4,4,6,9,19,11],.s 11,.s 19] [.int .u8 n,.int .u8 F,.int .u8 E,.int .u8 l,.int .u8 A,.int .u8 D,.int .u8 B,.int .u32 G,.str C,D9 rD u,D9 rB f,D9 rB a1,D9 rD a2] [v0,v1,v2]:=(.cons s0 (.cons s1 (.cons s2 .nil)));obtain⟨_,hc⟩:=A9K (start T hL) [.int .u8 n,.int .u8 F,.int .u8 E,.int .u8 l,.int .u8 A,.int .u8 D,.int .u8 B,.int .u32 G,.str C,D9 rD u,D9 rB f,D9 rB a1,D9 rD a2] [.bool true] W _ (KS W) Y (A3R _ _ _ _ _ _ _ _ _ _ _ _ _ ⟨by have:=M.1;omega,by have:=N.1;omega,fun x hx=>⟨(M.2 x hx).1,(by have:=(M.2 x hx).2;omega)⟩,fun d Z=>(by have w:=N.2 d Z;unfold Dok;omega),(by have z:=O.2.2.2.2.2.2.2.2.2.1;have y:=O.2.2.2.2.2.2.2.2.2.2;exact⟨by have:=z.1;omega,by have:=y.1;omega,fun d Z=>(by have w:=z.2 d Z;unfold Dok;omega),fun x hx=>⟨(y.2 x hx).1,(by have:=(y.2 x hx).2;omega)⟩,(by simp only[Dok];omega)⟩)⟩) (fun k o h=>h) (fun k o h=>h);refine hc.mono fun e R ⟨r,R',hr,he,J,_⟩=>?_
 have ay:=U9 (vs2:=[.bool true]) hr rfl;subst ay;subst he;have I:Below W.heap.size W R:=⟨J.os.1,J.os.2.1,J.os.2.2,J.size,J.keep⟩;exact⟨_,rfl,_,_,_,[],_,[],L,trodAll_mk1 (shut_bool Tryz.underlying4 _),(trodAll_cons_mk (Below.trod FS C6 (G7 C6) h0 I az) (trodAll_cons_mk (Below.trod FS C6 (G7 C6) h1 I aw) (trodAll_cons_mk (Below.trod FS C6 (G7 C6) h2 I S) trodAll_mk0))),rfl,J.kept _,fun h=>by cases h⟩
def A7i(os:Os)(started:os.Started)(H:Type)(enc:TypeId×Value->H)(F:Stop.Interp) :
  ReturnsInHanded {} Tryz.checked os 6 .any ((OpenSpec.ofChange Rows.keymapRunsSpec).preRow enc Tryz.prog Tryz.f6 Rows.keymapRunsRow.domain false Rows.keymapRunsRow.laid) (((OpenSpec.ofChange Rows.keymapRunsSpec).at F).post enc Tryz.prog Tryz.f6 false true false false):=by
 obtain⟨places,hx⟩:=A8v os enc;refine returnsInHanded_of_row (C:=Tryz.checked) (s:=OpenSpec.ofChange Rows.keymapRunsSpec) own started C6 Tryz.func6
  (vO (enc:=enc) (C:=Tryz.checked) false (tF os) #[.agg #[.int .u8 0,.int .u8 0,.int .u8 0,.int .u8 0,.int .u8 0,.int .u8 0,.int .u8 0,.int .u32 0,.string ⟨#[]⟩,.slice none 0 0,.slice none 0 0],.slice none 0 0,.slice none 0 0] (World.laidAll_os _ _ _) C6 C6 C6
    (OpenSpec.preRow_of_cond 8 hx C6 (fun k f=>by cases f) C6 (A0V os))) ?_
 intro W base args g gs before a e _ _ b d c _;exact A10 H enc W base args g gs before a e d c b
def B1n:Rows.KeymapRunsSaid :=
 OpenClaim.holds_of_cond 6 Tryz.f6 rfl rfl rfl rfl rfl rfl rfl ⟨rfl,rfl,rfl,rfl,rfl⟩ rfl rfl rfl rfl rfl C6 Tryz.func6 C6
  (G7 C6) (by unfold Func.isWrapper;first|(rw[A9 (by decide +kernel)];kernel_rfl)|(rw[A7 (by decide +kernel)];exact⟨rfl,rfl⟩))
  (fun os started H enc _ F=>by rw[OpenClaim.pre_eq_preRow];exact A7i os started H enc F)
def plain(f:FuncId)(fn:Func)(c:Tryz.pinned.checked.prog.funcNamed "fenestra/fenestralaw39.KeymapRuns"=some f)(b:Tryz.pinned.checked.prog.funcs[f]? = some fn) :
  true=Tryz.pinned.checked.prog.looks []/\∀ (j:Nat) t,fn.params[j]? = some t->Tryz.pinned.checked.prog.wantsStandIn t=false:=by
 obtain rfl:f=6:=A8 ((show Tryz.prog.funcNamed "fenestra/fenestralaw39.KeymapRuns"=some 6 by kernel_rfl).symm.trans c) |>.symm;obtain rfl:fn=Tryz.f6:=(A8 (Tryz.func6.symm.trans b)).symm;refine⟨by kernel_rfl,fun j t e=>?_⟩;have a:(Tryz.f6.params.toList.all fun t=>!Tryz.prog.wantsStandIn t)=true:=C6
 have:=D4.1 a t (Array.mem_def.1 (Array.mem_of_getElem? e));have d:Tryz.prog.wantsStandIn t=false:=by simpa using this
 exact d
theorem proved:Rows.KeymapRunsCardSaid :=
 Claim7.holds_tied_plain_at .later [] _ _ _ _ B1n (fun _ h=>by cases h) C6 (fun _ h=>by cases h) keymapRuns_row_tie rfl ⟨rfl,rfl⟩ C6 rfl plain C6
#print axioms proved
end Go.Proofs.YtbbicpheoakeeaaGreatDoor.keymapRunsDone
