import Derived.Test.YtbbicpheoakeeaaGreatDoorX14
import Derived.Test.YtbbicpheoakeeaaGreatDoorCards
import Derived.Test.YtbbicpheoakeeaaGreatDoorTie
import Derived.WalkKit
import Derived.ProofKit
import Derived.OpenShut
import Derived.Below
import Derived.Carry
import Derived.Lib.SmallJoins
import Derived.Deep.DeepHandedRow
import Derived.Lib.LaidTab
import Derived.MakeChecks
import Derived.Lay
import Derived.Deep.DeepWitnessRef
set_option linter.all false
set_option maxRecDepth 100000
set_option maxHeartbeats 4000000
namespace Go.Proofs.YtbbicpheoakeeaaGreatDoor.keymapStepsDone
open Go Go.Sx Go.ChangeShapes Go.WideShapes Go.ChangeAt Go.RowKit
def ON{P:Program}{G:Nat->Option Obj}{gl n0:Nat}{H0:Hp AB}(h1:gl<=n0)(c:n0<I2)(h:bF P G gl H0 gl):bF P G gl H0 n0:=fun w a=>(h w a).imp fun ρ s=>⟨s.hr,s.gr,fun b d=>s.out b (by omega),s.inG,s.ro,c,h1,s.ex,s.shp⟩
def start{W:World}(a:W.ShapedOpen Tryz.prog)(h:laidMetH Tryz.prog Rows.keymapStepsRow.laid W):bF Tryz.prog (fun k=>W.heap[k]?) gl H0 n0:=by
 rw[MakeChecks.laidMetH_plain _ _ _ C4]at h;have b:kP W 10 (kE.getD 0 (0,[])).2:=r9 C4 (fA (n := "math/bits.deBruijn32tab") (d:=Rows.laid_math_bits_deBruijn32tab) (g:=10) (k:=6) (t:=211) h (D0 (i:=0) rfl) C4 C4 C4);have c:kP W 11 (kE.getD 1 (0,[])).2:=r9 C4 (fA (n := "math/bits.deBruijn64tab") (d:=Rows.laid_math_bits_deBruijn64tab) (g:=11) (k:=6) (t:=212) h (D0 (i:=1) rfl) C4 C4 C4);have p:kP W 6 (kE.getD 2 (0,[])).2:=r9 C4 (fA (n := "internal/strconv.uint64pow10") (d:=Rows.laid_internal_strconv_uint64pow10) (g:=6) (k:=6) (t:=194) h (D0 (i:=2) rfl) C4 C4 C4);have j:kP W 8 (kE.getD 3 (0,[])).2:=r9 C4 (fA (n := "unicode/utf8.acceptRanges") (d:=Rows.laid_unicode_utf8_acceptRanges) (g:=8) (k:=6) (t:=199) h (D0 (i:=3) rfl) C4 C4 C4);have l:kP W 5 [one]:=CZ (zO (n := "strconv.ErrRange") (d:=Rows.laid_strconv_ErrRange) (g:=5) (t:=105) h (D0 (i:=4) rfl) C4 C4 C4);have o:kP W 4 [one]:=CZ (zO (n := "strconv.ErrSyntax") (d:=Rows.laid_strconv_ErrSyntax) (g:=4) (t:=105) h (D0 (i:=5) rfl) C4 C4 C4);have r1:kP W 1 (kE.getD 6 (0,[])).2:=r9 C4 (fA (n := "strings.asciiSpace") (d:=Rows.laid_strings_asciiSpace) (g:=1) (k:=6) (t:=116) h (D0 (i:=7) rfl) C4 C4 C4);have m:kP W 0 (kE.getD 7 (0,[])).2:=r9 C4 (fA (n := "fenestra/keymap.modifiers") (d:=Rows.laid_fenestra_keymap_modifiers) (g:=0) (k:=6) (t:=93) h (D0 (i:=8) rfl) C4 C4 C4);have f:kP W 7 (kE.getD 8 (0,[])).2:=r9 C4 (fA (n := "unicode/utf8.first") (d:=Rows.laid_unicode_utf8_first) (g:=7) (k:=6) (t:=116) h (D0 (i:=10) rfl) C4 C4 C4);have s:gl<=W.heap.size:=by
  have q:(((begin Tryz.prog (fun _ _=>0) default).world.heap[12]?).bind Obj.row?).isSome=true:=C4;obtain⟨⟨z,t⟩,q⟩:=Option.isSome_iff_exists.1 q;obtain⟨cs,e,_⟩:=a.1 12 z t (H5 C4) q
  have:=(C9.1 e).1;show 13<=_;omega
 refine ON (by decide) (by decide) (YY a s (by decide) ?_ ?_)
 .have e:(kE.all fun r=>Nat.blt r.1 gl)=true:=C4;exact fun r hr=>A1 (D6.1 e r hr)
 .intro r hr;unfold kE at hr;rcases B4.1 hr with rfl|hr
  .exact b
  rcases B4.1 hr with rfl|hr
  .exact c
  rcases B4.1 hr with rfl|hr
  .exact p
  rcases B4.1 hr with rfl|hr
  .exact j
  rcases B4.1 hr with rfl|hr
  .exact l
  rcases B4.1 hr with rfl|hr
  .exact o
  rcases B4.1 hr with rfl|hr
  .exact r1
  rcases B4.1 hr with rfl|hr
  .exact m
  rcases B4.1 hr with rfl|hr
  .exact f
  cases hr
def own:ownKnob Tryz.prog.godebug=none:=C4
def rW:laidOutB Tryz.prog=true:=C4
noncomputable def uA(os:Os):World:=World.laidAll Tryz.prog os Rows.keymapStepsRow.laid
def A1R(os:Os):laidMet Tryz.prog Rows.keymapStepsRow.laid ((uA os).forCall (fun _ _=>0) ⟨#[],#[.agg #[.int .u8 0,.int .u8 0,.int .u8 0,.int .u8 0,.int .u8 0,.int .u8 0,.int .u8 0,.int .u32 0,.string ⟨#[]⟩,.slice none 0 0,.slice none 0 0],.agg #[.int .i64 0,.int .i64 0,.int .i64 0,.int .i64 0,.int .i64 0,.int .i64 0,.int .i64 0,.string ⟨#[]⟩,.string ⟨#[]⟩,.bool false],.int .u8 0,.agg #[.int .i64 0,.int .i64 0,.int .i64 0,.int .i64 0,.int .i64 0,.int .i64 0,.int .i64 0,.string ⟨#[]⟩],.int .i64 0],[]⟩).memory :=
 laidMet_laidAll _ C4 C4
def wK{H:Type}{enc:TypeId×Value->H}{C:Checked}{os:Os}{f:FuncId}{fn:Func}{s:OpenSpec}{conds:List PathCond}{apart:Bool}{laid:List (String×DataW Unit)}(modest:Bool)(w0:World)(args:Array Value)(c:w0.os=os)
  (hv:(w0.forCall (fun _ _=>0) ⟨#[],args,[]⟩).variablesZipB C.prog=true)
  (hr:((w0.forCall (fun _ _=>0) ⟨#[],args,[]⟩).heap.toList.drop C.prog.globals.size).take ((begin C.prog (fun _ _=>0) default).world.heap.size-C.prog.globals.size) =
    (begin C.prog (fun _ _=>0) default).world.heap.toList.drop C.prog.globals.size)
  (b:Input.okWideB C.prog (w0.forCall (fun _ _=>0) ⟨#[],args,[]⟩) f ⟨#[],args,[]⟩=true)
  (a:s.preRow enc C.prog fn conds apart laid (w0.forCall (fun _ _=>0) ⟨#[],args,[]⟩).memory args) :
  ∃ (w:World) (tape:Tape) (i:Input),w.os=os/\(w.forCall tape i).Shaped C.prog/\i.vars=[]/\Input.okWide C.prog (w.forCall tape i) .any w.heap.size f i /\
   s.preRow enc C.prog fn conds apart laid (w.forCall tape i).memory i.args/\({ modest:=modest }:Assume).holds C.prog (lone (Frame.enter C.prog f i.args .normal) [] (w.forCall tape i)):=by
 exact⟨w0,fun _ _=>0,⟨#[],args,[]⟩,c,World.shaped_of_ZipB hv hr,(Input.okWide_of_okWideB (base:=0) b).1,(Input.okWide_of_okWideB b).2,a,by
  simp only[Assume.holds];exact⟨by simp,by simp,fun _=>Modest.zero,by simp,by simp⟩⟩
def B0X(os:Os){H:Type}(enc:TypeId×Value->H):∃ places,DataW.whole enc Tryz.prog ((uA os).forCall (fun _ _=>0) ⟨#[],#[.agg #[.int .u8 0,.int .u8 0,.int .u8 0,.int .u8 0,.int .u8 0,.int .u8 0,.int .u8 0,.int .u32 0,.string ⟨#[]⟩,.slice none 0 0,.slice none 0 0],.agg #[.int .i64 0,.int .i64 0,.int .i64 0,.int .i64 0,.int .i64 0,.int .i64 0,.int .i64 0,.string ⟨#[]⟩,.string ⟨#[]⟩,.bool false],.int .u8 0,.agg #[.int .i64 0,.int .i64 0,.int .i64 0,.int .i64 0,.int .i64 0,.int .i64 0,.int .i64 0,.string ⟨#[]⟩],.int .i64 0],[]⟩).memory Tryz.f3.params.toList Rows.keymapStepsSpec.vars false [.agg #[.int .u8 0,.int .u8 0,.int .u8 0,.int .u8 0,.int .u8 0,.int .u8 0,.int .u8 0,.int .u32 0,.string ⟨#[]⟩,.slice none 0 0,.slice none 0 0],.agg #[.int .i64 0,.int .i64 0,.int .i64 0,.int .i64 0,.int .i64 0,.int .i64 0,.int .i64 0,.string ⟨#[]⟩,.string ⟨#[]⟩,.bool false],.int .u8 0,.agg #[.int .i64 0,.int .i64 0,.int .i64 0,.int .i64 0,.int .i64 0,.int .i64 0,.int .i64 0,.string ⟨#[]⟩],.int .i64 0] 8=some ([.agg [.agg [.lit (.int .u8 0),.lit (.int .u8 0),.lit (.int .u8 0),.lit (.int .u8 0),.lit (.int .u8 0),.lit (.int .u8 0),.lit (.int .u8 0),.lit (.int .u32 0),.lit (.string [])],.nil,.nil],.agg [.agg [.lit (.int .i64 0),.lit (.int .i64 0),.lit (.int .i64 0),.lit (.int .i64 0),.lit (.int .i64 0),.lit (.int .i64 0),.lit (.int .i64 0),.lit (.string [])],.lit (.string []),.lit (.bool false)],.lit (.int .u8 0),.agg [.lit (.int .i64 0),.lit (.int .i64 0),.lit (.int .i64 0),.lit (.int .i64 0),.lit (.int .i64 0),.lit (.int .i64 0),.lit (.int .i64 0),.lit (.string [])],.lit (.int .i64 0)],[],places) :=
 ⟨[],by kernel_rfl⟩
def A3E(H:Type)(enc:TypeId×Value->H)(W:World)(base:Nat)(args:Array Value)(ds gs:List (DataW H))(before:List MemPlace)
  (b:∀ (j:Nat) t v,Tryz.f3.params[j]? = some t->args[j]? = some v->Value.okWide Tryz.prog W .any base t v)
  (hW:DataW.Whole enc Tryz.prog Tryz.f3.params.toList Rows.keymapStepsSpec.vars false W args.toList ds gs before) (hL:laidMetH Tryz.prog Rows.keymapStepsRow.laid W) (al:W.ShapedOpen Tryz.prog)
  (f:(DataW.weightsEach Tryz.prog (Tryz.f3.params.toList++(OpenSpec.ofChange Rows.keymapStepsSpec).bare.plain.varTypes Tryz.prog) (ds++gs)).all (·<=reachBytes)=true) :
  Calls Tryz.prog 3 args W fun e W'=>∃ v,e=.returned v/\Rows.keymapStepsSpec.post enc Tryz.prog Tryz.f3 false true false false W args v W':=by
 have aw:=hW;obtain⟨p,q,ax,hV,rfl,bn,bs⟩:=hW;have hA:DataW.TrodAll enc Tryz.prog W 0 (fun _=>true) true Tryz.f3.params.toList args.toList ds p:=ax;rw[Tryz.params3]at hA b f;obtain⟨v0,bq,d0,bu,p0,q0,aj,rfl,rfl,h0,ao⟩:=trodAll_cons hA;obtain⟨v1,bk,d1,bm,p1,q1,rfl,rfl,rfl,h1,ad⟩:=trodAll_cons ao;obtain⟨v2,vs2,d2,bo,p2,q2,rfl,rfl,rfl,h2,bx⟩:=trodAll_cons ad;obtain⟨v3,bt,d3,bl,p3,q3,rfl,rfl,rfl,h3,aq⟩:=trodAll_cons bx;obtain⟨v4,bp,d4,br,p4,q4,rfl,rfl,rfl,h4,ag⟩:=trodAll_cons aq;obtain⟨rfl,rfl,rfl⟩:=trodAll_nil ag;obtain rfl:args=#[v0,v1,v2,v3,v4]:=by cases args;simp_all
 obtain⟨rfl,rfl⟩:=trodVars_none hV;have ae:∀ x ∈ p0,x.block<W.heap.size:=by obtain⟨m,hm⟩:=h0;exact DataW.trod_lt m _ _ _ hm
 have au:y9 Tryz.prog 28 d0:=R7 (i:=0) f rfl rfl;obtain⟨⟨L,u,n,C,X,S,Y,A,T,O,l⟩,s0,q0⟩:=A3Y (r:=(rC (L5 .u8) (rC (L5 .u8) (rC (L5 .u8) (rC (L5 .u8) (rC (L5 .u8) (rC (L5 .u8) (rC (L5 .u8) (rC (L5 .u32) (rC mR (rC (cSl rD) (r1 (cSl rB))))))))))))) (tg:=[4,4,4,4,4,4,4,6,9,19,11]) (RdR.of (k:=12) (ts:=[5,5,5,5,5,5,5,22,9,25,26]) C4 (RdL.cons (RdC.u8 C4) (RdL.cons (RdC.u8 C4) (RdL.cons (RdC.u8 C4) (RdL.cons (RdC.u8 C4) (RdL.cons (RdC.u8 C4) (RdL.cons (RdC.u8 C4) (RdL.cons (RdC.u8 C4) (RdL.cons (RdC.u32 C4) (RdL.cons (RdC.str' C4) (RdL.cons (RdC.slice' (r:=rD) (e:=24) 32 C4 C4 (by decide) C4 (by decide) (RdR.of (k:=12) (ts:=[5,5,5,5,5,5,5,22,9]) C4 (RdL.cons (RdC.u8 C4) (RdL.cons (RdC.u8 C4) (RdL.cons (RdC.u8 C4) (RdL.cons (RdC.u8 C4) (RdL.cons (RdC.u8 C4) (RdL.cons (RdC.u8 C4) (RdL.cons (RdC.u8 C4) (RdL.cons (RdC.u32 C4) (RdL.nil1 (RdC.str' C4)))))))))))) (RdL.nil1 (RdC.slice' (r:=rB) (e:=5) 1 C4 C4 (by decide) C4 (by decide) (RdR.of (k:=12) (ts:=[5]) C4 (RdL.nil1 (RdC.u8 C4)))))))))))))))) (fun _=>by simp only[rC,r1,C3,F6,cSl,L5,AX,mR,YR];rfl) (oY C4 (b 0 28 v0 rfl rfl)) h0 au;try simp only at q0
 have ak:∀ x ∈ p1,x.block<W.heap.size:=by obtain⟨m,hm⟩:=h1;exact DataW.trod_lt m _ _ _ hm
 have an:y9 Tryz.prog 32 d1:=R7 (i:=1) f rfl rfl;obtain⟨⟨ay,P,az,R,Z,U,V,K,D,N⟩,s1,q1⟩:=A3Y (r:=(rC (L5 .i64) (rC (L5 .i64) (rC (L5 .i64) (rC (L5 .i64) (rC (L5 .i64) (rC (L5 .i64) (rC (L5 .i64) (rC mR (rC mR (r1 AX))))))))))) (tg:=[3,3,3,3,3,3,3,9,9,8]) (RdR.of (k:=12) (ts:=[3,3,3,3,3,3,3,9,9,4]) C4 (RdL.cons (RdC.i64 C4) (RdL.cons (RdC.i64 C4) (RdL.cons (RdC.i64 C4) (RdL.cons (RdC.i64 C4) (RdL.cons (RdC.i64 C4) (RdL.cons (RdC.i64 C4) (RdL.cons (RdC.i64 C4) (RdL.cons (RdC.str' C4) (RdL.cons (RdC.str' C4) (RdL.nil1 (RdC.bool C4)))))))))))) (fun _=>by simp only[rC,r1,C3,F6,cSl,L5,AX,mR,YR];rfl) (oY C4 (b 1 32 v1 rfl rfl)) h1 an;try simp only at q1
 have ah:∀ x ∈ p2,x.block<W.heap.size:=by obtain⟨m,hm⟩:=h2;exact DataW.trod_lt m _ _ _ hm
 have aa:y9 Tryz.prog 5 d2:=R7 (i:=2) f rfl rfl;obtain⟨a2,s2,q2⟩:=A8A (c:=(L5 .u8)) (RdC.u8 C4) C4 (b 2 5 v2 rfl rfl) h2 aa;try simp only at q2
 have bw:∀ x ∈ p3,x.block<W.heap.size:=by obtain⟨m,hm⟩:=h3;exact DataW.trod_lt m _ _ _ hm
 have av:y9 Tryz.prog 30 d3:=R7 (i:=3) f rfl rfl;obtain⟨⟨I,M,Q,F,E,B,G,J⟩,s3,q3⟩:=A3Y (r:=(rC (L5 .i64) (rC (L5 .i64) (rC (L5 .i64) (rC (L5 .i64) (rC (L5 .i64) (rC (L5 .i64) (rC (L5 .i64) (r1 mR))))))))) (tg:=[3,3,3,3,3,3,3,9]) (RdR.of (k:=12) (ts:=[3,3,3,3,3,3,3,9]) C4 (RdL.cons (RdC.i64 C4) (RdL.cons (RdC.i64 C4) (RdL.cons (RdC.i64 C4) (RdL.cons (RdC.i64 C4) (RdL.cons (RdC.i64 C4) (RdL.cons (RdC.i64 C4) (RdL.cons (RdC.i64 C4) (RdL.nil1 (RdC.str' C4)))))))))) (fun _=>by simp only[rC,r1,C3,F6,cSl,L5,AX,mR,YR];rfl) (oY C4 (b 3 30 v3 rfl rfl)) h3 av;try simp only at q3
 have ai:∀ x ∈ p4,x.block<W.heap.size:=by obtain⟨m,hm⟩:=h4;exact DataW.trod_lt m _ _ _ hm
 have bz:y9 Tryz.prog 3 d4:=R7 (i:=4) f rfl rfl;obtain⟨a4,s4,q4⟩:=A8A (c:=(L5 .i64)) (RdC.i64 C4) C4 (b 4 3 v4 rfl rfl) h4 bz;try simp only at q4
 clear ax;simp only[R9]at aw;have ar:ShL (MD W) [.a [4,4,4,4,4,4,4,6,9,19,11],.a [3,3,3,3,3,3,3,9,9,8],.s 4,.a [3,3,3,3,3,3,3,9],.s 3] [.int .u8 L,.int .u8 u,.int .u8 n,.int .u8 C,.int .u8 X,.int .u8 S,.int .u8 Y,.int .u32 A,.str T,B9 rD O,B9 rB l,.int .i64 ay,.int .i64 P,.int .i64 az,.int .i64 R,.int .i64 Z,.int .i64 U,.int .i64 V,.str K,.str D,.bool N,.int .u8 a2,.int .i64 I,.int .i64 M,.int .i64 Q,.int .i64 F,.int .i64 E,.int .i64 B,.int .i64 G,.str J,.int .i64 a4] [v0,v1,v2,v3,v4]:=(.cons s0 (.cons s1 (.cons s2 (.cons s3 (.cons s4 .nil)))));obtain⟨_,hc⟩:=B0w (start al hL) [.int .u8 L,.int .u8 u,.int .u8 n,.int .u8 C,.int .u8 X,.int .u8 S,.int .u8 Y,.int .u32 A,.str T,B9 rD O,B9 rB l,.int .i64 ay,.int .i64 P,.int .i64 az,.int .i64 R,.int .i64 Z,.int .i64 U,.int .i64 V,.str K,.str D,.bool N,.int .u8 a2,.int .i64 I,.int .i64 M,.int .i64 Q,.int .i64 F,.int .i64 E,.int .i64 B,.int .i64 G,.str J,.int .i64 a4] [.bool true] W _ (MD W) ar (A4p _ _ _ _ _ _ _ _ _ _ _ _ _ _ _ _ _ _ _ _ _ _ _ _ _ _ _ _ _ _ _ ⟨(by simp only[gOk];omega),by omega,by omega,by omega,by omega,by omega,(by have z:=q0.2.2.2.2.2.2.2.2.2.1;have y:=q0.2.2.2.2.2.2.2.2.2.2;exact⟨by have:=z.1;omega,by have:=y.1;omega,fun d hd=>(by have w:=z.2 d hd;unfold Dok;omega),fun x hx=>⟨(y.2 x hx).1,(by have:=(y.2 x hx).2;omega)⟩,(by simp only[Dok];omega)⟩)⟩) (fun k o h=>h) (fun k o h=>h);refine hc.mono fun e W' ⟨r,R',hr,he,hg,_⟩=>?_
 have af:=V3 (vs2:=[.bool true]) hr rfl;subst af;subst he;have g:Below W.heap.size W W':=⟨hg.os.1,hg.os.2.1,hg.os.2.2,hg.size,hg.keep⟩;exact⟨_,rfl,_,_,_,[],_,[],aw,trodAll_mk1 (shut_bool Tryz.underlying4 _),(trodAll_cons_mk (Below.trod rW C4 (H5 C4) h0 g ae) (trodAll_cons_mk (Below.trod rW C4 (H5 C4) h1 g ak) (trodAll_cons_mk (Below.trod rW C4 (H5 C4) h2 g ah) (trodAll_cons_mk (Below.trod rW C4 (H5 C4) h3 g bw) (trodAll_cons_mk (Below.trod rW C4 (H5 C4) h4 g ai) trodAll_mk0))))),rfl,hg.kept _,fun h=>by cases h⟩
def A8_(os:Os)(started:os.Started)(H:Type)(enc:TypeId×Value->H)(F:Stop.Interp) :
  ReturnsInHanded {} Tryz.checked os 3 .any ((OpenSpec.ofChange Rows.keymapStepsSpec).preRow enc Tryz.prog Tryz.f3 Rows.keymapStepsRow.domain false Rows.keymapStepsRow.laid) (((OpenSpec.ofChange Rows.keymapStepsSpec).at F).post enc Tryz.prog Tryz.f3 false true false false):=by
 obtain⟨places,hx⟩:=B0X os enc;refine returnsInHanded_of_row (C:=Tryz.checked) (s:=OpenSpec.ofChange Rows.keymapStepsSpec) own started C4 Tryz.func3
  (wK (enc:=enc) (C:=Tryz.checked) false (uA os) #[.agg #[.int .u8 0,.int .u8 0,.int .u8 0,.int .u8 0,.int .u8 0,.int .u8 0,.int .u8 0,.int .u32 0,.string ⟨#[]⟩,.slice none 0 0,.slice none 0 0],.agg #[.int .i64 0,.int .i64 0,.int .i64 0,.int .i64 0,.int .i64 0,.int .i64 0,.int .i64 0,.string ⟨#[]⟩,.string ⟨#[]⟩,.bool false],.int .u8 0,.agg #[.int .i64 0,.int .i64 0,.int .i64 0,.int .i64 0,.int .i64 0,.int .i64 0,.int .i64 0,.string ⟨#[]⟩],.int .i64 0] (World.laidAll_os _ _ _) C4 C4 C4
    (OpenSpec.preRow_of_cond 8 hx C4 (fun k f=>by cases f) C4 (A1R os))) ?_
 intro W base args g gs before a d _ _ b e c _;exact A3E H enc W base args g gs before a d e c b
def B3K:Rows.KeymapStepsSaid :=
 OpenClaim.holds_of_cond 3 Tryz.f3 rfl rfl rfl rfl rfl rfl rfl ⟨rfl,rfl,rfl,rfl,rfl⟩ rfl rfl rfl rfl rfl C4 Tryz.func3 C4
  (H5 C4) (by unfold Func.isWrapper;first|(rw[B0 (by decide +kernel)];kernel_rfl)|(rw[A8 (by decide +kernel)];exact⟨rfl,rfl⟩))
  (fun os started H enc _ F=>by rw[OpenClaim.pre_eq_preRow];exact A8_ os started H enc F)
def plain(f:FuncId)(fn:Func)(e:Tryz.pinned.checked.prog.funcNamed "fenestra/fenestralaw39.KeymapSteps"=some f)(b:Tryz.pinned.checked.prog.funcs[f]? = some fn) :
  true=Tryz.pinned.checked.prog.looks []/\∀ (j:Nat) t,fn.params[j]? = some t->Tryz.pinned.checked.prog.wantsStandIn t=false:=by
 obtain rfl:f=3:=A9 ((show Tryz.prog.funcNamed "fenestra/fenestralaw39.KeymapSteps"=some 3 by kernel_rfl).symm.trans e) |>.symm;obtain rfl:fn=Tryz.f3:=(A9 (Tryz.func3.symm.trans b)).symm;refine⟨by kernel_rfl,fun j t d=>?_⟩;have a:(Tryz.f3.params.toList.all fun t=>!Tryz.prog.wantsStandIn t)=true:=C4
 have:=D6.1 a t (Array.mem_def.1 (Array.mem_of_getElem? d));have c:Tryz.prog.wantsStandIn t=false:=by simpa using this
 exact c
theorem proved:Rows.KeymapStepsCardSaid :=
 Claim7.holds_tied_plain_at .later [] _ _ _ _ B3K (fun _ h=>by cases h) C4 (fun _ h=>by cases h) keymapSteps_row_tie rfl ⟨rfl,rfl⟩ C4 rfl plain C4
#print axioms proved
end Go.Proofs.YtbbicpheoakeeaaGreatDoor.keymapStepsDone
