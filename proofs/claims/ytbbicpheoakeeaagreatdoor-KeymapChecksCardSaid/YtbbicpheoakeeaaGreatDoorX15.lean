import Derived.Test.YtbbicpheoakeeaaGreatDoorX14
import Derived.Test.YtbbicpheoakeeaaGreatDoorCards
import Derived.Test.YtbbicpheoakeeaaGreatDoorTie
import Derived.WalkKit
import Derived.ProofKit
import Derived.OpenShut
import Derived.Below
import Derived.Carry
import Derived.Lib.SmallJoins
import Derived.Deep.DeepHandedRow
import Derived.Lib.LaidTab
import Derived.MakeChecks
import Derived.Lay
import Derived.Deep.DeepWitnessRef
set_option linter.all false
set_option maxRecDepth 100000
set_option maxHeartbeats 4000000
namespace Go.Proofs.YtbbicpheoakeeaaGreatDoor.keymapChecksDone
open Go Go.Sx Go.ChangeShapes Go.WideShapes Go.ChangeAt Go.RowKit
def OH{P:Program}{G:Nat->Option Obj}{gl n0:Nat}{H0:Hp AB}(h1:gl<=n0)(c:n0<H8)(h:bG P G gl H0 gl):bG P G gl H0 n0:=fun w a=>(h w a).imp fun ρ s=>⟨s.hr,s.gr,fun b d=>s.out b (by omega),s.inG,s.ro,c,h1,s.ex,s.shp⟩
def start{W:World}(a:W.ShapedOpen Tryz.prog)(h:laidMetH Tryz.prog Rows.keymapChecksRow.laid W):bG Tryz.prog (fun k=>W.heap[k]?) gl H0 n0:=by
 rw[MakeChecks.laidMetH_plain _ _ _ C4]at h;have b:kO W 10 (jZ.getD 0 (0,[])).2:=q8 C4 (eY (n := "math/bits.deBruijn32tab") (d:=Rows.laid_math_bits_deBruijn32tab) (g:=10) (k:=6) (t:=211) h (D1 (i:=0) rfl) C4 C4 C4);have c:kO W 11 (jZ.getD 1 (0,[])).2:=q8 C4 (eY (n := "math/bits.deBruijn64tab") (d:=Rows.laid_math_bits_deBruijn64tab) (g:=11) (k:=6) (t:=212) h (D1 (i:=1) rfl) C4 C4 C4);have l:kO W 6 (jZ.getD 2 (0,[])).2:=q8 C4 (eY (n := "internal/strconv.uint64pow10") (d:=Rows.laid_internal_strconv_uint64pow10) (g:=6) (k:=6) (t:=194) h (D1 (i:=2) rfl) C4 C4 C4);have s:kO W 8 (jZ.getD 3 (0,[])).2:=q8 C4 (eY (n := "unicode/utf8.acceptRanges") (d:=Rows.laid_unicode_utf8_acceptRanges) (g:=8) (k:=6) (t:=199) h (D1 (i:=3) rfl) C4 C4 C4);have j:kO W 5 [one]:=DE (zP (n := "strconv.ErrRange") (d:=Rows.laid_strconv_ErrRange) (g:=5) (t:=105) h (D1 (i:=4) rfl) C4 C4 C4);have m:kO W 4 [one]:=DE (zP (n := "strconv.ErrSyntax") (d:=Rows.laid_strconv_ErrSyntax) (g:=4) (t:=105) h (D1 (i:=5) rfl) C4 C4 C4);have r1:kO W 1 (jZ.getD 6 (0,[])).2:=q8 C4 (eY (n := "strings.asciiSpace") (d:=Rows.laid_strings_asciiSpace) (g:=1) (k:=6) (t:=116) h (D1 (i:=7) rfl) C4 C4 C4);have o:kO W 0 (jZ.getD 7 (0,[])).2:=q8 C4 (eY (n := "fenestra/keymap.modifiers") (d:=Rows.laid_fenestra_keymap_modifiers) (g:=0) (k:=6) (t:=93) h (D1 (i:=8) rfl) C4 C4 C4);have f:kO W 7 (jZ.getD 8 (0,[])).2:=q8 C4 (eY (n := "unicode/utf8.first") (d:=Rows.laid_unicode_utf8_first) (g:=7) (k:=6) (t:=116) h (D1 (i:=10) rfl) C4 C4 C4);have p:gl<=W.heap.size:=by
  have q:(((begin Tryz.prog (fun _ _=>0) default).world.heap[12]?).bind Obj.row?).isSome=true:=C4;obtain⟨⟨z,t⟩,q⟩:=Option.isSome_iff_exists.1 q;obtain⟨cs,e,_⟩:=a.1 12 z t (I5 C4) q
  have:=(D0.1 e).1;show 13<=_;omega
 refine OH (by decide) (by decide) (YE a p (by decide) ?_ ?_)
 .have e:(jZ.all fun r=>Nat.blt r.1 gl)=true:=C4;exact fun r hr=>A1 (D7.1 e r hr)
 .intro r hr;unfold jZ at hr;rcases B6.1 hr with rfl|hr
  .exact b
  rcases B6.1 hr with rfl|hr
  .exact c
  rcases B6.1 hr with rfl|hr
  .exact l
  rcases B6.1 hr with rfl|hr
  .exact s
  rcases B6.1 hr with rfl|hr
  .exact j
  rcases B6.1 hr with rfl|hr
  .exact m
  rcases B6.1 hr with rfl|hr
  .exact r1
  rcases B6.1 hr with rfl|hr
  .exact o
  rcases B6.1 hr with rfl|hr
  .exact f
  cases hr
def own:ownKnob Tryz.prog.godebug=none:=C4
def xG:laidOutB Tryz.prog=true:=C4
noncomputable def tT(os:Os):World:=World.laidAll Tryz.prog os Rows.keymapChecksRow.laid
def A1P(os:Os):laidMet Tryz.prog Rows.keymapChecksRow.laid ((tT os).forCall (fun _ _=>0) ⟨#[],#[.agg #[.int .i64 0,.int .i64 0,.int .i64 0,.int .i64 0,.int .i64 0,.int .i64 0,.int .i64 0,.string ⟨#[]⟩,.slice none 0 0],.agg #[.int .u8 0,.int .u8 0,.int .u8 0,.int .u8 0,.int .u8 0,.int .u8 0,.int .u8 0,.int .u32 0,.string ⟨#[]⟩,.slice none 0 0,.slice none 0 0],.agg #[.int .i64 0,.int .i64 0,.int .i64 0,.int .i64 0,.int .i64 0,.int .i64 0,.int .i64 0,.string ⟨#[]⟩,.string ⟨#[]⟩,.bool false],.int .u8 0],[]⟩).memory :=
 laidMet_laidAll _ C4 C4
def wD{H:Type}{enc:TypeId×Value->H}{C:Checked}{os:Os}{f:FuncId}{fn:Func}{s:OpenSpec}{conds:List PathCond}{apart:Bool}{laid:List (String×DataW Unit)}(modest:Bool)(w0:World)(args:Array Value)(c:w0.os=os)
  (hv:(w0.forCall (fun _ _=>0) ⟨#[],args,[]⟩).variablesZipB C.prog=true)
  (hr:((w0.forCall (fun _ _=>0) ⟨#[],args,[]⟩).heap.toList.drop C.prog.globals.size).take ((begin C.prog (fun _ _=>0) default).world.heap.size-C.prog.globals.size) =
    (begin C.prog (fun _ _=>0) default).world.heap.toList.drop C.prog.globals.size)
  (a:Input.okWideB C.prog (w0.forCall (fun _ _=>0) ⟨#[],args,[]⟩) f ⟨#[],args,[]⟩=true)
  (b:s.preRow enc C.prog fn conds apart laid (w0.forCall (fun _ _=>0) ⟨#[],args,[]⟩).memory args) :
  ∃ (w:World) (tape:Tape) (i:Input),w.os=os/\(w.forCall tape i).Shaped C.prog/\i.vars=[]/\Input.okWide C.prog (w.forCall tape i) .any w.heap.size f i /\
   s.preRow enc C.prog fn conds apart laid (w.forCall tape i).memory i.args/\({ modest:=modest }:Assume).holds C.prog (lone (Frame.enter C.prog f i.args .normal) [] (w.forCall tape i)):=by
 exact⟨w0,fun _ _=>0,⟨#[],args,[]⟩,c,World.shaped_of_ZipB hv hr,(Input.okWide_of_okWideB (base:=0) a).1,(Input.okWide_of_okWideB a).2,b,by
  simp only[Assume.holds];exact⟨by simp,by simp,fun _=>Modest.zero,by simp,by simp⟩⟩
def A93(os:Os){H:Type}(enc:TypeId×Value->H):∃ places,DataW.whole enc Tryz.prog ((tT os).forCall (fun _ _=>0) ⟨#[],#[.agg #[.int .i64 0,.int .i64 0,.int .i64 0,.int .i64 0,.int .i64 0,.int .i64 0,.int .i64 0,.string ⟨#[]⟩,.slice none 0 0],.agg #[.int .u8 0,.int .u8 0,.int .u8 0,.int .u8 0,.int .u8 0,.int .u8 0,.int .u8 0,.int .u32 0,.string ⟨#[]⟩,.slice none 0 0,.slice none 0 0],.agg #[.int .i64 0,.int .i64 0,.int .i64 0,.int .i64 0,.int .i64 0,.int .i64 0,.int .i64 0,.string ⟨#[]⟩,.string ⟨#[]⟩,.bool false],.int .u8 0],[]⟩).memory Tryz.f10.params.toList Rows.keymapChecksSpec.vars false [.agg #[.int .i64 0,.int .i64 0,.int .i64 0,.int .i64 0,.int .i64 0,.int .i64 0,.int .i64 0,.string ⟨#[]⟩,.slice none 0 0],.agg #[.int .u8 0,.int .u8 0,.int .u8 0,.int .u8 0,.int .u8 0,.int .u8 0,.int .u8 0,.int .u32 0,.string ⟨#[]⟩,.slice none 0 0,.slice none 0 0],.agg #[.int .i64 0,.int .i64 0,.int .i64 0,.int .i64 0,.int .i64 0,.int .i64 0,.int .i64 0,.string ⟨#[]⟩,.string ⟨#[]⟩,.bool false],.int .u8 0] 8=some ([.agg [.agg [.lit (.int .i64 0),.lit (.int .i64 0),.lit (.int .i64 0),.lit (.int .i64 0),.lit (.int .i64 0),.lit (.int .i64 0),.lit (.int .i64 0),.lit (.string [])],.nil],.agg [.agg [.lit (.int .u8 0),.lit (.int .u8 0),.lit (.int .u8 0),.lit (.int .u8 0),.lit (.int .u8 0),.lit (.int .u8 0),.lit (.int .u8 0),.lit (.int .u32 0),.lit (.string [])],.nil,.nil],.agg [.agg [.lit (.int .i64 0),.lit (.int .i64 0),.lit (.int .i64 0),.lit (.int .i64 0),.lit (.int .i64 0),.lit (.int .i64 0),.lit (.int .i64 0),.lit (.string [])],.lit (.string []),.lit (.bool false)],.lit (.int .u8 0)],[],places) :=
 ⟨[],by kernel_rfl⟩
def A2h(H:Type)(enc:TypeId×Value->H)(W:World)(base:Nat)(args:Array Value)(ds gs:List (DataW H))(before:List MemPlace)
  (b:∀ (j:Nat) t v,Tryz.f10.params[j]? = some t->args[j]? = some v->Value.okWide Tryz.prog W .any base t v)
  (hW:DataW.Whole enc Tryz.prog Tryz.f10.params.toList Rows.keymapChecksSpec.vars false W args.toList ds gs before) (hL:laidMetH Tryz.prog Rows.keymapChecksRow.laid W) (ao:W.ShapedOpen Tryz.prog)
  (f:(DataW.weightsEach Tryz.prog (Tryz.f10.params.toList++(OpenSpec.ofChange Rows.keymapChecksSpec).bare.plain.varTypes Tryz.prog) (ds++gs)).all (·<=reachBytes)=true) :
  Calls Tryz.prog 10 args W fun e W'=>∃ v,e=.returned v/\Rows.keymapChecksSpec.post enc Tryz.prog Tryz.f10 false true false false W args v W':=by
 have au:=hW;obtain⟨p,q,ar,hV,rfl,br,bu⟩:=hW;have hA:DataW.TrodAll enc Tryz.prog W 0 (fun _=>true) true Tryz.f10.params.toList args.toList ds p:=ar;rw[Tryz.params10]at hA b f;obtain⟨v0,bo,d0,bn,p0,q0,ae,rfl,rfl,h0,bz⟩:=trodAll_cons hA;obtain⟨v1,bq,d1,bm,p1,q1,rfl,rfl,rfl,h1,an⟩:=trodAll_cons bz;obtain⟨v2,vs2,d2,bs,p2,q2,rfl,rfl,rfl,h2,ag⟩:=trodAll_cons an;obtain⟨v3,bp,d3,bt,p3,q3,rfl,rfl,rfl,h3,ak⟩:=trodAll_cons ag;obtain⟨rfl,rfl,rfl⟩:=trodAll_nil ak;obtain rfl:args=#[v0,v1,v2,v3]:=by cases args;simp_all
 obtain⟨rfl,rfl⟩:=trodVars_none hV;have aa:∀ x ∈ p0,x.block<W.heap.size:=by obtain⟨m,hm⟩:=h0;exact DataW.trod_lt m _ _ _ hm
 have al:bH Tryz.prog 35 d0:=U7 (i:=0) f rfl rfl;obtain⟨⟨S,az,G,K,F,B,T,av,E⟩,s0,q0⟩:=A22 (r:=(rC (M1 .i64) (rC (M1 .i64) (rC (M1 .i64) (rC (M1 .i64) (rC (M1 .i64) (rC (M1 .i64) (rC (M1 .i64) (rC oK (r1 (cSl rG))))))))))) (tg:=[3,3,3,3,3,3,3,9,20]) (RdR.of (k:=12) (ts:=[3,3,3,3,3,3,3,9,33]) C4 (RdL.cons (RdC.i64 C4) (RdL.cons (RdC.i64 C4) (RdL.cons (RdC.i64 C4) (RdL.cons (RdC.i64 C4) (RdL.cons (RdC.i64 C4) (RdL.cons (RdC.i64 C4) (RdL.cons (RdC.i64 C4) (RdL.cons (RdC.str' C4) (RdL.nil1 (RdC.slice' (r:=rG) (e:=32) 96 C4 C4 (by decide) C4 (by decide) (RdR.of (k:=12) (ts:=[3,3,3,3,3,3,3,9,9,4]) C4 (RdL.cons (RdC.i64 C4) (RdL.cons (RdC.i64 C4) (RdL.cons (RdC.i64 C4) (RdL.cons (RdC.i64 C4) (RdL.cons (RdC.i64 C4) (RdL.cons (RdC.i64 C4) (RdL.cons (RdC.i64 C4) (RdL.cons (RdC.str' C4) (RdL.cons (RdC.str' C4) (RdL.nil1 (RdC.bool C4))))))))))))))))))))))) (fun _=>by simp only[rC,r1,C3,F8,cSl,M1,BB,oK,XW];rfl) (oZ C4 (b 0 35 v0 rfl rfl)) h0 al;try simp only at q0
 have aj:∀ x ∈ p1,x.block<W.heap.size:=by obtain⟨m,hm⟩:=h1;exact DataW.trod_lt m _ _ _ hm
 have bx:bH Tryz.prog 28 d1:=U7 (i:=1) f rfl rfl;obtain⟨⟨D,Q,Z,O,I,J,ax,X,A,aw,l⟩,s1,q1⟩:=A22 (r:=(rC (M1 .u8) (rC (M1 .u8) (rC (M1 .u8) (rC (M1 .u8) (rC (M1 .u8) (rC (M1 .u8) (rC (M1 .u8) (rC (M1 .u32) (rC oK (rC (cSl rD) (r1 (cSl rB))))))))))))) (tg:=[4,4,4,4,4,4,4,6,9,19,11]) (RdR.of (k:=12) (ts:=[5,5,5,5,5,5,5,22,9,25,26]) C4 (RdL.cons (RdC.u8 C4) (RdL.cons (RdC.u8 C4) (RdL.cons (RdC.u8 C4) (RdL.cons (RdC.u8 C4) (RdL.cons (RdC.u8 C4) (RdL.cons (RdC.u8 C4) (RdL.cons (RdC.u8 C4) (RdL.cons (RdC.u32 C4) (RdL.cons (RdC.str' C4) (RdL.cons (RdC.slice' (r:=rD) (e:=24) 32 C4 C4 (by decide) C4 (by decide) (RdR.of (k:=12) (ts:=[5,5,5,5,5,5,5,22,9]) C4 (RdL.cons (RdC.u8 C4) (RdL.cons (RdC.u8 C4) (RdL.cons (RdC.u8 C4) (RdL.cons (RdC.u8 C4) (RdL.cons (RdC.u8 C4) (RdL.cons (RdC.u8 C4) (RdL.cons (RdC.u8 C4) (RdL.cons (RdC.u32 C4) (RdL.nil1 (RdC.str' C4)))))))))))) (RdL.nil1 (RdC.slice' (r:=rB) (e:=5) 1 C4 C4 (by decide) C4 (by decide) (RdR.of (k:=12) (ts:=[5]) C4 (RdL.nil1 (RdC.u8 C4)))))))))))))))) (fun _=>by simp only[rC,r1,C3,F8,cSl,M1,BB,oK,XW];rfl) (oZ C4 (b 1 28 v1 rfl rfl)) h1 bx;try simp only at q1
 have af:∀ x ∈ p2,x.block<W.heap.size:=by obtain⟨m,hm⟩:=h2;exact DataW.trod_lt m _ _ _ hm
 have ad:bH Tryz.prog 32 d2:=U7 (i:=2) f rfl rfl;obtain⟨⟨P,N,ay,R,L,C,V,M,Y,U⟩,s2,q2⟩:=A22 (r:=(rC (M1 .i64) (rC (M1 .i64) (rC (M1 .i64) (rC (M1 .i64) (rC (M1 .i64) (rC (M1 .i64) (rC (M1 .i64) (rC oK (rC oK (r1 BB))))))))))) (tg:=[3,3,3,3,3,3,3,9,9,8]) (RdR.of (k:=12) (ts:=[3,3,3,3,3,3,3,9,9,4]) C4 (RdL.cons (RdC.i64 C4) (RdL.cons (RdC.i64 C4) (RdL.cons (RdC.i64 C4) (RdL.cons (RdC.i64 C4) (RdL.cons (RdC.i64 C4) (RdL.cons (RdC.i64 C4) (RdL.cons (RdC.i64 C4) (RdL.cons (RdC.str' C4) (RdL.cons (RdC.str' C4) (RdL.nil1 (RdC.bool C4)))))))))))) (fun _=>by simp only[rC,r1,C3,F8,cSl,M1,BB,oK,XW];rfl) (oZ C4 (b 2 32 v2 rfl rfl)) h2 ad;try simp only at q2
 have ai:∀ x ∈ p3,x.block<W.heap.size:=by obtain⟨m,hm⟩:=h3;exact DataW.trod_lt m _ _ _ hm
 have ah:bH Tryz.prog 5 d3:=U7 (i:=3) f rfl rfl;obtain⟨a3,s3,q3⟩:=B1p (c:=(M1 .u8)) (RdC.u8 C4) C4 (b 3 5 v3 rfl rfl) h3 ah;try simp only at q3
 clear ar;simp only[L7]at au;have bw:ShL (LX W) [.a [3,3,3,3,3,3,3,9,20],.a [4,4,4,4,4,4,4,6,9,19,11],.a [3,3,3,3,3,3,3,9,9,8],.s 4] [.int .i64 S,.int .i64 az,.int .i64 G,.int .i64 K,.int .i64 F,.int .i64 B,.int .i64 T,.str av,D8 rG E,.int .u8 D,.int .u8 Q,.int .u8 Z,.int .u8 O,.int .u8 I,.int .u8 J,.int .u8 ax,.int .u32 X,.str A,D8 rD aw,D8 rB l,.int .i64 P,.int .i64 N,.int .i64 ay,.int .i64 R,.int .i64 L,.int .i64 C,.int .i64 V,.str M,.str Y,.bool U,.int .u8 a3] [v0,v1,v2,v3]:=(.cons s0 (.cons s1 (.cons s2 (.cons s3 .nil))));obtain⟨_,hc⟩:=B0i (start ao hL) [.int .i64 S,.int .i64 az,.int .i64 G,.int .i64 K,.int .i64 F,.int .i64 B,.int .i64 T,.str av,D8 rG E,.int .u8 D,.int .u8 Q,.int .u8 Z,.int .u8 O,.int .u8 I,.int .u8 J,.int .u8 ax,.int .u32 X,.str A,D8 rD aw,D8 rB l,.int .i64 P,.int .i64 N,.int .i64 ay,.int .i64 R,.int .i64 L,.int .i64 C,.int .i64 V,.str M,.str Y,.bool U,.int .u8 a3] [.bool true] W _ (LX W) bw (A4K _ _ _ _ _ _ _ _ _ _ _ _ _ _ _ _ _ _ _ _ _ _ _ _ _ _ _ _ _ _ _ ⟨by omega,by omega,by omega,by have z:=(q0.2.2.2.2.2.2.2.2).1;omega,(fun g u=>(by have w:=(q0.2.2.2.2.2.2.2.2).2 g u;unfold gOk;omega)),(by simp only[gOk];omega),by omega,by omega,(by have z:=q1.2.2.2.2.2.2.2.2.2.1;have y:=q1.2.2.2.2.2.2.2.2.2.2;exact⟨by have:=z.1;omega,by have:=y.1;omega,fun d hd=>(by have w:=z.2 d hd;unfold Dok;omega),fun x hx=>⟨(y.2 x hx).1,(by have:=(y.2 x hx).2;omega)⟩,(by simp only[Dok];omega)⟩)⟩) (fun k o h=>h) (fun k o h=>h);refine hc.mono fun e W' ⟨r,R',hr,he,u,_⟩=>?_
 have aq:=V4 (vs2:=[.bool true]) hr rfl;subst aq;subst he;have n:Below W.heap.size W W':=⟨u.os.1,u.os.2.1,u.os.2.2,u.size,u.keep⟩;exact⟨_,rfl,_,_,_,[],_,[],au,trodAll_mk1 (shut_bool Tryz.underlying4 _),(trodAll_cons_mk (Below.trod xG C4 (I5 C4) h0 n aa) (trodAll_cons_mk (Below.trod xG C4 (I5 C4) h1 n aj) (trodAll_cons_mk (Below.trod xG C4 (I5 C4) h2 n af) (trodAll_cons_mk (Below.trod xG C4 (I5 C4) h3 n ai) trodAll_mk0)))),rfl,u.kept _,fun h=>by cases h⟩
def A8n(os:Os)(started:os.Started)(H:Type)(enc:TypeId×Value->H)(F:Stop.Interp) :
  ReturnsInHanded {} Tryz.checked os 10 .any ((OpenSpec.ofChange Rows.keymapChecksSpec).preRow enc Tryz.prog Tryz.f10 Rows.keymapChecksRow.domain false Rows.keymapChecksRow.laid) (((OpenSpec.ofChange Rows.keymapChecksSpec).at F).post enc Tryz.prog Tryz.f10 false true false false):=by
 obtain⟨places,hx⟩:=A93 os enc;refine returnsInHanded_of_row (C:=Tryz.checked) (s:=OpenSpec.ofChange Rows.keymapChecksSpec) own started C4 Tryz.func10
  (wD (enc:=enc) (C:=Tryz.checked) false (tT os) #[.agg #[.int .i64 0,.int .i64 0,.int .i64 0,.int .i64 0,.int .i64 0,.int .i64 0,.int .i64 0,.string ⟨#[]⟩,.slice none 0 0],.agg #[.int .u8 0,.int .u8 0,.int .u8 0,.int .u8 0,.int .u8 0,.int .u8 0,.int .u8 0,.int .u32 0,.string ⟨#[]⟩,.slice none 0 0,.slice none 0 0],.agg #[.int .i64 0,.int .i64 0,.int .i64 0,.int .i64 0,.int .i64 0,.int .i64 0,.int .i64 0,.string ⟨#[]⟩,.string ⟨#[]⟩,.bool false],.int .u8 0] (World.laidAll_os _ _ _) C4 C4 C4
    (OpenSpec.preRow_of_cond 8 hx C4 (fun k e=>by cases e) C4 (A1P os))) ?_
 intro W base args f gs before a d _ _ c g b _;exact A2h H enc W base args f gs before a d g b c
def B3G:Rows.KeymapChecksSaid :=
 OpenClaim.holds_of_cond 10 Tryz.f10 rfl rfl rfl rfl rfl rfl rfl ⟨rfl,rfl,rfl,rfl,rfl⟩ rfl rfl rfl rfl rfl C4 Tryz.func10 C4
  (I5 C4) (by unfold Func.isWrapper;first|(rw[A9 (by decide +kernel)];kernel_rfl)|(rw[A7 (by decide +kernel)];exact⟨rfl,rfl⟩))
  (fun os started H enc _ F=>by rw[OpenClaim.pre_eq_preRow];exact A8n os started H enc F)
def plain(f:FuncId)(fn:Func)(d:Tryz.pinned.checked.prog.funcNamed "fenestra/fenestralaw39.KeymapChecks"=some f)(b:Tryz.pinned.checked.prog.funcs[f]? = some fn) :
  true=Tryz.pinned.checked.prog.looks []/\∀ (j:Nat) t,fn.params[j]? = some t->Tryz.pinned.checked.prog.wantsStandIn t=false:=by
 obtain rfl:f=10:=A8 ((show Tryz.prog.funcNamed "fenestra/fenestralaw39.KeymapChecks"=some 10 by kernel_rfl).symm.trans d) |>.symm;obtain rfl:fn=Tryz.f10:=(A8 (Tryz.func10.symm.trans b)).symm;refine⟨by kernel_rfl,fun j t c=>?_⟩;have a:(Tryz.f10.params.toList.all fun t=>!Tryz.prog.wantsStandIn t)=true:=C4
 have:=D7.1 a t (Array.mem_def.1 (Array.mem_of_getElem? c));have e:Tryz.prog.wantsStandIn t=false:=by simpa using this
 exact e
theorem proved:Rows.KeymapChecksCardSaid :=
 Claim7.holds_tied_plain_at .later [] _ _ _ _ B3G (fun _ h=>by cases h) C4 (fun _ h=>by cases h) keymapChecks_row_tie rfl ⟨rfl,rfl⟩ C4 rfl plain C4
#print axioms proved
end Go.Proofs.YtbbicpheoakeeaaGreatDoor.keymapChecksDone
