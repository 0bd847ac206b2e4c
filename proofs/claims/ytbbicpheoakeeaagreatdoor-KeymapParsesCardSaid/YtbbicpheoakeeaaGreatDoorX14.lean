import Derived.Test.YtbbicpheoakeeaaGreatDoorX13
import Derived.Test.YtbbicpheoakeeaaGreatDoorCards
import Derived.Test.YtbbicpheoakeeaaGreatDoorTie
import Derived.WalkKit
import Derived.ProofKit
import Derived.OpenShut
import Derived.Below
import Derived.Carry
import Derived.Lib.SmallJoins
import Derived.Deep.DeepHandedRow
import Derived.Lib.LaidTab
import Derived.MakeChecks
import Derived.Lay
import Derived.Deep.DeepWitnessRef
set_option linter.all false
set_option maxRecDepth 100000
set_option maxHeartbeats 4000000
namespace Go.Proofs.YtbbicpheoakeeaaGreatDoor
open Go Go.Sx
def A6F:∀ (a:List Gt) (i:Int),H8 neG (a.zip a) i=none
 | [],_=>rfl
 | g::a,i=>by
   show(if neG (g,g)=true then some i else H8 neG (a.zip a) (i+1))=none;rw[A1l (B2f.2 rfl),A6 E3,A6F a]
def A6G(x:Xt)(a:List Gt):rA x x a a=true:=A0F (wF.2 rfl) rfl (A6F a 0)
def B5J{x:Xt}{l:Option (List Gt)}(h:kmP x (el l)) : -9223372036854775808<=x.2.2.1/\x.2.2.1<=9223372036854775807/\(x.2.2.2.2.2.2.2.length:Int)<=140737488351232/\((el l).length:Int)<=140737488351232/\(∀ g ∈ el l,gOk g):=by
 obtain⟨e,f,d⟩:=UD h.1;have b:x.2.2.2.2.2.2.2=[]:=E1 (fun x:Xt=>x.2.2.2.2.2.2.2) e;have c:=h.2.1;exact⟨A2,A2,by rw[b];decide,A2,fun g a=>B2P (h.2.2.1 g a)⟩
def A9Y{x:Xt}{l:List Gt}(h:kmP x l):prE (tX x l)=0/\rA (prX (tX x l)) x (el (prL (tX x l))) l=true/\((tX x l).length:Int)<=140737488351232/\(tX x l).length<=8000:=by
 have a:=A1L h;have b:=TF h;rw[A1M h];refine⟨a.1,?_,A2,b⟩;rw[a.2.1,a.2.2];exact A6G x l
def nB(b:UInt8):Bool:=decide ((b.toNat:Int)<=32) || decide (127<=(b.toNat:Int))
def A2h(l:List Int):(iB l).length=l.length:=by unfold iB;rw[E7]
def A9G{l:List Int}{i:Nat}{c:Int}(h:∀ y ∈ l,0<=y/\y<256)(h0:0<=c)(h1:c<256):∀ y ∈ l.set i c,0<=y/\y<256:=fun y a=>by
 rcases gA a with a|rfl
 .exact h y a
 .exact⟨h0,h1⟩
def A1N(s:B0):((el (prL s)).length:Int)<=140737488351232:=by
 by_cases h:prE s=0
 .have h1:¬16384<s.length:=fun k=>by rw[A9b k]at h;cases h
  rw[(PT h).2];exact(B1R (s:=s) A2).1
 .rw[(A9a h).2];exact(by decide:(0:Int)<=140737488351232)
def B04{x:Xt}{a:List Gt}{P:Prop}(h:(!rA x x a a)=true):P:=by rw[A6G]at h;cases h
def B5B{a n:Int}(h:0<=n):0<=a%(n+1)/\a%(n+1)<=n:=⟨Z0 _ A2,by have:=Y4 a (show(0:Int)<n+1 by omega);omega⟩
def kR(x:Xt)(l:Option (List Gt)):Prop := -9223372036854775808<=x.2.2.1/\x.2.2.1<=9223372036854775807/\(x.2.2.2.2.2.2.2.length:Int)<=140737488351232/\((el l).length:Int)<=140737488351232/\(∀ g ∈ el l,gOk g)
instance(x:Xt)(l:Option (List Gt)):Decidable (kR x l):=by unfold kR;infer_instance
open Go Go.Sx Go.Proofs.Tryz
attribute [local irreducible] tX prE prX prL kdL kIn rA oS
noncomputable def B3h:O9:=⟨_,fun a=>(.cons (B0o a) (.cons (B1w a) (.cons (B1B a) (.cons (A1K a) (.cons (B1A a) (.cons (A0t a) .nil))))))⟩
def UE:List U->Option (Nat×List U)
 | [.str s,.int .u8 e0,.int .u8 e1,.int .u8 e2,.int .u8 e3,.int .u8 e4,.int .u8 e5,.int .u8 e6,.int .u32 ec,.str et,u_ks,u_ws,.int .u16 at_,.int .u8 cc]=>(P4 rD u_ks).bind fun ks=>(P4 rB u_ws).bind fun ws=>if(s.length:Int)<=140737488351232/\0<=at_/\at_<65536/\0<=cc/\cc<256/\((el ks).length:Int)<=140737488351232/\((el ws).length:Int)<=140737488351232/\(∀ d ∈ el ks,Dok d)/\(∀ x ∈ el ws,0<=x/\x<256)/\Dok (e0,e1,e2,e3,e4,e5,e6,ec,et)then some (0,[.bool (true)])else none
 | _=>none
def A4_(s:B0)(g:Int)(a:Int)(b:Int)(c:Int)(e:Int)(k:Int)(f:Int)(i:Int)(j:B0)(ks:(Option (List (Int×Int×Int×Int×Int×Int×Int×Int×B0))))(ws:CV)(at_:Int)(cc:Int)(l:(s.length:Int)<=140737488351232/\0<=at_/\at_<65536/\0<=cc/\cc<256/\((el ks).length:Int)<=140737488351232/\((el ws).length:Int)<=140737488351232/\(∀ d ∈ el ks,Dok d)/\(∀ x ∈ el ws,0<=x/\x<256)/\Dok (g,a,b,c,e,k,f,i,j)):UE [.str s,.int .u8 g,.int .u8 a,.int .u8 b,.int .u8 c,.int .u8 e,.int .u8 k,.int .u8 f,.int .u32 i,.str j,E8 rD ks,E8 rB ws,.int .u16 at_,.int .u8 cc]=some (0,[.bool (true)]):=by
 simp only[UE,I0,F1];exact A8 l
def q9(a0:Nat)(a:Nat)(b c:Tr):Tr:=.fn LE [h a0 9] 10<|.fn KK [h a0 9] 10<|.fn tU [h3 a,h3 (a+1),h3 (a+2),h3 (a+3),h3 (a+4),h3 (a+5),h3 (a+6),h (a+7) 9,h (a+8) 20,h3 (a+10),h3 (a+11),h3 (a+12),h3 (a+13),h3 (a+14),h3 (a+15),h3 (a+16),h (a+17) 9,h (a+18) 20] 1<|aX [h (a+20) 8]<|.br (a+21) b c
def A7T:Tr:=aD [h 0 9]<|.lt 3 (.min) [h3 14,jI 200]<|.lt 9 (.sub) [h 0 9,jI 0,h3 15]<|.fn EH [h 1 4,h 2 4,h 3 4,h 4 4,h 5 4,h 6 4,h 7 4,h 8 6,h 9 9,h 10 19,h 11 11] 9<|.fn DO [h3 17,h3 18,h3 19,h3 20,h3 21,h3 22,h3 23,h 24 9,h 25 20] 2<|.dt 11 (.byt) [h 26 9]<|.lt 3 (.conv .i64) [h 12 5]<|aD [h 26 9]<|aA [h3 30,jI 1]<|.lt 3 (.bin .rem) [h3 29,h3 31]<|aD [h 28 11]<|aG [h3 33,jI 0]<|.br 34 (.lt 3 (.conv .i64) [h 12 5]<|.lt 3 (.bin .rem) [h3 35,h3 33]<|cQ 28 36 37 (.dt 11 (.set 1 0) [h 28 11,h3 36,h 13 4]<|.lt 9 (.str) [h 38 11]<|.lt 9 (.sub) [h 26 9,jI 0,h3 32]<|aC [h 26 9,h 16 9]<|.lt 9 (.sub) [h 26 9,jI 0,h3 32]<|aC [h 42 9,h 16 9]<|.lt 9 (.sub1) [h 26 9,h3 32]<|aC [h 43 9,h 44 9]<|q9 16 46 F6 (g9 55 65 68 F6 (q9 26 69 F6 (g9 78 88 91 F6 (q9 39 92 F6 (g9 101 111 114 F6 (q9 40 115 F6 (g9 124 134 137 F6 (q9 41 138 F6 (g9 147 157 160 F6 (q9 45 161 F6 (g9 170 180 183 F6 (.fn DA [] 1<|.ret [h 184 8])))))))))))))) (.lt 9 (.str) [h 28 11]<|.lt 9 (.sub) [h 26 9,jI 0,h3 32]<|aC [h 26 9,h 16 9]<|.lt 9 (.sub) [h 26 9,jI 0,h3 32]<|aC [h 38 9,h 16 9]<|.lt 9 (.sub1) [h 26 9,h3 32]<|aC [h 39 9,h 40 9]<|q9 16 42 F6 (g9 51 61 64 F6 (q9 26 65 F6 (g9 74 84 87 F6 (q9 35 88 F6 (g9 97 107 110 F6 (q9 36 111 F6 (g9 120 130 133 F6 (q9 37 134 F6 (g9 143 153 156 F6 (q9 41 157 F6 (g9 166 176 179 F6 (.fn DA [] 1<|.ret [h 180 8])))))))))))))
def B1o{G}(x:K4 G):L6 prog G 5 [.s 9,.a [4,4,4,4,4,4,4,6,9,19,11],.s 5,.s 4] UE [.s 8]:=by
 refine F3 (d:=60) A7T (cxg (B3h.2 x) .nil) x ⟨f5,_,func5,rfl⟩ C9 C9 ?_;intro us outs u;unfold UE at u;split at u
 .skip;rename_i s f m b o j c k i p h A at_ cc;have w:=C3.1 u;clear u;obtain⟨ks,t,u⟩:=w;replace t:=L1 t;subst t;have v:=C3.1 u;clear u;obtain⟨ws,q,u⟩:=v;replace q:=L1 q;subst q;split at u
  .rename_i C;cases u;have z:=(B1y (ws:=el ws) (l:=el ks) (A2J (f,m,b,o,j,c,k,i,p))).1;have B:=A9Y z;have hR:=B5J (l:=(kdL (kIn (f,m,b,o,j,c,k,i,p)) (el ws) ((el ks).take 20) 0 none)) z;have hm:=B5B (a:=at_) (n:=((tX ((kIn (f,m,b,o,j,c,k,i,p)).1,(kIn (f,m,b,o,j,c,k,i,p)).2.1,(kIn (f,m,b,o,j,c,k,i,p)).2.2.1,(kIn (f,m,b,o,j,c,k,i,p)).2.2.2.1,(kIn (f,m,b,o,j,c,k,i,p)).2.2.2.2.1,(kIn (f,m,b,o,j,c,k,i,p)).2.2.2.2.2.1,(kIn (f,m,b,o,j,c,k,i,p)).2.2.2.2.2.2.1,(kIn (f,m,b,o,j,c,k,i,p)).2.2.2.2.2.2.2) (el (kdL (kIn (f,m,b,o,j,c,k,i,p)) (el ws) ((el ks).take 20) 0 none))).length:Int)) A2;have D:((tX ((kIn (f,m,b,o,j,c,k,i,p)).1,(kIn (f,m,b,o,j,c,k,i,p)).2.1,(kIn (f,m,b,o,j,c,k,i,p)).2.2.1,(kIn (f,m,b,o,j,c,k,i,p)).2.2.2.1,(kIn (f,m,b,o,j,c,k,i,p)).2.2.2.2.1,(kIn (f,m,b,o,j,c,k,i,p)).2.2.2.2.2.1,(kIn (f,m,b,o,j,c,k,i,p)).2.2.2.2.2.2.1,(kIn (f,m,b,o,j,c,k,i,p)).2.2.2.2.2.2.2) (el (kdL (kIn (f,m,b,o,j,c,k,i,p)) (el ws) ((el ks).take 20) 0 none))).length:Int)<=8000:=bV.2 B.2.2.2;have y:=C.2.2.2.2.2;unfold A7T;refine w0 (.cons 13 _ (.cons 12 _ (.cons 11 _ (.cons 10 _ (.cons 9 _ (.cons 8 _ (.cons 7 _ (.cons 6 _ (.cons 5 _ (.cons 4 _ (.cons 3 _ (.cons 2 _ (.cons 1 _ (.cons 0 _ (.nil))))))))))))))) ?_;repeat (first|refine w4 (fun g=>?_) fun g=>?_|refine w4B (fun g=>?_) fun g=>?_|(refine w7 [.bool _] ?_;rotate_left)|refine Z5 ?_|refine lF ?_|(refine w3 LE (e:=A4m _ (by first|omega|(simp only[B7,C8,J3,H3,D7,A2h,M8,vB,oE,O5,A3B,bH];omega))) (k':=?_);show Wk _ _ (.cons _ _ (.cons _ _ (.cons _ _ (.cons _ _ (.cons _ _ (.cons _ _ (.cons _ _ (.cons _ _ (.cons _ _ (.cons _ _ _)))))))))))|(refine w3 KK (e:=A4a _ (by first|omega|(simp only[B7,C8,J3,H3,D7,A2h,M8,vB,oE,O5,A3B,bH];omega))) (k':=?_);show Wk _ _ (.cons _ _ (.cons _ _ (.cons _ _ (.cons _ _ (.cons _ _ (.cons _ _ (.cons _ _ (.cons _ _ (.cons _ _ (.cons _ _ _)))))))))))|refine w31 tU (e:=A0s _ _ _ _ _ _ _ _ _ _ _ _ _ _ _ _ _ _ ⟨A1N _,A1N _⟩) (k':=?_)|refine wT ?_|refine w1 (.bin .add) (e:=AW _ _ (by first|omega|(simp only[B7,C8,J3,H3,D7,A2h,M8,vB,oE,O5,A3B,bH];omega))) (k':=?_)|refine w1 (.sub) (e:=t6 _ _ _ _ _ A2 A2 A2) (k':=?_)|refine qS ?_|refine jE ?_|refine A4I ?_|refine w1 (.bin .rem) (e:=AV _ _ _ A2) (k':=?_)|refine eG ?_|refine bW ?_|refine W4 ?_|refine w1 (.str) (e:=UY rfl (by first|exact A8r _|exact A9G (A8r _) A2 A2)) (k':=?_)|refine w1 (.sub1) (e:=cU _ _ _ A2 A2) (k':=?_)|refine w31 DA (e:=A4C) (k':=?_)|refine B0x ?_|(refine w3 EH (e:=A5A _ _ _ _ _ _ _ _ _ _ _ y) (k':=?_);show Wk _ _ (.cons _ _ (.cons _ _ (.cons _ _ (.cons _ _ (.cons _ _ (.cons _ _ (.cons _ _ (.cons _ _ (.cons _ _ _))))))))))|refine w32 DO (e:=A4b _ _ _ _ _ _ _ _ _ hR) (k':=?_)|refine w2 (.byt) (r:=rB) (e:=VC _ rfl) (k':=?_)|refine kL ?_|refine oM ?_|refine dV ?_|refine w2 (.set 1 0) (r:=rB) (e:=HZ _ rfl (A1 rfl) (by first|omega|exact Z0 _ A2|exact Y4 _ ‹_›) (by first|omega|exact Z0 _ A2|exact Y4 _ ‹_›) rfl) (k':=?_)|(refine w8 ?_;first|omega|exact B5C ‹_› ‹_›))
   all_goals
    first
    | rfl
    | exact absurd rfl g
    | exact B04 g
    | exact absurd (by assumption:(!true)=true) E3
  .cases u
 .cases u
end Go.Proofs.YtbbicpheoakeeaaGreatDoor
namespace Go.Proofs.YtbbicpheoakeeaaGreatDoor.keymapParsesDone
open Go Go.Sx Go.ChangeShapes Go.WideShapes Go.ChangeAt Go.RowKit
def PA{P:Program}{G:Nat->Option Obj}{gl n0:Nat}{H0:Hp AB}(h1:gl<=n0)(a:n0<I4)(h:bN P G gl H0 gl):bN P G gl H0 n0:=fun w c=>(h w c).imp fun ρ s=>⟨s.hr,s.gr,fun b d=>s.out b (by omega),s.inG,s.ro,a,h1,s.ex,s.shp⟩
def start{W:World}(a:W.ShapedOpen Tryz.prog)(h:laidMetH Tryz.prog Rows.keymapParsesRow.laid W):bN Tryz.prog (fun k=>W.heap[k]?) gl H0 n0:=by
 rw[MakeChecks.laidMetH_plain _ _ _ C9]at h;have b:kY W 10 (kN.getD 0 (0,[])).2:=u6 C9 (fJ (n := "math/bits.deBruijn32tab") (d:=Rows.laid_math_bits_deBruijn32tab) (g:=10) (k:=6) (t:=211) h (D1 (i:=0) rfl) C9 C9 C9);have c:kY W 11 (kN.getD 1 (0,[])).2:=u6 C9 (fJ (n := "math/bits.deBruijn64tab") (d:=Rows.laid_math_bits_deBruijn64tab) (g:=11) (k:=6) (t:=212) h (D1 (i:=1) rfl) C9 C9 C9);have m:kY W 6 (kN.getD 2 (0,[])).2:=u6 C9 (fJ (n := "internal/strconv.uint64pow10") (d:=Rows.laid_internal_strconv_uint64pow10) (g:=6) (k:=6) (t:=194) h (D1 (i:=2) rfl) C9 C9 C9);have j:kY W 8 (kN.getD 3 (0,[])).2:=u6 C9 (fJ (n := "unicode/utf8.acceptRanges") (d:=Rows.laid_unicode_utf8_acceptRanges) (g:=8) (k:=6) (t:=199) h (D1 (i:=3) rfl) C9 C9 C9);have l:kY W 5 [one]:=DP (AD (n := "strconv.ErrRange") (d:=Rows.laid_strconv_ErrRange) (g:=5) (t:=105) h (D1 (i:=4) rfl) C9 C9 C9);have o:kY W 4 [one]:=DP (AD (n := "strconv.ErrSyntax") (d:=Rows.laid_strconv_ErrSyntax) (g:=4) (t:=105) h (D1 (i:=5) rfl) C9 C9 C9);have r1:kY W 1 (kN.getD 6 (0,[])).2:=u6 C9 (fJ (n := "strings.asciiSpace") (d:=Rows.laid_strings_asciiSpace) (g:=1) (k:=6) (t:=116) h (D1 (i:=7) rfl) C9 C9 C9);have s:kY W 0 (kN.getD 7 (0,[])).2:=u6 C9 (fJ (n := "fenestra/keymap.modifiers") (d:=Rows.laid_fenestra_keymap_modifiers) (g:=0) (k:=6) (t:=93) h (D1 (i:=8) rfl) C9 C9 C9);have p:kY W 7 (kN.getD 8 (0,[])).2:=u6 C9 (fJ (n := "unicode/utf8.first") (d:=Rows.laid_unicode_utf8_first) (g:=7) (k:=6) (t:=116) h (D1 (i:=10) rfl) C9 C9 C9);have f:gl<=W.heap.size:=by
  have q:(((begin Tryz.prog (fun _ _=>0) default).world.heap[12]?).bind Obj.row?).isSome=true:=C9;obtain⟨⟨z,t⟩,q⟩:=Option.isSome_iff_exists.1 q;obtain⟨cs,e,_⟩:=a.1 12 z t (G5 C9) q
  have:=(D0.1 e).1;show 13<=_;omega
 refine PA (by decide) (by decide) (ZM a f (by decide) ?_ ?_)
 .have e:(kN.all fun r=>Nat.blt r.1 gl)=true:=C9;exact fun r hr=>A1 (D5.1 e r hr)
 .intro r hr;unfold kN at hr;rcases B3.1 hr with rfl|hr
  .exact b
  rcases B3.1 hr with rfl|hr
  .exact c
  rcases B3.1 hr with rfl|hr
  .exact m
  rcases B3.1 hr with rfl|hr
  .exact j
  rcases B3.1 hr with rfl|hr
  .exact l
  rcases B3.1 hr with rfl|hr
  .exact o
  rcases B3.1 hr with rfl|hr
  .exact r1
  rcases B3.1 hr with rfl|hr
  .exact s
  rcases B3.1 hr with rfl|hr
  .exact p
  cases hr
def own:ownKnob Tryz.prog.godebug=none:=C9
def xU:laidOutB Tryz.prog=true:=C9
noncomputable def uG(os:Os):World:=World.laidAll Tryz.prog os Rows.keymapParsesRow.laid
def A14(os:Os):laidMet Tryz.prog Rows.keymapParsesRow.laid ((uG os).forCall (fun _ _=>0) ⟨#[],#[.string ⟨#[]⟩,.agg #[.int .u8 0,.int .u8 0,.int .u8 0,.int .u8 0,.int .u8 0,.int .u8 0,.int .u8 0,.int .u32 0,.string ⟨#[]⟩,.slice none 0 0,.slice none 0 0],.int .u16 0,.int .u8 0],[]⟩).memory :=
 laidMet_laidAll _ C9 C9
def wS{H:Type}{enc:TypeId×Value->H}{C:Checked}{os:Os}{f:FuncId}{fn:Func}{s:OpenSpec}{conds:List PathCond}{apart:Bool}{laid:List (String×DataW Unit)}(modest:Bool)(w0:World)(args:Array Value)(c:w0.os=os)
  (hv:(w0.forCall (fun _ _=>0) ⟨#[],args,[]⟩).variablesZipB C.prog=true)
  (hr:((w0.forCall (fun _ _=>0) ⟨#[],args,[]⟩).heap.toList.drop C.prog.globals.size).take ((begin C.prog (fun _ _=>0) default).world.heap.size-C.prog.globals.size) =
    (begin C.prog (fun _ _=>0) default).world.heap.toList.drop C.prog.globals.size)
  (a:Input.okWideB C.prog (w0.forCall (fun _ _=>0) ⟨#[],args,[]⟩) f ⟨#[],args,[]⟩=true)
  (b:s.preRow enc C.prog fn conds apart laid (w0.forCall (fun _ _=>0) ⟨#[],args,[]⟩).memory args) :
  ∃ (w:World) (tape:Tape) (i:Input),w.os=os/\(w.forCall tape i).Shaped C.prog/\i.vars=[]/\Input.okWide C.prog (w.forCall tape i) .any w.heap.size f i /\
   s.preRow enc C.prog fn conds apart laid (w.forCall tape i).memory i.args/\({ modest:=modest }:Assume).holds C.prog (lone (Frame.enter C.prog f i.args .normal) [] (w.forCall tape i)):=by
 exact⟨w0,fun _ _=>0,⟨#[],args,[]⟩,c,World.shaped_of_ZipB hv hr,(Input.okWide_of_okWideB (base:=0) a).1,(Input.okWide_of_okWideB a).2,b,by
  simp only[Assume.holds];exact⟨by simp,by simp,fun _=>Modest.zero,by simp,by simp⟩⟩
def B1I(os:Os){H:Type}(enc:TypeId×Value->H):∃ places,DataW.whole enc Tryz.prog ((uG os).forCall (fun _ _=>0) ⟨#[],#[.string ⟨#[]⟩,.agg #[.int .u8 0,.int .u8 0,.int .u8 0,.int .u8 0,.int .u8 0,.int .u8 0,.int .u8 0,.int .u32 0,.string ⟨#[]⟩,.slice none 0 0,.slice none 0 0],.int .u16 0,.int .u8 0],[]⟩).memory Tryz.f5.params.toList Rows.keymapParsesSpec.vars false [.string ⟨#[]⟩,.agg #[.int .u8 0,.int .u8 0,.int .u8 0,.int .u8 0,.int .u8 0,.int .u8 0,.int .u8 0,.int .u32 0,.string ⟨#[]⟩,.slice none 0 0,.slice none 0 0],.int .u16 0,.int .u8 0] 8=some ([.lit (.string []),.agg [.agg [.lit (.int .u8 0),.lit (.int .u8 0),.lit (.int .u8 0),.lit (.int .u8 0),.lit (.int .u8 0),.lit (.int .u8 0),.lit (.int .u8 0),.lit (.int .u32 0),.lit (.string [])],.nil,.nil],.lit (.int .u16 0),.lit (.int .u8 0)],[],places) :=
 ⟨[],by kernel_rfl⟩
def A3Y(H:Type)(enc:TypeId×Value->H)(W:World)(base:Nat)(args:Array Value)(X gs:List (DataW H))(before:List MemPlace)
  (b:∀ (j:Nat) t v,Tryz.f5.params[j]? = some t->args[j]? = some v->Value.okWide Tryz.prog W .any base t v)
  (hW:DataW.Whole enc Tryz.prog Tryz.f5.params.toList Rows.keymapParsesSpec.vars false W args.toList X gs before) (hL:laidMetH Tryz.prog Rows.keymapParsesRow.laid W) (T:W.ShapedOpen Tryz.prog)
  (g:(DataW.weightsEach Tryz.prog (Tryz.f5.params.toList++(OpenSpec.ofChange Rows.keymapParsesSpec).bare.plain.varTypes Tryz.prog) (X++gs)).all (·<=reachBytes)=true) :
  Calls Tryz.prog 5 args W fun e W'=>∃ v,e=.returned v/\Rows.keymapParsesSpec.post enc Tryz.prog Tryz.f5 false true false false W args v W':=by
 have L:=hW;obtain⟨p,q,K,hV,rfl,an,ai⟩:=hW;have hA:DataW.TrodAll enc Tryz.prog W 0 (fun _=>true) true Tryz.f5.params.toList args.toList X p:=K;rw[Tryz.params5]at hA b g;obtain⟨v0,aj,d0,ao,p0,q0,ay,rfl,rfl,h0,av⟩:=trodAll_cons hA;obtain⟨v1,al,d1,aq,p1,M,rfl,rfl,rfl,h1,U⟩:=trodAll_cons av;obtain⟨v2,vs2,d2,ah,p2,q2,rfl,rfl,rfl,S,az⟩:=trodAll_cons U;obtain⟨v3,ak,d3,ar,p3,q3,rfl,rfl,rfl,h3,aw⟩:=trodAll_cons az;obtain⟨rfl,rfl,rfl⟩:=trodAll_nil aw;obtain rfl:args=#[v0,v1,v2,v3]:=by cases args;simp_all
 obtain⟨rfl,rfl⟩:=trodVars_none hV;have Z:∀ x ∈ p0,x.block<W.heap.size:=by obtain⟨m,hm⟩:=h0;exact DataW.trod_lt m _ _ _ hm
 have Y:bO Tryz.prog 9 d0:=U8 (i:=0) g rfl rfl;obtain⟨a0,s0,q0⟩:=A3q (c:=xB) (RdC.str' C9) C9 (b 0 9 v0 rfl rfl) h0 Y;try simp only at q0
 have ax:∀ x ∈ p1,x.block<W.heap.size:=by obtain⟨m,hm⟩:=h1;exact DataW.trod_lt m _ _ _ hm
 have V:bO Tryz.prog 28 d1:=U8 (i:=1) g rfl rfl;obtain⟨⟨C,E,u,G,n,I,F,D,A,B,f⟩,s1,M⟩:=B27 (r:=(rC (Q7 .u8) (rC (Q7 .u8) (rC (Q7 .u8) (rC (Q7 .u8) (rC (Q7 .u8) (rC (Q7 .u8) (rC (Q7 .u8) (rC (Q7 .u32) (rC xB (rC (cSl rD) (r1 (cSl rB))))))))))))) (tg:=[4,4,4,4,4,4,4,6,9,19,11]) (RdR.of (k:=12) (ts:=[5,5,5,5,5,5,5,22,9,25,26]) C9 (RdL.cons (RdC.u8 C9) (RdL.cons (RdC.u8 C9) (RdL.cons (RdC.u8 C9) (RdL.cons (RdC.u8 C9) (RdL.cons (RdC.u8 C9) (RdL.cons (RdC.u8 C9) (RdL.cons (RdC.u8 C9) (RdL.cons (RdC.u32 C9) (RdL.cons (RdC.str' C9) (RdL.cons (RdC.slice' (r:=rD) (e:=24) 32 C9 C9 (by decide) C9 (by decide) (RdR.of (k:=12) (ts:=[5,5,5,5,5,5,5,22,9]) C9 (RdL.cons (RdC.u8 C9) (RdL.cons (RdC.u8 C9) (RdL.cons (RdC.u8 C9) (RdL.cons (RdC.u8 C9) (RdL.cons (RdC.u8 C9) (RdL.cons (RdC.u8 C9) (RdL.cons (RdC.u8 C9) (RdL.cons (RdC.u32 C9) (RdL.nil1 (RdC.str' C9)))))))))))) (RdL.nil1 (RdC.slice' (r:=rB) (e:=5) 1 C9 C9 (by decide) C9 (by decide) (RdR.of (k:=12) (ts:=[5]) C9 (RdL.nil1 (RdC.u8 C9)))))))))))))))) (fun _=>by simp only[rC,r1,C5,G1,cSl,Q7,VT,xB,A8_];rfl) (QB C9 (b 1 28 v1 rfl rfl)) h1 V;try simp only at M
 have R:∀ x ∈ p2,x.block<W.heap.size:=by obtain⟨m,hm⟩:=S;exact DataW.trod_lt m _ _ _ hm
 have N:bO Tryz.prog 53 d2:=U8 (i:=2) g rfl rfl;obtain⟨a2,s2,q2⟩:=A3q (c:=(Q7 .u16)) (RdC.u16 C9) C9 (b 2 53 v2 rfl rfl) S N;try simp only at q2
 have au:∀ x ∈ p3,x.block<W.heap.size:=by obtain⟨m,hm⟩:=h3;exact DataW.trod_lt m _ _ _ hm
 have P:bO Tryz.prog 5 d3:=U8 (i:=3) g rfl rfl;obtain⟨a3,s3,q3⟩:=A3q (c:=(Q7 .u8)) (RdC.u8 C9) C9 (b 3 5 v3 rfl rfl) h3 P;try simp only at q3
 clear K;simp only[N5]at L;have Q:ShL (MN W) [.s 9,.a [4,4,4,4,4,4,4,6,9,19,11],.s 5,.s 4] [.str a0,.int .u8 C,.int .u8 E,.int .u8 u,.int .u8 G,.int .u8 n,.int .u8 I,.int .u8 F,.int .u32 D,.str A,E8 rD B,E8 rB f,.int .u16 a2,.int .u8 a3] [v0,v1,v2,v3]:=(.cons s0 (.cons s1 (.cons s2 (.cons s3 .nil))));obtain⟨_,hc⟩:=B1o (start T hL) [.str a0,.int .u8 C,.int .u8 E,.int .u8 u,.int .u8 G,.int .u8 n,.int .u8 I,.int .u8 F,.int .u32 D,.str A,E8 rD B,E8 rB f,.int .u16 a2,.int .u8 a3] [.bool true] W _ (MN W) Q (A4_ _ _ _ _ _ _ _ _ _ _ _ _ _ _ ⟨by omega,by omega,by omega,by omega,by omega,(by have z:=M.2.2.2.2.2.2.2.2.2.1;have y:=M.2.2.2.2.2.2.2.2.2.2;exact⟨by have:=z.1;omega,by have:=y.1;omega,fun d hd=>(by have w:=z.2 d hd;unfold Dok;omega),fun x hx=>⟨(y.2 x hx).1,(by have:=(y.2 x hx).2;omega)⟩,(by simp only[Dok];omega)⟩)⟩) (fun k o h=>h) (fun k o h=>h);refine hc.mono fun e W' ⟨r,R',hr,he,J,_⟩=>?_
 have O:=V6 (vs2:=[.bool true]) hr rfl;subst O;subst he;have l:Below W.heap.size W W':=⟨J.os.1,J.os.2.1,J.os.2.2,J.size,J.keep⟩;exact⟨_,rfl,_,_,_,[],_,[],L,trodAll_mk1 (shut_bool Tryz.underlying4 _),(trodAll_cons_mk (Below.trod xU C9 (G5 C9) h0 l Z) (trodAll_cons_mk (Below.trod xU C9 (G5 C9) h1 l ax) (trodAll_cons_mk (Below.trod xU C9 (G5 C9) S l R) (trodAll_cons_mk (Below.trod xU C9 (G5 C9) h3 l au) trodAll_mk0)))),rfl,J.kept _,fun h=>by cases h⟩
def A9u(os:Os)(started:os.Started)(H:Type)(enc:TypeId×Value->H)(F:Stop.Interp) :
  ReturnsInHanded {} Tryz.checked os 5 .any ((OpenSpec.ofChange Rows.keymapParsesSpec).preRow enc Tryz.prog Tryz.f5 Rows.keymapParsesRow.domain false Rows.keymapParsesRow.laid) (((OpenSpec.ofChange Rows.keymapParsesSpec).at F).post enc Tryz.prog Tryz.f5 false true false false):=by
 obtain⟨places,hx⟩:=B1I os enc;refine returnsInHanded_of_row (C:=Tryz.checked) (s:=OpenSpec.ofChange Rows.keymapParsesSpec) own started C9 Tryz.func5
  (wS (enc:=enc) (C:=Tryz.checked) false (uG os) #[.string ⟨#[]⟩,.agg #[.int .u8 0,.int .u8 0,.int .u8 0,.int .u8 0,.int .u8 0,.int .u8 0,.int .u8 0,.int .u32 0,.string ⟨#[]⟩,.slice none 0 0,.slice none 0 0],.int .u16 0,.int .u8 0] (World.laidAll_os _ _ _) C9 C9 C9
    (OpenSpec.preRow_of_cond 8 hx C9 (fun k e=>by cases e) C9 (A14 os))) ?_
 intro W base args g gs before a d _ _ c f b _;exact A3Y H enc W base args g gs before a d f b c
def B4X:Rows.KeymapParsesSaid :=
 OpenClaim.holds_of_cond 5 Tryz.f5 rfl rfl rfl rfl rfl rfl rfl ⟨rfl,rfl,rfl,rfl,rfl⟩ rfl rfl rfl rfl rfl C9 Tryz.func5 C9
  (G5 C9) (by unfold Func.isWrapper;first|(rw[A8 (by decide +kernel)];kernel_rfl)|(rw[A6 (by decide +kernel)];exact⟨rfl,rfl⟩))
  (fun os started H enc _ F=>by rw[OpenClaim.pre_eq_preRow];exact A9u os started H enc F)
def plain(f:FuncId)(fn:Func)(d:Tryz.pinned.checked.prog.funcNamed "fenestra/fenestralaw39.KeymapParses"=some f)(b:Tryz.pinned.checked.prog.funcs[f]? = some fn) :
  true=Tryz.pinned.checked.prog.looks []/\∀ (j:Nat) t,fn.params[j]? = some t->Tryz.pinned.checked.prog.wantsStandIn t=false:=by
 obtain rfl:f=5:=A9 ((show Tryz.prog.funcNamed "fenestra/fenestralaw39.KeymapParses"=some 5 by kernel_rfl).symm.trans d) |>.symm;obtain rfl:fn=Tryz.f5:=(A9 (Tryz.func5.symm.trans b)).symm;refine⟨by kernel_rfl,fun j t e=>?_⟩;have a:(Tryz.f5.params.toList.all fun t=>!Tryz.prog.wantsStandIn t)=true:=C9
 have:=D5.1 a t (Array.mem_def.1 (Array.mem_of_getElem? e));have c:Tryz.prog.wantsStandIn t=false:=by simpa using this
 exact c
theorem proved:Rows.KeymapParsesCardSaid :=
 Claim7.holds_tied_plain_at .later [] _ _ _ _ B4X (fun _ h=>by cases h) C9 (fun _ h=>by cases h) keymapParses_row_tie rfl ⟨rfl,rfl⟩ C9 rfl plain C9
#print axioms proved
end Go.Proofs.YtbbicpheoakeeaaGreatDoor.keymapParsesDone
