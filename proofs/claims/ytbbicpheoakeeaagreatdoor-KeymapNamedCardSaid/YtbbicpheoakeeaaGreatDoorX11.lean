import Derived.Test.YtbbicpheoakeeaaGreatDoorX10
import Derived.Lib.Bytealg
set_option linter.all false
set_option maxRecDepth 100000
set_option maxHeartbeats 4000000
namespace Go.Proofs.YtbbicpheoakeeaaGreatDoor
variable {p x y:Xt}{a b l:List Gt}{i j m v:Int}{a8 s sep u z:B6}
section
open Go Go.Sx Go.Proofs.Tryz
def eqG(x y:Gt):Bool:=(x.1 == y.1) && ((x.2.1 == y.2.1) && ((x.2.2.1 == y.2.2.1) && ((x.2.2.2.1 == y.2.2.2.1) && ((x.2.2.2.2.1 == y.2.2.2.2.1) && ((x.2.2.2.2.2.1 == y.2.2.2.2.2.1) && ((x.2.2.2.2.2.2.1 == y.2.2.2.2.2.2.1) && ((x.2.2.2.2.2.2.2.1 == y.2.2.2.2.2.2.2.1) && ((x.2.2.2.2.2.2.2.2.1 == y.2.2.2.2.2.2.2.2.1) && ((x.2.2.2.2.2.2.2.2.2 == y.2.2.2.2.2.2.2.2.2) && true)))))))))
def A8f{α:Type}{l r:List α}(h:l.length=r.length):(l.zip r).length=l.length:=by rw[List.length_zip];omega
def neG(p:Gt×Gt):Bool:=!eqG p.1 p.2
def A1G(a b:List Gt):Bool:=decide (a.length=b.length) && (J4 neG (a.zip b) 0).isNone
def CI(x y:Xt)(a b:List Gt):Bool:=eqX x y && A1G a b
def A41(h:eqX x y=false):CI x y a b=false:=by unfold CI;rw[h];rfl
def A44(h:¬(a.length:Int)=b.length):CI x y a b=false:=by
 unfold CI A1G;rw[E0 A2,Bool.false_and,lK]
def A43(hx:eqX x y=true)(h:(a.length:Int)=b.length)(c:J4 neG (a.zip b) 0=none):CI x y a b=true:=by
 unfold CI A1G;rw[hx,I2 A2,c];rfl
def A42(c:J4 neG (a.zip b) 0=some j):CI x y a b=false:=by
 unfold CI A1G;rw[c,Option.isNone_some,lK,lK]
def A3U{p:Gt×Gt}(h:eqG p.1 p.2=false):neG p=true:=by unfold neG;rw[h];rfl
def A3V{p:Gt×Gt}(h:eqG p.1 p.2=true):neG p=false:=by unfold neG;rw[h];rfl
def A8g{b:Bool}(h:(!b)=false):b=true:=by cases b<;>first|rfl|cases h
def A8h{b:Bool}(h:(!b)=true):b=false:=by cases b<;>first|rfl|cases h
noncomputable def A72:W3:=⟨_,fun c=>.nil⟩
def sP:List U->Option (Nat×List U)
 | [.int .i64 i,.int .i64 a1,.int .i64 a2,.int .i64 a3,.int .i64 a4,.int .i64 a5,.int .i64 a6,.int .i64 a7,.str a8,u_a,.int .i64 b1,.int .i64 b2,.int .i64 b3,.int .i64 b4,.int .i64 b5,.int .i64 b6,.int .i64 b7,.str b8,u_b]=>(Y8 rG u_a).bind fun a=>(Y8 rG u_b).bind fun b=>if 0<=i/\i<=((el a).length:Int)/\(el a).length=(el b).length/\((el a).length:Int)<=140737488351232/\0<=i then q8 (J4 neG (((el a).zip (el b)).drop i.toNat) i) [] (fun _=>[])else none
 | _=>none
def oR(i:Int)(o:Int)(a2:Int)(a3:Int)(a4:Int)(a5:Int)(t:Int)(f:Int)(a8:B6)(a:(Option (List (Int×Int×Int×Int×Int×Int×Int×B6×B6×Bool))))(e:Int)(n:Int)(g:Int)(r:Int)(w:Int)(d:Int)(q:Int)(k:B6)(b:(Option (List (Int×Int×Int×Int×Int×Int×Int×B6×B6×Bool))))(c:0<=i/\i<=((el a).length:Int)/\(el a).length=(el b).length/\((el a).length:Int)<=140737488351232/\0<=i):sP [.int .i64 i,.int .i64 o,.int .i64 a2,.int .i64 a3,.int .i64 a4,.int .i64 a5,.int .i64 t,.int .i64 f,.str a8,G6 rG a,.int .i64 e,.int .i64 n,.int .i64 g,.int .i64 r,.int .i64 w,.int .i64 d,.int .i64 q,.str k,G6 rG b]=q8 (J4 neG (((el a).zip (el b)).drop i.toNat) i) [] (fun _=>[]):=by
 simp only[sP,M3,J2];exact A9 c
def A20:V6:=⟨[(2,.pointer (some ⟨17,0,none⟩)),(3,.pointer (some ⟨18,0,none⟩)),(5,h 0 3)],[(17,.cells 35 [h 1 3,h 2 3,h 3 3,h 4 3,h 5 3,h 6 3,h 7 3,h 8 9,dat 19 9 20]),(18,.cells 35 [h 10 3,h 11 3,h 12 3,h 13 3,h 14 3,h 15 3,h 16 3,h 17 9,dat 20 18 20]),(19,.frz),(20,.frz)],19,[⟨.exit 0,[],[],0⟩,⟨.ret,[(4,.bool false)],[],0⟩]⟩
noncomputable def UR:Code:=(f25.body).getD .skip
noncomputable def A2w:Code:=match H7 [true,true,false,true,false] UR with|some (.loop x)=>x|_=>.skip
def A2z:f25.body=some UR:=rfl
def A2y:H7 [true,true,false,true,false] UR=some (.loop A2w):=D2
def A2x:Tr:=aD [h 9 20]<|cC 19 0 20 (.lt 8 (.inbs 10) [h3 0,h 9 20]<|.br 21 (.lt 3 (.get 10 0) [h 9 20,h3 0]<|.lt 3 (.get 10 1) [h 9 20,h3 0]<|.lt 3 (.get 10 2) [h 9 20,h3 0]<|.lt 3 (.get 10 3) [h 9 20,h3 0]<|.lt 3 (.get 10 4) [h 9 20,h3 0]<|.lt 3 (.get 10 5) [h 9 20,h3 0]<|.lt 3 (.get 10 6) [h 9 20,h3 0]<|.lt 9 (.get 10 7) [h 9 20,h3 0]<|.lt 9 (.get 10 8) [h 9 20,h3 0]<|.lt 8 (.get 10 9) [h 9 20,h3 0]<|.lt 8 (.inbs 10) [h3 0,h 18 20]<|.br 32 (.lt 3 (.get 10 0) [h 18 20,h3 0]<|.lt 3 (.get 10 1) [h 18 20,h3 0]<|.lt 3 (.get 10 2) [h 18 20,h3 0]<|.lt 3 (.get 10 3) [h 18 20,h3 0]<|.lt 3 (.get 10 4) [h 18 20,h3 0]<|.lt 3 (.get 10 5) [h 18 20,h3 0]<|.lt 3 (.get 10 6) [h 18 20,h3 0]<|.lt 9 (.get 10 7) [h 18 20,h3 0]<|.lt 9 (.get 10 8) [h 18 20,h3 0]<|.lt 8 (.get 10 9) [h 18 20,h3 0]<|.lt 8 (.eqs) [h3 22,h3 33,h3 23,h3 34,h3 24,h3 35,h3 25,h3 36,h3 26,h3 37,h3 27,h3 38,h3 28,h3 39,h 29 9,h 40 9,h 30 9,h 41 9,h 31 8,h 42 8]<|N3 43 44 (J8 1) (aA [h3 0,jI 1]<|.ret [jI (-1),h3 45,h3 1,h3 2,h3 3,h3 4,h3 5,h3 6,h3 7,h 8 9,h 9 20,h3 10,h3 11,h3 12,h3 13,h3 14,h3 15,h3 16,h 17 9,h 18 20])) (.no)) (.no)) (J8 0)
def UQ:List U->Nat
 | [.int .i64 i,.int .i64 a1,.int .i64 a2,.int .i64 a3,.int .i64 a4,.int .i64 a5,.int .i64 a6,.int .i64 a7,.str a8,u_a,.int .i64 b1,.int .i64 b2,.int .i64 b3,.int .i64 b4,.int .i64 b5,.int .i64 b6,.int .i64 b7,.str b8,u_b]=>(match Y8 rG u_a with|some a=>(match Y8 rG u_b with|some b=>(((el a).length:Int)-i).toNat|none=>0)|none=>0)
 | _=>0
def UP(i:Int)(n:Int)(a2:Int)(a3:Int)(a4:Int)(a5:Int)(r:Int)(e:Int)(a8:B6)(a:(Option (List (Int×Int×Int×Int×Int×Int×Int×B6×B6×Bool))))(d:Int)(k:Int)(f:Int)(q:Int)(t:Int)(c:Int)(o:Int)(g:B6)(b:(Option (List (Int×Int×Int×Int×Int×Int×Int×B6×B6×Bool)))):UQ [.int .i64 i,.int .i64 n,.int .i64 a2,.int .i64 a3,.int .i64 a4,.int .i64 a5,.int .i64 r,.int .i64 e,.str a8,G6 rG a,.int .i64 d,.int .i64 k,.int .i64 f,.int .i64 q,.int .i64 t,.int .i64 c,.int .i64 o,.str g,G6 rG b]=(((el a).length:Int)-i).toNat:=by
 simp only[UQ,M3]
def A6P{G}(r:M6 G):∀ (E:Nat->U) (base:Nat),@W1 ⟨E,G⟩ prog base gl f25.ntmps A2w (U3 prog gl n0 21 A20 sP):=by
 refine u7 (dep:=60) (f:=25) (n0:=n0) (nB:=21) (H0:=H0) UQ A2x (cxg (A72.2 r) .nil) r func25 A2z A2y D2 D2 D2 ?_;intro us d outs c;have L:=c;unfold sP at c;split at c
 .skip;rename_i i F a2 a3 a4 a5 J A a8 N h D B I K w H C M;have o:=D9.1 c;clear c;obtain⟨a,k,c⟩:=o;replace k:=R8 k;subst k;have q:=D9.1 c;clear c;obtain⟨b,n,c⟩:=q;replace n:=R8 n;subst n;split at c
  .rename_i t;clear c L;have O:=A8f t.2.2.1;refine⟨rfl,?_⟩;unfold A2x;refine s0L ?_;show Tr.sav _ _ (.cons 18 _ (.cons 17 _ (.cons 16 _ (.cons 15 _ (.cons 14 _ (.cons 13 _ (.cons 12 _ (.cons 11 _ (.cons 10 _ (.cons 9 _ (.cons 8 _ (.cons 7 _ (.cons 6 _ (.cons 5 _ (.cons 4 _ (.cons 3 _ (.cons 2 _ (.cons 1 _ (.cons 0 _ (.nil))))))))))))))))))));refine Wk.s ?_;repeat (first|refine w4 (fun g=>?_) fun g=>?_|refine w4B (fun g=>?_) fun g=>?_|refine mR ?_|refine w1 (.get 10 0) (u:=.int .i64 _) (e:=J5 rfl A2 A2 rfl) (k':=?_)|refine w1 (.get 10 1) (u:=.int .i64 _) (e:=J5 rfl A2 A2 rfl) (k':=?_)|refine w1 (.get 10 2) (u:=.int .i64 _) (e:=J5 rfl A2 A2 rfl) (k':=?_)|refine w1 (.get 10 3) (u:=.int .i64 _) (e:=J5 rfl A2 A2 rfl) (k':=?_)|refine w1 (.get 10 4) (u:=.int .i64 _) (e:=J5 rfl A2 A2 rfl) (k':=?_)|refine w1 (.get 10 5) (u:=.int .i64 _) (e:=J5 rfl A2 A2 rfl) (k':=?_)|refine w1 (.get 10 6) (u:=.int .i64 _) (e:=J5 rfl A2 A2 rfl) (k':=?_)|refine w1 (.get 10 7) (u:=.str _) (e:=J5 rfl A2 A2 rfl) (k':=?_)|refine w1 (.get 10 8) (u:=.str _) (e:=J5 rfl A2 A2 rfl) (k':=?_)|refine w1 (.get 10 9) (u:=.bool _) (e:=J5 rfl A2 A2 rfl) (k':=?_)|refine cI ?_|refine yJ ?_|(refine w7 [.int .i64 _] ?_;rotate_left)|refine jF ?_|refine aC ?_|(refine w8 ?_;first|omega)|refine zG ?_|refine gU ?_|refine w1 (.eqs) (e:=rfl) (k':=?_)|(refine w7 [.int .i64 _,.int .i64 _,.int .i64 _,.int .i64 _,.int .i64 _,.int .i64 _,.int .i64 _,.int .i64 _,.int .i64 _,.str _,G6 rG _,.int .i64 _,.int .i64 _,.int .i64 _,.int .i64 _,.int .i64 _,.int .i64 _,.int .i64 _,.str _,G6 rG _] ?_;rotate_left))
   all_goals first
    | refine U7 ?_ ?_
      .rw[oR (i+1) F a2 a3 a4 a5 J A a8 a h D B I K w H C b ⟨A2,A2,A2,A2,A2⟩,oR i F a2 a3 a4 a5 J A a8 a h D B I K w H C b t,aV (i:=i) A2 A2 (by rw[ND A2 A2 A2];first|exact A3U ‹_›|exact A3V ‹_›|assumption|(simp only[neG];simp_all;done))]
      .rw[UP,UP];omega
    | refine K5 (d:=0) ?_
      rw[oR i F a2 a3 a4 a5 J A a8 a h D B I K w H C b t,dG A2];rfl
    | refine K5 (d:=1) ?_
      rw[oR i F a2 a3 a4 a5 J A a8 a h D B I K w H C b t,dF (i:=i) A2 A2 (by rw[ND A2 A2 A2];first|exact A3U ‹_›|exact A3V ‹_›|assumption|(simp only[neG];simp_all;done))];rfl
  .cases c
 .cases c
noncomputable def A8Y:List LpE:=(25,([true,true,false,true,false],U3 prog gl n0 21 A20 sP))::[]
def A0m{G}(c:M6 G):y5 prog G gl A8Y:=.cons func25 A2z A2y (A6P c) .nil
noncomputable def A6D:W3:=⟨_,fun c=>.nil⟩
def UW:List U->Option (Nat×List U)
 | [.int .i64 a1,.int .i64 a2,.int .i64 a3,.int .i64 a4,.int .i64 a5,.int .i64 a6,.int .i64 a7,.str a8,u_a,.int .i64 b1,.int .i64 b2,.int .i64 b3,.int .i64 b4,.int .i64 b5,.int .i64 b6,.int .i64 b7,.str b8,u_b]=>(Y8 rG u_a).bind fun a=>(Y8 rG u_b).bind fun b=>if((el a).length:Int)<=140737488351232/\((el b).length:Int)<=140737488351232 then some (0,[.bool (CI (a1,a2,a3,a4,a5,a6,a7,a8) (b1,b2,b3,b4,b5,b6,b7,b8) (el a) (el b))])else none
 | _=>none
def UV:Tr:=.lt 8 (.eqs) [h3 0,h3 9,h3 1,h3 10,h3 2,h3 11,h3 3,h3 12,h3 4,h3 13,h3 5,h3 14,h3 6,h3 15,h 7 9,h 16 9]<|N3 18 19 G0 (aD [h 8 20]<|aD [h 17 20]<|aN [h3 20,h3 21]<|.br 22 (G0) (.lp sP [jI 0,h3 0,h3 1,h3 2,h3 3,h3 4,h3 5,h3 6,h 7 9,h 8 20,h3 9,h3 10,h3 11,h3 12,h3 13,h3 14,h3 15,h 16 9,h 17 20] 0 0 (.ret [.bool true]) (.lp sP [jI 0,h3 0,h3 1,h3 2,h3 3,h3 4,h3 5,h3 6,h 7 9,h 8 20,h3 9,h3 10,h3 11,h3 12,h3 13,h3 14,h3 15,h 16 9,h 17 20] 1 0 (G0) (.no))))
def A45{G}(n:M6 G):M0 prog G 25 [.a [3,3,3,3,3,3,3,9,20],.a [3,3,3,3,3,3,3,9,20]] UW [.s 8]:=by
 refine G9 (d:=60) UV (cxg (A6D.2 n) (A0m n)) n ⟨f25,_,func25,rfl⟩ D2 D2 ?_;intro us outs c;unfold UW at c;split at c
 .skip;rename_i F a2 a3 a4 a5 J B a8 t A E C I K h H D r;have o:=D9.1 c;clear c;obtain⟨a,f,c⟩:=o;replace f:=R8 f;subst f;have q:=D9.1 c;clear c;obtain⟨b,k,c⟩:=q;replace k:=R8 k;subst k;split at c
  .rename_i w;cases c;unfold UV;refine s0L ?_;show Tr.sav _ _ (.cons 17 _ (.cons 16 _ (.cons 15 _ (.cons 14 _ (.cons 13 _ (.cons 12 _ (.cons 11 _ (.cons 10 _ (.cons 9 _ (.cons 8 _ (.cons 7 _ (.cons 6 _ (.cons 5 _ (.cons 4 _ (.cons 3 _ (.cons 2 _ (.cons 1 _ (.cons 0 _ (.nil)))))))))))))))))));refine Wk.s ?_;repeat (first|(refine w7 [.bool _] ?_;rotate_left)|refine w4 (fun g=>?_) fun g=>?_|refine w4B (fun g=>?_) fun g=>?_|refine cI ?_|refine yJ ?_|refine zG ?_|refine w1 (.eqs) (e:=rfl) (k':=?_)|refine CC ?_|(refine w6 sP (oR _ _ _ _ _ _ _ _ _ _ _ _ _ _ _ _ _ _ _ ⟨F1,A2,A2,A2,F1⟩) (h0:=fun g=>?_) (h1:=fun v g=>?_);skip;rotate_left;skip;rotate_right))
   all_goals
    refine l1 ?_;symm;first
    | exact A41 (A8h ‹_›)
    | exact A44 A2
    | exact A43 (A8g ‹_›) A2 ‹_›
    | exact A42 ‹_›
  .cases c
 .cases c
def fG(x:Xt)(l:List Gt):Gt:=(l.find? (gQ x)).getD default
def stK(e is d:Bool)(c:B6)(s:Int):Int×Int×B6×Int :=
 if s=1/\e=true then(0,0,[],0)else if s=1/\is=true/\d=false then(0,1,c,0)else if s≠0/\is=true/\d=true then(2,1,c,0)else if s=1 then(0,2,[],0)else if e=true then(1,2,[],0)else(0,0,[],0)
def stS(p:Xt)(l:List Gt)(s:Int)(x:Xt):Int×Int×B6×Int :=
 if ¬kmP p l then(0,0,[],490)else if s<0∨2<s then(0,0,[],2)else if ¬xP x then(0,0,[],430)else if x.1≠1 then(s,0,[],0)else stK (eqX x p) (l.any (gQ x)) (gR (fG x l)) (gC (fG x l)) s
def l4{a b d:Int}{c:B6}{r:Int×Int×B6×Int}(h:r=(a,b,c,d)):[U.int .i64 a,.int .i64 b,.str c,.int .i64 d]=[U.int .i64 r.1,.int .i64 r.2.1,.str r.2.2.1,.int .i64 r.2.2.2]:=by subst h;rfl
def XO(h:¬rW p l≠0):kmP p l:=by
 by_cases k:kmP p l
 .exact k
 .rw[nN k]at h;exact absurd F1 h
def A63(h:rW p l≠0):¬kmP p l:=fun k=>h (ZL k)
def TB(h:¬(if xP x then(0:Int)else 430)≠0):xP x:=by
 by_cases k:xP x
 .exact k
 .rw[A7 k]at h;exact absurd F1 h
def A4j(h:(if xP x then(0:Int)else 430)≠0):¬xP x:=fun k=>by rw[A9 k]at h;exact h rfl
def A8w{s:Int}(h:rW p l≠0):stS p l s x=(0,0,[],rW p l):=by
 unfold stS;rw[A9 (A63 h),nN (A63 h)]
def A6L{s:Int}(h:¬kmP p l):stS p l s x=(0,0,[],490):=by
 unfold stS;rw[A9 h]
def A8v{s:Int}(h:kmP p l)(c:s<0∨2<s):stS p l s x=(0,0,[],2):=by
 unfold stS;rw[A7 (fun k=>k h),A9 c]
def A8u{s:Int}(h:kmP p l)(c:¬(s<0∨2<s))(h3:(if xP x then(0:Int)else 430)≠0):stS p l s x=(0,0,[],if xP x then(0:Int)else 430):=by
 unfold stS;rw[A7 (fun k=>k h),A7 c,A9 (A4j h3),A7 (A4j h3)]
def A8t{s:Int}(h:kmP p l)(d:¬(s<0∨2<s))(h3:¬(if xP x then(0:Int)else 430)≠0)(c:x.1≠1):stS p l s x=(s,0,[],0):=by
 unfold stS;rw[A7 (fun k=>k h),A7 d,A7 (fun k=>k (TB h3)),A9 c]
def A8s{s:Int}(h:kmP p l)(d:¬(s<0∨2<s))(h3:¬(if xP x then(0:Int)else 430)≠0)(c:¬x.1≠1):stS p l s x=stK (eqX x p) (l.any (gQ x)) (gR (fG x l)) (gC (fG x l)) s:=by
 unfold stS;rw[A7 (fun k=>k h),A7 d,A7 (fun k=>k (TB h3)),A7 c]
def XU{g:Gt}:kQ x (pOf g)=gQ x g:=by
 rw[J3,A1r];unfold gQ;rw[QC];exact⟨fun h=>h.symm,fun h=>h.symm⟩
def PJ(h:kmP p l):(el (ixS (some []) l)).find? (kQ x)=(l.find? (gQ x)).map pOf:=by
 rw[PI (l:=l) (R:=[]) (by simpa using h.2.2.2.1),G2,Q5,List.find?_map];congr 1;congr 1
 funext g;exact XU
def pC(h:kmP p l):((el (ixS (some []) l)).find? (kQ x)).elim [] (fun a=>gC (pG a))=gC (fG x l):=by
 rw[PJ h];unfold fG;cases l.find? (gQ x)<;>rfl
def pR(h:kmP p l):((el (ixS (some []) l)).find? (kQ x)).elim false (fun a=>gR (pG a))=gR (fG x l):=by
 rw[PJ h];unfold fG;cases l.find? (gQ x)<;>rfl
def pH(h:kmP p l):(el (ixS (some []) l)).any (kQ x)=l.any (gQ x):=by
 rw[PI (l:=l) (R:=[]) (by simpa using h.2.2.2.1),G2,Q5,List.any_map];congr 1;funext g;exact XU
noncomputable def A0q:List LpE:=[(41,([true,true,false,true,false],U3 prog gl n0 21 PH kM))]
def JY{G}(c:M6 G):y5 prog G gl A0q:=(.cons func41 PG PF (YH c) .nil)
noncomputable def A8D:W3:=⟨_,fun c=>(.cons (XN c) (.cons (XR c) .nil))⟩
def A3c:List U->Option (Nat×List U)
 | [.int .i64 p1,.int .i64 p2,.int .i64 p3,.int .i64 p4,.int .i64 p5,.int .i64 p6,.int .i64 p7,.str p8,u_l,.int .i64 s,.int .i64 x1,.int .i64 x2,.int .i64 x3,.int .i64 x4,.int .i64 x5,.int .i64 x6,.int .i64 x7,.str x8]=>(Y8 rG u_l).bind fun l=>if -9223372036854775808<=p3/\p3<=9223372036854775807/\(p8.length:Int)<=140737488351232/\((el l).length:Int)<=140737488351232/\(∀ g ∈ el l,gOk g) /\ -9223372036854775808<=x3/\x3<=9223372036854775807/\(x8.length:Int)<=140737488351232 then some (0,[.int .i64 ((stS (p1,p2,p3,p4,p5,p6,p7,p8) (el l) s (x1,x2,x3,x4,x5,x6,x7,x8)).1),.int .i64 ((stS (p1,p2,p3,p4,p5,p6,p7,p8) (el l) s (x1,x2,x3,x4,x5,x6,x7,x8)).2.1),.str ((stS (p1,p2,p3,p4,p5,p6,p7,p8) (el l) s (x1,x2,x3,x4,x5,x6,x7,x8)).2.2.1),.int .i64 ((stS (p1,p2,p3,p4,p5,p6,p7,p8) (el l) s (x1,x2,x3,x4,x5,x6,x7,x8)).2.2.2)])else none
 | _=>none
def uD(a0:Nat)(c:Nat)(a2:Nat)(d e:Tr):Tr:=.lt 8 (.eqs) [h3 c,h3 a0,h3 (c+1),h3 (a0+1),h3 (c+2),h3 (a0+2),h3 (c+3),h3 (a0+3),h3 (c+4),h3 (a0+4),h3 (c+5),h3 (a0+5),h3 (c+6),h3 (a0+6),h (c+7) 9,h (a0+7) 9]<|.br a2 d e
def LX(n:Nat):Tr:=uD 0 10 n (.ret [jI 1,jI 2,.string ⟨⟨[]⟩⟩,jI 0]) (.ret [jI 0,jI 0,.string ⟨⟨[]⟩⟩,jI 0])
def XJ(n:Nat):Tr:=.br 38 (.br 37 (.ret [jI 2,jI 1,h 36 9,jI 0]) (LX n)) (LX n)
def A3b:Tr:=.fn tA [h3 0,h3 1,h3 2,h3 3,h3 4,h3 5,h3 6,h 7 9,h 8 20] 1<|cD 18 19 0 (.ret [jI 0,jI 0,.string ⟨⟨[]⟩⟩,h3 18]) (aL [h3 9,jI 0]<|.br 20 (.ret [jI 0,jI 0,.string ⟨⟨[]⟩⟩,jI 2]) (aG [h3 9,jI 2]<|.br 21 (.ret [jI 0,jI 0,.string ⟨⟨[]⟩⟩,jI 2]) (.fn pL [h3 10,h3 11,h3 12,h3 13,h3 14,h3 15,h3 16,h 17 9] 1<|cD 22 23 0 (.ret [jI 0,jI 0,.string ⟨⟨[]⟩⟩,h3 22]) (cD 10 24 1 (.ret [h3 9,jI 0,.string ⟨⟨[]⟩⟩,jI 0]) (.dt 28 (.mk 18) []<|aD [h 8 20]<|.fn kM [h 8 20,h3 26,jI 0,h 25 28] 1<|.lt 3 (.mget 18 8 8) [h 27 28,jI 0,h3 10,h3 11,h3 12,h3 13,h3 14,h3 15,h3 16,h 17 9]<|.lt 3 (.mget 18 8 9) [h 27 28,jI 0,h3 10,h3 11,h3 12,h3 13,h3 14,h3 15,h3 16,h 17 9]<|.lt 3 (.mget 18 8 10) [h 27 28,jI 0,h3 10,h3 11,h3 12,h3 13,h3 14,h3 15,h3 16,h 17 9]<|.lt 3 (.mget 18 8 11) [h 27 28,jI 0,h3 10,h3 11,h3 12,h3 13,h3 14,h3 15,h3 16,h 17 9]<|.lt 3 (.mget 18 8 12) [h 27 28,jI 0,h3 10,h3 11,h3 12,h3 13,h3 14,h3 15,h3 16,h 17 9]<|.lt 3 (.mget 18 8 13) [h 27 28,jI 0,h3 10,h3 11,h3 12,h3 13,h3 14,h3 15,h3 16,h 17 9]<|.lt 3 (.mget 18 8 14) [h 27 28,jI 0,h3 10,h3 11,h3 12,h3 13,h3 14,h3 15,h3 16,h 17 9]<|.lt 9 (.mget 18 8 15) [h 27 28,.string ⟨⟨[]⟩⟩,h3 10,h3 11,h3 12,h3 13,h3 14,h3 15,h3 16,h 17 9]<|.lt 9 (.mget 18 8 16) [h 27 28,.string ⟨⟨[]⟩⟩,h3 10,h3 11,h3 12,h3 13,h3 14,h3 15,h3 16,h 17 9]<|.lt 8 (.mget 18 8 17) [h 27 28,.bool false,h3 10,h3 11,h3 12,h3 13,h3 14,h3 15,h3 16,h 17 9]<|.lt 8 (.mhas 18 8) [h 27 28,h3 10,h3 11,h3 12,h3 13,h3 14,h3 15,h3 16,h 17 9]<|I4 9 39 1 (uD 0 10 40 (.ret [jI 0,jI 0,.string ⟨⟨[]⟩⟩,jI 0]) (N3 38 41 (.ret [jI 0,jI 2,.string ⟨⟨[]⟩⟩,jI 0]) (N3 37 42 (.ret [jI 0,jI 1,h 36 9,jI 0]) (XJ 43)))) (I4 9 40 2 (XJ 41) (LX 41)))))))
def A6w{G}(B:M6 G):M0 prog G 14 [.a [3,3,3,3,3,3,3,9,20],.s 3,.a [3,3,3,3,3,3,3,9]] A3c [.s 3,.s 3,.s 9,.s 3]:=by
 refine G9 (d:=60) A3b (cxg (A8D.2 B) (JY B)) B ⟨f14,_,func14,rfl⟩ D2 D2 ?_;intro us outs A;unfold A3c at A;split at A
 .skip;rename_i N P L O M S K H V s o w c n t q k f;have D:=D9.1 A;clear A;obtain⟨l,h,A⟩:=D;replace h:=R8 h;subst h;split at A
  .rename_i C;cases A;unfold A3b;refine s0L ?_;show Tr.sav _ _ (.cons 17 _ (.cons 16 _ (.cons 15 _ (.cons 14 _ (.cons 13 _ (.cons 12 _ (.cons 11 _ (.cons 10 _ (.cons 9 _ (.cons 8 _ (.cons 7 _ (.cons 6 _ (.cons 5 _ (.cons 4 _ (.cons 3 _ (.cons 2 _ (.cons 1 _ (.cons 0 _ (.nil)))))))))))))))))));refine Wk.s ?_;repeat (first|refine w4 (fun g=>?_) fun g=>?_|refine w4B (fun g=>?_) fun g=>?_|(refine w7 [.int .i64 _,.int .i64 _,.str _,.int .i64 _] ?_;rotate_left)|refine w1 (.eqs) (e:=rfl) (k':=?_)|refine cI ?_|refine yJ ?_|refine CC ?_|refine fT ?_|refine w31 tA (e:=PA _ _ _ _ _ _ _ _ _ ⟨C.1,C.2.1,C.2.2.1,C.2.2.2.1,C.2.2.2.2.1⟩) (k':=?_)|refine gU ?_|refine KJ ?_|refine w31 pL (e:=DF _ _ _ _ _ _ _ _ ⟨A2,A2,A2⟩) (k':=?_)|refine w2 (.mk 18) (r:=rP) (e:=DV [] rfl F1 rfl) (k':=?_)|refine zG ?_|refine w31 kM (e:=pP _ _ _ _ ⟨rfl,F1,A2,A2,Option.some_ne_none _⟩) (k':=?_)|refine w1x (.mget 18 8 8) (e:=M2 (U.int .i64) (fun a=>(_ == a.1 && (_ == a.2.1 && (_ == a.2.2.1 && (_ == a.2.2.2.1 && (_ == a.2.2.2.2.1 && (_ == a.2.2.2.2.2.1 && (_ == a.2.2.2.2.2.2.1 && (_ == a.2.2.2.2.2.2.2.1 && true))))))))) (fun a=>a.2.2.2.2.2.2.2.2.1) rfl rfl (fun _=>rfl) (fun _=>rfl)) (k':=?_)|refine w1x (.mget 18 8 9) (e:=M2 (U.int .i64) (fun a=>(_ == a.1 && (_ == a.2.1 && (_ == a.2.2.1 && (_ == a.2.2.2.1 && (_ == a.2.2.2.2.1 && (_ == a.2.2.2.2.2.1 && (_ == a.2.2.2.2.2.2.1 && (_ == a.2.2.2.2.2.2.2.1 && true))))))))) (fun a=>a.2.2.2.2.2.2.2.2.2.1) rfl rfl (fun _=>rfl) (fun _=>rfl)) (k':=?_)|refine w1x (.mget 18 8 10) (e:=M2 (U.int .i64) (fun a=>(_ == a.1 && (_ == a.2.1 && (_ == a.2.2.1 && (_ == a.2.2.2.1 && (_ == a.2.2.2.2.1 && (_ == a.2.2.2.2.2.1 && (_ == a.2.2.2.2.2.2.1 && (_ == a.2.2.2.2.2.2.2.1 && true))))))))) (fun a=>a.2.2.2.2.2.2.2.2.2.2.1) rfl rfl (fun _=>rfl) (fun _=>rfl)) (k':=?_)|refine w1x (.mget 18 8 11) (e:=M2 (U.int .i64) (fun a=>(_ == a.1 && (_ == a.2.1 && (_ == a.2.2.1 && (_ == a.2.2.2.1 && (_ == a.2.2.2.2.1 && (_ == a.2.2.2.2.2.1 && (_ == a.2.2.2.2.2.2.1 && (_ == a.2.2.2.2.2.2.2.1 && true))))))))) (fun a=>a.2.2.2.2.2.2.2.2.2.2.2.1) rfl rfl (fun _=>rfl) (fun _=>rfl)) (k':=?_)|refine w1x (.mget 18 8 12) (e:=M2 (U.int .i64) (fun a=>(_ == a.1 && (_ == a.2.1 && (_ == a.2.2.1 && (_ == a.2.2.2.1 && (_ == a.2.2.2.2.1 && (_ == a.2.2.2.2.2.1 && (_ == a.2.2.2.2.2.2.1 && (_ == a.2.2.2.2.2.2.2.1 && true))))))))) (fun a=>a.2.2.2.2.2.2.2.2.2.2.2.2.1) rfl rfl (fun _=>rfl) (fun _=>rfl)) (k':=?_)|refine w1x (.mget 18 8 13) (e:=M2 (U.int .i64) (fun a=>(_ == a.1 && (_ == a.2.1 && (_ == a.2.2.1 && (_ == a.2.2.2.1 && (_ == a.2.2.2.2.1 && (_ == a.2.2.2.2.2.1 && (_ == a.2.2.2.2.2.2.1 && (_ == a.2.2.2.2.2.2.2.1 && true))))))))) (fun a=>a.2.2.2.2.2.2.2.2.2.2.2.2.2.1) rfl rfl (fun _=>rfl) (fun _=>rfl)) (k':=?_)|refine w1x (.mget 18 8 14) (e:=M2 (U.int .i64) (fun a=>(_ == a.1 && (_ == a.2.1 && (_ == a.2.2.1 && (_ == a.2.2.2.1 && (_ == a.2.2.2.2.1 && (_ == a.2.2.2.2.2.1 && (_ == a.2.2.2.2.2.2.1 && (_ == a.2.2.2.2.2.2.2.1 && true))))))))) (fun a=>a.2.2.2.2.2.2.2.2.2.2.2.2.2.2.1) rfl rfl (fun _=>rfl) (fun _=>rfl)) (k':=?_)|refine w1x (.mget 18 8 15) (e:=M2 U.str (fun a=>(_ == a.1 && (_ == a.2.1 && (_ == a.2.2.1 && (_ == a.2.2.2.1 && (_ == a.2.2.2.2.1 && (_ == a.2.2.2.2.2.1 && (_ == a.2.2.2.2.2.2.1 && (_ == a.2.2.2.2.2.2.2.1 && true))))))))) (fun a=>a.2.2.2.2.2.2.2.2.2.2.2.2.2.2.2.1) rfl rfl (fun _=>rfl) (fun _=>rfl)) (k':=?_)|refine w1x (.mget 18 8 16) (e:=M2 U.str (fun a=>(_ == a.1 && (_ == a.2.1 && (_ == a.2.2.1 && (_ == a.2.2.2.1 && (_ == a.2.2.2.2.1 && (_ == a.2.2.2.2.2.1 && (_ == a.2.2.2.2.2.2.1 && (_ == a.2.2.2.2.2.2.2.1 && true))))))))) (fun a=>a.2.2.2.2.2.2.2.2.2.2.2.2.2.2.2.2.1) rfl rfl (fun _=>rfl) (fun _=>rfl)) (k':=?_)|refine w1x (.mget 18 8 17) (e:=M2 U.bool (fun a=>(_ == a.1 && (_ == a.2.1 && (_ == a.2.2.1 && (_ == a.2.2.2.1 && (_ == a.2.2.2.2.1 && (_ == a.2.2.2.2.2.1 && (_ == a.2.2.2.2.2.2.1 && (_ == a.2.2.2.2.2.2.2.1 && true))))))))) (fun a=>a.2.2.2.2.2.2.2.2.2.2.2.2.2.2.2.2.2) rfl rfl (fun _=>rfl) (fun _=>rfl)) (k':=?_)|refine w1x (.mhas 18 8) (e:=IY (fun a=>(_ == a.1 && (_ == a.2.1 && (_ == a.2.2.1 && (_ == a.2.2.2.1 && (_ == a.2.2.2.2.1 && (_ == a.2.2.2.2.2.1 && (_ == a.2.2.2.2.2.2.1 && (_ == a.2.2.2.2.2.2.2.1 && true))))))))) rfl rfl (fun _=>rfl)) (k':=?_))
   all_goals
    first
    | exact l4 (A8w ‹_›)
    | exact l4 (A6L ‹_›)
    | (refine l4 (A8v (XO ‹_›) ?_);omega)
    | exact l4 (A8u (XO ‹_›) A2 ‹_›)
    | exact l4 (A8t (XO ‹_›) A2 ‹_› ‹_›)
    | (refine l4 ((A8s (XO ‹_›) A2 ‹_› ‹_›).trans ?_)
       have F:kmP (N,P,L,O,M,S,K,H) (el l):=(XO ‹_›);clear C B;have T:(((el (ixS (some []) ((el l).drop (0:Int).toNat)))).find? (fun a=>(o == a.1 && (w == a.2.1 && (c == a.2.2.1 && (n == a.2.2.2.1 && (t == a.2.2.2.2.1 && (q == a.2.2.2.2.2.1 && (k == a.2.2.2.2.2.2.1 && (f == a.2.2.2.2.2.2.2.1 && true)))))))))).elim false (fun a=>a.2.2.2.2.2.2.2.2.2.2.2.2.2.2.2.2.2)=gR (fG (o,w,c,n,t,q,k,f) (el l)):=pR (x:=(o,w,c,n,t,q,k,f)) F;have z2:(((el (ixS (some []) ((el l).drop (0:Int).toNat)))).find? (fun a=>(o == a.1 && (w == a.2.1 && (c == a.2.2.1 && (n == a.2.2.2.1 && (t == a.2.2.2.2.1 && (q == a.2.2.2.2.2.1 && (k == a.2.2.2.2.2.2.1 && (f == a.2.2.2.2.2.2.2.1 && true)))))))))).elim [] (fun a=>a.2.2.2.2.2.2.2.2.2.2.2.2.2.2.2.2.1)=gC (fG (o,w,c,n,t,q,k,f) (el l)):=pC (x:=(o,w,c,n,t,q,k,f)) F;have W:(((el (ixS (some []) ((el l).drop (0:Int).toNat)))).find? (fun a=>(o == a.1 && (w == a.2.1 && (c == a.2.2.1 && (n == a.2.2.2.1 && (t == a.2.2.2.2.1 && (q == a.2.2.2.2.2.1 && (k == a.2.2.2.2.2.2.1 && (f == a.2.2.2.2.2.2.2.1 && true)))))))))).elim (ByteArray.mk (Array.mk [])).data.toList (fun a=>a.2.2.2.2.2.2.2.2.2.2.2.2.2.2.2.2.1)=gC (fG (o,w,c,n,t,q,k,f) (el l)):=pC (x:=(o,w,c,n,t,q,k,f)) F;have z3:((el (ixS (some []) ((el l).drop (0:Int).toNat)))).any (fun a=>(o == a.1 && (w == a.2.1 && (c == a.2.2.1 && (n == a.2.2.2.1 && (t == a.2.2.2.2.1 && (q == a.2.2.2.2.2.1 && (k == a.2.2.2.2.2.2.1 && (f == a.2.2.2.2.2.2.2.1 && true)))))))))=(el l).any (gQ (o,w,c,n,t,q,k,f)):=pH (x:=(o,w,c,n,t,q,k,f)) F;have z4:((o == N && (w == P && (c == L && (n == O && (t == M && (q == S && (k == K && (f == H && true)))))))))=eqX (o,w,c,n,t,q,k,f) (N,P,L,O,M,S,K,H):=rfl;simp only[T,z2,W,z3,z4]at * <;>
       (generalize eqX _ _=E at *
        generalize (el l).any _=I at *;generalize gR _=R at *;generalize gC _=Q at *;have J:s=0∨s=1∨s=2:=A2;rcases J with rfl|rfl|rfl<;>cases E<;>cases I<;>cases R<;>first|rfl|contradiction|exact absurd (by assumption:(!true)=true) F1|exact absurd (by assumption:(!false)=false) F1|(exfalso;omega)))
  .cases A
 .cases A
abbrev Dt:=(Int×Int×Int×Int×Int×Int×Int×Int×B6)
def kIn(d:Dt):Xt:=(diK ((0:Int)%4),diC ((0:Int)%4) d.2.2.2.1 d.2.2.2.2.1 d.2.2.2.2.2.2.2.1,diM ((0:Int)%4) d.2.2.2.1 d.2.2.2.2.1 d.2.2.2.2.2.2.2.1,diW ((0:Int)%4) d.2.1,diB ((0:Int)%4) d.2.1 d.2.2.1 d.2.2.2.1 d.2.2.2.2.2.1 d.2.2.2.2.2.2.1,diR ((0:Int)%4) d.2.2.2.2.2.1,diL ((0:Int)%4) d.2.2.2.2.2.2.1,diT ((0:Int)%4) d.2.2.2.2.2.2.2.2)
def Dok(d:Dt):Prop:=(0<=d.1/\d.1<256)/\(0<=d.2.1/\d.2.1<256)/\(0<=d.2.2.1/\d.2.2.1<256)/\(0<=d.2.2.2.1/\d.2.2.2.1<256)/\(0<=d.2.2.2.2.1/\d.2.2.2.2.1<256)/\(0<=d.2.2.2.2.2.1/\d.2.2.2.2.2.1<256)/\(0<=d.2.2.2.2.2.2.1/\d.2.2.2.2.2.2.1<256)/\(0<=d.2.2.2.2.2.2.2.1/\d.2.2.2.2.2.2.2.1<4294967296)/\(d.2.2.2.2.2.2.2.2.length:Int)<=140737488351232
instance(d:Dt):Decidable (Dok d):=by unfold Dok;infer_instance
def A9c:List Gt:=[(1,37,0,0,0,0,0,[],[115,112,108,105,116,32,114,105,103,104,116],false),(1,34,0,0,0,0,0,[],[115,112,108,105,116,32,100,111,119,110],false),(1,120,0,0,0,0,0,[],[107,105,108,108],false),(1,1114113,0,0,0,0,0,[],[115,101,108,101,99,116,32,117,112],true),(1,1114114,0,0,0,0,0,[],[115,101,108,101,99,116,32,100,111,119,110],true),(1,1114115,0,0,0,0,0,[],[115,101,108,101,99,116,32,114,105,103,104,116],true),(1,1114116,0,0,0,0,0,[],[115,101,108,101,99,116,32,108,101,102,116],true),(1,1114113,4,0,0,0,0,[],[114,101,115,105,122,101,32,117,112,32,49],true),(1,1114114,4,0,0,0,0,[],[114,101,115,105,122,101,32,100,111,119,110,32,49],true),(1,1114115,4,0,0,0,0,[],[114,101,115,105,122,101,32,114,105,103,104,116,32,49],true),(1,1114116,4,0,0,0,0,[],[114,101,115,105,122,101,32,108,101,102,116,32,49],true),(1,111,0,0,0,0,0,[],[110,101,120,116,45,112,97,110,101],false),(1,122,0,0,0,0,0,[],[122,111,111,109],false),(1,61,0,0,0,0,0,[],[101,118,101,110],false),(1,99,0,0,0,0,0,[],[110,101,119,45,119,105,110,100,111,119],false),(1,110,0,0,0,0,0,[],[110,101,120,116,45,119,105,110,100,111,119],false),(1,112,0,0,0,0,0,[],[112,114,101,118,105,111,117,115,45,119,105,110,100,111,119],false),(1,48,0,0,0,0,0,[],[119,105,110,100,111,119,32,48],false),(1,49,0,0,0,0,0,[],[119,105,110,100,111,119,32,49],false),(1,50,0,0,0,0,0,[],[119,105,110,100,111,119,32,50],false),(1,51,0,0,0,0,0,[],[119,105,110,100,111,119,32,51],false),(1,52,0,0,0,0,0,[],[119,105,110,100,111,119,32,52],false),(1,53,0,0,0,0,0,[],[119,105,110,100,111,119,32,53],false),(1,54,0,0,0,0,0,[],[119,105,110,100,111,119,32,54],false),(1,55,0,0,0,0,0,[],[119,105,110,100,111,119,32,55],false),(1,56,0,0,0,0,0,[],[119,105,110,100,111,119,32,56],false),(1,57,0,0,0,0,0,[],[119,105,110,100,111,119,32,57],false),(1,1114125,0,0,0,0,0,[],[115,99,114,111,108,108,32,98,97,99,107,32,49,48],false),(1,100,0,0,0,0,0,[],[100,101,116,97,99,104],false)]
def rS:Rw B6:=r1 tX
def nmL:List B6:=[[85,112],[68,111,119,110],[82,105,103,104,116],[76,101,102,116],[69,110,100],[72,111,109,101],[70,49],[70,50],[70,51],[70,52],[73,110,115,101,114,116],[68,101,108,101,116,101],[80,97,103,101,85,112],[80,97,103,101,68,111,119,110],[70,53],[70,54],[70,55],[70,56],[70,57],[70,49,48],[70,49,49],[70,49,50],[69,110,116,101,114],[84,97,98],[66,97,99,107],[69,115,99,97,112,101]]
def A1B{R:Nat->Option Obj}{x:Option (List B6)}{vs:C8}(h:ShL R [.s 11,.s 9] [G6 rS x,.str sep] vs):∃ v,vs=[v,.string ⟨⟨sep⟩⟩]/\Enc R (G6 rS x) v:=by
 generalize hu:[G6 rS x,U.str sep]=us at h;cases h with
 | cons h1 f =>
   cases h1 with
   | s c t1 =>
     cases f with
     | cons h3 d =>
       cases h3 with
       | s e t2 =>
         cases d;simp only[R1,G2,Q2,I8,and_true]at hu;obtain⟨rfl,rfl⟩:=hu
         have:=eY e (show toV (.str sep)=some (.string ⟨⟨sep⟩⟩)from rfl);subst this;exact⟨_,rfl,c⟩
def ZO{R:Nat->Option Obj}{x:Option (List B6)}{v:Value}(h:Enc R (G6 rS x) v):(el x=[]/\∃ a c,v=.slice a 0 c)∨∃ a o c C T fz,v=.slice (some ⟨a,o,none⟩) (el x).length c/\(el x).length<=c/\(el x≠[]->R a=some (.cells C T fz))/\∀ (j:Nat) (s:B6),(el x)[j]? = some s->C[o+j]? = some (.string ⟨⟨s⟩⟩):=by
 rw[R7]at h;generalize hu:U.seq _ _ _=u at h;cases h with
 | sc h=>subst hu;cases h
 | nil =>
   injection hu with h1 h2 h3
   exact .inl ⟨by simpa using h3,_,_,rfl⟩
 | emp =>
   injection hu with h1 h2 h3
   exact .inl ⟨by simpa using h3,_,_,rfl⟩
 | sl q A g hw h =>
   rename_i w rows a o c C T fz;injection hu with h1 h2 h3
   subst h3;have n:w=1:=h2.symm;subst n;have r:((el x).map rS.enc).length=(el x).length:=E3 ..;rw[r]at q g;refine .inr ⟨a,o,c,C,T,fz,by rw[r],q,fun k=>A (by simpa using k),fun j s f=>?_⟩;have k:(el x).map rS.enc≠[]:=by intro e;rw[List.map_eq_nil_iff.1 e]at f;cases f
   have t:j<(el x).length:=(B0.1 f).1;have g:=g k;have d:o+j<C.size:=A2
   have:=h j (rS.enc s) 0 (.str s) C[o+j] (by rw[F9,f];rfl) rfl (by rw[Nat.mul_one,iN];exact E8 d);rw[E8 d,eY this (show toV (.str s)=some (.string ⟨⟨s⟩⟩)from rfl)]
def jnS(x:Option (List B6))(sep:B6):B6:=Lib.join (el x) sep
def WW(l:List B6):(l.map (fun s=>ByteArray.mk ⟨s⟩)).map (·.data.toList)=l:=by
 rw[iP];exact(cO fun _ _=>rfl).trans (List.map_id _)
def SG:List U->Option (Nat×List U)
 | [u_x,.str sep]=>(Y8 rS u_x).bind fun x=>if((el x).length:Int)<=1000000/\(jnS x sep).length<=1000000000 then some (0,[.str (jnS x sep)])else none
 | _=>none
def A5Z(x:(Option (List B6)))(sep:B6)(c:((el x).length:Int)<=1000000/\(jnS x sep).length<=1000000000):SG [G6 rS x,.str sep]=some (0,[.str (jnS x sep)]):=by
 simp only[SG,M3,J2];exact A9 c
def A9W{G}(B:M6 G):M0 prog G 93 [.s 11,.s 9] SG [.s 9]:=by
 intro us outs w vs R n d D hR;unfold SG at d;split at d
 .skip;rename_i A sep;have g:=D9.1 d;clear d;obtain⟨x,f,d⟩:=g;replace f:=R8 f;subst f;split at d
  .rename_i t;cases d;refine fB (vr:=[.string ⟨⟨jnS x sep⟩⟩]) func93 rfl D2 rfl ?_;obtain⟨v,rfl,hv⟩:=A1B n;rcases ZO hv with⟨h0,a,c,rfl⟩|⟨a,o,c,C,T,fz,rfl,h1,h,h3⟩
   .refine((Tryz.strings_Join_none a c ⟨⟨sep⟩⟩ w).mono fun e w' ⟨g1,g2⟩=>⟨?_,by subst g2;exact RowKit.Below.refl _ _⟩);rw[g1];unfold jnS;rw[h0];rfl
   .by_cases q:el x=[]
    .rw[q];refine((Tryz.strings_Join_none _ c ⟨⟨sep⟩⟩ w).mono fun e w' ⟨g1,g2⟩=>⟨?_,by subst g2;exact RowKit.Below.refl _ _⟩);rw[g1];unfold jnS;rw[q];rfl
    .have r:=h q;have hw:=hR _ _ r;have key:=Tryz.strings_Join a o c ((el x).map (fun s=>ByteArray.mk ⟨s⟩)) ⟨⟨sep⟩⟩ w (fun j y k=>?_) (hR.lt r) (by rw[E3];omega) (by rw[E3];exact h1) (by rw[WW];show(jnS x sep).length<=_;have:=t.2;omega)
     .rw[E3]at key;refine(key.mono fun e w' ⟨g1,g2⟩=>⟨?_,g2⟩);rw[g1,WW];rfl
     .rw[F9]at k;cases d:(el x)[j]? with
      | none=>rw[d]at k;cases k
      | some s =>
        rw[d]at k;cases k;simp only[World.cell?,hw];exact h3 j s d
  .cases d
 .cases d
noncomputable def A8A:W3:=⟨_,fun c=>.nil⟩
def wA:List U->Option (Nat×List U)
 | []=>some (0,[G6 rS (some nmL)])
 | _=>none
def OJ :wA []=some (0,[G6 rS (some nmL)]):=rfl
def WJ{G}(c:M6 G):M0 prog G 89 [] wA [.s 11]:=by
 refine fK (d:=60) (cxg (A8A.2 c) .nil) c ⟨f89,_,func89,rfl⟩ ?_;intro us outs e;unfold wA at e;split at e
 .cases e;exact⟨[],by kernel_rfl⟩
 .cases e
def PE(x:Option (List B6)):jnS x []=(el x).flatten:=by
 unfold jnS Lib.join;generalize el x=l;have h:∀ l:List B6,(List.intersperse [] l).flatten=l.flatten:=fun l=>by
  induction l with
  | nil=>rfl
  | cons a l c =>
    cases l with
    | nil=>rfl
    | cons b l=>rw[List.intersperse_cons_cons,O0,O0,c,O0 (l:=a)];rfl
 exact h l
noncomputable def A8I:W3:=⟨_,fun c=>(.cons (A9W c) .nil)⟩
def dZ:List U->Option (Nat×List U)
 | [u_x]=>(Y8 rS u_x).bind fun x=>if((el x).length:Int)<=1000000/\((el x).flatten.length:Int)<=1000000000 then some (0,[.str ((el x).flatten)])else none
 | _=>none
def PD(x:(Option (List B6)))(c:((el x).length:Int)<=1000000/\((el x).flatten.length:Int)<=1000000000):dZ [G6 rS x]=some (0,[.str ((el x).flatten)]):=by
 simp only[dZ,M3,J2];exact A9 c
def A3r:Tr:=.fn SG [h 0 11,.string ⟨⟨[]⟩⟩] 1<|.ret [h 1 9]
def XY{G}(k:M6 G):M0 prog G 58 [.s 11] dZ [.s 9]:=by
 refine G9 (d:=60) A3r (cxg (A8I.2 k) .nil) k ⟨f58,_,func58,rfl⟩ D2 D2 ?_;intro us outs f;unfold dZ at f;split at f
 .skip;rename_i n;have g:=D9.1 f;clear f;obtain⟨x,c,f⟩:=g;replace c:=R8 c;subst c;split at f
  .rename_i o;cases f;unfold A3r;refine w0 (.cons 0 _ (.nil)) ?_;repeat (first|refine w31 SG (e:=A5Z _ _ ⟨o.1,by rw[PE];omega⟩) (k':=?_)|(refine w7 [.str _] ?_;rotate_left))
   all_goals
    first|(rw[PE];done)
  .cases f
 .cases f
def GG:List U->Option (Nat×List U)
 | [.str s,.int .i64 c]=>if 0<=c/\c<=1000/\(s.length:Int)<=1000 then some (0,[.str (Lib.repeatL s c.toNat)])else none
 | _=>none
def A1K(s:B6)(c:Int)(d:0<=c/\c<=1000/\(s.length:Int)<=1000):GG [.str s,.int .i64 c]=some (0,[.str (Lib.repeatL s c.toNat)]):=A9 d
def A6Q{G}(k:M6 G):M0 prog G 34 [.s 9,.s 3] GG [.s 9]:=by
 intro us outs w vs R f d r hR;unfold GG at d;split at d
 .skip;rename_i s c;split at d
  .rename_i q;cases d;have hv:=T8 (vs2:=[.string ⟨⟨s⟩⟩,.int .i64 c]) f rfl;subst hv;refine fB (vr:=[.string ⟨⟨Lib.repeatL s c.toNat⟩⟩]) func34 rfl D2 rfl ?_;obtain⟨n,rfl⟩:∃ n:Nat,c=n:=⟨c.toNat,A2⟩;have o:s.length*n<=140737488355328:=B9 (eH (show s.length<=1000 by omega) (show n<=1000 by omega)) F1;exact(Tryz.strings_Repeat ⟨⟨s⟩⟩ n w A2 o).mono fun e w' ⟨h1,g⟩=>⟨h1,g⟩
  .cases d
 .cases d
def FH:List U->Option (Nat×List U)
 | [.str s]=>if(s.length:Int)<=1000/\(∀ b ∈ s,b.toNat<128)then some (0,[.str (Lib.toUpperA s)])else none
 | _=>none
def A03(s:B6)(c:(s.length:Int)<=1000/\(∀ b ∈ s,b.toNat<128)):FH [.str s]=some (0,[.str (Lib.toUpperA s)]):=A9 c
def A6I{G}(n:M6 G):M0 prog G 107 [.s 9] FH [.s 9]:=by
 intro us outs w vs R d c o hR;unfold FH at c;split at c
 .skip;rename_i s;split at c
  .rename_i f;cases c;have hv:=T8 (vs2:=[.string ⟨⟨s⟩⟩]) d rfl;subst hv;refine fB (vr:=[.string ⟨⟨Lib.toUpperA s⟩⟩]) func107 rfl D2 rfl ?_;exact(Tryz.strings_ToUpper_ascii ⟨⟨s⟩⟩ w (by show s.length<=_;omega) (fun j b k=>by have:=f.2 b (C6 k);omega)).mono fun e w' ⟨h1,g⟩=>⟨h1,g⟩
  .cases c
 .cases c
def hU(d:Int):UInt8:=([48,49,50,51,52,53,54,55,56,57,65,66,67,68,69,70]:B6).getD d.toNat 0
def v7(c:Int):B6:=if c<65536 then[hU (c / 4096%16),hU (c / 256%16),hU (c / 16%16),hU (c%16)]else if c<1048576 then[hU (c / 65536%16),hU (c / 4096%16),hU (c / 256%16),hU (c / 16%16),hU (c%16)]else[hU (c / 1048576%16),hU (c / 65536%16),hU (c / 4096%16),hU (c / 256%16),hU (c / 16%16),hU (c%16)]
def d8(c:Int):B6:=if 1114113<=c then nmL.getD (c-1114113).toNat []else if c=32 then[83,112,97,99,101]else if c<=126 then[UInt8.ofNat c.toNat]else[85,43]++v7 c
def cc{a b:UInt8}{l m:B6}(h:a=b)(k:l=m):a::l=b::m:=by rw[h,k]
def A1o{n m:Nat}(h:Nat.ble n m=true):(n:Int)<=(m:Int):=cZ.2 (A1 h)
def hx(d:Int):Int:=((([48,49,50,51,52,53,54,55,56,57,97,98,99,100,101,102,103,104,105,106,107,108,109,110,111,112,113,114,115,116,117,118,119,120,121,122]:B6).getD d.toNat 0).toNat:Int)
def rN(d:Int):0<=hx d/\hx d<128:=by
 unfold hx;rcases F4 d.toNat 36 with h|h
 .have k:∀ n:Nat,n<36->(([48,49,50,51,52,53,54,55,56,57,97,98,99,100,101,102,103,104,105,106,107,108,109,110,111,112,113,114,115,116,117,118,119,120,121,122]:B6).getD n 0).toNat<128:=F1
  have:=k _ h;omega
 .rw[B1,eM.2 h];decide
def S4(d:Int):0<=hx d/\hx d<256:=by have:=rN d;omega
def l6{d:Int}(h0:0<=d)(h1:d<16):Lib.upperB (UInt8.ofNat (hx d).toNat)=hU d:=by
 have k:∀ n:Nat,n<16->Lib.upperB (UInt8.ofNat (((([48,49,50,51,52,53,54,55,56,57,97,98,99,100,101,102,103,104,105,106,107,108,109,110,111,112,113,114,115,116,117,118,119,120,121,122]:B6).getD n 0).toNat:Int)).toNat)=([48,49,50,51,52,53,54,55,56,57,65,66,67,68,69,70]:B6).getD n 0:=F1;exact k d.toNat A2
def A7Q{d:Int}(h0:0<=d)(h1:d<36):evU .idx [.str [48,49,50,51,52,53,54,55,56,57,97,98,99,100,101,102,103,104,105,106,107,108,109,110,111,112,113,114,115,116,117,118,119,120,121,122],.int .u64 d]=.int .u8 (hx d):=DW _ _ _ h0 (by show _<((36:Nat):Int);omega)
attribute [irreducible] hx
def TI(l:List Int):(Lib.toUpperA (iB l)).length=l.length:=by unfold Lib.toUpperA iB;rw[E3,E3]
def A8i{l:List Int}(h:l.length<=6)(e:∀ x ∈ l,0<=x/\x<128):((iB l).length:Int)<=1000/\(∀ b ∈ iB l,b.toNat<128):=by
 unfold iB;refine⟨by rw[E3];omega,fun b d=>?_⟩;obtain⟨x,c,rfl⟩:=L5.1 d
 have:=e x c;show(UInt8.ofNat x.toNat).toNat<128;rw[UInt8.toNat_ofNat',V0 A2];omega
def A8q{l:List Int}(h:l.length<=6):IntKind.i64.wrap (4-((Lib.toUpperA (iB l)).length:Int))=4-((Lib.toUpperA (iB l)).length:Int):=by
 rw[TI];exact gN A2 A2
def A9V{l:List Int}(h:l.length<=6):((el (some [[85,43],Lib.repeatL [48] (max 0 (4-((Lib.toUpperA (iB l)).length:Int))).toNat,Lib.toUpperA (iB l)])).length:Int)<=1000000/\((el (some [[85,43],Lib.repeatL [48] (max 0 (4-((Lib.toUpperA (iB l)).length:Int))).toNat,Lib.toUpperA (iB l)])).flatten.length:Int)<=1000000000:=by
 refine⟨A1o (m:=1000000) rfl,?_⟩;rw[Q5];simp only[O0,bB,Q2,D6,Lib.repeatL_length,TI,E5,W9];omega
def A81{l:List Int}(h:l.length<=6):0<=max 0 (4-((Lib.toUpperA (iB l)).length:Int))/\max 0 (4-((Lib.toUpperA (iB l)).length:Int))<=1000/\((([48]:B6).length:Nat):Int)<=1000:=⟨A2,A2,A1o (m:=1000) rfl⟩
def A4n(b:UInt8):0<=(b.toNat:Int)/\(b.toNat:Int)<256:=by have:=b.toNat_lt;omega
def A0T{c:Int}(h:1114113<=c):d8 c=nmL.getD (c-1114113).toNat []:=A9 h
def EJ{c:Int}(h:¬1114113<=c)(d:¬c=32)(h3:¬c<=126):d8 c=[85,43]++v7 c:=by unfold d8;rw[A7 h,A7 d,A7 h3]
def A0X{c:Int}(h:¬1114113<=c)(d:¬c=32)(h3:c<=126):d8 c=[UInt8.ofNat c.toNat]:=by unfold d8;rw[A7 h,A7 d,A9 h3]
def A0U{c:Int}(d:c=32):d8 c=[83,112,97,99,101]:=by subst d;rfl
def A0W{c:Int}(e:z=u)(hu:Lib.repeatL [48] (max 0 (4-(u.length:Int))).toNat++u=v7 c)(d:d8 c=[85,43]++v7 c):(el (some [[85,43],Lib.repeatL [48] (max 0 (4-(z.length:Int))).toNat,z])).flatten=d8 c:=by
 subst e;rw[d,<- hu,Q5];simp only[O0,bB,Q2]
def A9w{c:Int}(h0:0<=c)(h1:c<256):Lib.toUpperA (iB [hx (c / 16),hx (c%16)])=[hU (c / 16%16),hU (c%16)]:=by
 show[Lib.upperB (UInt8.ofNat (hx (c / 16)).toNat),Lib.upperB (UInt8.ofNat (hx (c%16)).toNat)]=_;rw[l6 (d:=c / 16) A2 A2,l6 (d:=c%16) A2 A2];exact cc (F0 hU A2) (cc (F0 hU A2) (rfl))
def A9m{c:Int}(h0:0<=c)(h1:c<256):Lib.repeatL [48] (max 0 (4-(([hU (c / 16%16),hU (c%16)]:B6).length:Int))).toNat++[hU (c / 16%16),hU (c%16)]=v7 c:=by
 unfold v7;rw[A9 A2];rw[show c / 4096%16=0 by omega];rw[show c / 256%16=0 by omega];rfl
def A9v{c:Int}(h0:0<=c)(h1:c<4096):Lib.toUpperA (iB [hx (c / 16 / 16),hx (c / 16%16),hx (c%16)])=[hU (c / 256%16),hU (c / 16%16),hU (c%16)]:=by
 show[Lib.upperB (UInt8.ofNat (hx (c / 16 / 16)).toNat),Lib.upperB (UInt8.ofNat (hx (c / 16%16)).toNat),Lib.upperB (UInt8.ofNat (hx (c%16)).toNat)]=_;rw[l6 (d:=c / 16 / 16) A2 A2,l6 (d:=c / 16%16) A2 A2,l6 (d:=c%16) A2 A2];exact cc (F0 hU A2) (cc (F0 hU A2) (cc (F0 hU A2) (rfl)))
def A9l{c:Int}(h0:0<=c)(h1:c<4096):Lib.repeatL [48] (max 0 (4-(([hU (c / 256%16),hU (c / 16%16),hU (c%16)]:B6).length:Int))).toNat++[hU (c / 256%16),hU (c / 16%16),hU (c%16)]=v7 c:=by
 unfold v7;rw[A9 A2];rw[show c / 4096%16=0 by omega];rfl
def A9u{c:Int}(h0:0<=c)(h1:c<65536):Lib.toUpperA (iB [hx (c / 16 / 16 / 16),hx (c / 16 / 16%16),hx (c / 16%16),hx (c%16)])=[hU (c / 4096%16),hU (c / 256%16),hU (c / 16%16),hU (c%16)]:=by
 show[Lib.upperB (UInt8.ofNat (hx (c / 16 / 16 / 16)).toNat),Lib.upperB (UInt8.ofNat (hx (c / 16 / 16%16)).toNat),Lib.upperB (UInt8.ofNat (hx (c / 16%16)).toNat),Lib.upperB (UInt8.ofNat (hx (c%16)).toNat)]=_;rw[l6 (d:=c / 16 / 16 / 16) A2 A2,l6 (d:=c / 16 / 16%16) A2 A2,l6 (d:=c / 16%16) A2 A2,l6 (d:=c%16) A2 A2];exact cc (F0 hU A2) (cc (F0 hU A2) (cc (F0 hU A2) (cc (F0 hU A2) (rfl))))
def A9k{c:Int}(h0:0<=c)(h1:c<65536):Lib.repeatL [48] (max 0 (4-(([hU (c / 4096%16),hU (c / 256%16),hU (c / 16%16),hU (c%16)]:B6).length:Int))).toNat++[hU (c / 4096%16),hU (c / 256%16),hU (c / 16%16),hU (c%16)]=v7 c:=by
 unfold v7;rw[A9 A2];rfl
def A9t{c:Int}(h0:0<=c)(h1:c<1048576):Lib.toUpperA (iB [hx (c / 16 / 16 / 16 / 16),hx (c / 16 / 16 / 16%16),hx (c / 16 / 16%16),hx (c / 16%16),hx (c%16)])=[hU (c / 65536%16),hU (c / 4096%16),hU (c / 256%16),hU (c / 16%16),hU (c%16)]:=by
 show[Lib.upperB (UInt8.ofNat (hx (c / 16 / 16 / 16 / 16)).toNat),Lib.upperB (UInt8.ofNat (hx (c / 16 / 16 / 16%16)).toNat),Lib.upperB (UInt8.ofNat (hx (c / 16 / 16%16)).toNat),Lib.upperB (UInt8.ofNat (hx (c / 16%16)).toNat),Lib.upperB (UInt8.ofNat (hx (c%16)).toNat)]=_;rw[l6 (d:=c / 16 / 16 / 16 / 16) A2 A2,l6 (d:=c / 16 / 16 / 16%16) A2 A2,l6 (d:=c / 16 / 16%16) A2 A2,l6 (d:=c / 16%16) A2 A2,l6 (d:=c%16) A2 A2];exact cc (F0 hU A2) (cc (F0 hU A2) (cc (F0 hU A2) (cc (F0 hU A2) (cc (F0 hU A2) (rfl)))))
def A9j{c:Int}(h0:0<=c)(h1:c<1048576)(d:65536<=c):Lib.repeatL [48] (max 0 (4-(([hU (c / 65536%16),hU (c / 4096%16),hU (c / 256%16),hU (c / 16%16),hU (c%16)]:B6).length:Int))).toNat++[hU (c / 65536%16),hU (c / 4096%16),hU (c / 256%16),hU (c / 16%16),hU (c%16)]=v7 c:=by
 unfold v7;rw[A7 A2,A9 A2];rfl
def A9s{c:Int}(h0:0<=c)(h1:c<16777216):Lib.toUpperA (iB [hx (c / 16 / 16 / 16 / 16 / 16),hx (c / 16 / 16 / 16 / 16%16),hx (c / 16 / 16 / 16%16),hx (c / 16 / 16%16),hx (c / 16%16),hx (c%16)])=[hU (c / 1048576%16),hU (c / 65536%16),hU (c / 4096%16),hU (c / 256%16),hU (c / 16%16),hU (c%16)]:=by
 show[Lib.upperB (UInt8.ofNat (hx (c / 16 / 16 / 16 / 16 / 16)).toNat),Lib.upperB (UInt8.ofNat (hx (c / 16 / 16 / 16 / 16%16)).toNat),Lib.upperB (UInt8.ofNat (hx (c / 16 / 16 / 16%16)).toNat),Lib.upperB (UInt8.ofNat (hx (c / 16 / 16%16)).toNat),Lib.upperB (UInt8.ofNat (hx (c / 16%16)).toNat),Lib.upperB (UInt8.ofNat (hx (c%16)).toNat)]=_;rw[l6 (d:=c / 16 / 16 / 16 / 16 / 16) A2 A2,l6 (d:=c / 16 / 16 / 16 / 16%16) A2 A2,l6 (d:=c / 16 / 16 / 16%16) A2 A2,l6 (d:=c / 16 / 16%16) A2 A2,l6 (d:=c / 16%16) A2 A2,l6 (d:=c%16) A2 A2];exact cc (F0 hU A2) (cc (F0 hU A2) (cc (F0 hU A2) (cc (F0 hU A2) (cc (F0 hU A2) (cc (F0 hU A2) (rfl))))))
def A9i{c:Int}(h0:0<=c)(h1:c<16777216)(d:1048576<=c):Lib.repeatL [48] (max 0 (4-(([hU (c / 1048576%16),hU (c / 65536%16),hU (c / 4096%16),hU (c / 256%16),hU (c / 16%16),hU (c%16)]:B6).length:Int))).toNat++[hU (c / 1048576%16),hU (c / 65536%16),hU (c / 4096%16),hU (c / 256%16),hU (c / 16%16),hU (c%16)]=v7 c:=by
 unfold v7;rw[A7 A2,A7 A2];rfl
noncomputable def A8V:W3:=⟨_,fun c=>(.cons (WJ c) (.cons (XY c) (.cons (A6Q c) (.cons (A6I c) .nil))))⟩
def BS:List U->Option (Nat×List U)
 | [.int .i64 c]=>if(32<=c/\c<=126)∨(160<=c/\c<=1114111)∨(1114113<=c/\c<=1114138)then some (0,[.str (d8 c)])else none
 | _=>none
def A2b(c:Int)(d:(32<=c/\c<=126)∨(160<=c/\c<=1114111)∨(1114113<=c/\c<=1114138)):BS [.int .i64 c]=some (0,[.str (d8 c)]):=A9 d
def gT(a0:Nat)(c:Nat)(a2:Nat)(d:Tr):Tr:=.lt 8 (.inbs 1) [h3 c,h a0 11]<|.br a2 d .no
def lN(a0:Nat):Tr:=.fn FH [h a0 9] 1<|aD [h (a0+1) 9]<|aS [jI 4,h3 (a0+2)]<|.lt 3 (.max) [jI 0,h3 (a0+3)]<|.fn GG [.string ⟨⟨[48]⟩⟩,h3 (a0+4)] 1<|.dt 11 (.mk 1) [.string ⟨⟨[85,43]⟩⟩,h (a0+5) 9,h (a0+1) 9]<|.fn dZ [h (a0+6) 11] 1<|.ret [h (a0+7) 9]
def uC(a0:Nat)(c:Nat)(d e:Tr):Tr:=.lt 7 (.bin .and) [h a0 7,.int .u64 (15)]<|.lt 4 (.idx) [.string ⟨⟨[48,49,50,51,52,53,54,55,56,57,97,98,99,100,101,102,103,104,105,106,107,108,109,110,111,112,113,114,115,116,117,118,119,120,121,122]⟩⟩,h c 7]<|.lt 7 (.bin .shr) [h a0 7,.int .u64 (4)]<|aH [h (c+2) 7,.int .u64 (16)]<|.br (c+3) d e
def A4Z:Tr:=K0 0 1 1114113 (.fn wA [] 1<|aS [h3 0,jI 1114113]<|gT 2 3 4 (.lt 9 (.get 1 0) [h 2 11,h3 3]<|.ret [h 5 9])) (I4 0 2 32 (.ret [.string ⟨⟨[83,112,97,99,101]⟩⟩]) (Q4 0 3 126 (.lt 4 (.conv .u8) [h3 0]<|.lt 9 (.mks) [h 4 4]<|.ret [h 5 9]) (.lt 7 (.conv .u64) [h3 0]<|aL [h3 0,jI 0]<|.br 5 (.no) (aH [h 4 7,.int .u64 (16)]<|.br 6 (uC 4 7 (uC 9 11 (uC 13 15 (uC 17 19 (.lt 7 (.bin .and) [h 21 7,.int .u64 (15)]<|.lt 4 (.idx) [.string ⟨⟨[48,49,50,51,52,53,54,55,56,57,97,98,99,100,101,102,103,104,105,106,107,108,109,110,111,112,113,114,115,116,117,118,119,120,121,122]⟩⟩,h 23 7]<|.lt 7 (.bin .shr) [h 21 7,.int .u64 (4)]<|aH [h 25 7,.int .u64 (16)]<|.br 26 (.no) (.lt 4 (.idx) [.string ⟨⟨[48,49,50,51,52,53,54,55,56,57,97,98,99,100,101,102,103,104,105,106,107,108,109,110,111,112,113,114,115,116,117,118,119,120,121,122]⟩⟩,h 25 7]<|.lt 9 (.mks) [h 27 4,h 24 4,h 20 4,h 16 4,h 12 4,h 8 4]<|lN 28)) (.lt 4 (.idx) [.string ⟨⟨[48,49,50,51,52,53,54,55,56,57,97,98,99,100,101,102,103,104,105,106,107,108,109,110,111,112,113,114,115,116,117,118,119,120,121,122]⟩⟩,h 21 7]<|.lt 9 (.mks) [h 23 4,h 20 4,h 16 4,h 12 4,h 8 4]<|lN 24)) (.lt 4 (.idx) [.string ⟨⟨[48,49,50,51,52,53,54,55,56,57,97,98,99,100,101,102,103,104,105,106,107,108,109,110,111,112,113,114,115,116,117,118,119,120,121,122]⟩⟩,h 17 7]<|.lt 9 (.mks) [h 19 4,h 16 4,h 12 4,h 8 4]<|lN 20)) (.lt 4 (.idx) [.string ⟨⟨[48,49,50,51,52,53,54,55,56,57,97,98,99,100,101,102,103,104,105,106,107,108,109,110,111,112,113,114,115,116,117,118,119,120,121,122]⟩⟩,h 13 7]<|.lt 9 (.mks) [h 15 4,h 12 4,h 8 4]<|lN 16)) (.lt 4 (.idx) [.string ⟨⟨[48,49,50,51,52,53,54,55,56,57,97,98,99,100,101,102,103,104,105,106,107,108,109,110,111,112,113,114,115,116,117,118,119,120,121,122]⟩⟩,h 9 7]<|.lt 9 (.mks) [h 11 4,h 8 4]<|lN 12)) (.lt 4 (.idx) [.string ⟨⟨[48,49,50,51,52,53,54,55,56,57,97,98,99,100,101,102,103,104,105,106,107,108,109,110,111,112,113,114,115,116,117,118,119,120,121,122]⟩⟩,h 4 7]<|.lt 9 (.mks) [h 7 4]<|lN 8)))))
def A7o{G}(o:M6 G):M0 prog G 84 [.s 3] BS [.s 9]:=by
 refine G9 (d:=60) A4Z (cxg (A8V.2 o) .nil) o ⟨f84,_,func84,rfl⟩ D2 D2 ?_;intro us outs k;unfold BS at k;split at k
 .skip;rename_i c;split at k
  .rename_i q;cases k;have t:((el (some nmL)).length:Int)=26:=rfl;unfold A4Z;refine w0 (.cons 0 _ (.nil)) ?_;repeat (first|refine w4 (fun g=>?_) fun g=>?_|refine w1 (.idx) (e:=A7Q A2 A2) (k':=?_)|(refine w7 [.str _] ?_;rotate_left)|refine jE ?_|refine w31 FH (e:=A03 _ (A8i (A1 rfl) (by intro n f;simp only[B3,L4,or_false]at f;first|omega|(rcases f with rfl|rfl|rfl|rfl|rfl|rfl<;>exact rN _)|(rcases f with rfl|rfl|rfl|rfl|rfl<;>exact rN _)|(rcases f with rfl|rfl|rfl|rfl<;>exact rN _)|(rcases f with rfl|rfl|rfl<;>exact rN _)|(rcases f with rfl|rfl<;>exact rN _)))) (k':=?_)|refine nC ?_|refine w1 (.bin .sub) (e:=PV (A8q (A1 rfl))) (k':=?_)|refine A8n ?_|refine w31 GG (e:=A1K _ _ (A81 (A1 rfl))) (k':=?_)|refine w2 (.mk 1) (r:=rS) (e:=DV [_,_,_] rfl F1 rfl) (k':=?_)|refine w31 dZ (e:=PD _ (A9V (A1 rfl))) (k':=?_)|refine w1 (.bin .and) (e:=QB 4 16 F1 F1 F1) (k':=?_)|refine w1 (.bin .shr) (e:=PW 16 F1 F1) (k':=?_)|refine FL ?_|refine uW ?_|(refine w8 ?_;first|omega)|refine TJ ?_|refine FI ?_|refine w1 (.mks) (e:=rU [_] (by intro n f;simp only[B3,L4,or_false]at f;first|omega|(rcases f with rfl|rfl|rfl|rfl|rfl|rfl<;>exact S4 _)|(rcases f with rfl|rfl|rfl|rfl|rfl<;>exact S4 _)|(rcases f with rfl|rfl|rfl|rfl<;>exact S4 _)|(rcases f with rfl|rfl|rfl<;>exact S4 _)|(rcases f with rfl|rfl<;>exact S4 _))) (k':=?_)|refine w31 wA (e:=OJ) (k':=?_)|refine mR ?_|refine w1 (.get 1 0) (u:=.str _) (e:=J5 rfl A2 A2 rfl) (k':=?_)|refine fT ?_|refine nA ?_|refine gU ?_|refine w1 (.mks) (e:=rU [_,_,_,_,_,_] (by intro n f;simp only[B3,L4,or_false]at f;first|omega|(rcases f with rfl|rfl|rfl|rfl|rfl|rfl<;>exact S4 _)|(rcases f with rfl|rfl|rfl|rfl|rfl<;>exact S4 _)|(rcases f with rfl|rfl|rfl|rfl<;>exact S4 _)|(rcases f with rfl|rfl|rfl<;>exact S4 _)|(rcases f with rfl|rfl<;>exact S4 _))) (k':=?_)|refine w1 (.mks) (e:=rU [_,_,_,_,_] (by intro n f;simp only[B3,L4,or_false]at f;first|omega|(rcases f with rfl|rfl|rfl|rfl|rfl|rfl<;>exact S4 _)|(rcases f with rfl|rfl|rfl|rfl|rfl<;>exact S4 _)|(rcases f with rfl|rfl|rfl|rfl<;>exact S4 _)|(rcases f with rfl|rfl|rfl<;>exact S4 _)|(rcases f with rfl|rfl<;>exact S4 _))) (k':=?_)|refine w1 (.mks) (e:=rU [_,_,_,_] (by intro n f;simp only[B3,L4,or_false]at f;first|omega|(rcases f with rfl|rfl|rfl|rfl|rfl|rfl<;>exact S4 _)|(rcases f with rfl|rfl|rfl|rfl|rfl<;>exact S4 _)|(rcases f with rfl|rfl|rfl|rfl<;>exact S4 _)|(rcases f with rfl|rfl|rfl<;>exact S4 _)|(rcases f with rfl|rfl<;>exact S4 _))) (k':=?_)|refine w1 (.mks) (e:=rU [_,_,_] (by intro n f;simp only[B3,L4,or_false]at f;first|omega|(rcases f with rfl|rfl|rfl|rfl|rfl|rfl<;>exact S4 _)|(rcases f with rfl|rfl|rfl|rfl|rfl<;>exact S4 _)|(rcases f with rfl|rfl|rfl|rfl<;>exact S4 _)|(rcases f with rfl|rfl|rfl<;>exact S4 _)|(rcases f with rfl|rfl<;>exact S4 _))) (k':=?_)|refine w1 (.mks) (e:=rU [_,_] (by intro n f;simp only[B3,L4,or_false]at f;first|omega|(rcases f with rfl|rfl|rfl|rfl|rfl|rfl<;>exact S4 _)|(rcases f with rfl|rfl|rfl|rfl|rfl<;>exact S4 _)|(rcases f with rfl|rfl|rfl|rfl<;>exact S4 _)|(rcases f with rfl|rfl|rfl<;>exact S4 _)|(rcases f with rfl|rfl<;>exact S4 _))) (k':=?_))
   all_goals
    first
    | (exfalso;omega)
    | exact F0 (fun z=>[U.str z]) (A0T ‹_›).symm
    | exact F0 (fun z=>[U.str z]) (A0U ‹_›).symm
    | (rw[A0X ‹_› ‹_› ‹_›];rfl)
    | exact F0 (fun z=>[U.str z]) (A0W (A9w A2 A2) (A9m A2 A2) (EJ ‹_› ‹_› ‹_›))
    | exact F0 (fun z=>[U.str z]) (A0W (A9v A2 A2) (A9l A2 A2) (EJ ‹_› ‹_› ‹_›))
    | exact F0 (fun z=>[U.str z]) (A0W (A9u A2 A2) (A9k A2 A2) (EJ ‹_› ‹_› ‹_›))
    | exact F0 (fun z=>[U.str z]) (A0W (A9t A2 A2) (A9j A2 A2 A2) (EJ ‹_› ‹_› ‹_›))
    | exact F0 (fun z=>[U.str z]) (A0W (A9s A2 A2) (A9i A2 A2 A2) (EJ ‹_› ‹_› ‹_›))
  .cases k
 .cases k
end
section
open Go Go.Sx Go.Proofs.Tryz
def V4(x:Xt):B6:=(if x.2.2.1 / 4%2*4=0 then[]else[67,45])++((if x.2.2.1 / 2%2*2=0 then[]else[77,45])++((if x.2.2.1 / 1%2*1=0 then[]else[83,45])++d8 x.2.1))
def PO(c:Int):(v7 c).length<=6:=by
 unfold v7
 (repeat' split)<;>exact A1 rfl
def A5E:∀ n:Nat,(nmL.getD n []).length<=8:=by
 intro n;rcases F4 n 26 with h|h
 .have k:∀ n:Nat,n<26->(nmL.getD n []).length<=8:=F1;exact k n h
 .rw[B1,eM.2 h];decide
def A0V(c:Int):(d8 c).length<=8:=by
 unfold d8;split
 .exact A5E _
 .split
  .decide
  .split
   .exact A1 rfl
   .have:=PO c;rw[D6];show 2+_<=8;omega
def cR(c:Int):Prop:=(32<=c/\c<=126)∨(160<=c/\c<=1114111)∨(1114113<=c/\c<=1114138)
instance(c:Int):Decidable (cR c):=by unfold cR;infer_instance
def A5X{c:Int}(h:o8 c m):cR c:=by unfold o8 chP okU at h;unfold cR;omega
def A4i(h:xP x)(h1:x.1=1):o8 x.2.1 x.2.2.1:=by
 unfold xP Y6 at h;rcases h with h|h|h|h
 .exact h.2.2.2.2.2.2
 .omega
 .omega
 .omega
def HW(h:kyP x):cR x.2.1:=A5X (A4i h.2 h.1)
def u5(x:Xt):Int:=if ¬xP x then 430 else if x.1≠1 then 2 else 0
def O2(x:Xt):B6:=if u5 x=0 then V4 x else[]
def A6j(h:(if xP x then(0:Int)else 430)≠0):[U.str [],U.int .i64 (if xP x then(0:Int)else 430)]=[U.str (O2 x),U.int .i64 (u5 x)]:=by
 have k:=A4j h;have e:u5 x=430:=by unfold u5;rw[A9 k]
 unfold O2;rw[A7 k,e,A7 F1]
def A6i(h:¬(if xP x then(0:Int)else 430)≠0)(h1:x.1≠1):[U.str [],U.int .i64 2]=[U.str (O2 x),U.int .i64 (u5 x)]:=by
 have e:u5 x=2:=by unfold u5;rw[A7 (fun k=>k (TB h)),A9 h1]
 unfold O2;rw[e,A7 F1]
def A6h(h:¬(if xP x then(0:Int)else 430)≠0)(h1:¬x.1≠1):[U.str (V4 x),U.int .i64 0]=[U.str (O2 x),U.int .i64 (u5 x)]:=by
 have e:u5 x=0:=by unfold u5;rw[A7 (fun k=>k (TB h)),A7 h1]
 unfold O2;rw[e,A9 rfl]
def A6k(h:¬(if xP x then(0:Int)else 430)≠0)(h1:¬x.1≠1):cR x.2.1:=HW ⟨D8.1 h1,TB h⟩
noncomputable def A8B:W3:=⟨_,fun c=>(.cons (A7o c) (.cons (XY c) .nil))⟩
def wB:List U->Option (Nat×List U)
 | [.int .i64 k,.int .i64 c,.int .i64 m,.int .i64 w,.int .i64 b,.int .i64 r,.int .i64 cl,.str t]=>if cR c then some (0,[.str (V4 (k,c,m,w,b,r,cl,t))])else none
 | _=>none
def OM(k:Int)(c:Int)(m:Int)(w:Int)(b:Int)(r:Int)(cl:Int)(t:B6)(d:cR c):wB [.int .i64 k,.int .i64 c,.int .i64 m,.int .i64 w,.int .i64 b,.int .i64 r,.int .i64 cl,.str t]=some (0,[.str (V4 (k,c,m,w,b,r,cl,t))]):=A9 d
def oF(a0:Nat)(c:Nat):Tr:=.fn BS [h3 1] 1<|.dt 11 (.mk 1) [h a0 9,h c 9]<|.fn dZ [h (c+1) 11] 1<|.ret [h (c+2) 9]
def WR(n:Nat):Tr:=oF 15 n
def WQ(n:Nat):Tr:=.fn dZ [h 16 11] 1<|oF n (n+1)
def A3W:Tr:=jO 2 4 8 (.dt 11 (.mk 1) [.string ⟨⟨[]⟩⟩,.string ⟨⟨[67,45]⟩⟩]<|.fn dZ [h 10 11] 1<|jO 2 2 12 (.dt 11 (.mk 1) [h 11 9,.string ⟨⟨[77,45]⟩⟩]<|.fn dZ [h 14 11] 1<|jO 2 1 16 (.dt 11 (.mk 1) [h 15 9,.string ⟨⟨[83,45]⟩⟩]<|.fn dZ [h 18 11] 1<|oF 19 20) (WR 18)) (jO 2 1 14 (.dt 11 (.mk 1) [h 11 9,.string ⟨⟨[83,45]⟩⟩]<|WQ 17) (oF 11 16))) (jO 2 2 10 (.dt 11 (.mk 1) [.string ⟨⟨[]⟩⟩,.string ⟨⟨[77,45]⟩⟩]<|.fn dZ [h 12 11] 1<|jO 2 1 14 (.dt 11 (.mk 1) [h 13 9,.string ⟨⟨[83,45]⟩⟩]<|WQ 17) (oF 13 16)) (jO 2 1 12 (.dt 11 (.mk 1) [.string ⟨⟨[]⟩⟩,.string ⟨⟨[83,45]⟩⟩]<|.fn dZ [h 14 11] 1<|WR 16) (.fn BS [h3 1] 1<|.dt 11 (.mk 1) [.string ⟨⟨[]⟩⟩,h 14 9]<|.fn dZ [h 15 11] 1<|.ret [h 16 9])))
def A3X{G}(n:M6 G):M0 prog G 48 [.a [3,3,3,3,3,3,3,9]] wB [.s 9]:=by
 refine G9 (d:=60) A3W (cxg (A8B.2 n) .nil) n ⟨f48,_,func48,rfl⟩ D2 D2 ?_;intro us outs f;unfold wB at f;split at f
 .skip;rename_i k c m w b r cl t;split at f
  .rename_i o;cases f;have q:=A0V c;unfold A3W;refine w0 (.cons 7 _ (.cons 6 _ (.cons 5 _ (.cons 4 _ (.cons 3 _ (.cons 2 _ (.cons 1 _ (.cons 0 _ (.nil))))))))) ?_;repeat (first|refine w2 (.mk 1) (r:=rS) (e:=DV [_,_] rfl F1 rfl) (k':=?_)|refine w31 dZ (e:=PD _ ⟨A1o (m:=1000000) rfl,by simp only[Q5,O0,bB,Q2,G2,L8,D6,E5,W9];omega⟩) (k':=?_)|refine w31 BS (e:=A2b _ o) (k':=?_)|(refine w7 [.str _] ?_;rotate_left)|refine CC ?_|refine w4 (fun g=>?_) fun g=>?_|refine w1 (.bin .and) (e:=A2C _) (k':=?_)|refine w1 (.bin .and) (e:=A2B _) (k':=?_)|refine w1 (.bin .and) (e:=QA _) (k':=?_))
   all_goals
    refine F0 (fun z=>[U.str z]) ?_;unfold V4;first|rw[A9 (show m / 4%2*4=0 by omega)]|rw[A7 (show ¬m / 4%2*4=0 by omega)]
    first|rw[A9 (show m / 2%2*2=0 by omega)]|rw[A7 (show ¬m / 2%2*2=0 by omega)]
    first|rw[A9 (show m / 1%2*1=0 by omega)]|rw[A7 (show ¬m / 1%2*1=0 by omega)]
    simp only[Q5,O0,bB,Q2,G2,L8]<;>first|done|rfl
  .cases f
 .cases f
noncomputable def A8W:W3:=⟨_,fun c=>(.cons (XR c) (.cons (A3X c) .nil))⟩
def tM:List U->Option (Nat×List U)
 | [.int .i64 k,.int .i64 c,.int .i64 m,.int .i64 w,.int .i64 b,.int .i64 r,.int .i64 cl,.str t]=>if -9223372036854775808<=m/\m<=9223372036854775807/\(t.length:Int)<=140737488351232 then some (0,[.str (O2 (k,c,m,w,b,r,cl,t)),.int .i64 (u5 (k,c,m,w,b,r,cl,t))])else none
 | _=>none
def A2k(k:Int)(c:Int)(m:Int)(w:Int)(b:Int)(r:Int)(cl:Int)(t:B6)(d : -9223372036854775808<=m/\m<=9223372036854775807/\(t.length:Int)<=140737488351232):tM [.int .i64 k,.int .i64 c,.int .i64 m,.int .i64 w,.int .i64 b,.int .i64 r,.int .i64 cl,.str t]=some (0,[.str (O2 (k,c,m,w,b,r,cl,t)),.int .i64 (u5 (k,c,m,w,b,r,cl,t))]):=A9 d
def A4d:Tr:=.fn pL [h3 0,h3 1,h3 2,h3 3,h3 4,h3 5,h3 6,h 7 9] 1<|cD 8 9 0 (.ret [.string ⟨⟨[]⟩⟩,h3 8]) (cD 0 10 1 (.ret [.string ⟨⟨[]⟩⟩,jI 2]) (.fn wB [h3 0,h3 1,h3 2,h3 3,h3 4,h3 5,h3 6,h 7 9] 1<|.ret [h 11 9,jI 0]))
def A0v{G}(n:M6 G):M0 prog G 18 [.a [3,3,3,3,3,3,3,9]] tM [.s 9,.s 3]:=by
 refine G9 (d:=60) A4d (cxg (A8W.2 n) .nil) n ⟨f18,_,func18,rfl⟩ D2 D2 ?_;intro us outs f;unfold tM at f;split at f
 .skip;rename_i k c m w b r cl t;split at f
  .rename_i o;cases f;unfold A4d;refine w0 (.cons 7 _ (.cons 6 _ (.cons 5 _ (.cons 4 _ (.cons 3 _ (.cons 2 _ (.cons 1 _ (.cons 0 _ (.nil))))))))) ?_;repeat (first|(refine w7 [.str _,.int .i64 _] ?_;rotate_left)|refine CC ?_|refine w4 (fun g=>?_) fun g=>?_|refine w31 pL (e:=DF _ _ _ _ _ _ _ _ o) (k':=?_)|refine w31 wB (e:=OM _ _ _ _ _ _ _ _ (A6k (x:=(k,c,m,w,b,r,cl,t)) ‹_› ‹_›)) (k':=?_))
   all_goals
    first
    | exact A6j (x:=(k,c,m,w,b,r,cl,t)) ‹_›
    | exact A6i (x:=(k,c,m,w,b,r,cl,t)) ‹_› ‹_›
    | exact A6h (x:=(k,c,m,w,b,r,cl,t)) ‹_› ‹_›
  .cases f
 .cases f
def niF(s:B6)(a:B6):Bool:=decide (a=s)
def hD(b:UInt8):Int:=if 48<=b.toNat/\b.toNat<=57 then b.toNat-48 else if 65<=b.toNat/\b.toNat<=70 then b.toNat-55 else -1
def hR:B6->Int->Option Int
 | [],n=>some n
 | b::l,n=>if hD b<0 then none else hR l (16*n+hD b)
def hE(s:B6)(i n:Int):Option Unit:=match hR (s.drop i.toNat) n with
 | some _=>none
 | none=>some ()
def hV(s:B6)(i n:Int):Int:=(hR (s.drop i.toNat) n).getD 0
def BD(s:B6):Int:=match J4 (niF s) nmL 0 with
 | some j=>1114113+j
 | none=>if s=[83,112,97,99,101]then 32 else if s.length=1 then((s.getD 0 0).toNat:Int)else if s.length<6∨8<s.length∨s.take 2≠[85,43]then -1 else(hR (s.drop 2) 0).getD (-1)
def A9e(h:J4 (niF s) nmL 0=some j):BD s=1114113+j:=by unfold BD;rw[h]
def A7e(h:J4 (niF s) nmL 0=none):BD s=if s=[83,112,97,99,101]then 32 else if s.length=1 then((s.getD 0 0).toNat:Int)else if s.length<6∨8<s.length∨s.take 2≠[85,43]then -1 else(hR (s.drop 2) 0).getD (-1):=by unfold BD;rw[h]
def A6m{a:B6}(h:a=s):niF s a=true:=I2 h
def WM{a:B6}(h:¬a=s):niF s a=false:=E0 h
def stp(p:B6)(v:Int)(a:B6×Int):B6×Int:=if 2<a.1.length/\a.1.take 2=p then(a.1.drop 2,a.2+v)else a
def iZ(s:B6):Xt:=(1,BD (stp [83,45] 1 (stp [77,45] 2 (stp [67,45] 4 (s,0)))).1,(stp [83,45] 1 (stp [77,45] 2 (stp [67,45] 4 (s,0)))).2,0,0,0,0,[])
def X0:Xt:=(0,0,0,0,0,0,0,[])
def Z4(s:B6):Xt:=if kyP (iZ s)/\V4 (iZ s)=s then iZ s else X0
def jJ(s:B6):Int:=if kyP (iZ s)/\V4 (iZ s)=s then 0 else 6
def l9{d a2 a3 a4 a5 c g e f:Int}(h:x=(d,a2,a3,a4,a5,c,g,a8))(k:f=e):[U.int .i64 d,.int .i64 a2,.int .i64 a3,.int .i64 a4,.int .i64 a5,.int .i64 c,.int .i64 g,.str a8,.int .i64 e]=[U.int .i64 x.1,.int .i64 x.2.1,.int .i64 x.2.2.1,.int .i64 x.2.2.2.1,.int .i64 x.2.2.2.2.1,.int .i64 x.2.2.2.2.2.1,.int .i64 x.2.2.2.2.2.2.1,.str x.2.2.2.2.2.2.2,.int .i64 f]:=by subst h k;rfl
noncomputable def A8J:W3:=⟨_,fun c=>(.cons (WJ c) .nil)⟩
def pO:List U->Option (Nat×List U)
 | [u_l,.str v,.int .i64 n,.int .i64 i]=>(Y8 rS u_l).bind fun l=>if n=((el l).length:Int)/\0<=i/\i<=n/\n<=140737488351232 then q8 (J4 (niF v) ((el l).drop i.toNat) i) [] (fun j=>[.int .i64 j])else none
 | _=>none
def pN(l:(Option (List B6)))(v:B6)(n:Int)(i:Int)(c:n=((el l).length:Int)/\0<=i/\i<=n/\n<=140737488351232):pO [G6 rS l,.str v,.int .i64 n,.int .i64 i]=q8 (J4 (niF v) ((el l).drop i.toNat) i) [] (fun j=>[.int .i64 j]):=by
 simp only[pO,M3,J2];exact A9 c
def YD:V6:=⟨[(0,dat 17 0 11),(1,h 1 9),(7,h 2 3),(8,h 3 3)],[(17,.frz)],4,[⟨.exit 0,[],[],0⟩,⟨.ret,[(4,h 0 3)],[],1⟩]⟩
noncomputable def YE:Code:=(f88.body).getD .skip
noncomputable def A3s:Code:=match H7 [true,false,true,false] YE with|some (.loop x)=>x|_=>.skip
def YC:f88.body=some YE:=rfl
def XZ:H7 [true,false,true,false] YE=some (.loop A3s):=D2
def A3t:Tr:=cC 2 3 4 (gT 0 3 5 (.lt 9 (.get 1 0) [h 0 11,h3 3]<|aE [h 1 9,h 6 9]<|.br 7 (.ret [jI 1,h3 3]) (aA [h3 3,jI 1]<|.ret [jI (-1),h 0 11,h 1 9,h3 2,h3 8]))) (J8 0)
def YB:List U->Nat
 | [u_l,.str v,.int .i64 n,.int .i64 i]=>(match Y8 rS u_l with|some l=>(n-i).toNat|none=>0)
 | _=>0
def YA(l:(Option (List B6)))(v:B6)(n:Int)(i:Int):YB [G6 rS l,.str v,.int .i64 n,.int .i64 i]=(n-i).toNat:=by
 simp only[YB,M3]
def A3u{G}(r:M6 G):∀ (E:Nat->U) (base:Nat),@W1 ⟨E,G⟩ prog base gl f88.ntmps A3s (U3 prog gl n0 18 YD pO):=by
 refine u7 (dep:=60) (f:=88) (n0:=n0) (nB:=18) (H0:=H0) YB A3t (cxg (A8J.2 r) .nil) r func88 YC XZ D2 D2 D2 ?_;intro us d outs k;have t:=k;unfold pO at k;split at k
 .skip;rename_i w v n i;have q:=D9.1 k;clear k;obtain⟨l,c,k⟩:=q;replace c:=R8 c;subst c;split at k
  .rename_i o;clear k t;refine⟨rfl,?_⟩;unfold A3t;refine w0 (.cons 3 _ (.cons 2 _ (.cons 1 _ (.cons 0 _ (.nil))))) ?_;repeat (first|refine w4 (fun g=>?_) fun g=>?_|refine jF ?_|refine aC ?_|refine gU ?_|refine mR ?_|refine w1 (.get 1 0) (u:=.str _) (e:=J5 rfl A2 A2 rfl) (k':=?_)|refine FJ ?_|(refine w7 [.int .i64 _,.int .i64 _] ?_;rotate_left)|(refine w7 [.int .i64 _,G6 rS _,.str _,.int .i64 _,.int .i64 _] ?_;rotate_left)|(refine w8 ?_;first|omega)|(refine w7 [.int .i64 _] ?_;rotate_left))
   all_goals first
    | refine U7 ?_ ?_
      .rw[pN l v n (i+1) ⟨o.1,A2,A2,o.2.2.2⟩,pN l v n i o,aV (i:=i) o.2.1 A2 (WM (fun h=>(by assumption:¬_=_) (by first|exact h|exact h.symm)))]
      .rw[YA,YA];omega
    | refine K5 (d:=0) ?_
      rw[pN l v n i o,dG A2];rfl
    | refine K5 (d:=1) ?_
      rw[pN l v n i o,dF (i:=i) o.2.1 A2 (A6m (by first|assumption|(symm;assumption)))];rfl
  .cases k
 .cases k
noncomputable def A0p:List LpE:=[(88,([true,false,true,false],U3 prog gl n0 18 YD pO))]
def tL{G}(c:M6 G):y5 prog G gl A0p:=(.cons func88 YC XZ (A3u c) .nil)
def wE(c:Int):Int:=if c / 32%2=1 then c else c+32
def A5O{c:Int}(h0:0<=c)(h1:c<=255):IntKind.u8.wrap ((BitVec.ofInt IntKind.u8.bits c ||| BitVec.ofInt IntKind.u8.bits 32).toNat)=wE c:=by
 obtain⟨n,rfl⟩:∃ n:Nat,c=n:=⟨c.toNat,A2⟩;have d:n<256:=A2;have:((List.range 256).all fun n=>decide (IntKind.u8.wrap ((BitVec.ofInt IntKind.u8.bits (n:Int) ||| BitVec.ofInt IntKind.u8.bits 32).toNat)=wE n))=true:=D2;exact I7 (D0.1 this n (V2.2 d))
noncomputable def A8C:W3:=⟨_,fun c=>.nil⟩
def wD:List U->Option (Nat×List U)
 | [.int .u8 c]=>if 0<=c/\c<=255 then some (0,[.int .u8 (wE c)])else none
 | _=>none
def A1j(c:Int)(d:0<=c/\c<=255):wD [.int .u8 c]=some (0,[.int .u8 (wE c)]):=A9 d
def A3Z:Tr:=.lt 4 (.bin .or) [h 0 4,.int .u8 (32)]<|.ret [h 1 4]
def A3a{G}(f:M6 G):M0 prog G 126 [.s 4] wD [.s 4]:=by
 refine G9 (d:=60) A3Z (cxg (A8C.2 f) (tL f)) f ⟨f126,_,func126,rfl⟩ D2 D2 ?_;intro us outs g;unfold wD at g;split at g
 .skip;rename_i c;split at g
  .rename_i k;cases g;unfold A3Z;refine w0 (.cons 0 _ (.nil)) ?_;repeat (first|refine w1 (.bin .or) (e:=MG 8 256 128 F1 F1 A2 A2 A2 A2 A2) (k':=?_)|refine w1 (.bin .or) (e:=ZE 8 256 128 F1 F1 A2 A2 A2 A2 A2) (k':=?_)|refine w1 (.bin .or) (e:=MG 16 65536 128 F1 F1 A2 A2 A2 A2 A2) (k':=?_)|refine w1 (.bin .or) (e:=ZE 16 65536 128 F1 F1 A2 A2 A2 A2 A2) (k':=?_)|refine w1 (.bin .or) (e:=PY _ _ _) (k':=?_)|(refine w7 [.int .u8 _] ?_;rotate_left))
   all_goals
    exact F0 (fun z=>[U.int .u8 z]) (A5O k.1 k.2)
  .cases g
 .cases g
def BE:List U->Option (Nat×List U)
 | [.str s]=>if(s.length:Int)<=140737488351232 then some (0,[.str (s)])else none
 | _=>none
def A2U(s:B6)(c:(s.length:Int)<=140737488351232):BE [.str s]=some (0,[.str (s)]):=A9 c
def A4Q{G}(e:M6 G):M0 prog G 143 [.s 9] BE [.s 9]:=by
 intro us outs w vs R d c f hR;unfold BE at c;split at c
 .skip;rename_i s;split at c
  .rename_i g;cases c;have hv:=T8 (vs2:=[.string ⟨⟨s⟩⟩]) d rfl;subst hv;refine fB (vr:=[.string ⟨⟨s⟩⟩]) func143 rfl D2 rfl ?_;exact Tryz.stringslite_Clone ⟨⟨s⟩⟩ w (by show s.length<=_;omega)
  .cases c
 .cases c
def hv(c:Int):Int:=if 48<=c/\c<=57 then c-48 else if 65<=c/\c<=70 then c-55 else if 97<=c/\c<=102 then c-87 else -1
def pu:List Int->Int->Option Int
 | [],n=>some n
 | c::l,n=>if hv c<0 then none else pu l (n*16+hv c)
def puE(l:List Int)(n:Int):Option Int:=match pu l n with
 | none=>some 0
 | some _=>none
def puV(l:List Int)(n:Int):Int:=(pu l n).getD 0
def A5P{c:Int}(h0:0<=c)(h1:c<=255):0<=wE c/\wE c<=255:=by unfold wE;split<;>omega
def A5b{c:Int}(h0:0<=c)(h1:c<=255):hv c=if 48<=c/\c<=57 then c-48 else if 97<=wE c/\wE c<=102 then wE c-87 else -1:=by
 unfold hv wE;repeat' split;all_goals omega
def A1y{l:List Int}(h:∀ x ∈ l,0<=x/\x<=255)(i:Nat):0<=l.getD i default/\l.getD i default<=255:=by
 rw[B1];cases hx:l[i]? with
 | none=>decide
 | some x=>exact h x (C6 hx)
def A6Y{l:List Int}{n:Int}(h0:0<=i)(h1:i<(l.length:Int)):pu (l.drop i.toNat) n=if hv (l.getD i.toNat default)<0 then none else pu (l.drop (i+1).toNat) (n*16+hv (l.getD i.toNat default)):=by
 rw[Y7 l h0 h1];rfl
def A1S{l:List Int}{n d:Int}(h0:0<=i)(h1:i<(l.length:Int))(c:hv (l.getD i.toNat default)=d)(e:0<=d):puE (l.drop i.toNat) n=puE (l.drop (i+1).toNat) (n*16+d)/\puV (l.drop i.toNat) n=puV (l.drop (i+1).toNat) (n*16+d):=by
 unfold puE puV;rw[A6Y h0 h1,c,A7 A2];exact⟨rfl,rfl⟩
def A47{l:List Int}{n:Int}(h0:0<=i)(h1:i<(l.length:Int))(c:hv (l.getD i.toNat default)<0):puE (l.drop i.toNat) n=some 0:=by
 unfold puE;rw[A6Y h0 h1,A9 c]
def A48{l:List Int}{n:Int}(h1:(l.length:Int)<=i):puE (l.drop i.toNat) n=none/\puV (l.drop i.toNat) n=n:=by
 unfold puE puV;rw[show l.drop i.toNat=[]from Q8 A2];exact⟨rfl,rfl⟩
def A4_(h0:0<=i)(h1:i<6):(16:Int) ^ (i+1).toNat=16*16 ^ i.toNat/\(16:Int) ^ i.toNat<=1048576:=by
 obtain⟨n,rfl⟩:∃ n:Nat,i=n:=⟨i.toNat,A2⟩;have:n=0∨n=1∨n=2∨n=3∨n=4∨n=5:=A2;rcases this with rfl|rfl|rfl|rfl|rfl|rfl<;>decide
noncomputable def A77:W3:=⟨_,fun c=>(.cons (A3a c) (.cons (A4Q c) .nil))⟩
def mT:List U->Option (Nat×List U)
 | [.str z0,.int .u64 n,u_b,.int .i64 k,.int .i64 i]=>(Y8 rB u_b).bind fun b=>if k=((el b).length:Int)/\0<=i/\i<=k/\k<=6/\(∀ x ∈ el b,0<=x/\x<=255)/\0<=n/\n<16 ^ i.toNat then q8 (puE ((el b).drop i.toNat) n) [.int .u64 (puV ((el b).drop i.toNat) n),.str z0] (fun j=>[.int .u64 j])else none
 | _=>none
def oY(z0:B6)(n:Int)(b:A0u)(k:Int)(i:Int)(c:k=((el b).length:Int)/\0<=i/\i<=k/\k<=6/\(∀ x ∈ el b,0<=x/\x<=255)/\0<=n/\n<16 ^ i.toNat):mT [.str z0,.int .u64 n,G6 rB b,.int .i64 k,.int .i64 i]=q8 (puE ((el b).drop i.toNat) n) [.int .u64 (puV ((el b).drop i.toNat) n),.str z0] (fun j=>[.int .u64 j]):=by
 simp only[mT,M3,J2];exact A9 c
def A3G:V6:=⟨[(1,.int .i64 (16)),(8,.bool false),(9,h 0 9),(10,.int .u64 (1152921504606846976)),(11,.int .u64 (4294967295)),(12,.bool false),(13,h 1 7),(99,own 19 2 11),(100,h 3 3),(101,h 4 3)],[(19,.sq 2 11 5 20),(20,.frz)],5,[⟨.exit 3,[(13,h 0 7),(12,.bool false),(9,h 1 9)],[],2⟩,⟨.ret,[(6,h 0 7),(7,.iface 174 (.int .i64 (2)))],[],1⟩]⟩
noncomputable def VP:Code:=(f109.body).getD .skip
noncomputable def A3C:Code:=match H7 [true,true,true,true,true,true,true,true,true,true,true,false,true,false] VP with|some (.loop x)=>x|_=>.skip
def A3F:f109.body=some VP:=rfl
def A3E:H7 [true,true,true,true,true,true,true,true,true,true,true,false,true,false] VP=some (.loop A3C):=D2
def VM(n:Nat):Tr:=.fn wD [h 7 4] 1<|aQ [.int .u8 (97),h n 4]<|.br (n+1) (.fn wD [h 7 4] 1<|aQ [h (n+2) 4,.int .u8 (122)]<|.br (n+3) (.fn wD [h 7 4] 1<|.lt 4 (.bin .sub) [h (n+4) 4,.int .u8 (97)]<|.lt 4 (.bin .add) [h (n+5) 4,.int .u8 (10)]<|aH [h (n+6) 4,.int .u8 (16)]<|.br (n+7) (.ret [jI 1,.int .u64 (0)]) (aH [h 1 7,.int .u64 (1152921504606846976)]<|.br (n+8) (.no) (.lt 7 (.bin .mul) [h 1 7,.int .u64 (16)]<|.lt 7 (.conv .u64) [h (n+6) 4]<|.lt 7 (.bin .add) [h (n+9) 7,h (n+10) 7]<|aL [h (n+11) 7,h (n+9) 7]<|.br (n+12) (.no) (aG [h (n+11) 7,.int .u64 (4294967295)]<|.br (n+13) (.no) (aA [h3 4,jI 1]<|.ret [jI (-1),h 0 9,h (n+11) 7,h 2 11,h3 3,h3 (n+14)]))))) (.ret [jI 1,.int .u64 (0)])) (.ret [jI 1,.int .u64 (0)])
def VL(n:Nat):Tr:=aQ [.int .u8 (48),h 7 4]<|.br n (aQ [h 7 4,.int .u8 (57)]<|.br (n+1) (.lt 4 (.bin .sub) [h 7 4,.int .u8 (48)]<|aH [h (n+2) 4,.int .u8 (16)]<|.br (n+3) (.ret [jI 1,.int .u64 (0)]) (aH [h 1 7,.int .u64 (1152921504606846976)]<|.br (n+4) (.no) (.lt 7 (.bin .mul) [h 1 7,.int .u64 (16)]<|.lt 7 (.conv .u64) [h (n+2) 4]<|.lt 7 (.bin .add) [h (n+5) 7,h (n+6) 7]<|aL [h (n+7) 7,h (n+5) 7]<|.br (n+8) (.no) (aG [h (n+7) 7,.int .u64 (4294967295)]<|.br (n+9) (.no) (aA [h3 4,jI 1]<|.ret [jI (-1),h 0 9,h (n+7) 7,h 2 11,h3 3,h3 (n+10)]))))) (VM (n+2))) (VM (n+1))
def A3D:Tr:=cC 3 4 5 (gT 2 4 6 (.lt 4 (.get 1 0) [h 2 11,h3 4]<|aE [h 7 4,.int .u8 (95)]<|.br 8 (VL 9) (VL 9))) (.ret [jI 0,h 1 7,h 0 9])
def VO:List U->Nat
 | [.str z0,.int .u64 n,u_b,.int .i64 k,.int .i64 i]=>(match Y8 rB u_b with|some b=>(k-i).toNat|none=>0)
 | _=>0
def VN(z0:B6)(n:Int)(b:A0u)(k:Int)(i:Int):VO [.str z0,.int .u64 n,G6 rB b,.int .i64 k,.int .i64 i]=(k-i).toNat:=by
 simp only[VO,M3]
def A6X{G}(t:M6 G):∀ (E:Nat->U) (base:Nat),@W1 ⟨E,G⟩ prog base gl f109.ntmps A3C (U3 prog gl n0 21 A3G mT):=by
 refine u7 (dep:=60) (f:=109) (n0:=n0) (nB:=21) (H0:=H0) VO A3D (cxg (A77.2 t) (tL t)) t func109 A3F A3E D2 D2 D2 ?_;intro us d outs r;have B:=r;unfold mT at r;split at r
 .skip;rename_i z0 n D k i;have w:=D9.1 r;clear r;obtain⟨b,o,r⟩:=w;replace o:=R8 o;subst o;split at r
  .rename_i c;clear r B;have A:=A1y c.2.2.2.2.1 i.toNat;have hh:=A5b A.1 A.2;have J:=A5P A.1 A.2;have C:=fun h=>A4_ (i:=i) c.2.1 h
   refine⟨rfl,?_⟩;unfold A3D;refine w0 (.cons 4 _ (.cons 3 _ (.cons 2 _ (.cons 1 _ (.cons 0 _ (.nil)))))) ?_;repeat (first|refine w4 (fun g=>?_) fun g=>?_|refine jF ?_|refine aC ?_|(refine w8 ?_;first|omega|(have C:=A4_ (i:=i) c.2.1 A2;omega))|(refine w7 [.int .i64 _,.int .u64 _] ?_;rotate_left)|refine nA ?_|refine TJ ?_|refine FI ?_|refine jE ?_|refine A8l ?_|refine A6J ?_|refine FL ?_|refine uW ?_|refine w31 wD (e:=A1j _ A2) (k':=?_)|refine gU ?_|refine KJ ?_|(refine w7 [.int .i64 _,.str _,.int .u64 _,G6 rB _,.int .i64 _,.int .i64 _] ?_;rotate_left)|refine mR ?_|refine w1 (.get 1 0) (u:=.int .u8 _) (e:=J5 rfl A2 A2 rfl) (k':=?_)|refine fT ?_|(refine w7 [.int .i64 _,.int .u64 _,.str _] ?_;rotate_left))
   all_goals first
    | refine U7 ?_ ?_
      .have C:=A4_ (i:=i) c.2.1 A2;have H:∀ d,hv ((el b).getD i.toNat default)=d->0<=d->d<16->mT [.str z0,.int .u64 (n*16+d),G6 rB b,.int .i64 k,.int .i64 (i+1)]=mT [.str z0,.int .u64 n,G6 rB b,.int .i64 k,.int .i64 i]:=fun d I F h3=>by
        have q:=A1S (n:=n) c.2.1 (by omega:i<((el b).length:Int)) I F;rw[oY _ _ _ _ _ ⟨c.1,A2,A2,c.2.2.2.1,c.2.2.2.2.1,A2,A2⟩,oY _ _ _ _ _ c,q.1,q.2]
       exact H _ A2 A2 A2
      .rw[VN,VN];omega
    | refine K5 (d:=0) ?_
      have q:=A48 (n:=n) (by omega:((el b).length:Int)<=i);rw[oY _ _ _ _ _ c,q.1,q.2];rfl
    | refine K5 (d:=1) ?_
      rw[oY _ _ _ _ _ c,A47 c.2.1 A2 A2];rfl
  .cases r
 .cases r
noncomputable def A0o:List LpE:=[(109,([true,true,true,true,true,true,true,true,true,true,true,false,true,false],U3 prog gl n0 21 A3G mT)),(88,([true,false,true,false],U3 prog gl n0 18 YD pO))]
def JX{G}(c:M6 G):y5 prog G gl A0o:=(.cons func109 A3F A3E (A6X c) (.cons func88 YC XZ (A3u c) .nil))
def puB(s:B6):Int:=if s=[]then -1 else(pu (bI s) 0).getD (-1)
def iY(s:B6):Int:=match J4 (niF s) nmL 0 with
 | some j=>1114113+j
 | none=>if s=[83,112,97,99,101]then 32 else if s.length=1 then((s.getD 0 0).toNat:Int)else if s.take 2=[85,43]/\s.length<=8 then puB (s.drop 2)else -1
def A4B{α:Type}{p:α->Bool}:∀ {l:List α} {i j:Int},J4 p l i=some j->i<=j/\j<i+l.length
 | [],i,j,h=>by cases h
 | a::l,i,j,h=>by
   unfold J4 at h;split at h
   .cases h;simp only[E5];omega
   .have:=A4B h;simp only[E5];omega
def A3S(h:J4 (niF s) (List.drop (0:Int).toNat (el (some nmL))) 0=some v):0<=v/\v<26:=by
 have:=A4B h;have e:((List.drop (0:Int).toNat (el (some nmL))).length:Int)=26:=rfl;omega
def A7q(s:B6):∀ x ∈ el (some (bI s)),0<=x/\x<=255:=fun x h=>by have:=A0c (s:=s) h;omega
def A7r{n:Int}(h:(s.length:Int)<=n):((el (some (bI s))).length:Int)<=n:=by show((bI s).length:Int)<=n;rw[MV];exact h
def A7f(h:J4 (niF s) nmL 0=some v):iY s=1114113+v:=by unfold iY;rw[h]
def SM(h:J4 (niF s) nmL 0=none):iY s=if s=[83,112,97,99,101]then 32 else if s.length=1 then((s.getD 0 0).toNat:Int)else if s.take 2=[85,43]/\s.length<=8 then puB (s.drop 2)else -1:=by unfold iY;rw[h]
def A3H:∀ {l:List Int} {n v:Int},0<=n->pu l n=some v->0<=v/\v<(n+1)*16 ^ l.length
 | [],n,v,h0,h=>by cases h;simp;omega
 | c::l,n,v,h0,h=>by
   unfold pu at h;split at h
   .cases h
   .have d:hv c<16:=by unfold hv;(repeat' split)<;>omega
    have q:=A3H A2 h;have hp:(0:Int)<=16 ^ l.length:=Int.le_of_lt (Int.pow_pos F1);have hm:=Int.mul_le_mul_of_nonneg_right (show n*16+hv c+1<=(n+1)*16 by omega) hp;rw[Int.mul_assoc]at hm;rw[E5,Int.pow_succ,Int.mul_comm ((16:Int) ^ l.length) 16];omega
def A87(d:(s.length:Int)<=6)(h:puE (List.drop (0:Int).toNat (el (some (bI s)))) 0=none):IntKind.i64.wrap (puV (List.drop (0:Int).toNat (el (some (bI s)))) 0)=(pu (bI s) 0).getD (-1):=by
 have e:List.drop (0:Int).toNat (el (some (bI s)))=bI s:=rfl;rw[e]at h ⊢;unfold puE at h;unfold puV;cases c:pu (bI s) 0 with
 | none=>rw[c]at h;cases h
 | some v =>
   have q:=A3H F1 c;rw[MV]at q;have f:(16:Int) ^ s.length<=16 ^ 6:=by
    have:=bY (n:=16) F1 (show s.length<=6 by omega)
    exact_mod_cast this
   show IntKind.i64.wrap v=v;exact gN A2 A2
def A86(h:puE (List.drop (0:Int).toNat (el (some (bI s)))) 0=some j):(pu (bI s) 0).getD (-1) = -1:=by
 have e:List.drop (0:Int).toNat (el (some (bI s)))=bI s:=rfl;rw[e]at h;unfold puE at h;cases c:pu (bI s) 0 with
 | none=>rfl
 | some v=>rw[c]at h;cases h
def A6Z(h:s=[]):puB s = -1:=A9 h
def VQ(h:¬s=[]):puB s=(pu (bI s) 0).getD (-1):=A7 h
def A58(h:J4 (niF s) nmL 0=none)(h1:¬s=[83,112,97,99,101])(d:¬(s.length:Int)=1)(h3:¬¬List.take ((2:Int).toNat-(0:Int).toNat) (List.drop (0:Int).toNat s)=[85,43])(c:((List.drop (2:Int).toNat s).length:Int)<=6):iY s=puB (List.drop (2:Int).toNat s):=by
 rw[SM h,A7 h1,A7 A2,A9 ⟨D8.1 h3,by rw[E4]at c;simp at c;omega⟩];rfl
def A57(h:J4 (niF s) nmL 0=none)(h1:¬s=[83,112,97,99,101])(c:¬(s.length:Int)=1)(h3:¬(s.take 2=[85,43]/\s.length<=8)):iY s = -1:=by
 rw[SM h,A7 h1,A7 A2,A7 h3]
def A9h(h:J4 (niF s) nmL 0=none)(h1:¬s=[83,112,97,99,101])(c:(s.length:Int)=1):iY s=((s.getD 0 0).toNat:Int):=by
 rw[SM h,A7 h1,A9 A2]
def A9g(h:¬2<=(s.length:Int)):¬(s.take 2=[85,43]/\s.length<=8):=fun k=>by have:=F0 List.length k.1;rw[K4]at this;simp at this;omega
def A9f(h:¬((List.drop (2:Int).toNat s).length:Int)<=6):¬(s.take 2=[85,43]/\s.length<=8):=fun k=>by rw[E4]at h;have:=k.2;simp at h;omega
noncomputable def A8R:W3:=⟨_,fun c=>(.cons (WJ c) (.cons (A3a c) (.cons (A4Q c) .nil)))⟩
def JH:List U->Option (Nat×List U)
 | [.str s]=>if(s.length:Int)<=140737488351232 then some (0,[.int .i64 (iY s)])else none
 | _=>none
def A2S(s:B6)(c:(s.length:Int)<=140737488351232):JH [.str s]=some (0,[.int .i64 (iY s)]):=A9 c
def A0M(n:Nat):Tr:=aE [h 0 9,.string ⟨⟨[83,112,97,99,101]⟩⟩]<|.br n (J8 32) (aD [h 0 9]<|I4 (n+1) (n+2) 1 (.lt 4 (.idx) [h 0 9,jI 0]<|.lt 3 (.conv .i64) [h (n+3) 4]<|.ret [h3 (n+4)]) (J8 (-1)))
def q9(a0:Int)(c:Nat)(a2:Nat)(d e:Tr):Tr:=aD [h c 9]<|aH [h3 a2,jI a0]<|.br (a2+1) d e
def A0L(n:Nat):Tr:=q9 2 0 n (.lt 9 (.sub) [h 0 9,jI 0,jI 2]<|aE [h (n+2) 9,.string ⟨⟨[85,43]⟩⟩]<|N3 (n+3) (n+4) (A0M (n+5)) (.lt 9 (.sub1) [h 0 9,jI 2]<|aE [h 0 9,.string ⟨⟨[83,112,97,99,101]⟩⟩]<|.br (n+6) (J8 32) (aD [h 0 9]<|I4 (n+7) (n+8) 1 (.lt 4 (.idx) [h 0 9,jI 0]<|.lt 3 (.conv .i64) [h (n+9) 4]<|.ret [h3 (n+10)]) (aD [h (n+5) 9]<|Q4 (n+9) (n+10) 6 (aE [h (n+5) 9,.string ⟨⟨[]⟩⟩]<|.br (n+11) (.fn BE [h (n+5) 9] 1<|J8 (-1)) (.dt 11 (.byt) [h (n+5) 9]<|aD [h (n+12) 11]<|.lp mT [h (n+5) 9,.int .u64 (0),h (n+12) 11,h3 (n+13),jI 0] 0 2 (.lt 3 (.conv .i64) [h (n+14) 7]<|.ret [h3 (n+16)]) (.lp mT [h (n+5) 9,.int .u64 (0),h (n+12) 11,h3 (n+13),jI 0] 1 1 (.fn BE [h (n+5) 9] 1<|J8 (-1)) (.no)))) (J8 (-1)))))) (A0M (n+2))
def A4O:Tr:=.fn wA [] 1<|aD [h 1 11]<|.lp pO [h 1 11,h 0 9,h3 2,jI 0] 0 0 (A0L 3) (.lp pO [h 1 11,h 0 9,h3 2,jI 0] 1 1 (K0 3 4 0 (aA [jI 1114113,h3 3]<|.ret [h3 5]) (A0L 5)) (.no))
def A7h{G}(c:M6 G):M0 prog G 51 [.s 9] JH [.s 3]:=by
 refine G9 (d:=60) A4O (cxg (A8R.2 c) (JX c)) c ⟨f51,_,func51,rfl⟩ D2 D2 ?_;intro us outs f;unfold JH at f;split at f
 .skip;rename_i s;split at f
  .rename_i n;cases f;have o:=A4n (s.getD (0:Int).toNat 0);unfold A4O;refine w0 (.cons 0 _ (.nil)) ?_;repeat (first|(refine w7 [.int .i64 _] ?_;rotate_left)|refine w4 (fun g=>?_) fun g=>?_|refine FL ?_|refine uW ?_|refine nC ?_|refine FJ ?_|refine fT ?_|refine w1 (.idx) (e:=DW _ _ _ A2 A2) (k':=?_)|refine w31 BE (e:=A2U _ A2) (k':=?_)|refine zG ?_|refine jE ?_|refine w1 (.sub) (e:=mF _ _ _ _ _ A2 A2 A2) (k':=?_)|refine cI ?_|refine w1 (.sub1) (e:=mE _ _ _ A2 A2) (k':=?_)|refine nA ?_|refine w2 (.byt) (r:=rB) (e:=A2A _ rfl) (k':=?_)|(refine w6 mT (oY _ _ _ _ _ ⟨by first|rfl,F1,by first|omega,by first|exact A7r ‹_›,by first|exact A7q _,F1,F1⟩) (h0:=fun g=>?_) (h1:=fun v g=>?_);show Wk _ _ (.cons _ _ (.cons _ _ _));rotate_left;show Wk _ _ (.cons _ _ _);rotate_right)|refine jF ?_|refine aC ?_|refine w31 wA (e:=OJ ) (k':=?_)|(refine w6 pO (pN _ _ _ _ ⟨rfl,F1,by show(0:Int)<=26;decide,by show(26:Int)<=_;decide⟩) (h0:=fun g=>?_) (h1:=fun v g=>?_);skip;rotate_left;show Wk _ _ (.cons _ _ _);rotate_right))
   all_goals
    refine l0 ?_;symm;first
    | (exfalso;have:=A3S ‹_›;omega)
    | (have hv:=A3S ‹_›;rw[A7f ‹_›];first|done|(symm;exact gN A2 A2))
    | (rw[SM ‹_›,A9 ‹_›];done)
    | (rw[A9h ‹_› ‹_› ‹_›];first|rfl|(symm;exact gN A2 A2))
    | (rw[A58 ‹_› ‹_› ‹_› ‹_› ‹_›,A6Z ‹_›];done)
    | (rw[A58 ‹_› ‹_› ‹_› ‹_› ‹_›,VQ ‹_›,A87 ‹_› ‹_›];done)
    | (rw[A58 ‹_› ‹_› ‹_› ‹_› ‹_›,VQ ‹_›,A86 ‹_›];done)
    | exact A57 ‹_› ‹_› ‹_› (A9g ‹_›)
    | exact A57 ‹_› ‹_› ‹_› (A9f ‹_›)
    | exact A57 ‹_› ‹_› ‹_› (fun k=>(by assumption:¬List.take ((2:Int).toNat-(0:Int).toNat) (List.drop (0:Int).toNat s)=[85,43]) k.1)
  .cases f
 .cases f
def cK(s:B6):Xt:=(1,iY (stp [83,45] 1 (stp [77,45] 2 (stp [67,45] 4 (s,0)))).1,(stp [83,45] 1 (stp [77,45] 2 (stp [67,45] 4 (s,0)))).2,0,0,0,0,[])
def kpO(s:B6):Xt:=if kyP (cK s)/\V4 (cK s)=s then cK s else X0
def kpE(s:B6):Int:=if kyP (cK s)/\V4 (cK s)=s then 0 else 6
def A6x{X:Xt}(d:cK s=X)(h1:kyP X)(c:¬V4 X≠s):kpO s=X/\kpE s=0:=by
 unfold kpO kpE;rw[d,A9 ⟨h1,D8.1 c⟩,A9 ⟨h1,D8.1 c⟩];exact⟨rfl,rfl⟩
def A6z{X:Xt}(c:cK s=X)(h1:¬kyP X):kpO s=X0/\kpE s=6:=by
 unfold kpO kpE;rw[c,A7 (fun k=>h1 k.1),A7 (fun k=>h1 k.1)];exact⟨rfl,rfl⟩
def A6y{X:Xt}(d:cK s=X)(c:V4 X≠s):kpO s=X0/\kpE s=6:=by
 unfold kpO kpE;rw[d,A7 (fun k=>c k.2),A7 (fun k=>c k.2)];exact⟨rfl,rfl⟩
def A4s{p:B6}(v:Int)(h:¬2<=(s.length:Int)):stp p v (s,m)=(s,m):=A7 fun k=>h (by have:2<s.length:=k.1;omega)
def A4r{p:B6}(v:Int)(h:¬List.take ((2:Int).toNat-(0:Int).toNat) (List.drop (0:Int).toNat s)=p):stp p v (s,m)=(s,m):=A7 fun k=>h k.2
def A4q{p:B6}(v:Int)(h:List.drop (2:Int).toNat s=[]):stp p v (s,m)=(s,m):=A7 fun k=>by have:=F0 List.length h;rw[E4]at this;have h3:2<s.length:=k.1;simp at this;omega
def A4p{p:B6}(v:Int)(h:¬¬List.take ((2:Int).toNat-(0:Int).toNat) (List.drop (0:Int).toNat s)=p)(c:¬List.drop (2:Int).toNat s=[]):stp p v (s,m)=(List.drop (2:Int).toNat s,m+v):=A9 ⟨by show 2<s.length;exact Nat.lt_of_not_le fun k=>c (Q8 k),D8.1 h⟩
noncomputable def A7_:W3:=⟨_,fun c=>(.cons (A7h c) (.cons (YR c) (.cons (A3X c) .nil)))⟩
def mU:List U->Option (Nat×List U)
 | [.str s]=>if(s.length:Int)<=140737488351232 then some (0,[.int .i64 ((kpO s).1),.int .i64 ((kpO s).2.1),.int .i64 ((kpO s).2.2.1),.int .i64 ((kpO s).2.2.2.1),.int .i64 ((kpO s).2.2.2.2.1),.int .i64 ((kpO s).2.2.2.2.2.1),.int .i64 ((kpO s).2.2.2.2.2.2.1),.str ((kpO s).2.2.2.2.2.2.2),.int .i64 (kpE s)])else none
 | _=>none
def CP(s:B6)(c:(s.length:Int)<=140737488351232):mU [.str s]=some (0,[.int .i64 ((kpO s).1),.int .i64 ((kpO s).2.1),.int .i64 ((kpO s).2.2.1),.int .i64 ((kpO s).2.2.2.1),.int .i64 ((kpO s).2.2.2.2.1),.int .i64 ((kpO s).2.2.2.2.2.1),.int .i64 ((kpO s).2.2.2.2.2.2.1),.str ((kpO s).2.2.2.2.2.2.2),.int .i64 (kpE s)]):=A9 c
def P6:Tr:=.ret [jI 0,jI 0,jI 0,jI 0,jI 0,jI 0,jI 0,.string ⟨⟨[]⟩⟩,jI 6]
def bD(a0:Int)(c:Nat):Tr:=.ret [jI 1,h3 c,jI a0,jI 0,jI 0,jI 0,jI 0,.string ⟨⟨[]⟩⟩,jI 0]
def bE(a0:Int)(c:Nat)(d e:Tr):Tr:=.fn wB [jI 1,h3 c,jI a0,jI 0,jI 0,jI 0,jI 0,.string ⟨⟨[]⟩⟩] 1<|aN [h (c+3) 9,h 0 9]<|.br (c+4) d e
def bF(a0:Int)(c:Nat)(a2:Nat)(d e:Tr):Tr:=.fn JH [h c 9] 1<|.fn pU [jI 1,h3 a2,jI a0,jI 0,jI 0,jI 0,jI 0,.string ⟨⟨[]⟩⟩] 1<|aX [h (a2+1) 8]<|.br (a2+2) d e
def LL(n:Nat):Tr:=bF 0 0 n P6 (bE 0 n P6 (bD 0 n))
def eP(a0:Int)(c:Nat)(a2:Nat)(d e:Tr):Tr:=.lt 9 (.sub1) [h c 9,jI a0]<|aN [h a2 9,.string ⟨⟨[]⟩⟩]<|.br (a2+1) d e
def uB(a0:Nat)(c:Nat)(d e:Tr):Tr:=.lt 9 (.sub) [h a0 9,jI 0,jI 2]<|aE [h c 9,.string ⟨⟨[83,45]⟩⟩]<|aX [h (c+1) 8]<|.br (c+2) d e
def LK(n:Nat):Tr:=q9 2 0 n (uB 0 (n+2) (LL (n+5)) (eP 2 0 (n+5) (bF 1 (n+5) (n+7) P6 (bE 1 (n+7) P6 (bD 1 (n+7)))) (LL (n+7)))) (LL (n+2))
def LJ(n:Nat):Tr:=q9 2 0 n (.lt 9 (.sub) [h 0 9,jI 0,jI 2]<|aE [h (n+2) 9,.string ⟨⟨[77,45]⟩⟩]<|N3 (n+3) (n+4) (LK (n+5)) (eP 2 0 (n+5) (q9 2 (n+5) (n+7) (uB (n+5) (n+9) (bF 2 (n+5) (n+12) P6 (bE 2 (n+12) P6 (bD 2 (n+12)))) (eP 2 (n+5) (n+12) (bF 3 (n+12) (n+14) P6 (bE 3 (n+14) P6 (bD 3 (n+14)))) (bF 2 (n+5) (n+14) P6 (bE 2 (n+14) P6 (bD 2 (n+14)))))) (bF 2 (n+5) (n+9) P6 (bE 2 (n+9) P6 (bD 2 (n+9))))) (LK (n+7)))) (LK (n+2))
def LI(n:Nat):Tr:=bF 4 6 n P6 (bE 4 n P6 (bD 4 n))
def LH(n:Nat):Tr:=q9 2 6 n (uB 6 (n+2) (LI (n+5)) (eP 2 6 (n+5) (bF 5 (n+5) (n+7) P6 (bE 5 (n+7) P6 (bD 5 (n+7)))) (LI (n+7)))) (LI (n+2))
def LG(n:Nat):Tr:=bF 6 13 n P6 (bE 6 n P6 (bD 6 n))
def A3R:Tr:=q9 2 0 1 (.lt 9 (.sub) [h 0 9,jI 0,jI 2]<|aE [h 3 9,.string ⟨⟨[67,45]⟩⟩]<|N3 4 5 (LJ 6) (eP 2 0 6 (q9 2 6 8 (.lt 9 (.sub) [h 6 9,jI 0,jI 2]<|aE [h 10 9,.string ⟨⟨[77,45]⟩⟩]<|N3 11 12 (LH 13) (eP 2 6 13 (q9 2 13 15 (uB 13 17 (LG 20) (eP 2 13 20 (bF 7 20 22 P6 (bE 7 22 P6 (bD 7 22))) (LG 22))) (LG 17)) (LH 15))) (LH 10)) (LJ 8))) (LJ 3)
def AA{G}(k:M6 G):M0 prog G 20 [.s 9] mU [.a [3,3,3,3,3,3,3,9],.s 3]:=by
 refine G9 (d:=60) A3R (cxg (A7_.2 k) .nil) k ⟨f20,_,func20,rfl⟩ D2 D2 ?_;intro us outs f;unfold mU at f;split at f
 .skip;rename_i s;split at f
  .rename_i n;cases f;unfold A3R;refine w0 (.cons 0 _ (.nil)) ?_;repeat (first|refine w4 (fun g=>?_) fun g=>?_|refine w4B (fun g=>?_) fun g=>?_|(refine w7 [.int .i64 _,.int .i64 _,.int .i64 _,.int .i64 _,.int .i64 _,.int .i64 _,.int .i64 _,.str _,.int .i64 _] ?_;rotate_left)|refine cI ?_|refine yJ ?_|refine TK ?_|refine w31 JH (e:=A2S _ (by first|omega|(simp only[E4];omega))) (k':=?_)|refine w31 pU (e:=DM _ _ _ _ _ _ _ _ ⟨F1,F1,A1o (m:=140737488351232) rfl⟩) (k':=?_)|refine w31 wB (e:=OM _ _ _ _ _ _ _ _ (HW (x:=(1,iY _,_,0,0,0,0,[])) (D8.1 ‹_›))) (k':=?_)|refine nC ?_|refine jE ?_|refine w1 (.sub) (e:=mF _ _ _ _ _ A2 A2 (by first|omega|(simp only[E4]at *;omega))) (k':=?_)|refine FJ ?_|refine w1 (.sub1) (e:=mE _ _ _ A2 (by first|omega|(simp only[E4];omega))) (k':=?_))
   all_goals
    first
    | (exfalso;omega)
    | contradiction
    | (have c:cK s=cK s:=rfl
       conv at c=>rhs;unfold cK
       first|rw[A4s (p:=[67,45]) 4 ‹_›]at c|rw[A4r (p:=[67,45]) 4 ‹_›]at c|rw[A4q (p:=[67,45]) 4 (by first|assumption|exact D8.1 ‹_›)]at c|rw[A4p (p:=[67,45]) 4 ‹_› (by first|assumption|exact D8.1 ‹_›)]at c
       first|rw[A4s (p:=[77,45]) 2 ‹_›]at c|rw[A4r (p:=[77,45]) 2 ‹_›]at c|rw[A4q (p:=[77,45]) 2 (by first|assumption|exact D8.1 ‹_›)]at c|rw[A4p (p:=[77,45]) 2 ‹_› (by first|assumption|exact D8.1 ‹_›)]at c
       first|rw[A4s (p:=[83,45]) 1 ‹_›]at c|rw[A4r (p:=[83,45]) 1 ‹_›]at c|rw[A4q (p:=[83,45]) 1 (by first|assumption|exact D8.1 ‹_›)]at c|rw[A4p (p:=[83,45]) 1 ‹_› (by first|assumption|exact D8.1 ‹_›)]at c
       first
       | exact l9 (A6z c ‹_›).1 (A6z c ‹_›).2
       | exact l9 (A6y c ‹_›).1 (A6y c ‹_›).2
       | exact l9 (A6x c (D8.1 ‹_›) ‹_›).1 (A6x c (D8.1 ‹_›) ‹_›).2
)
  .cases f
 .cases f
def spl(c:UInt8):Nat->List B6->B6->Nat->List B6×B6×Nat
 | 0,a,s,i=>(a,s,i)
 | k+1,a,s,i=>if Lib.indexByte s c<0 then(a,s,i)else spl c k (a.set i (s.take (Lib.indexByte s c).toNat)) (s.drop ((Lib.indexByte s c).toNat+1)) (i+1)
def parts(s:B6)(c:UInt8):List B6 :=
 let n:=min (s.count c+1) (s.length+1)
 let r:=spl c (n-1) (List.replicate n []) s 0
 (r.1.set r.2.2 r.2.1).take (r.2.2+1)
def MD:∀ {s:B6} {c:UInt8},0<=Lib.indexByte s c->s=s.take (Lib.indexByte s c).toNat++c::s.drop ((Lib.indexByte s c).toNat+1)/\(Lib.indexByte s c).toNat<s.length/\s.count c=(s.drop ((Lib.indexByte s c).toNat+1)).count c+1
 | [],c,h=>by simp[Lib.indexByte]at h
 | b::l,c,h=>by
   have g:=Lib.indexByte_ge l c;unfold Lib.indexByte at h ⊢;split at h
   .rename_i d;rw[A9 d]
    have:=eq_of_beq d;subst this;simp
   .rename_i d;split at h
    .omega
    .rename_i h1;have h1:¬Lib.indexByte l c = -1:=by simpa using h1
     have f:0<=Lib.indexByte l c:=A2;obtain⟨i1,i2,i3⟩:=MD f;rw[A7 d,A7 (by simpa using h1)];have e:(Lib.indexByte l c+1).toNat=(Lib.indexByte l c).toNat+1:=A2;rw[e];refine⟨?_,?_,?_⟩
     .rw[List.take_succ_cons,List.drop_succ_cons,R1,<- i1]
     .rw[E5];omega
     .rw[List.drop_succ_cons,List.count_cons_of_ne (by simpa using d),i3]
def YS:∀ {s:B6} {c:UInt8},Lib.indexByte s c<0->s.count c=0
 | [],_,_=>rfl
 | b::l,c,h=>by
   have e:=Lib.indexByte_ge l c;unfold Lib.indexByte at h;split at h
   .omega
   .rename_i d;split at h
    .rename_i h1;have h1:Lib.indexByte l c = -1:=by simpa using h1
     rw[List.count_cons_of_ne (by simpa using d),YS A2]
    .omega
def d7(c:UInt8)(l:List B6):B6:=l.flatMap fun p=>p++[c]
def NM{c:UInt8}:∀ (k:Nat) (a:List B6) (s:B6) (i:Nat),s.count c=k->i+k<a.length->∃ P t,spl c k a s i=(a.take i++P++a.drop (i+k),t,i+k)/\P.length=k/\s=d7 c P++t
 | 0,a,s,i,_,h2=>⟨[],s,by simp[spl],rfl,by simp[d7]⟩
 | k+1,a,s,i,h1,h2=>by
   have hi:0<=Lib.indexByte s c:=by
    by_cases h:Lib.indexByte s c<0
    .have:=YS h;omega
    .omega
   obtain⟨d,r,q⟩:=MD hi;unfold spl;rw[A7 A2];obtain⟨P,t,g,e,o⟩:=NM (c:=c) k (a.set i (s.take (Lib.indexByte s c).toNat)) (s.drop ((Lib.indexByte s c).toNat+1)) (i+1) A2 (by rw[Q1];omega);refine⟨s.take (Lib.indexByte s c).toNat::P,t,?_,by rw[E5,e],?_⟩
   .rw[g];refine Prod.ext ?_ (Prod.ext rfl (by show i+1+k=i+(k+1);omega));show(a.set i _).take (i+1)++P++(a.set i _).drop (i+1+k)=a.take i++(_::P)++a.drop (i+(k+1));have n:i<a.length:=A2;rw[List.drop_set_of_lt A2,show i+1+k=i+(k+1) by omega,List.take_add_one,List.take_set_of_le (A6 _),Q7 n];simp
   .have f:s=s.take (Lib.indexByte s c).toNat++c::(d7 c P++t):=by rw[<- o];exact d
    have:d7 c (s.take (Lib.indexByte s c).toNat::P)++t=s.take (Lib.indexByte s c).toNat++c::(d7 c P++t):=by simp[d7]
    rw[this];exact f
def qV(s:B6)(c:UInt8):∃ P t,parts s c=P++[t]/\P.length=s.count c/\s=d7 c P++t:=by
 have n:s.count c<=s.length:=cB;obtain⟨P,t,g,d,k⟩:=NM (c:=c) (s.count c) (List.replicate (s.count c+1) []) s 0 rfl (by simp);refine⟨P,t,?_,d,k⟩;have hm:min (s.count c+1) (s.length+1)=s.count c+1:=A2;unfold parts;simp only[hm,Nat.add_sub_cancel];rw[g];have f:(List.replicate (s.count c+1) ([]:B6)).drop (0+s.count c)=[[]]:=by
  rw[List.drop_replicate];simp
 rw[f];simp only[List.take_zero,G2,E9];rw[<- d,List.set_append_right _ _ (A6 _)];have e:(P++[[]].set (P.length-P.length) t:List B6)=P++[t]:=by simp
 rw[e];exact List.take_of_length_le (by simp)
def A4A{α:Type}{p:α->Bool}:∀ {l:List α} {i:Int},(∀ a ∈ l,p a=false)->J4 p l i=none
 | [],_,_=>rfl
 | a::l,i,h=>by
   unfold J4;rw[h a (B2 ..)];exact A4A fun b c=>h b (B8 _ c)
def eqC(c b:UInt8):Bool:=decide (b=c)
def A7T{c b:UInt8}(h:b=c):eqC c b=true:=I2 h
def A7U{c b:UInt8}(h:¬b=c):eqC c b=false:=E0 h
def fx(c:UInt8)(s:B6):Option Int:=J4 (eqC c) s 0
def YX:∀ (s:B6) (c:UInt8) (i:Int),J4 (eqC c) s i=if Lib.indexByte s c = -1 then none else some (i+Lib.indexByte s c)
 | [],_,_=>rfl
 | b::l,c,i=>by
   have f:=Lib.indexByte_ge l c;show(if eqC c b=true then some i else J4 (eqC c) l (i+1))=_;by_cases e:b=c
   .have d:Lib.indexByte (b::l) c=0:=by rw[Lib.indexByte,A9 (beq_iff_eq.2 e)]
    rw[A9 (A7T e),d,A7 F1];simp
   .rw[A7 (by rw[A7U e];decide),YX l c (i+1)];by_cases k:Lib.indexByte l c = -1
    .have d:Lib.indexByte (b::l) c = -1:=by rw[Lib.indexByte,A7 (by simpa using e),k];rfl
     rw[A9 k,d,A9 rfl]
    .have d:Lib.indexByte (b::l) c=Lib.indexByte l c+1:=by rw[Lib.indexByte,A7 (by simpa using e),A7 (by simpa using k)]
     rw[A7 k,d,A7 A2];congr 1;omega
def A9b{c:UInt8}(h:Lib.indexByte s c<0):fx c s=none:=by
 have d:=Lib.indexByte_ge s c;unfold fx;rw[YX,A9 A2]
def A9a{c:UInt8}(h:¬Lib.indexByte s c<0):fx c s=some (Lib.indexByte s c):=by
 have d:=Lib.indexByte_ge s c;unfold fx;rw[YX,A7 A2,Int.zero_add]
def sp(c:UInt8):B6->List B6
 | []=>[[]]
 | b::l=>if b=c then[]::sp c l else match sp c l with
   | x::r=>(b::x)::r
   | []=>[[b]]
def A2v{c:UInt8}:∀ {u:B6},(∀ x ∈ u,x≠c)->sp c u=[u]
 | [],_=>rfl
 | b::u,h=>by
   unfold sp;rw[A7 (h b (B2 ..)),A2v fun x hx=>h x (B8 _ hx)]
def UB{c:UInt8}:∀ {u v:B6},(∀ x ∈ u,x≠c)->sp c (u++c::v)=u::sp c v
 | [],v,_=>by
   show(if c=c then[]::sp c v else _)=_;rw[A9 rfl]
 | b::u,v,h=>by
   show sp c (b::(u++c::v))=_;unfold sp;rw[A7 (h b (B2 ..)),UB fun x hx=>h x (B8 _ hx)];cases v<;>rfl
def FX{c:UInt8}:∀ {P:List B6} {t:B6},(∀ p ∈ P,∀ x ∈ p,x≠c)->(∀ x ∈ t,x≠c)->sp c (d7 c P++t)=P++[t]
 | [],t,_,h=>A2v h
 | p::P,t,h1,h=>by
   have e:d7 c (p::P)++t=p++c::(d7 c P++t):=by simp[d7]
   rw[e,UB (h1 p (B2 ..)),FX (fun q d=>h1 q (B8 _ d)) h];rfl
def SP{c:UInt8}:∀ {P:List B6} {t:B6},(d7 c P++t).count c=P.length->(∀ p ∈ P,∀ x ∈ p,x≠c)/\(∀ x ∈ t,x≠c)
 | P,t,h=>by
   have k:∀ (P:List B6),(d7 c P).count c=P.length+(P.map (List.count c)).sum:=by
    intro P;induction P with
    | nil=>rfl
    | cons p P d =>
      have e:d7 c (p::P)=p++(c::d7 c P):=by simp[d7]
      rw[e,List.count_append,List.count_cons_self,d,E5,C3,List.sum_cons];omega
   rw[List.count_append,k]at h;have f:(P.map (List.count c)).sum=0:=A2;have g:t.count c=0:=A2;refine⟨fun p hp x hx e=>?_,fun x hx e=>?_⟩
   .have:List.count c p<=(P.map (List.count c)).sum:=by
     have:∀ {l:List B6},p ∈ l->List.count c p<=(l.map (List.count c)).sum:=by
      intro l;induction l with
      | nil=>intro h;cases h
      | cons q l d =>
        intro h;rw[C3,List.sum_cons];rcases B3.1 h with rfl|h
        .omega
        .have:=d h;omega
     exact this hp
    have:0<List.count c p:=List.count_pos_iff.2 (e▸hx);omega
   .have:0<List.count c t:=List.count_pos_iff.2 (e▸hx);omega
def vY(s:B6)(c:UInt8):parts s c=sp c s:=by
 obtain⟨P,t,h1,f,h3⟩:=qV s c;have e:(d7 c P++t).count c=P.length:=by rw[<- h3];exact f.symm
 obtain⟨g,d⟩:=SP e;rw[h1,h3,FX g d]
def UA(s:B6)(c:UInt8):(sp c s).length=s.count c+1:=by
 rw[<- vY];obtain⟨P,t,h1,d,h3⟩:=qV s c;rw[h1,D6,d];rfl
def TZ{c:UInt8}{p:B6}(h:p ∈ sp c s):p.length<=s.length:=by
 rw[<- vY]at h;obtain⟨P,t,h1,f,h3⟩:=qV s c;rw[h1]at h;rw[h3,D6];have k:∀ {P:List B6},p ∈ P->p.length<=(d7 c P).length:=by
  intro P;induction P with
  | nil=>intro h;cases h
  | cons q P d =>
    intro h;have e:d7 c (q::P)=q++(c::d7 c P):=by simp[d7]
    rw[e,D6,E5];rcases B3.1 h with rfl|h
    .omega
    .have:=d h;omega
 rcases B7.1 h with h|h
 .have:=k h;omega
 .obtain rfl:=R5.1 h;omega
def DU{α:Type}{p:α->Bool}:∀ {l:List α} {i:Int},(∀ a ∈ l,p a=false)->J4 p l i=none
 | [],_,_=>rfl
 | a::l,i,h=>by
   unfold J4;rw[h a (B2 ..)];exact DU fun b c=>h b (B8 _ c)
def bsF(b:B6):Prop:=b≠[]/\(b.length<=2∨b.getD 1 0≠45)
def A5c(c:Int):4<=(v7 c).length:=by
 unfold v7
 (repeat' split)<;>exact A1 rfl
def A9n{c:Int}(h:cR c):bsF (d8 c):=by
 unfold cR at h;by_cases h1:1114113<=c
 .rw[A0T h1];have k:∀ n:Nat,n<26->(nmL.getD n [])≠[]/\((nmL.getD n []).length<=2∨(nmL.getD n []).getD 1 0≠45):=F1;exact k _ A2
 .by_cases d:c=32
  .rw[A0U d];exact⟨F1,.inr F1⟩
  .by_cases h3:c<=126
   .rw[A0X h1 d h3];exact⟨by simp,.inl (by simp)⟩
   .rw[EJ h1 d h3];exact⟨by simp,.inr (by show(43:UInt8)≠45;decide)⟩
def tR(a v:_)(m:Int){r:B6}(h:r≠[]):stp [a,45] v ([a,45]++r,m)=(r,m+v):=by
 unfold stp;rw[A9]
 .rfl
 .refine⟨?_,rfl⟩;show 2<([a,45]++r).length;rw[D6]
  have:=cP.2 h;show 2<2+_;omega
def TV{a b:UInt8}(v m:Int){r:B6}(h:b≠a):stp [a,45] v ([b,45]++r,m)=([b,45]++r,m):=by
 unfold stp;rw[A7];intro k
 have:=k.2;exact h (by injection this)
def KP{a:UInt8}(v m:Int){r:B6}(h:bsF r):stp [a,45] v (r,m)=(r,m):=by
 unfold stp;rw[A7];intro ⟨d,c⟩;have d:2<r.length:=d;rcases h.2 with h|h
 .omega
 .match r,d,c,h with
  | x::y::l,_,c,h =>
    have c:[x,y]=[a,45]:=c;injection c with _ c
    injection c with c
    exact h c
def mdP(n:Int)(a:UInt8):B6:=if n=0 then[]else[a,45]
def LQ(a:UInt8):mdP 0 a=[]:=A9 rfl
def A1i(a:UInt8):mdP 1 a=[a,45]:=A7 F1
def A1h(a:UInt8):mdP 2 a=[a,45]:=A7 F1
def A1g(a:UInt8):mdP 4 a=[a,45]:=A7 F1
def A8r{b:B6}{x y z:Int}(hx:x=0∨x=4)(d:y=0∨y=2)(e:z=0∨z=1)(h:bsF b):stp [83,45] 1 (stp [77,45] 2 (stp [67,45] 4 (mdP x 67++(mdP y 77++(mdP z 83++b)),0)))=(b,x+y+z):=by
 have c:=h.1;rcases hx with rfl|rfl<;>rcases d with rfl|rfl<;>rcases e with rfl|rfl
 .simp only[LQ,G2];rw[KP _ _ h,KP _ _ h,KP _ _ h];first|done|rfl
 .simp only[LQ,A1i,G2];rw[TV _ _ F1,TV _ _ F1,tR _ _ _ c];first|done|rfl
 .simp only[LQ,A1h,G2];rw[TV _ _ F1,tR _ _ _ c,KP _ _ h];first|done|rfl
 .simp only[LQ,A1h,A1i,G2];rw[TV _ _ F1,tR _ _ _ (by simp),tR _ _ _ c];first|done|rfl
 .simp only[A1g,LQ,G2];rw[tR _ _ _ c,KP _ _ h,KP _ _ h];first|done|rfl
 .simp only[A1g,LQ,A1i,G2];rw[tR _ _ _ (by simp),TV _ _ F1,tR _ _ _ c];first|done|rfl
 .simp only[A1g,A1h,LQ,G2];rw[tR _ _ _ (by simp),tR _ _ _ c,KP _ _ h];first|done|rfl
 .simp only[A1g,A1h,A1i];rw[tR _ _ _ (by simp),tR _ _ _ (by simp),tR _ _ _ c];first|done|rfl
def A7J{d:Int}(h0:0<=d)(h1:d<16):hD (hU d)=d/\hv ((hU d).toNat:Int)=d:=by
 have k:∀ n:Nat,n<16->hD (hU n)=n/\hv ((hU n).toNat:Int)=n:=F1
 have:=k d.toNat A2
 rwa[show((d.toNat:Nat):Int)=d by omega]at this
def A9Z{d n:Int}{l:B6}(h0:0<=d)(h1:d<16):hR (hU d::l) n=hR l (16*n+d):=by
 show(if hD (hU d)<0 then none else hR l (16*n+hD (hU d)))=_;rw[(A7J h0 h1).1,A7 A2]
def A85{d n:Int}{l:List Int}(h0:0<=d)(h1:d<16):pu (((hU d).toNat:Int)::l) n=pu l (n*16+d):=by
 show(if hv _<0 then none else pu l (n*16+hv _))=_;rw[(A7J h0 h1).2,A7 A2]
def A7G{c:Int}(h0:0<=c)(h1:c<16777216):hR (v7 c) 0=some c:=by
 unfold v7
 (repeat' split)<;>(repeat rw[A9Z A2 A2])<;>exact F0 some A2
def A7H{c:Int}(h0:0<=c)(h1:c<16777216):pu (bI (v7 c)) 0=some c:=by
 unfold v7
 (repeat' split)<;>(unfold bI;simp only[C3,F6])<;>(repeat rw[A85 A2 A2])<;>exact F0 some A2
def A9L{b:B6}(h:b.length=1):J4 (niF b) nmL 0=none:=DU fun a c=>WM fun e=>by
 have k:∀ a ∈ nmL,a.length≠1:=F1;exact k a c (by rw[e,h])
def A6l{b:B6}:J4 (niF ([85,43]++b)) nmL 0=none:=DU fun a c=>WM fun e=>by
 have k:∀ a ∈ nmL,a.getD 1 0≠43:=F1;exact k a c (by rw[e];rfl)
def A9K:∀ n:Nat,n<26->J4 (niF (nmL.getD n [])) nmL 0=some (n:Int):=by
 have k:((List.range 26).all fun n=>decide (J4 (niF (nmL.getD n [])) nmL 0=some (n:Int)))=true:=D2;exact fun n c=>I7 (D0.1 k n (V2.2 c))
def A59{c:Int}(h:cR c):BD (d8 c)=c/\iY (d8 c)=c:=by
 unfold cR at h;by_cases h1:1114113<=c
 .rw[A0T h1]
  have:=A9K (c-1114113).toNat A2;rw[A9e this,A7f this];omega
 .by_cases f:c=32
  .rw[A0U f,f];decide
  .by_cases h3:c<=126
   .rw[A0X h1 f h3];have k:=A9L (b:=[UInt8.ofNat c.toNat]) rfl;have e:(((([UInt8.ofNat c.toNat]:B6).getD 0 0)).toNat:Int)=c:=by
     show((UInt8.ofNat c.toNat).toNat:Int)=c;rw[UInt8.toNat_ofNat',V0 A2];omega
    have d:¬[UInt8.ofNat c.toNat]=([83,112,97,99,101]:B6):=fun e=>by have e:=F0 List.length e;simp at e
    have g:([UInt8.ofNat c.toNat]:B6).length=1:=rfl;refine⟨?_,?_⟩
    .rw[A7e k,A7 d,A9 g];exact e
    .rw[SM k,A7 d,A9 g];exact e
   .rw[EJ h1 f h3];have n:=A5c c;have o:=PO c;have l2:(([85,43]++v7 c:B6)).length=2+(v7 c).length:=by rw[D6];rfl
    have d:¬([85,43]++v7 c:B6)=[83,112,97,99,101]:=fun e=>by cases e
    refine⟨?_,?_⟩
    .rw[A7e A6l,A7 d,A7 A2,A7 fun k=>k.elim A2 fun k=>k.elim A2 fun k=>k rfl];show(hR (v7 c) 0).getD (-1)=c;rw[A7G A2 A2];rfl
    .rw[SM A6l,A7 d,A7 A2,A9 ⟨rfl,A2⟩];show puB (v7 c)=c;rw[VQ (fun e=>by rw[e]at n;exact absurd n F1),A7H A2 A2];rfl
def XI(h:kyP x):x=(1,x.2.1,x.2.2.1,0,0,0,0,[])/\0<=x.2.2.1/\x.2.2.1<=7:=by
 obtain⟨k,c,m,w,b,r,cl,t⟩:=x;obtain⟨h1,d⟩:=h;have h1:k=1:=h1;have d:Y6 k c m w b r cl t:=d;unfold Y6 at d;rcases d with d|d|d|d
 .obtain⟨_,rfl,rfl,rfl,rfl,rfl,e⟩:=d;subst h1;refine⟨rfl,?_⟩;show 0<=m/\m<=7;unfold o8 at e;omega
 .omega
 .omega
 .omega
def xQ(h:kyP x):iZ (V4 x)=x/\cK (V4 x)=x:=by
 obtain⟨e,h0,n⟩:=XI h;have c:=HW h;have k:=A9n c;have d:=A59 c;have g:V4 x=mdP (x.2.2.1 / 4%2*4) 67++(mdP (x.2.2.1 / 2%2*2) 77++(mdP (x.2.2.1 / 1%2*1) 83++d8 x.2.1)):=rfl;have f:=A8r (b:=d8 x.2.1) (x:=x.2.2.1 / 4%2*4) (y:=x.2.2.1 / 2%2*2) (z:=x.2.2.1 / 1%2*1) A2 A2 A2 k;unfold iZ cK;rw[g,f,d.1,d.2,show x.2.2.1 / 4%2*4+x.2.2.1 / 2%2*2+x.2.2.1 / 1%2*1=x.2.2.1 by omega];exact⟨e.symm,e.symm⟩
def pI(s:B6):kpO s=Z4 s/\kpE s=jJ s:=by
 by_cases h:kyP (iZ s)/\V4 (iZ s)=s
 .have e:cK s=iZ s:=by
   have:=(xQ h.1).2
   rwa[h.2]at this
  unfold kpO kpE Z4 jJ;rw[e,A9 h,A9 h];exact⟨rfl,rfl⟩
 .have c:¬(kyP (cK s)/\V4 (cK s)=s):=fun k=>h (by
   have:=(xQ k.1).1;rw[k.2]at this;rw[this];exact k)
  unfold kpO kpE Z4 jJ;rw[A7 h,A7 c,A7 h,A7 c];exact⟨rfl,rfl⟩
def A64(h:kyP x):Z4 (V4 x)=x/\jJ (V4 x)=0:=by
 have e:=(xQ h).1;unfold Z4 jJ;rw[e,A9 ⟨h,rfl⟩,A9 ⟨h,rfl⟩];exact⟨rfl,rfl⟩
def A5G(h:kyP x)(k:kyP y)(e:V4 x=V4 y):x=y:=by
 rw[<- (xQ h).1,e,(xQ k).1]
end
end Go.Proofs.YtbbicpheoakeeaaGreatDoor
