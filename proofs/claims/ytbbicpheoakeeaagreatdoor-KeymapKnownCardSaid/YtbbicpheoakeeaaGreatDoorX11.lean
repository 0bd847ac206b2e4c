import Derived.Test.YtbbicpheoakeeaaGreatDoorX10
import Derived.Lib.Bytealg
set_option linter.all false
set_option maxRecDepth 100000
set_option maxHeartbeats 4000000
namespace Go.Proofs.YtbbicpheoakeeaaGreatDoor
variable {a:UInt8}{a8 b sep u z:B7}{p x:Xt}{g:Gt}{i j m v y:Int}
section
open Go Go.Sx Go.Proofs.Tryz
def fG(x:Xt)(l:List Gt):Gt:=(l.find? (gQ x)).getD default
def stK(e is d:Bool)(c:B7)(s:Int):Int×Int×B7×Int :=
 if s=1/\e=true then(0,0,[],0)else if s=1/\is=true/\d=false then(0,1,c,0)else if s≠0/\is=true/\d=true then(2,1,c,0)else if s=1 then(0,2,[],0)else if e=true then(1,2,[],0)else(0,0,[],0)
def stS(p:Xt)(l:List Gt)(s:Int)(x:Xt):Int×Int×B7×Int :=
 if ¬kmP p l then(0,0,[],490)else if s<0∨2<s then(0,0,[],2)else if ¬xP x then(0,0,[],430)else if x.1≠1 then(s,0,[],0)else stK (eqX x p) (l.any (gQ x)) (gR (fG x l)) (gC (fG x l)) s
def l4{a b d:Int}{c:B7}{r:Int×Int×B7×Int}(h:r=(a,b,c,d)):[U.int .i64 a,.int .i64 b,.str c,.int .i64 d]=[U.int .i64 r.1,.int .i64 r.2.1,.str r.2.2.1,.int .i64 r.2.2.2]:=by subst h;rfl
def tI{l:List Gt}(h:¬pW p l≠0):kmP p l:=by
 by_cases k:kmP p l
 .exact k
 .rw[nC k]at h;exact absurd F7 h
def A4n{l:List Gt}(h:pW p l≠0):¬kmP p l:=fun k=>h (LI k)
def SI(h:¬(if xP x then(0:Int)else 430)≠0):xP x:=by
 by_cases k:xP x
 .exact k
 .rw[A8 k]at h;exact absurd F7 h
def A34(h:(if xP x then(0:Int)else 430)≠0):¬xP x:=fun k=>by rw[A9 k]at h;exact h rfl
def A72{l:List Gt}{s:Int}(h:pW p l≠0):stS p l s x=(0,0,[],pW p l):=by
 unfold stS;rw[A9 (A4n h),nC (A4n h)]
def A5f{l:List Gt}{s:Int}(h:¬kmP p l):stS p l s x=(0,0,[],490):=by
 unfold stS;rw[A9 h]
def A71{l:List Gt}{s:Int}(h:kmP p l)(c:s<0∨2<s):stS p l s x=(0,0,[],2):=by
 unfold stS;rw[A8 (fun k=>k h),A9 c]
def A70{l:List Gt}{s:Int}(h:kmP p l)(c:¬(s<0∨2<s))(h3:(if xP x then(0:Int)else 430)≠0):stS p l s x=(0,0,[],if xP x then(0:Int)else 430):=by
 unfold stS;rw[A8 (fun k=>k h),A8 c,A9 (A34 h3),A8 (A34 h3)]
def A7z{l:List Gt}{s:Int}(h:kmP p l)(c:¬(s<0∨2<s))(h3:¬(if xP x then(0:Int)else 430)≠0)(d:x.1≠1):stS p l s x=(s,0,[],0):=by
 unfold stS;rw[A8 (fun k=>k h),A8 c,A8 (fun k=>k (SI h3)),A9 d]
def A7y{l:List Gt}{s:Int}(h:kmP p l)(c:¬(s<0∨2<s))(h3:¬(if xP x then(0:Int)else 430)≠0)(d:¬x.1≠1):stS p l s x=stK (eqX x p) (l.any (gQ x)) (gR (fG x l)) (gC (fG x l)) s:=by
 unfold stS;rw[A8 (fun k=>k h),A8 c,A8 (fun k=>k (SI h3)),A8 d]
def XA :kQ x (pOf g)=gQ x g:=by
 rw[J1,A1R];unfold gQ;rw[A6j];exact⟨fun h=>h.symm,fun h=>h.symm⟩
def OL{l:List Gt}(h:kmP p l):(el (ixS (some []) l)).find? (kQ x)=(l.find? (gQ x)).map pOf:=by
 rw[OK (l:=l) (R:=[]) (by simpa using h.2.2.2.1),G1,J5,List.find?_map];congr 1;congr 1
 funext g;exact XA
def pC{l:List Gt}(h:kmP p l):((el (ixS (some []) l)).find? (kQ x)).elim [] (fun a=>gC (pG a))=gC (fG x l):=by
 rw[OL h];unfold fG;cases l.find? (gQ x)<;>rfl
def pR{l:List Gt}(h:kmP p l):((el (ixS (some []) l)).find? (kQ x)).elim false (fun a=>gR (pG a))=gR (fG x l):=by
 rw[OL h];unfold fG;cases l.find? (gQ x)<;>rfl
def pH{l:List Gt}(h:kmP p l):(el (ixS (some []) l)).any (kQ x)=l.any (gQ x):=by
 rw[OK (l:=l) (R:=[]) (by simpa using h.2.2.2.1),G1,J5,List.any_map];congr 1;funext g;exact XA
noncomputable def A0S:List LpE:=[(41,([true,true,false,true,false],V2 prog gl n0 21 OJ jZ))]
def JA{G}(c:N9 G):v8 prog G gl A0S:=(.cons func41 OI OH (XO c) .nil)
noncomputable def A7P:X8:=⟨_,fun c=>(.cons (zU c) (.cons (WX c) .nil))⟩
def A3A:List U->Option (Nat×List U)
 | [.int .i64 p1,.int .i64 p2,.int .i64 p3,.int .i64 p4,.int .i64 p5,.int .i64 p6,.int .i64 p7,.str p8,u_l,.int .i64 s,.int .i64 x1,.int .i64 x2,.int .i64 x3,.int .i64 x4,.int .i64 x5,.int .i64 x6,.int .i64 x7,.str x8]=>(W7 rG u_l).bind fun l=>if -9223372036854775808<=p3/\p3<=9223372036854775807/\(p8.length:Int)<=140737488351232/\((el l).length:Int)<=140737488351232/\(∀ g ∈ el l,gOk g) /\ -9223372036854775808<=x3/\x3<=9223372036854775807/\(x8.length:Int)<=140737488351232 then some (0,[.int .i64 ((stS (p1,p2,p3,p4,p5,p6,p7,p8) (el l) s (x1,x2,x3,x4,x5,x6,x7,x8)).1),.int .i64 ((stS (p1,p2,p3,p4,p5,p6,p7,p8) (el l) s (x1,x2,x3,x4,x5,x6,x7,x8)).2.1),.str ((stS (p1,p2,p3,p4,p5,p6,p7,p8) (el l) s (x1,x2,x3,x4,x5,x6,x7,x8)).2.2.1),.int .i64 ((stS (p1,p2,p3,p4,p5,p6,p7,p8) (el l) s (x1,x2,x3,x4,x5,x6,x7,x8)).2.2.2)])else none
 | _=>none
def KW(n:Nat):Tr:=.lt 8 (.eqs) [h3 10,h3 0,h3 11,h3 1,h3 12,h3 2,h3 13,h3 3,h3 14,h3 4,h3 15,h3 5,h3 16,h3 6,h 17 9,h 7 9]<|.br n (.ret [jI 1,jI 2,.string ⟨⟨[]⟩⟩,jI 0]) (.ret [jI 0,jI 0,.string ⟨⟨[]⟩⟩,jI 0])
def WT(n:Nat):Tr:=.br 38 (.br 37 (.ret [jI 2,jI 1,h 36 9,jI 0]) (KW n)) (KW n)
def A2_:Tr:=.fn mL [h3 0,h3 1,h3 2,h3 3,h3 4,h3 5,h3 6,h 7 9,h 8 20] 1<|y0 18 19 0 (.ret [jI 0,jI 0,.string ⟨⟨[]⟩⟩,h3 18]) (aL [h3 9,jI 0]<|.br 20 (.ret [jI 0,jI 0,.string ⟨⟨[]⟩⟩,jI 2]) (aG [h3 9,jI 2]<|.br 21 (.ret [jI 0,jI 0,.string ⟨⟨[]⟩⟩,jI 2]) (.fn oV [h3 10,h3 11,h3 12,h3 13,h3 14,h3 15,h3 16,h 17 9] 1<|y0 22 23 0 (.ret [jI 0,jI 0,.string ⟨⟨[]⟩⟩,h3 22]) (y0 10 24 1 (.ret [h3 9,jI 0,.string ⟨⟨[]⟩⟩,jI 0]) (.dt 28 (.mk 18) []<|aD [h 8 20]<|.fn jZ [h 8 20,h3 26,jI 0,h 25 28] 1<|.lt 3 (.mget 18 8 8) [h 27 28,jI 0,h3 10,h3 11,h3 12,h3 13,h3 14,h3 15,h3 16,h 17 9]<|.lt 3 (.mget 18 8 9) [h 27 28,jI 0,h3 10,h3 11,h3 12,h3 13,h3 14,h3 15,h3 16,h 17 9]<|.lt 3 (.mget 18 8 10) [h 27 28,jI 0,h3 10,h3 11,h3 12,h3 13,h3 14,h3 15,h3 16,h 17 9]<|.lt 3 (.mget 18 8 11) [h 27 28,jI 0,h3 10,h3 11,h3 12,h3 13,h3 14,h3 15,h3 16,h 17 9]<|.lt 3 (.mget 18 8 12) [h 27 28,jI 0,h3 10,h3 11,h3 12,h3 13,h3 14,h3 15,h3 16,h 17 9]<|.lt 3 (.mget 18 8 13) [h 27 28,jI 0,h3 10,h3 11,h3 12,h3 13,h3 14,h3 15,h3 16,h 17 9]<|.lt 3 (.mget 18 8 14) [h 27 28,jI 0,h3 10,h3 11,h3 12,h3 13,h3 14,h3 15,h3 16,h 17 9]<|.lt 9 (.mget 18 8 15) [h 27 28,.string ⟨⟨[]⟩⟩,h3 10,h3 11,h3 12,h3 13,h3 14,h3 15,h3 16,h 17 9]<|.lt 9 (.mget 18 8 16) [h 27 28,.string ⟨⟨[]⟩⟩,h3 10,h3 11,h3 12,h3 13,h3 14,h3 15,h3 16,h 17 9]<|.lt 8 (.mget 18 8 17) [h 27 28,.bool false,h3 10,h3 11,h3 12,h3 13,h3 14,h3 15,h3 16,h 17 9]<|.lt 8 (.mhas 18 8) [h 27 28,h3 10,h3 11,h3 12,h3 13,h3 14,h3 15,h3 16,h 17 9]<|K0 9 39 1 (.lt 8 (.eqs) [h3 10,h3 0,h3 11,h3 1,h3 12,h3 2,h3 13,h3 3,h3 14,h3 4,h3 15,h3 5,h3 16,h3 6,h 17 9,h 7 9]<|.br 40 (.ret [jI 0,jI 0,.string ⟨⟨[]⟩⟩,jI 0]) (Q1 38 41 (.ret [jI 0,jI 2,.string ⟨⟨[]⟩⟩,jI 0]) (Q1 37 42 (.ret [jI 0,jI 1,h 36 9,jI 0]) (WT 43)))) (K0 9 40 2 (WT 41) (KW 41)))))))
def A3B{G}(A:N9 G):M7 prog G 14 [.a [3,3,3,3,3,3,3,9,20],.s 3,.a [3,3,3,3,3,3,3,9]] A3A [.s 3,.s 3,.s 9,.s 3]:=by
 refine H6 (d:=60) A2_ (cxg (A7P.2 A) (JA A)) A ⟨f14,_,func14,rfl⟩ D9 D9 ?_;intro us outs B;unfold A3A at B;split at B
 .skip;rename_i H L P N J K O S V s w o c q t k f n;have D:=D6.1 B;clear B;obtain⟨l,h,B⟩:=D;replace h:=P8 h;subst h;split at B
  .rename_i C;cases B;unfold A2_;refine s0L ?_;show Tr.sav _ _ (.cons 17 _ (.cons 16 _ (.cons 15 _ (.cons 14 _ (.cons 13 _ (.cons 12 _ (.cons 11 _ (.cons 10 _ (.cons 9 _ (.cons 8 _ (.cons 7 _ (.cons 6 _ (.cons 5 _ (.cons 4 _ (.cons 3 _ (.cons 2 _ (.cons 1 _ (.cons 0 _ (.nil)))))))))))))))))));refine Wk.s ?_;repeat (first|refine w4 (fun g=>?_) fun g=>?_|refine w4B (fun g=>?_) fun g=>?_|(refine w7 [.int .i64 _,.int .i64 _,.str _,.int .i64 _] ?_;rotate_left)|refine w1 (.eqs) (e:=rfl) (k':=?_)|refine fD ?_|refine EO ?_|refine BM ?_|refine nV ?_|refine w31 mL (e:=CO _ _ _ _ _ _ _ _ _ ⟨C.1,C.2.1,C.2.2.1,C.2.2.2.1,C.2.2.2.2.1⟩) (k':=?_)|refine mA ?_|refine QB ?_|refine w31 oV (e:=CP _ _ _ _ _ _ _ _ ⟨A2,A2,A2⟩) (k':=?_)|refine w2 (.mk 18) (r:=rP) (e:=rJ [] rfl F7 rfl) (k':=?_)|refine uM ?_|refine w31 jZ (e:=pA _ _ _ _ ⟨rfl,F7,A2,A2,Option.some_ne_none _⟩) (k':=?_)|refine w1x (.mget 18 8 8) (e:=M3 (U.int .i64) (fun a=>(_ == a.1 && (_ == a.2.1 && (_ == a.2.2.1 && (_ == a.2.2.2.1 && (_ == a.2.2.2.2.1 && (_ == a.2.2.2.2.2.1 && (_ == a.2.2.2.2.2.2.1 && (_ == a.2.2.2.2.2.2.2.1 && true))))))))) (fun a=>a.2.2.2.2.2.2.2.2.1) rfl rfl (fun _=>rfl) (fun _=>rfl)) (k':=?_)|refine w1x (.mget 18 8 9) (e:=M3 (U.int .i64) (fun a=>(_ == a.1 && (_ == a.2.1 && (_ == a.2.2.1 && (_ == a.2.2.2.1 && (_ == a.2.2.2.2.1 && (_ == a.2.2.2.2.2.1 && (_ == a.2.2.2.2.2.2.1 && (_ == a.2.2.2.2.2.2.2.1 && true))))))))) (fun a=>a.2.2.2.2.2.2.2.2.2.1) rfl rfl (fun _=>rfl) (fun _=>rfl)) (k':=?_)|refine w1x (.mget 18 8 10) (e:=M3 (U.int .i64) (fun a=>(_ == a.1 && (_ == a.2.1 && (_ == a.2.2.1 && (_ == a.2.2.2.1 && (_ == a.2.2.2.2.1 && (_ == a.2.2.2.2.2.1 && (_ == a.2.2.2.2.2.2.1 && (_ == a.2.2.2.2.2.2.2.1 && true))))))))) (fun a=>a.2.2.2.2.2.2.2.2.2.2.1) rfl rfl (fun _=>rfl) (fun _=>rfl)) (k':=?_)|refine w1x (.mget 18 8 11) (e:=M3 (U.int .i64) (fun a=>(_ == a.1 && (_ == a.2.1 && (_ == a.2.2.1 && (_ == a.2.2.2.1 && (_ == a.2.2.2.2.1 && (_ == a.2.2.2.2.2.1 && (_ == a.2.2.2.2.2.2.1 && (_ == a.2.2.2.2.2.2.2.1 && true))))))))) (fun a=>a.2.2.2.2.2.2.2.2.2.2.2.1) rfl rfl (fun _=>rfl) (fun _=>rfl)) (k':=?_)|refine w1x (.mget 18 8 12) (e:=M3 (U.int .i64) (fun a=>(_ == a.1 && (_ == a.2.1 && (_ == a.2.2.1 && (_ == a.2.2.2.1 && (_ == a.2.2.2.2.1 && (_ == a.2.2.2.2.2.1 && (_ == a.2.2.2.2.2.2.1 && (_ == a.2.2.2.2.2.2.2.1 && true))))))))) (fun a=>a.2.2.2.2.2.2.2.2.2.2.2.2.1) rfl rfl (fun _=>rfl) (fun _=>rfl)) (k':=?_)|refine w1x (.mget 18 8 13) (e:=M3 (U.int .i64) (fun a=>(_ == a.1 && (_ == a.2.1 && (_ == a.2.2.1 && (_ == a.2.2.2.1 && (_ == a.2.2.2.2.1 && (_ == a.2.2.2.2.2.1 && (_ == a.2.2.2.2.2.2.1 && (_ == a.2.2.2.2.2.2.2.1 && true))))))))) (fun a=>a.2.2.2.2.2.2.2.2.2.2.2.2.2.1) rfl rfl (fun _=>rfl) (fun _=>rfl)) (k':=?_)|refine w1x (.mget 18 8 14) (e:=M3 (U.int .i64) (fun a=>(_ == a.1 && (_ == a.2.1 && (_ == a.2.2.1 && (_ == a.2.2.2.1 && (_ == a.2.2.2.2.1 && (_ == a.2.2.2.2.2.1 && (_ == a.2.2.2.2.2.2.1 && (_ == a.2.2.2.2.2.2.2.1 && true))))))))) (fun a=>a.2.2.2.2.2.2.2.2.2.2.2.2.2.2.1) rfl rfl (fun _=>rfl) (fun _=>rfl)) (k':=?_)|refine w1x (.mget 18 8 15) (e:=M3 U.str (fun a=>(_ == a.1 && (_ == a.2.1 && (_ == a.2.2.1 && (_ == a.2.2.2.1 && (_ == a.2.2.2.2.1 && (_ == a.2.2.2.2.2.1 && (_ == a.2.2.2.2.2.2.1 && (_ == a.2.2.2.2.2.2.2.1 && true))))))))) (fun a=>a.2.2.2.2.2.2.2.2.2.2.2.2.2.2.2.1) rfl rfl (fun _=>rfl) (fun _=>rfl)) (k':=?_)|refine w1x (.mget 18 8 16) (e:=M3 U.str (fun a=>(_ == a.1 && (_ == a.2.1 && (_ == a.2.2.1 && (_ == a.2.2.2.1 && (_ == a.2.2.2.2.1 && (_ == a.2.2.2.2.2.1 && (_ == a.2.2.2.2.2.2.1 && (_ == a.2.2.2.2.2.2.2.1 && true))))))))) (fun a=>a.2.2.2.2.2.2.2.2.2.2.2.2.2.2.2.2.1) rfl rfl (fun _=>rfl) (fun _=>rfl)) (k':=?_)|refine w1x (.mget 18 8 17) (e:=M3 U.bool (fun a=>(_ == a.1 && (_ == a.2.1 && (_ == a.2.2.1 && (_ == a.2.2.2.1 && (_ == a.2.2.2.2.1 && (_ == a.2.2.2.2.2.1 && (_ == a.2.2.2.2.2.2.1 && (_ == a.2.2.2.2.2.2.2.1 && true))))))))) (fun a=>a.2.2.2.2.2.2.2.2.2.2.2.2.2.2.2.2.2) rfl rfl (fun _=>rfl) (fun _=>rfl)) (k':=?_)|refine w1x (.mhas 18 8) (e:=HZ (fun a=>(_ == a.1 && (_ == a.2.1 && (_ == a.2.2.1 && (_ == a.2.2.2.1 && (_ == a.2.2.2.2.1 && (_ == a.2.2.2.2.2.1 && (_ == a.2.2.2.2.2.2.1 && (_ == a.2.2.2.2.2.2.2.1 && true))))))))) rfl rfl (fun _=>rfl)) (k':=?_))
   all_goals
    first
    | exact l4 (A72 ‹_›)
    | exact l4 (A5f ‹_›)
    | (refine l4 (A71 (tI ‹_›) ?_);omega)
    | exact l4 (A70 (tI ‹_›) A2 ‹_›)
    | exact l4 (A7z (tI ‹_›) A2 ‹_› ‹_›)
    | (refine l4 ((A7y (tI ‹_›) A2 ‹_› ‹_›).trans ?_)
       have F:kmP (H,L,P,N,J,K,O,S) (el l):=(tI ‹_›);clear C A;have W:(((el (ixS (some []) ((el l).drop (0:Int).toNat)))).find? (fun a=>(w == a.1 && (o == a.2.1 && (c == a.2.2.1 && (q == a.2.2.2.1 && (t == a.2.2.2.2.1 && (k == a.2.2.2.2.2.1 && (f == a.2.2.2.2.2.2.1 && (n == a.2.2.2.2.2.2.2.1 && true)))))))))).elim false (fun a=>a.2.2.2.2.2.2.2.2.2.2.2.2.2.2.2.2.2)=gR (fG (w,o,c,q,t,k,f,n) (el l)):=pR (x:=(w,o,c,q,t,k,f,n)) F;have z2:(((el (ixS (some []) ((el l).drop (0:Int).toNat)))).find? (fun a=>(w == a.1 && (o == a.2.1 && (c == a.2.2.1 && (q == a.2.2.2.1 && (t == a.2.2.2.2.1 && (k == a.2.2.2.2.2.1 && (f == a.2.2.2.2.2.2.1 && (n == a.2.2.2.2.2.2.2.1 && true)))))))))).elim [] (fun a=>a.2.2.2.2.2.2.2.2.2.2.2.2.2.2.2.2.1)=gC (fG (w,o,c,q,t,k,f,n) (el l)):=pC (x:=(w,o,c,q,t,k,f,n)) F;have T:(((el (ixS (some []) ((el l).drop (0:Int).toNat)))).find? (fun a=>(w == a.1 && (o == a.2.1 && (c == a.2.2.1 && (q == a.2.2.2.1 && (t == a.2.2.2.2.1 && (k == a.2.2.2.2.2.1 && (f == a.2.2.2.2.2.2.1 && (n == a.2.2.2.2.2.2.2.1 && true)))))))))).elim (ByteArray.mk (Array.mk [])).data.toList (fun a=>a.2.2.2.2.2.2.2.2.2.2.2.2.2.2.2.2.1)=gC (fG (w,o,c,q,t,k,f,n) (el l)):=pC (x:=(w,o,c,q,t,k,f,n)) F;have z3:((el (ixS (some []) ((el l).drop (0:Int).toNat)))).any (fun a=>(w == a.1 && (o == a.2.1 && (c == a.2.2.1 && (q == a.2.2.2.1 && (t == a.2.2.2.2.1 && (k == a.2.2.2.2.2.1 && (f == a.2.2.2.2.2.2.1 && (n == a.2.2.2.2.2.2.2.1 && true)))))))))=(el l).any (gQ (w,o,c,q,t,k,f,n)):=pH (x:=(w,o,c,q,t,k,f,n)) F;have z4:((w == H && (o == L && (c == P && (q == N && (t == J && (k == K && (f == O && (n == S && true)))))))))=eqX (w,o,c,q,t,k,f,n) (H,L,P,N,J,K,O,S):=rfl;simp only[W,z2,T,z3,z4]at * <;>
       (generalize eqX _ _=E at *
        generalize (el l).any _=I at *;generalize gR _=R at *;generalize gC _=Q at *;have M:s=0∨s=1∨s=2:=A2;rcases M with rfl|rfl|rfl<;>cases E<;>cases I<;>cases R<;>first|rfl|contradiction|exact absurd (by assumption:(!true)=true) F7|exact absurd (by assumption:(!false)=false) F7|(exfalso;omega)))
  .cases B
 .cases B
abbrev Dt:=(Int×Int×Int×Int×Int×Int×Int×Int×B7)
def Dok(d:Dt):Prop:=(0<=d.1/\d.1<256)/\(0<=d.2.1/\d.2.1<256)/\(0<=d.2.2.1/\d.2.2.1<256)/\(0<=d.2.2.2.1/\d.2.2.2.1<256)/\(0<=d.2.2.2.2.1/\d.2.2.2.2.1<256)/\(0<=d.2.2.2.2.2.1/\d.2.2.2.2.2.1<256)/\(0<=d.2.2.2.2.2.2.1/\d.2.2.2.2.2.2.1<256)/\(0<=d.2.2.2.2.2.2.2.1/\d.2.2.2.2.2.2.2.1<4294967296)/\(d.2.2.2.2.2.2.2.2.length:Int)<=140737488351232
instance(d:Dt):Decidable (Dok d):=by unfold Dok;infer_instance
def A8i:List Gt:=[(1,37,0,0,0,0,0,[],[115,112,108,105,116,32,114,105,103,104,116],false),(1,34,0,0,0,0,0,[],[115,112,108,105,116,32,100,111,119,110],false),(1,120,0,0,0,0,0,[],[107,105,108,108],false),(1,1114113,0,0,0,0,0,[],[115,101,108,101,99,116,32,117,112],true),(1,1114114,0,0,0,0,0,[],[115,101,108,101,99,116,32,100,111,119,110],true),(1,1114115,0,0,0,0,0,[],[115,101,108,101,99,116,32,114,105,103,104,116],true),(1,1114116,0,0,0,0,0,[],[115,101,108,101,99,116,32,108,101,102,116],true),(1,1114113,4,0,0,0,0,[],[114,101,115,105,122,101,32,117,112,32,49],true),(1,1114114,4,0,0,0,0,[],[114,101,115,105,122,101,32,100,111,119,110,32,49],true),(1,1114115,4,0,0,0,0,[],[114,101,115,105,122,101,32,114,105,103,104,116,32,49],true),(1,1114116,4,0,0,0,0,[],[114,101,115,105,122,101,32,108,101,102,116,32,49],true),(1,111,0,0,0,0,0,[],[110,101,120,116,45,112,97,110,101],false),(1,122,0,0,0,0,0,[],[122,111,111,109],false),(1,61,0,0,0,0,0,[],[101,118,101,110],false),(1,99,0,0,0,0,0,[],[110,101,119,45,119,105,110,100,111,119],false),(1,110,0,0,0,0,0,[],[110,101,120,116,45,119,105,110,100,111,119],false),(1,112,0,0,0,0,0,[],[112,114,101,118,105,111,117,115,45,119,105,110,100,111,119],false),(1,48,0,0,0,0,0,[],[119,105,110,100,111,119,32,48],false),(1,49,0,0,0,0,0,[],[119,105,110,100,111,119,32,49],false),(1,50,0,0,0,0,0,[],[119,105,110,100,111,119,32,50],false),(1,51,0,0,0,0,0,[],[119,105,110,100,111,119,32,51],false),(1,52,0,0,0,0,0,[],[119,105,110,100,111,119,32,52],false),(1,53,0,0,0,0,0,[],[119,105,110,100,111,119,32,53],false),(1,54,0,0,0,0,0,[],[119,105,110,100,111,119,32,54],false),(1,55,0,0,0,0,0,[],[119,105,110,100,111,119,32,55],false),(1,56,0,0,0,0,0,[],[119,105,110,100,111,119,32,56],false),(1,57,0,0,0,0,0,[],[119,105,110,100,111,119,32,57],false),(1,1114125,0,0,0,0,0,[],[115,99,114,111,108,108,32,98,97,99,107,32,49,48],false),(1,100,0,0,0,0,0,[],[100,101,116,97,99,104],false)]
def rS:Rw B7:=r1 LS
def nmL:List B7:=[[85,112],[68,111,119,110],[82,105,103,104,116],[76,101,102,116],[69,110,100],[72,111,109,101],[70,49],[70,50],[70,51],[70,52],[73,110,115,101,114,116],[68,101,108,101,116,101],[80,97,103,101,85,112],[80,97,103,101,68,111,119,110],[70,53],[70,54],[70,55],[70,56],[70,57],[70,49,48],[70,49,49],[70,49,50],[69,110,116,101,114],[84,97,98],[66,97,99,107],[69,115,99,97,112,101]]
def A0k{R:Nat->Option Obj}{x:Option (List B7)}{vs:C9}(h:ShL R [.s 11,.s 9] [G2 rS x,.str sep] vs):∃ v,vs=[v,.string ⟨⟨sep⟩⟩]/\Enc R (G2 rS x) v:=by
 generalize hu:[G2 rS x,U.str sep]=us at h;cases h with
 | cons h1 c =>
   cases h1 with
   | s e t1 =>
     cases c with
     | cons h3 d =>
       cases h3 with
       | s f t2 =>
         cases d;simp only[R4,G1,L3,I5,and_true]at hu;obtain⟨rfl,rfl⟩:=hu
         have:=eL f (show toV (.str sep)=some (.string ⟨⟨sep⟩⟩)from rfl);subst this;exact⟨_,rfl,e⟩
def YV{R:Nat->Option Obj}{x:Option (List B7)}{v:Value}(h:Enc R (G2 rS x) v):(el x=[]/\∃ a c,v=.slice a 0 c)∨∃ a o c C T fz,v=.slice (some ⟨a,o,none⟩) (el x).length c/\(el x).length<=c/\(el x≠[]->R a=some (.cells C T fz))/\∀ (j:Nat) (s:B7),(el x)[j]? = some s->C[o+j]? = some (.string ⟨⟨s⟩⟩):=by
 rw[N6]at h;generalize hu:U.seq _ _ _=u at h;cases h with
 | sc h=>subst hu;cases h
 | nil =>
   injection hu with h1 h2 h3
   exact .inl ⟨by simpa using h3,_,_,rfl⟩
 | emp =>
   injection hu with h1 h2 h3
   exact .inl ⟨by simpa using h3,_,_,rfl⟩
 | sl q t n hw h =>
   rename_i w rows a o c C T fz;injection hu with h1 h2 h3
   subst h3;have l:w=1:=h2.symm;subst l;have r:((el x).map rS.enc).length=(el x).length:=E3 ..;rw[r]at q n;refine .inr ⟨a,o,c,C,T,fz,by rw[r],q,fun k=>t (by simpa using k),fun j s f=>?_⟩;have k:(el x).map rS.enc≠[]:=by intro e;rw[List.map_eq_nil_iff.1 e]at f;cases f
   have A:j<(el x).length:=(B0.1 f).1;have n:=n k;have d:o+j<C.size:=A2
   have:=h j (rS.enc s) 0 (.str s) C[o+j] (by rw[F9,f];rfl) rfl (by rw[Nat.mul_one,hY];exact E7 d);rw[E7 d,eL this (show toV (.str s)=some (.string ⟨⟨s⟩⟩)from rfl)]
def jnS(x:Option (List B7))(sep:B7):B7:=Lib.join (el x) sep
def WI(l:List B7):(l.map (fun s=>ByteArray.mk ⟨s⟩)).map (·.data.toList)=l:=by
 rw[iA];exact(cD fun _ _=>rfl).trans (List.map_id _)
def RL:List U->Option (Nat×List U)
 | [u_x,.str sep]=>(W7 rS u_x).bind fun x=>if((el x).length:Int)<=1000000/\(jnS x sep).length<=1000000000 then some (0,[.str (jnS x sep)])else none
 | _=>none
def A4r(x:(Option (List B7)))(sep:B7)(c:((el x).length:Int)<=1000000/\(jnS x sep).length<=1000000000):RL [G2 rS x,.str sep]=some (0,[.str (jnS x sep)]):=by
 simp only[RL,M4,J0];exact A9 c
def A8b{G}(B:N9 G):M7 prog G 93 [.s 11,.s 9] RL [.s 9]:=by
 intro us outs w vs R q d D hR;unfold RL at d;split at d
 .skip;rename_i h sep;have l:=D6.1 d;clear d;obtain⟨x,f,d⟩:=l;replace f:=P8 f;subst f;split at d
  .rename_i A;cases d;refine cL (vr:=[.string ⟨⟨jnS x sep⟩⟩]) func93 rfl D9 rfl ?_;obtain⟨v,rfl,hv⟩:=A0k q;rcases YV hv with⟨h0,a,c,rfl⟩|⟨a,o,c,C,T,fz,rfl,h1,t,h3⟩
   .refine((Tryz.strings_Join_none a c ⟨⟨sep⟩⟩ w).mono fun e w' ⟨g1,g2⟩=>⟨?_,by subst g2;exact RowKit.Below.refl _ _⟩);rw[g1];unfold jnS;rw[h0];rfl
   .by_cases n:el x=[]
    .rw[n];refine((Tryz.strings_Join_none _ c ⟨⟨sep⟩⟩ w).mono fun e w' ⟨g1,g2⟩=>⟨?_,by subst g2;exact RowKit.Below.refl _ _⟩);rw[g1];unfold jnS;rw[n];rfl
    .have r:=t n;have hw:=hR _ _ r;have key:=Tryz.strings_Join a o c ((el x).map (fun s=>ByteArray.mk ⟨s⟩)) ⟨⟨sep⟩⟩ w (fun j y k=>?_) (hR.lt r) (by rw[E3];omega) (by rw[E3];exact h1) (by rw[WI];show(jnS x sep).length<=_;have:=A.2;omega)
     .rw[E3]at key;refine(key.mono fun e w' ⟨g1,g2⟩=>⟨?_,g2⟩);rw[g1,WI];rfl
     .rw[F9]at k;cases d:(el x)[j]? with
      | none=>rw[d]at k;cases k
      | some s =>
        rw[d]at k;cases k;simp only[World.cell?,hw];exact h3 j s d
  .cases d
 .cases d
noncomputable def A7M:X8:=⟨_,fun c=>.nil⟩
def vN:List U->Option (Nat×List U)
 | []=>some (0,[G2 rS (some nmL)])
 | _=>none
def NP :vN []=some (0,[G2 rS (some nmL)]):=rfl
def VY{G}(c:N9 G):M7 prog G 89 [] vN [.s 11]:=by
 refine aW (d:=60) (cxg (A7M.2 c) .nil) c ⟨f89,_,func89,rfl⟩ ?_;intro us outs e;unfold vN at e;split at e
 .cases e;exact⟨[],by kernel_rfl⟩
 .cases e
def OG(x:Option (List B7)):jnS x []=(el x).flatten:=by
 unfold jnS Lib.join;generalize el x=l;have h:∀ l:List B7,(List.intersperse [] l).flatten=l.flatten:=fun l=>by
  induction l with
  | nil=>rfl
  | cons a l c =>
    cases l with
    | nil=>rfl
    | cons b l=>rw[List.intersperse_cons_cons,J6,J6,c,J6 (l:=a)];rfl
 exact h l
noncomputable def A7T:X8:=⟨_,fun c=>(.cons (A8b c) .nil)⟩
def r9:List U->Option (Nat×List U)
 | [u_x]=>(W7 rS u_x).bind fun x=>if((el x).length:Int)<=1000000/\((el x).flatten.length:Int)<=1000000000 then some (0,[.str ((el x).flatten)])else none
 | _=>none
def tY(x:(Option (List B7)))(c:((el x).length:Int)<=1000000/\((el x).flatten.length:Int)<=1000000000):r9 [G2 rS x]=some (0,[.str ((el x).flatten)]):=by
 simp only[r9,M4,J0];exact A9 c
def A3J:Tr:=.fn RL [h 0 11,.string ⟨⟨[]⟩⟩] 1<|.ret [h 1 9]
def HC{G}(k:N9 G):M7 prog G 58 [.s 11] r9 [.s 9]:=by
 refine H6 (d:=60) A3J (cxg (A7T.2 k) .nil) k ⟨f58,_,func58,rfl⟩ D9 D9 ?_;intro us outs f;unfold r9 at f;split at f
 .skip;rename_i n;have l:=D6.1 f;clear f;obtain⟨x,c,f⟩:=l;replace c:=P8 c;subst c;split at f
  .rename_i o;cases f;unfold A3J;refine w0 (.cons 0 _ (.nil)) ?_;repeat (first|refine w31 RL (e:=A4r _ _ ⟨o.1,by rw[OG];omega⟩) (k':=?_)|(refine w7 [.str _] ?_;rotate_left))
   all_goals
    first|(rw[OG];done)
  .cases f
 .cases f
def FG:List U->Option (Nat×List U)
 | [.str s,.int .i64 c]=>if 0<=c/\c<=1000/\(s.length:Int)<=1000 then some (0,[.str (Lib.repeatL s c.toNat)])else none
 | _=>none
def A0t(s:B7)(c:Int)(d:0<=c/\c<=1000/\(s.length:Int)<=1000):FG [.str s,.int .i64 c]=some (0,[.str (Lib.repeatL s c.toNat)]):=A9 d
def A5l{G}(o:N9 G):M7 prog G 34 [.s 9,.s 3] FG [.s 9]:=by
 intro us outs w vs R f d q hR;unfold FG at d;split at d
 .skip;rename_i s c;split at d
  .rename_i r;cases d;have hv:=R5 (vs2:=[.string ⟨⟨s⟩⟩,.int .i64 c]) f rfl;subst hv;refine cL (vr:=[.string ⟨⟨Lib.repeatL s c.toNat⟩⟩]) func34 rfl D9 rfl ?_;obtain⟨n,rfl⟩:∃ n:Nat,c=n:=⟨c.toNat,A2⟩;have l:s.length*n<=140737488355328:=B9 (u5 (show s.length<=1000 by omega) (show n<=1000 by omega)) F7;exact(Tryz.strings_Repeat ⟨⟨s⟩⟩ n w A2 l).mono fun e w' ⟨h1,k⟩=>⟨h1,k⟩
  .cases d
 .cases d
def EL:List U->Option (Nat×List U)
 | [.str s]=>if(s.length:Int)<=1000/\(∀ b ∈ s,b.toNat<128)then some (0,[.str (Lib.toUpperA s)])else none
 | _=>none
def A0b(s:B7)(c:(s.length:Int)<=1000/\(∀ b ∈ s,b.toNat<128)):EL [.str s]=some (0,[.str (Lib.toUpperA s)]):=A9 c
def A5c{G}(l:N9 G):M7 prog G 107 [.s 9] EL [.s 9]:=by
 intro us outs w vs R d c o hR;unfold EL at c;split at c
 .skip;rename_i s;split at c
  .rename_i k;cases c;have hv:=R5 (vs2:=[.string ⟨⟨s⟩⟩]) d rfl;subst hv;refine cL (vr:=[.string ⟨⟨Lib.toUpperA s⟩⟩]) func107 rfl D9 rfl ?_;exact(Tryz.strings_ToUpper_ascii ⟨⟨s⟩⟩ w (by show s.length<=_;omega) (fun j b n=>by have:=k.2 b (C7 n);omega)).mono fun e w' ⟨h1,f⟩=>⟨h1,f⟩
  .cases c
 .cases c
def hU(d:Int):UInt8:=([48,49,50,51,52,53,54,55,56,57,65,66,67,68,69,70]:B7).getD d.toNat 0
def aB(c:Int):B7:=if c<65536 then[hU (c / 4096%16),hU (c / 256%16),hU (c / 16%16),hU (c%16)]else if c<1048576 then[hU (c / 65536%16),hU (c / 4096%16),hU (c / 256%16),hU (c / 16%16),hU (c%16)]else[hU (c / 1048576%16),hU (c / 65536%16),hU (c / 4096%16),hU (c / 256%16),hU (c / 16%16),hU (c%16)]
def t6(c:Int):B7:=if 1114113<=c then nmL.getD (c-1114113).toNat []else if c=32 then[83,112,97,99,101]else if c<=126 then[UInt8.ofNat c.toNat]else[85,43]++aB c
def cc{b:UInt8}{l m:B7}(h:a=b)(k:l=m):a::l=b::m:=by rw[h,k]
def RJ{n m:Nat}(h:Nat.ble n m=true):(n:Int)<=(m:Int):=cO.2 (A1 h)
def hx(d:Int):Int:=((([48,49,50,51,52,53,54,55,56,57,97,98,99,100,101,102,103,104,105,106,107,108,109,110,111,112,113,114,115,116,117,118,119,120,121,122]:B7).getD d.toNat 0).toNat:Int)
def rA(d:Int):0<=hx d/\hx d<128:=by
 unfold hx;rcases F2 d.toNat 36 with h|h
 .have k:∀ n:Nat,n<36->(([48,49,50,51,52,53,54,55,56,57,97,98,99,100,101,102,103,104,105,106,107,108,109,110,111,112,113,114,115,116,117,118,119,120,121,122]:B7).getD n 0).toNat<128:=F7
  have:=k _ h;omega
 .rw[B2,dZ.2 h];decide
def S6(d:Int):0<=hx d/\hx d<256:=by have:=rA d;omega
def i7{d:Int}(h0:0<=d)(h1:d<16):Lib.upperB (UInt8.ofNat (hx d).toNat)=hU d:=by
 have k:∀ n:Nat,n<16->Lib.upperB (UInt8.ofNat (((([48,49,50,51,52,53,54,55,56,57,97,98,99,100,101,102,103,104,105,106,107,108,109,110,111,112,113,114,115,116,117,118,119,120,121,122]:B7).getD n 0).toNat:Int)).toNat)=([48,49,50,51,52,53,54,55,56,57,65,66,67,68,69,70]:B7).getD n 0:=F7;exact k d.toNat A2
def A6f{d:Int}(h0:0<=d)(h1:d<36):evU .idx [.str [48,49,50,51,52,53,54,55,56,57,97,98,99,100,101,102,103,104,105,106,107,108,109,110,111,112,113,114,115,116,117,118,119,120,121,122],.int .u64 d]=.int .u8 (hx d):=LG _ _ _ h0 (by show _<((36:Nat):Int);omega)
attribute [irreducible] hx
def SQ(l:List Int):(Lib.toUpperA (iB l)).length=l.length:=by unfold Lib.toUpperA iB;rw[E3,E3]
def A7q{l:List Int}(h:l.length<=6)(d:∀ x ∈ l,0<=x/\x<128):((iB l).length:Int)<=1000/\(∀ b ∈ iB l,b.toNat<128):=by
 unfold iB;refine⟨by rw[E3];omega,fun b e=>?_⟩;obtain⟨x,c,rfl⟩:=K4.1 e
 have:=d x c;show(UInt8.ofNat x.toNat).toNat<128;rw[UInt8.toNat_ofNat',Y7 A2];omega
def A7w{l:List Int}(h:l.length<=6):IntKind.i64.wrap (4-((Lib.toUpperA (iB l)).length:Int))=4-((Lib.toUpperA (iB l)).length:Int):=by
 rw[SQ];exact iW A2 A2
def A8a{l:List Int}(h:l.length<=6):((el (some [[85,43],Lib.repeatL [48] (max 0 (4-((Lib.toUpperA (iB l)).length:Int))).toNat,Lib.toUpperA (iB l)])).length:Int)<=1000000/\((el (some [[85,43],Lib.repeatL [48] (max 0 (4-((Lib.toUpperA (iB l)).length:Int))).toNat,Lib.toUpperA (iB l)])).flatten.length:Int)<=1000000000:=by
 refine⟨RJ (m:=1000000) rfl,?_⟩;rw[J5];simp only[J6,R3,L3,B8,Lib.repeatL_length,SQ,D5,Q6];omega
def A77{l:List Int}(h:l.length<=6):0<=max 0 (4-((Lib.toUpperA (iB l)).length:Int))/\max 0 (4-((Lib.toUpperA (iB l)).length:Int))<=1000/\((([48]:B7).length:Nat):Int)<=1000:=⟨A2,A2,RJ (m:=1000) rfl⟩
def SO(b:UInt8):0<=(b.toNat:Int)/\(b.toNat:Int)<256:=by have:=b.toNat_lt;omega
def A5R{c:Int}(h:1114113<=c):t6 c=nmL.getD (c-1114113).toNat []:=A9 h
def LU{c:Int}(h:¬1114113<=c)(d:¬c=32)(h3:¬c<=126):t6 c=[85,43]++aB c:=by unfold t6;rw[A8 h,A8 d,A8 h3]
def A5T{c:Int}(h:¬1114113<=c)(d:¬c=32)(h3:c<=126):t6 c=[UInt8.ofNat c.toNat]:=by unfold t6;rw[A8 h,A8 d,A9 h3]
def A5S{c:Int}(d:c=32):t6 c=[83,112,97,99,101]:=by subst d;rfl
def ZY{c:Int}(e:z=u)(hu:Lib.repeatL [48] (max 0 (4-(u.length:Int))).toNat++u=aB c)(d:t6 c=[85,43]++aB c):(el (some [[85,43],Lib.repeatL [48] (max 0 (4-(z.length:Int))).toNat,z])).flatten=t6 c:=by
 subst e;rw[d,<- hu,J5];simp only[J6,R3,L3]
def A80{c:Int}(h0:0<=c)(h1:c<256):Lib.toUpperA (iB [hx (c / 16),hx (c%16)])=[hU (c / 16%16),hU (c%16)]:=by
 show[Lib.upperB (UInt8.ofNat (hx (c / 16)).toNat),Lib.upperB (UInt8.ofNat (hx (c%16)).toNat)]=_;rw[i7 (d:=c / 16) A2 A2,i7 (d:=c%16) A2 A2];exact cc (F0 hU A2) (cc (F0 hU A2) (rfl))
def A8s{c:Int}(h0:0<=c)(h1:c<256):Lib.repeatL [48] (max 0 (4-(([hU (c / 16%16),hU (c%16)]:B7).length:Int))).toNat++[hU (c / 16%16),hU (c%16)]=aB c:=by
 unfold aB;rw[A9 A2];rw[show c / 4096%16=0 by omega];rw[show c / 256%16=0 by omega];rfl
def A8z{c:Int}(h0:0<=c)(h1:c<4096):Lib.toUpperA (iB [hx (c / 16 / 16),hx (c / 16%16),hx (c%16)])=[hU (c / 256%16),hU (c / 16%16),hU (c%16)]:=by
 show[Lib.upperB (UInt8.ofNat (hx (c / 16 / 16)).toNat),Lib.upperB (UInt8.ofNat (hx (c / 16%16)).toNat),Lib.upperB (UInt8.ofNat (hx (c%16)).toNat)]=_;rw[i7 (d:=c / 16 / 16) A2 A2,i7 (d:=c / 16%16) A2 A2,i7 (d:=c%16) A2 A2];exact cc (F0 hU A2) (cc (F0 hU A2) (cc (F0 hU A2) (rfl)))
def A8r{c:Int}(h0:0<=c)(h1:c<4096):Lib.repeatL [48] (max 0 (4-(([hU (c / 256%16),hU (c / 16%16),hU (c%16)]:B7).length:Int))).toNat++[hU (c / 256%16),hU (c / 16%16),hU (c%16)]=aB c:=by
 unfold aB;rw[A9 A2];rw[show c / 4096%16=0 by omega];rfl
def A8y{c:Int}(h0:0<=c)(h1:c<65536):Lib.toUpperA (iB [hx (c / 16 / 16 / 16),hx (c / 16 / 16%16),hx (c / 16%16),hx (c%16)])=[hU (c / 4096%16),hU (c / 256%16),hU (c / 16%16),hU (c%16)]:=by
 show[Lib.upperB (UInt8.ofNat (hx (c / 16 / 16 / 16)).toNat),Lib.upperB (UInt8.ofNat (hx (c / 16 / 16%16)).toNat),Lib.upperB (UInt8.ofNat (hx (c / 16%16)).toNat),Lib.upperB (UInt8.ofNat (hx (c%16)).toNat)]=_;rw[i7 (d:=c / 16 / 16 / 16) A2 A2,i7 (d:=c / 16 / 16%16) A2 A2,i7 (d:=c / 16%16) A2 A2,i7 (d:=c%16) A2 A2];exact cc (F0 hU A2) (cc (F0 hU A2) (cc (F0 hU A2) (cc (F0 hU A2) (rfl))))
def A8q{c:Int}(h0:0<=c)(h1:c<65536):Lib.repeatL [48] (max 0 (4-(([hU (c / 4096%16),hU (c / 256%16),hU (c / 16%16),hU (c%16)]:B7).length:Int))).toNat++[hU (c / 4096%16),hU (c / 256%16),hU (c / 16%16),hU (c%16)]=aB c:=by
 unfold aB;rw[A9 A2];rfl
def A8x{c:Int}(h0:0<=c)(h1:c<1048576):Lib.toUpperA (iB [hx (c / 16 / 16 / 16 / 16),hx (c / 16 / 16 / 16%16),hx (c / 16 / 16%16),hx (c / 16%16),hx (c%16)])=[hU (c / 65536%16),hU (c / 4096%16),hU (c / 256%16),hU (c / 16%16),hU (c%16)]:=by
 show[Lib.upperB (UInt8.ofNat (hx (c / 16 / 16 / 16 / 16)).toNat),Lib.upperB (UInt8.ofNat (hx (c / 16 / 16 / 16%16)).toNat),Lib.upperB (UInt8.ofNat (hx (c / 16 / 16%16)).toNat),Lib.upperB (UInt8.ofNat (hx (c / 16%16)).toNat),Lib.upperB (UInt8.ofNat (hx (c%16)).toNat)]=_;rw[i7 (d:=c / 16 / 16 / 16 / 16) A2 A2,i7 (d:=c / 16 / 16 / 16%16) A2 A2,i7 (d:=c / 16 / 16%16) A2 A2,i7 (d:=c / 16%16) A2 A2,i7 (d:=c%16) A2 A2];exact cc (F0 hU A2) (cc (F0 hU A2) (cc (F0 hU A2) (cc (F0 hU A2) (cc (F0 hU A2) (rfl)))))
def A8p{c:Int}(h0:0<=c)(h1:c<1048576)(d:65536<=c):Lib.repeatL [48] (max 0 (4-(([hU (c / 65536%16),hU (c / 4096%16),hU (c / 256%16),hU (c / 16%16),hU (c%16)]:B7).length:Int))).toNat++[hU (c / 65536%16),hU (c / 4096%16),hU (c / 256%16),hU (c / 16%16),hU (c%16)]=aB c:=by
 unfold aB;rw[A8 A2,A9 A2];rfl
def A8w{c:Int}(h0:0<=c)(h1:c<16777216):Lib.toUpperA (iB [hx (c / 16 / 16 / 16 / 16 / 16),hx (c / 16 / 16 / 16 / 16%16),hx (c / 16 / 16 / 16%16),hx (c / 16 / 16%16),hx (c / 16%16),hx (c%16)])=[hU (c / 1048576%16),hU (c / 65536%16),hU (c / 4096%16),hU (c / 256%16),hU (c / 16%16),hU (c%16)]:=by
 show[Lib.upperB (UInt8.ofNat (hx (c / 16 / 16 / 16 / 16 / 16)).toNat),Lib.upperB (UInt8.ofNat (hx (c / 16 / 16 / 16 / 16%16)).toNat),Lib.upperB (UInt8.ofNat (hx (c / 16 / 16 / 16%16)).toNat),Lib.upperB (UInt8.ofNat (hx (c / 16 / 16%16)).toNat),Lib.upperB (UInt8.ofNat (hx (c / 16%16)).toNat),Lib.upperB (UInt8.ofNat (hx (c%16)).toNat)]=_;rw[i7 (d:=c / 16 / 16 / 16 / 16 / 16) A2 A2,i7 (d:=c / 16 / 16 / 16 / 16%16) A2 A2,i7 (d:=c / 16 / 16 / 16%16) A2 A2,i7 (d:=c / 16 / 16%16) A2 A2,i7 (d:=c / 16%16) A2 A2,i7 (d:=c%16) A2 A2];exact cc (F0 hU A2) (cc (F0 hU A2) (cc (F0 hU A2) (cc (F0 hU A2) (cc (F0 hU A2) (cc (F0 hU A2) (rfl))))))
def A8o{c:Int}(h0:0<=c)(h1:c<16777216)(d:1048576<=c):Lib.repeatL [48] (max 0 (4-(([hU (c / 1048576%16),hU (c / 65536%16),hU (c / 4096%16),hU (c / 256%16),hU (c / 16%16),hU (c%16)]:B7).length:Int))).toNat++[hU (c / 1048576%16),hU (c / 65536%16),hU (c / 4096%16),hU (c / 256%16),hU (c / 16%16),hU (c%16)]=aB c:=by
 unfold aB;rw[A8 A2,A8 A2];rfl
noncomputable def A7d:X8:=⟨_,fun c=>(.cons (VY c) (.cons (HC c) (.cons (A5l c) (.cons (A5c c) .nil))))⟩
def BB:List U->Option (Nat×List U)
 | [.int .i64 c]=>if(32<=c/\c<=126)∨(160<=c/\c<=1114111)∨(1114113<=c/\c<=1114138)then some (0,[.str (t6 c)])else none
 | _=>none
def A18(c:Int)(d:(32<=c/\c<=126)∨(160<=c/\c<=1114111)∨(1114113<=c/\c<=1114138)):BB [.int .i64 c]=some (0,[.str (t6 c)]):=A9 d
def gA(a0:Nat)(c:Nat)(a2:Nat)(d:Tr):Tr:=.lt 8 (.inbs 1) [h3 c,h a0 11]<|.br a2 d .no
def lC(a0:Nat):Tr:=.fn EL [h a0 9] 1<|aD [h (a0+1) 9]<|aS [jI 4,h3 (a0+2)]<|.lt 3 (.max) [jI 0,h3 (a0+3)]<|.fn FG [.string ⟨⟨[48]⟩⟩,h3 (a0+4)] 1<|.dt 11 (.mk 1) [.string ⟨⟨[85,43]⟩⟩,h (a0+5) 9,h (a0+1) 9]<|.fn r9 [h (a0+6) 11] 1<|.ret [h (a0+7) 9]
def tQ(a0:Nat)(c:Nat)(e d:Tr):Tr:=.lt 7 (.bin .and) [h a0 7,.int .u64 (15)]<|.lt 4 (.idx) [.string ⟨⟨[48,49,50,51,52,53,54,55,56,57,97,98,99,100,101,102,103,104,105,106,107,108,109,110,111,112,113,114,115,116,117,118,119,120,121,122]⟩⟩,h c 7]<|.lt 7 (.bin .shr) [h a0 7,.int .u64 (4)]<|aH [h (c+2) 7,.int .u64 (16)]<|.br (c+3) e d
def A3u:Tr:=K5 0 1 1114113 (.fn vN [] 1<|aS [h3 0,jI 1114113]<|gA 2 3 4 (.lt 9 (.get 1 0) [h 2 11,h3 3]<|.ret [h 5 9])) (K0 0 2 32 (.ret [.string ⟨⟨[83,112,97,99,101]⟩⟩]) (R7 0 3 126 (.lt 4 (.conv .u8) [h3 0]<|.lt 9 (.mks) [h 4 4]<|.ret [h 5 9]) (.lt 7 (.conv .u64) [h3 0]<|aL [h3 0,jI 0]<|.br 5 (.no) (aH [h 4 7,.int .u64 (16)]<|.br 6 (tQ 4 7 (tQ 9 11 (tQ 13 15 (tQ 17 19 (.lt 7 (.bin .and) [h 21 7,.int .u64 (15)]<|.lt 4 (.idx) [.string ⟨⟨[48,49,50,51,52,53,54,55,56,57,97,98,99,100,101,102,103,104,105,106,107,108,109,110,111,112,113,114,115,116,117,118,119,120,121,122]⟩⟩,h 23 7]<|.lt 7 (.bin .shr) [h 21 7,.int .u64 (4)]<|aH [h 25 7,.int .u64 (16)]<|.br 26 (.no) (.lt 4 (.idx) [.string ⟨⟨[48,49,50,51,52,53,54,55,56,57,97,98,99,100,101,102,103,104,105,106,107,108,109,110,111,112,113,114,115,116,117,118,119,120,121,122]⟩⟩,h 25 7]<|.lt 9 (.mks) [h 27 4,h 24 4,h 20 4,h 16 4,h 12 4,h 8 4]<|lC 28)) (.lt 4 (.idx) [.string ⟨⟨[48,49,50,51,52,53,54,55,56,57,97,98,99,100,101,102,103,104,105,106,107,108,109,110,111,112,113,114,115,116,117,118,119,120,121,122]⟩⟩,h 21 7]<|.lt 9 (.mks) [h 23 4,h 20 4,h 16 4,h 12 4,h 8 4]<|lC 24)) (.lt 4 (.idx) [.string ⟨⟨[48,49,50,51,52,53,54,55,56,57,97,98,99,100,101,102,103,104,105,106,107,108,109,110,111,112,113,114,115,116,117,118,119,120,121,122]⟩⟩,h 17 7]<|.lt 9 (.mks) [h 19 4,h 16 4,h 12 4,h 8 4]<|lC 20)) (.lt 4 (.idx) [.string ⟨⟨[48,49,50,51,52,53,54,55,56,57,97,98,99,100,101,102,103,104,105,106,107,108,109,110,111,112,113,114,115,116,117,118,119,120,121,122]⟩⟩,h 13 7]<|.lt 9 (.mks) [h 15 4,h 12 4,h 8 4]<|lC 16)) (.lt 4 (.idx) [.string ⟨⟨[48,49,50,51,52,53,54,55,56,57,97,98,99,100,101,102,103,104,105,106,107,108,109,110,111,112,113,114,115,116,117,118,119,120,121,122]⟩⟩,h 9 7]<|.lt 9 (.mks) [h 11 4,h 8 4]<|lC 12)) (.lt 4 (.idx) [.string ⟨⟨[48,49,50,51,52,53,54,55,56,57,97,98,99,100,101,102,103,104,105,106,107,108,109,110,111,112,113,114,115,116,117,118,119,120,121,122]⟩⟩,h 4 7]<|.lt 9 (.mks) [h 7 4]<|lC 8)))))
def A6y{G}(n:N9 G):M7 prog G 84 [.s 3] BB [.s 9]:=by
 refine H6 (d:=60) A3u (cxg (A7d.2 n) .nil) n ⟨f84,_,func84,rfl⟩ D9 D9 ?_;intro us outs l;unfold BB at l;split at l
 .skip;rename_i c;split at l
  .rename_i q;cases l;have o:((el (some nmL)).length:Int)=26:=rfl;unfold A3u;refine w0 (.cons 0 _ (.nil)) ?_;repeat (first|refine w4 (fun g=>?_) fun g=>?_|refine w1 (.idx) (e:=A6f A2 A2) (k':=?_)|(refine w7 [.str _] ?_;rotate_left)|refine mR ?_|refine w31 EL (e:=A0b _ (A7q (A1 rfl) (by intro k f;simp only[B4,L6,or_false]at f;first|omega|(rcases f with rfl|rfl|rfl|rfl|rfl|rfl<;>exact rA _)|(rcases f with rfl|rfl|rfl|rfl|rfl<;>exact rA _)|(rcases f with rfl|rfl|rfl|rfl<;>exact rA _)|(rcases f with rfl|rfl|rfl<;>exact rA _)|(rcases f with rfl|rfl<;>exact rA _)))) (k':=?_)|refine nU ?_|refine w1 (.bin .sub) (e:=OX (A7w (A1 rfl))) (k':=?_)|refine A7t ?_|refine w31 FG (e:=A0t _ _ (A77 (A1 rfl))) (k':=?_)|refine w2 (.mk 1) (r:=rS) (e:=rJ [_,_,_] rfl F7 rfl) (k':=?_)|refine w31 r9 (e:=tY _ (A8a (A1 rfl))) (k':=?_)|refine w1 (.bin .and) (e:=PE 4 16 F7 F7 F7) (k':=?_)|refine w1 (.bin .shr) (e:=OY 16 F7 F7) (k':=?_)|refine MN ?_|refine BN ?_|(refine w8 ?_;first|omega)|refine SR ?_|refine EM ?_|refine w1 (.mks) (e:=rI [_] (by intro k f;simp only[B4,L6,or_false]at f;first|omega|(rcases f with rfl|rfl|rfl|rfl|rfl|rfl<;>exact S6 _)|(rcases f with rfl|rfl|rfl|rfl|rfl<;>exact S6 _)|(rcases f with rfl|rfl|rfl|rfl<;>exact S6 _)|(rcases f with rfl|rfl|rfl<;>exact S6 _)|(rcases f with rfl|rfl<;>exact S6 _))) (k':=?_)|refine w31 vN (e:=NP) (k':=?_)|refine jA ?_|refine w1 (.get 1 0) (u:=.str _) (e:=H5 rfl A2 A2 rfl) (k':=?_)|refine nV ?_|refine uL ?_|refine mA ?_|refine w1 (.mks) (e:=rI [_,_,_,_,_,_] (by intro k f;simp only[B4,L6,or_false]at f;first|omega|(rcases f with rfl|rfl|rfl|rfl|rfl|rfl<;>exact S6 _)|(rcases f with rfl|rfl|rfl|rfl|rfl<;>exact S6 _)|(rcases f with rfl|rfl|rfl|rfl<;>exact S6 _)|(rcases f with rfl|rfl|rfl<;>exact S6 _)|(rcases f with rfl|rfl<;>exact S6 _))) (k':=?_)|refine w1 (.mks) (e:=rI [_,_,_,_,_] (by intro k f;simp only[B4,L6,or_false]at f;first|omega|(rcases f with rfl|rfl|rfl|rfl|rfl|rfl<;>exact S6 _)|(rcases f with rfl|rfl|rfl|rfl|rfl<;>exact S6 _)|(rcases f with rfl|rfl|rfl|rfl<;>exact S6 _)|(rcases f with rfl|rfl|rfl<;>exact S6 _)|(rcases f with rfl|rfl<;>exact S6 _))) (k':=?_)|refine w1 (.mks) (e:=rI [_,_,_,_] (by intro k f;simp only[B4,L6,or_false]at f;first|omega|(rcases f with rfl|rfl|rfl|rfl|rfl|rfl<;>exact S6 _)|(rcases f with rfl|rfl|rfl|rfl|rfl<;>exact S6 _)|(rcases f with rfl|rfl|rfl|rfl<;>exact S6 _)|(rcases f with rfl|rfl|rfl<;>exact S6 _)|(rcases f with rfl|rfl<;>exact S6 _))) (k':=?_)|refine w1 (.mks) (e:=rI [_,_,_] (by intro k f;simp only[B4,L6,or_false]at f;first|omega|(rcases f with rfl|rfl|rfl|rfl|rfl|rfl<;>exact S6 _)|(rcases f with rfl|rfl|rfl|rfl|rfl<;>exact S6 _)|(rcases f with rfl|rfl|rfl|rfl<;>exact S6 _)|(rcases f with rfl|rfl|rfl<;>exact S6 _)|(rcases f with rfl|rfl<;>exact S6 _))) (k':=?_)|refine w1 (.mks) (e:=rI [_,_] (by intro k f;simp only[B4,L6,or_false]at f;first|omega|(rcases f with rfl|rfl|rfl|rfl|rfl|rfl<;>exact S6 _)|(rcases f with rfl|rfl|rfl|rfl|rfl<;>exact S6 _)|(rcases f with rfl|rfl|rfl|rfl<;>exact S6 _)|(rcases f with rfl|rfl|rfl<;>exact S6 _)|(rcases f with rfl|rfl<;>exact S6 _))) (k':=?_))
   all_goals
    first
    | (exfalso;omega)
    | exact F0 (fun z=>[U.str z]) (A5R ‹_›).symm
    | exact F0 (fun z=>[U.str z]) (A5S ‹_›).symm
    | (rw[A5T ‹_› ‹_› ‹_›];rfl)
    | exact F0 (fun z=>[U.str z]) (ZY (A80 A2 A2) (A8s A2 A2) (LU ‹_› ‹_› ‹_›))
    | exact F0 (fun z=>[U.str z]) (ZY (A8z A2 A2) (A8r A2 A2) (LU ‹_› ‹_› ‹_›))
    | exact F0 (fun z=>[U.str z]) (ZY (A8y A2 A2) (A8q A2 A2) (LU ‹_› ‹_› ‹_›))
    | exact F0 (fun z=>[U.str z]) (ZY (A8x A2 A2) (A8p A2 A2 A2) (LU ‹_› ‹_› ‹_›))
    | exact F0 (fun z=>[U.str z]) (ZY (A8w A2 A2) (A8o A2 A2 A2) (LU ‹_› ‹_› ‹_›))
  .cases l
 .cases l
end
section
open Go Go.Sx Go.Proofs.Tryz
def P7(x:Xt):B7:=(if x.2.2.1 / 4%2*4=0 then[]else[67,45])++((if x.2.2.1 / 2%2*2=0 then[]else[77,45])++((if x.2.2.1 / 1%2*1=0 then[]else[83,45])++t6 x.2.1))
def OQ(c:Int):(aB c).length<=6:=by
 unfold aB
 (repeat' split)<;>exact A1 rfl
def A4c:∀ n:Nat,(nmL.getD n []).length<=8:=by
 intro n;rcases F2 n 26 with h|h
 .have k:∀ n:Nat,n<26->(nmL.getD n []).length<=8:=F7;exact k n h
 .rw[B2,dZ.2 h];decide
def ZX(c:Int):(t6 c).length<=8:=by
 unfold t6;split
 .exact A4c _
 .split
  .decide
  .split
   .exact A1 rfl
   .have:=OQ c;rw[B8];show 2+_<=8;omega
def cR(c:Int):Prop:=(32<=c/\c<=126)∨(160<=c/\c<=1114111)∨(1114113<=c/\c<=1114138)
instance(c:Int):Decidable (cR c):=by unfold cR;infer_instance
def A4p{c:Int}(h:mF c m):cR c:=by unfold mF chP okU at h;unfold cR;omega
def A33(h:xP x)(h1:x.1=1):mF x.2.1 x.2.2.1:=by
 unfold xP iU at h;rcases h with h|h|h|h
 .exact h.2.2.2.2.2.2
 .omega
 .omega
 .omega
def GX(h:kyP x):cR x.2.1:=A4p (A33 h.2 h.1)
def jQ(x:Xt):Int:=if ¬xP x then 430 else if x.1≠1 then 2 else 0
def vO(x:Xt):B7:=if jQ x=0 then P7 x else[]
def A58(h:(if xP x then(0:Int)else 430)≠0):[U.str [],U.int .i64 (if xP x then(0:Int)else 430)]=[U.str (vO x),U.int .i64 (jQ x)]:=by
 have k:=A34 h;have e:jQ x=430:=by unfold jQ;rw[A9 k]
 unfold vO;rw[A8 k,e,A8 F7]
def A57(h:¬(if xP x then(0:Int)else 430)≠0)(h1:x.1≠1):[U.str [],U.int .i64 2]=[U.str (vO x),U.int .i64 (jQ x)]:=by
 have e:jQ x=2:=by unfold jQ;rw[A8 (fun k=>k (SI h)),A9 h1]
 unfold vO;rw[e,A8 F7]
def A56(h:¬(if xP x then(0:Int)else 430)≠0)(h1:¬x.1≠1):[U.str (P7 x),U.int .i64 0]=[U.str (vO x),U.int .i64 (jQ x)]:=by
 have e:jQ x=0:=by unfold jQ;rw[A8 (fun k=>k (SI h)),A8 h1]
 unfold vO;rw[e,A9 rfl]
def A59(h:¬(if xP x then(0:Int)else 430)≠0)(h1:¬x.1≠1):cR x.2.1:=GX ⟨E0.1 h1,SI h⟩
noncomputable def A7N:X8:=⟨_,fun c=>(.cons (A6y c) (.cons (HC c) .nil))⟩
def iF:List U->Option (Nat×List U)
 | [.int .i64 k,.int .i64 c,.int .i64 m,.int .i64 w,.int .i64 b,.int .i64 r,.int .i64 cl,.str t]=>if cR c then some (0,[.str (P7 (k,c,m,w,b,r,cl,t))])else none
 | _=>none
def tW(k:Int)(c:Int)(m:Int)(w:Int)(b:Int)(r:Int)(cl:Int)(t:B7)(d:cR c):iF [.int .i64 k,.int .i64 c,.int .i64 m,.int .i64 w,.int .i64 b,.int .i64 r,.int .i64 cl,.str t]=some (0,[.str (P7 (k,c,m,w,b,r,cl,t))]):=A9 d
def nS(a0:Nat)(c:Nat):Tr:=.fn BB [h3 1] 1<|.dt 11 (.mk 1) [h a0 9,h c 9]<|.fn r9 [h (c+1) 11] 1<|.ret [h (c+2) 9]
def WE(n:Nat):Tr:=nS 15 n
def WD(n:Nat):Tr:=.fn r9 [h 16 11] 1<|nS n (n+1)
def A25:Tr:=iZ 2 4 8 (.dt 11 (.mk 1) [.string ⟨⟨[]⟩⟩,.string ⟨⟨[67,45]⟩⟩]<|.fn r9 [h 10 11] 1<|iZ 2 2 12 (.dt 11 (.mk 1) [h 11 9,.string ⟨⟨[77,45]⟩⟩]<|.fn r9 [h 14 11] 1<|iZ 2 1 16 (.dt 11 (.mk 1) [h 15 9,.string ⟨⟨[83,45]⟩⟩]<|.fn r9 [h 18 11] 1<|nS 19 20) (WE 18)) (iZ 2 1 14 (.dt 11 (.mk 1) [h 11 9,.string ⟨⟨[83,45]⟩⟩]<|WD 17) (nS 11 16))) (iZ 2 2 10 (.dt 11 (.mk 1) [.string ⟨⟨[]⟩⟩,.string ⟨⟨[77,45]⟩⟩]<|.fn r9 [h 12 11] 1<|iZ 2 1 14 (.dt 11 (.mk 1) [h 13 9,.string ⟨⟨[83,45]⟩⟩]<|WD 17) (nS 13 16)) (iZ 2 1 12 (.dt 11 (.mk 1) [.string ⟨⟨[]⟩⟩,.string ⟨⟨[83,45]⟩⟩]<|.fn r9 [h 14 11] 1<|WE 16) (.fn BB [h3 1] 1<|.dt 11 (.mk 1) [.string ⟨⟨[]⟩⟩,h 14 9]<|.fn r9 [h 15 11] 1<|.ret [h 16 9])))
def NS{G}(l:N9 G):M7 prog G 48 [.a [3,3,3,3,3,3,3,9]] iF [.s 9]:=by
 refine H6 (d:=60) A25 (cxg (A7N.2 l) .nil) l ⟨f48,_,func48,rfl⟩ D9 D9 ?_;intro us outs f;unfold iF at f;split at f
 .skip;rename_i k c m w b r cl t;split at f
  .rename_i n;cases f;have o:=ZX c;unfold A25;refine w0 (.cons 7 _ (.cons 6 _ (.cons 5 _ (.cons 4 _ (.cons 3 _ (.cons 2 _ (.cons 1 _ (.cons 0 _ (.nil))))))))) ?_;repeat (first|refine w2 (.mk 1) (r:=rS) (e:=rJ [_,_] rfl F7 rfl) (k':=?_)|refine w31 r9 (e:=tY _ ⟨RJ (m:=1000000) rfl,by simp only[J5,J6,R3,L3,G1,L9,B8,D5,Q6];omega⟩) (k':=?_)|refine w31 BB (e:=A18 _ n) (k':=?_)|(refine w7 [.str _] ?_;rotate_left)|refine BM ?_|refine w4 (fun g=>?_) fun g=>?_|refine w1 (.bin .and) (e:=A1l _) (k':=?_)|refine w1 (.bin .and) (e:=A1k _) (k':=?_)|refine w1 (.bin .and) (e:=PD _) (k':=?_))
   all_goals
    refine F0 (fun z=>[U.str z]) ?_;unfold P7;first|rw[A9 (show m / 4%2*4=0 by omega)]|rw[A8 (show ¬m / 4%2*4=0 by omega)]
    first|rw[A9 (show m / 2%2*2=0 by omega)]|rw[A8 (show ¬m / 2%2*2=0 by omega)]
    first|rw[A9 (show m / 1%2*1=0 by omega)]|rw[A8 (show ¬m / 1%2*1=0 by omega)]
    simp only[J5,J6,R3,L3,G1,L9]<;>first|done|rfl
  .cases f
 .cases f
noncomputable def A7e:X8:=⟨_,fun c=>(.cons (WX c) (.cons (NS c) .nil))⟩
def A3x:List U->Option (Nat×List U)
 | [.int .i64 k,.int .i64 c,.int .i64 m,.int .i64 w,.int .i64 b,.int .i64 r,.int .i64 cl,.str t]=>if -9223372036854775808<=m/\m<=9223372036854775807/\(t.length:Int)<=140737488351232 then some (0,[.str (vO (k,c,m,w,b,r,cl,t)),.int .i64 (jQ (k,c,m,w,b,r,cl,t))])else none
 | _=>none
def A3w:Tr:=.fn oV [h3 0,h3 1,h3 2,h3 3,h3 4,h3 5,h3 6,h 7 9] 1<|y0 8 9 0 (.ret [.string ⟨⟨[]⟩⟩,h3 8]) (y0 0 10 1 (.ret [.string ⟨⟨[]⟩⟩,jI 2]) (.fn iF [h3 0,h3 1,h3 2,h3 3,h3 4,h3 5,h3 6,h 7 9] 1<|.ret [h 11 9,jI 0]))
def A3y{G}(l:N9 G):M7 prog G 18 [.a [3,3,3,3,3,3,3,9]] A3x [.s 9,.s 3]:=by
 refine H6 (d:=60) A3w (cxg (A7e.2 l) .nil) l ⟨f18,_,func18,rfl⟩ D9 D9 ?_;intro us outs f;unfold A3x at f;split at f
 .skip;rename_i k c m w b r cl t;split at f
  .rename_i n;cases f;unfold A3w;refine w0 (.cons 7 _ (.cons 6 _ (.cons 5 _ (.cons 4 _ (.cons 3 _ (.cons 2 _ (.cons 1 _ (.cons 0 _ (.nil))))))))) ?_;repeat (first|(refine w7 [.str _,.int .i64 _] ?_;rotate_left)|refine BM ?_|refine w4 (fun g=>?_) fun g=>?_|refine w31 oV (e:=CP _ _ _ _ _ _ _ _ n) (k':=?_)|refine w31 iF (e:=tW _ _ _ _ _ _ _ _ (A59 (x:=(k,c,m,w,b,r,cl,t)) ‹_› ‹_›)) (k':=?_))
   all_goals
    first
    | exact A58 (x:=(k,c,m,w,b,r,cl,t)) ‹_›
    | exact A57 (x:=(k,c,m,w,b,r,cl,t)) ‹_› ‹_›
    | exact A56 (x:=(k,c,m,w,b,r,cl,t)) ‹_› ‹_›
  .cases f
 .cases f
def niF(s:B7)(a:B7):Bool:=decide (a=s)
def hD(b:UInt8):Int:=if 48<=b.toNat/\b.toNat<=57 then b.toNat-48 else if 65<=b.toNat/\b.toNat<=70 then b.toNat-55 else -1
def hR:B7->Int->Option Int
 | [],n=>some n
 | b::l,n=>if hD b<0 then none else hR l (16*n+hD b)
def hE(s:B7)(i n:Int):Option Unit:=match hR (s.drop i.toNat) n with
 | some _=>none
 | none=>some ()
def hV(s:B7)(i n:Int):Int:=(hR (s.drop i.toNat) n).getD 0
def AO(s:B7):Int:=match K1 (niF s) nmL 0 with
 | some j=>1114113+j
 | none=>if s=[83,112,97,99,101]then 32 else if s.length=1 then((s.getD 0 0).toNat:Int)else if s.length<6∨8<s.length∨s.take 2≠[85,43]then -1 else(hR (s.drop 2) 0).getD (-1)
def A8k{s:B7}(h:K1 (niF s) nmL 0=some j):AO s=1114113+j:=by unfold AO;rw[h]
def A6p{s:B7}(h:K1 (niF s) nmL 0=none):AO s=if s=[83,112,97,99,101]then 32 else if s.length=1 then((s.getD 0 0).toNat:Int)else if s.length<6∨8<s.length∨s.take 2≠[85,43]then -1 else(hR (s.drop 2) 0).getD (-1):=by unfold AO;rw[h]
def A6A{s a:B7}(h:a=s):niF s a=true:=L1 h
def WA{s a:B7}(h:¬a=s):niF s a=false:=E9 h
def stp(p:B7)(v:Int)(a:B7×Int):B7×Int:=if 2<a.1.length/\a.1.take 2=p then(a.1.drop 2,a.2+v)else a
def iM(s:B7):Xt:=(1,AO (stp [83,45] 1 (stp [77,45] 2 (stp [67,45] 4 (s,0)))).1,(stp [83,45] 1 (stp [77,45] 2 (stp [67,45] 4 (s,0)))).2,0,0,0,0,[])
def X0:Xt:=(0,0,0,0,0,0,0,[])
def wB(s:B7):Xt:=if kyP (iM s)/\P7 (iM s)=s then iM s else X0
def yJ(s:B7):Int:=if kyP (iM s)/\P7 (iM s)=s then 0 else 6
def l9{l a2 a3 a4 a5 c d e f:Int}(h:x=(l,a2,a3,a4,a5,c,d,a8))(k:f=e):[U.int .i64 l,.int .i64 a2,.int .i64 a3,.int .i64 a4,.int .i64 a5,.int .i64 c,.int .i64 d,.str a8,.int .i64 e]=[U.int .i64 x.1,.int .i64 x.2.1,.int .i64 x.2.2.1,.int .i64 x.2.2.2.1,.int .i64 x.2.2.2.2.1,.int .i64 x.2.2.2.2.2.1,.int .i64 x.2.2.2.2.2.2.1,.str x.2.2.2.2.2.2.2,.int .i64 f]:=by subst h k;rfl
noncomputable def A7U:X8:=⟨_,fun c=>(.cons (VY c) .nil)⟩
def oZ:List U->Option (Nat×List U)
 | [u_l,.str v,.int .i64 n,.int .i64 i]=>(W7 rS u_l).bind fun l=>if n=((el l).length:Int)/\0<=i/\i<=n/\n<=140737488351232 then bA (K1 (niF v) ((el l).drop i.toNat) i) [] (fun j=>[.int .i64 j])else none
 | _=>none
def oY(l:(Option (List B7)))(v:B7)(n:Int)(i:Int)(c:n=((el l).length:Int)/\0<=i/\i<=n/\n<=140737488351232):oZ [G2 rS l,.str v,.int .i64 n,.int .i64 i]=bA (K1 (niF v) ((el l).drop i.toNat) i) [] (fun j=>[.int .i64 j]):=by
 simp only[oZ,M4,J0];exact A9 c
def XK:W5:=⟨[(0,dat 17 0 11),(1,h 1 9),(7,h 2 3),(8,h 3 3)],[(17,.frz)],4,[⟨.exit 0,[],[],0⟩,⟨.ret,[(4,h 0 3)],[],1⟩]⟩
noncomputable def XL:Code:=(f88.body).getD .skip
noncomputable def A3K:Code:=match H8 [true,false,true,false] XL with|some (.loop x)=>x|_=>.skip
def XJ:f88.body=some XL:=rfl
def XG:H8 [true,false,true,false] XL=some (.loop A3K):=D9
def A3L:Tr:=cZ 2 3 4 (gA 0 3 5 (.lt 9 (.get 1 0) [h 0 11,h3 3]<|aE [h 1 9,h 6 9]<|.br 7 (.ret [jI 1,h3 3]) (aA [h3 3,jI 1]<|.ret [jI (-1),h 0 11,h 1 9,h3 2,h3 8]))) (J7 0)
def XI:List U->Nat
 | [u_l,.str v,.int .i64 n,.int .i64 i]=>(match W7 rS u_l with|some l=>(n-i).toNat|none=>0)
 | _=>0
def XH(l:(Option (List B7)))(v:B7)(n:Int)(i:Int):XI [G2 rS l,.str v,.int .i64 n,.int .i64 i]=(n-i).toNat:=by
 simp only[XI,M4]
def A3M{G}(r:N9 G):∀ (E:Nat->U) (base:Nat),@X1 ⟨E,G⟩ prog base gl f88.ntmps A3K (V2 prog gl n0 18 XK oZ):=by
 refine aV (dep:=60) (f:=88) (n0:=n0) (nB:=18) (H0:=H0) XI A3L (cxg (A7U.2 r) .nil) r func88 XJ XG D9 D9 D9 ?_;intro us d outs k;have s:=k;unfold oZ at k;split at k
 .skip;rename_i t v n i;have q:=D6.1 k;clear k;obtain⟨l,c,k⟩:=q;replace c:=P8 c;subst c;split at k
  .rename_i o;clear k s;refine⟨rfl,?_⟩;unfold A3L;refine w0 (.cons 3 _ (.cons 2 _ (.cons 1 _ (.cons 0 _ (.nil))))) ?_;repeat (first|refine w4 (fun g=>?_) fun g=>?_|refine mB ?_|refine bY ?_|refine mA ?_|refine jA ?_|refine w1 (.get 1 0) (u:=.str _) (e:=H5 rfl A2 A2 rfl) (k':=?_)|refine JJ ?_|(refine w7 [.int .i64 _,.int .i64 _] ?_;rotate_left)|(refine w7 [.int .i64 _,G2 rS _,.str _,.int .i64 _,.int .i64 _] ?_;rotate_left)|(refine w8 ?_;first|omega)|(refine w7 [.int .i64 _] ?_;rotate_left))
   all_goals first
    | refine W6 ?_ ?_
      .rw[oY l v n (i+1) ⟨o.1,A2,A2,o.2.2.2⟩,oY l v n i o,dQ (i:=i) o.2.1 A2 (WA (fun h=>(by assumption:¬_=_) (by first|exact h|exact h.symm)))]
      .rw[XH,XH];omega
    | refine M0 (d:=0) ?_
      rw[oY l v n i o,fP A2];rfl
    | refine M0 (d:=1) ?_
      rw[oY l v n i o,fO (i:=i) o.2.1 A2 (A6A (by first|assumption|(symm;assumption)))];rfl
  .cases k
 .cases k
noncomputable def A0R:List LpE:=[(88,([true,false,true,false],V2 prog gl n0 18 XK oZ))]
def tA{G}(c:N9 G):v8 prog G gl A0R:=(.cons func88 XJ XG (A3M c) .nil)
def vR(c:Int):Int:=if c / 32%2=1 then c else c+32
def A4f{c:Int}(h0:0<=c)(h1:c<=255):IntKind.u8.wrap ((BitVec.ofInt IntKind.u8.bits c ||| BitVec.ofInt IntKind.u8.bits 32).toNat)=vR c:=by
 obtain⟨n,rfl⟩:∃ n:Nat,c=n:=⟨c.toNat,A2⟩;have d:n<256:=A2;have:((List.range 256).all fun n=>decide (IntKind.u8.wrap ((BitVec.ofInt IntKind.u8.bits (n:Int) ||| BitVec.ofInt IntKind.u8.bits 32).toNat)=vR n))=true:=D9;exact K3 (D2.1 this n (V0.2 d))
noncomputable def A7O:X8:=⟨_,fun c=>.nil⟩
def vQ:List U->Option (Nat×List U)
 | [.int .u8 c]=>if 0<=c/\c<=255 then some (0,[.int .u8 (vR c)])else none
 | _=>none
def A1K(c:Int)(d:0<=c/\c<=255):vQ [.int .u8 c]=some (0,[.int .u8 (vR c)]):=A9 d
def A27:Tr:=.lt 4 (.bin .or) [h 0 4,.int .u8 (32)]<|.ret [h 1 4]
def A28{G}(f:N9 G):M7 prog G 126 [.s 4] vQ [.s 4]:=by
 refine H6 (d:=60) A27 (cxg (A7O.2 f) (tA f)) f ⟨f126,_,func126,rfl⟩ D9 D9 ?_;intro us outs k;unfold vQ at k;split at k
 .skip;rename_i c;split at k
  .rename_i l;cases k;unfold A27;refine w0 (.cons 0 _ (.nil)) ?_;repeat (first|refine w1 (.bin .or) (e:=LF 8 256 128 F7 F7 A2 A2 A2 A2 A2) (k':=?_)|refine w1 (.bin .or) (e:=YM 8 256 128 F7 F7 A2 A2 A2 A2 A2) (k':=?_)|refine w1 (.bin .or) (e:=LF 16 65536 128 F7 F7 A2 A2 A2 A2 A2) (k':=?_)|refine w1 (.bin .or) (e:=YM 16 65536 128 F7 F7 A2 A2 A2 A2 A2) (k':=?_)|refine w1 (.bin .or) (e:=PA _ _ _) (k':=?_)|(refine w7 [.int .u8 _] ?_;rotate_left))
   all_goals
    exact F0 (fun z=>[U.int .u8 z]) (A4f l.1 l.2)
  .cases k
 .cases k
def AP:List U->Option (Nat×List U)
 | [.str s]=>if(s.length:Int)<=140737488351232 then some (0,[.str (s)])else none
 | _=>none
def A12(s:B7)(c:(s.length:Int)<=140737488351232):AP [.str s]=some (0,[.str (s)]):=A9 c
def A3m{G}(e:N9 G):M7 prog G 143 [.s 9] AP [.s 9]:=by
 intro us outs w vs R d c f hR;unfold AP at c;split at c
 .skip;rename_i s;split at c
  .rename_i k;cases c;have hv:=R5 (vs2:=[.string ⟨⟨s⟩⟩]) d rfl;subst hv;refine cL (vr:=[.string ⟨⟨s⟩⟩]) func143 rfl D9 rfl ?_;exact Tryz.stringslite_Clone ⟨⟨s⟩⟩ w (by show s.length<=_;omega)
  .cases c
 .cases c
def hv(c:Int):Int:=if 48<=c/\c<=57 then c-48 else if 65<=c/\c<=70 then c-55 else if 97<=c/\c<=102 then c-87 else -1
def pu:List Int->Int->Option Int
 | [],n=>some n
 | c::l,n=>if hv c<0 then none else pu l (n*16+hv c)
def puE(l:List Int)(n:Int):Option Int:=match pu l n with
 | none=>some 0
 | some _=>none
def puV(l:List Int)(n:Int):Int:=(pu l n).getD 0
def A4g{c:Int}(h0:0<=c)(h1:c<=255):0<=vR c/\vR c<=255:=by unfold vR;split<;>omega
def A4t{c:Int}(h0:0<=c)(h1:c<=255):hv c=if 48<=c/\c<=57 then c-48 else if 97<=vR c/\vR c<=102 then vR c-87 else -1:=by
 unfold hv vR;repeat' split;all_goals omega
def A1Y{l:List Int}(h:∀ x ∈ l,0<=x/\x<=255)(i:Nat):0<=l.getD i default/\l.getD i default<=255:=by
 rw[B2];cases hx:l[i]? with
 | none=>decide
 | some x=>exact h x (C7 hx)
def A5v{l:List Int}{n:Int}(h0:0<=i)(h1:i<(l.length:Int)):pu (l.drop i.toNat) n=if hv (l.getD i.toNat default)<0 then none else pu (l.drop (i+1).toNat) (n*16+hv (l.getD i.toNat default)):=by
 rw[m7 l h0 h1];rfl
def A0z{l:List Int}{n d:Int}(h0:0<=i)(h1:i<(l.length:Int))(c:hv (l.getD i.toNat default)=d)(e:0<=d):puE (l.drop i.toNat) n=puE (l.drop (i+1).toNat) (n*16+d)/\puV (l.drop i.toNat) n=puV (l.drop (i+1).toNat) (n*16+d):=by
 unfold puE puV;rw[A5v h0 h1,c,A8 A2];exact⟨rfl,rfl⟩
def A4P{l:List Int}{n:Int}(h0:0<=i)(h1:i<(l.length:Int))(c:hv (l.getD i.toNat default)<0):puE (l.drop i.toNat) n=some 0:=by
 unfold puE;rw[A5v h0 h1,A9 c]
def A4Q{l:List Int}{n:Int}(h1:(l.length:Int)<=i):puE (l.drop i.toNat) n=none/\puV (l.drop i.toNat) n=n:=by
 unfold puE puV;rw[show l.drop i.toNat=[]from O1 A2];exact⟨rfl,rfl⟩
def A4X(h0:0<=i)(h1:i<6):(16:Int) ^ (i+1).toNat=16*16 ^ i.toNat/\(16:Int) ^ i.toNat<=1048576:=by
 obtain⟨n,rfl⟩:∃ n:Nat,i=n:=⟨i.toNat,A2⟩;have:n=0∨n=1∨n=2∨n=3∨n=4∨n=5:=A2;rcases this with rfl|rfl|rfl|rfl|rfl|rfl<;>decide
noncomputable def A7G:X8:=⟨_,fun c=>(.cons (A28 c) (.cons (A3m c) .nil))⟩
def mK:List U->Option (Nat×List U)
 | [.str z0,.int .u64 n,u_b,.int .i64 k,.int .i64 i]=>(W7 rB u_b).bind fun b=>if k=((el b).length:Int)/\0<=i/\i<=k/\k<=6/\(∀ x ∈ el b,0<=x/\x<=255)/\0<=n/\n<16 ^ i.toNat then bA (puE ((el b).drop i.toNat) n) [.int .u64 (puV ((el b).drop i.toNat) n),.str z0] (fun j=>[.int .u64 j])else none
 | _=>none
def oM(z0:B7)(n:Int)(b:SD)(k:Int)(i:Int)(c:k=((el b).length:Int)/\0<=i/\i<=k/\k<=6/\(∀ x ∈ el b,0<=x/\x<=255)/\0<=n/\n<16 ^ i.toNat):mK [.str z0,.int .u64 n,G2 rB b,.int .i64 k,.int .i64 i]=bA (puE ((el b).drop i.toNat) n) [.int .u64 (puV ((el b).drop i.toNat) n),.str z0] (fun j=>[.int .u64 j]):=by
 simp only[mK,M4,J0];exact A9 c
def A2l:W5:=⟨[(1,.int .i64 (16)),(8,.bool false),(9,h 0 9),(10,.int .u64 (1152921504606846976)),(11,.int .u64 (4294967295)),(12,.bool false),(13,h 1 7),(99,own 19 2 11),(100,h 3 3),(101,h 4 3)],[(19,.sq 2 11 5 20),(20,.frz)],5,[⟨.exit 3,[(13,h 0 7),(12,.bool false),(9,h 1 9)],[],2⟩,⟨.ret,[(6,h 0 7),(7,.iface 174 (.int .i64 (2)))],[],1⟩]⟩
noncomputable def UY:Code:=(f109.body).getD .skip
noncomputable def A2h:Code:=match H8 [true,true,true,true,true,true,true,true,true,true,true,false,true,false] UY with|some (.loop x)=>x|_=>.skip
def A2k:f109.body=some UY:=rfl
def A2j:H8 [true,true,true,true,true,true,true,true,true,true,true,false,true,false] UY=some (.loop A2h):=D9
def UV(n:Nat):Tr:=.fn vQ [h 7 4] 1<|aQ [.int .u8 (97),h n 4]<|.br (n+1) (.fn vQ [h 7 4] 1<|aQ [h (n+2) 4,.int .u8 (122)]<|.br (n+3) (.fn vQ [h 7 4] 1<|.lt 4 (.bin .sub) [h (n+4) 4,.int .u8 (97)]<|.lt 4 (.bin .add) [h (n+5) 4,.int .u8 (10)]<|aH [h (n+6) 4,.int .u8 (16)]<|.br (n+7) (.ret [jI 1,.int .u64 (0)]) (aH [h 1 7,.int .u64 (1152921504606846976)]<|.br (n+8) (.no) (.lt 7 (.bin .mul) [h 1 7,.int .u64 (16)]<|.lt 7 (.conv .u64) [h (n+6) 4]<|.lt 7 (.bin .add) [h (n+9) 7,h (n+10) 7]<|aL [h (n+11) 7,h (n+9) 7]<|.br (n+12) (.no) (aG [h (n+11) 7,.int .u64 (4294967295)]<|.br (n+13) (.no) (aA [h3 4,jI 1]<|.ret [jI (-1),h 0 9,h (n+11) 7,h 2 11,h3 3,h3 (n+14)]))))) (.ret [jI 1,.int .u64 (0)])) (.ret [jI 1,.int .u64 (0)])
def UU(n:Nat):Tr:=aQ [.int .u8 (48),h 7 4]<|.br n (aQ [h 7 4,.int .u8 (57)]<|.br (n+1) (.lt 4 (.bin .sub) [h 7 4,.int .u8 (48)]<|aH [h (n+2) 4,.int .u8 (16)]<|.br (n+3) (.ret [jI 1,.int .u64 (0)]) (aH [h 1 7,.int .u64 (1152921504606846976)]<|.br (n+4) (.no) (.lt 7 (.bin .mul) [h 1 7,.int .u64 (16)]<|.lt 7 (.conv .u64) [h (n+2) 4]<|.lt 7 (.bin .add) [h (n+5) 7,h (n+6) 7]<|aL [h (n+7) 7,h (n+5) 7]<|.br (n+8) (.no) (aG [h (n+7) 7,.int .u64 (4294967295)]<|.br (n+9) (.no) (aA [h3 4,jI 1]<|.ret [jI (-1),h 0 9,h (n+7) 7,h 2 11,h3 3,h3 (n+10)]))))) (UV (n+2))) (UV (n+1))
def A2i:Tr:=cZ 3 4 5 (gA 2 4 6 (.lt 4 (.get 1 0) [h 2 11,h3 4]<|aE [h 7 4,.int .u8 (95)]<|.br 8 (UU 9) (UU 9))) (.ret [jI 0,h 1 7,h 0 9])
def UX:List U->Nat
 | [.str z0,.int .u64 n,u_b,.int .i64 k,.int .i64 i]=>(match W7 rB u_b with|some b=>(k-i).toNat|none=>0)
 | _=>0
def UW(z0:B7)(n:Int)(b:SD)(k:Int)(i:Int):UX [.str z0,.int .u64 n,G2 rB b,.int .i64 k,.int .i64 i]=(k-i).toNat:=by
 simp only[UX,M4]
def A5u{G}(r:N9 G):∀ (E:Nat->U) (base:Nat),@X1 ⟨E,G⟩ prog base gl f109.ntmps A2h (V2 prog gl n0 21 A2l mK):=by
 refine aV (dep:=60) (f:=109) (n0:=n0) (nB:=21) (H0:=H0) UX A2i (cxg (A7G.2 r) (tA r)) r func109 A2k A2j D9 D9 D9 ?_;intro us d outs o;have w:=o;unfold mK at o;split at o
 .skip;rename_i z0 n C k i;have s:=D6.1 o;clear o;obtain⟨b,l,o⟩:=s;replace l:=P8 l;subst l;split at o
  .rename_i c;clear o w;have t:=A1Y c.2.2.2.2.1 i.toNat;have hh:=A4t t.1 t.2;have H:=A4g t.1 t.2;have A:=fun h=>A4X (i:=i) c.2.1 h
   refine⟨rfl,?_⟩;unfold A2i;refine w0 (.cons 4 _ (.cons 3 _ (.cons 2 _ (.cons 1 _ (.cons 0 _ (.nil)))))) ?_;repeat (first|refine w4 (fun g=>?_) fun g=>?_|refine mB ?_|refine bY ?_|(refine w8 ?_;first|omega|(have A:=A4X (i:=i) c.2.1 A2;omega))|(refine w7 [.int .i64 _,.int .u64 _] ?_;rotate_left)|refine uL ?_|refine SR ?_|refine EM ?_|refine mR ?_|refine A7r ?_|refine A5d ?_|refine MN ?_|refine BN ?_|refine w31 vQ (e:=A1K _ A2) (k':=?_)|refine mA ?_|refine QB ?_|(refine w7 [.int .i64 _,.str _,.int .u64 _,G2 rB _,.int .i64 _,.int .i64 _] ?_;rotate_left)|refine jA ?_|refine w1 (.get 1 0) (u:=.int .u8 _) (e:=H5 rfl A2 A2 rfl) (k':=?_)|refine nV ?_|(refine w7 [.int .i64 _,.int .u64 _,.str _] ?_;rotate_left))
   all_goals first
    | refine W6 ?_ ?_
      .have A:=A4X (i:=i) c.2.1 A2;have D:∀ d,hv ((el b).getD i.toNat default)=d->0<=d->d<16->mK [.str z0,.int .u64 (n*16+d),G2 rB b,.int .i64 k,.int .i64 (i+1)]=mK [.str z0,.int .u64 n,G2 rB b,.int .i64 k,.int .i64 i]:=fun d F B h3=>by
        have q:=A0z (n:=n) c.2.1 (by omega:i<((el b).length:Int)) F B;rw[oM _ _ _ _ _ ⟨c.1,A2,A2,c.2.2.2.1,c.2.2.2.2.1,A2,A2⟩,oM _ _ _ _ _ c,q.1,q.2]
       exact D _ A2 A2 A2
      .rw[UW,UW];omega
    | refine M0 (d:=0) ?_
      have q:=A4Q (n:=n) (by omega:((el b).length:Int)<=i);rw[oM _ _ _ _ _ c,q.1,q.2];rfl
    | refine M0 (d:=1) ?_
      rw[oM _ _ _ _ _ c,A4P c.2.1 A2 A2];rfl
  .cases o
 .cases o
noncomputable def A0Q:List LpE:=[(109,([true,true,true,true,true,true,true,true,true,true,true,false,true,false],V2 prog gl n0 21 A2l mK)),(88,([true,false,true,false],V2 prog gl n0 18 XK oZ))]
def IZ{G}(c:N9 G):v8 prog G gl A0Q:=(.cons func109 A2k A2j (A5u c) (.cons func88 XJ XG (A3M c) .nil))
def puB(s:B7):Int:=if s=[]then -1 else(pu (bI s) 0).getD (-1)
def iL(s:B7):Int:=match K1 (niF s) nmL 0 with
 | some j=>1114113+j
 | none=>if s=[83,112,97,99,101]then 32 else if s.length=1 then((s.getD 0 0).toNat:Int)else if s.take 2=[85,43]/\s.length<=8 then puB (s.drop 2)else -1
def A3e{α:Type}{p:α->Bool}:∀ {l:List α} {i j:Int},K1 p l i=some j->i<=j/\j<i+l.length
 | [],i,j,h=>by cases h
 | a::l,i,j,h=>by
   unfold K1 at h;split at h
   .cases h;simp only[D5];omega
   .have:=A3e h;simp only[D5];omega
def A22{s:B7}(h:K1 (niF s) (List.drop (0:Int).toNat (el (some nmL))) 0=some v):0<=v/\v<26:=by
 have:=A3e h;have e:((List.drop (0:Int).toNat (el (some nmL))).length:Int)=26:=rfl;omega
def A61(s:B7):∀ x ∈ el (some (bI s)),0<=x/\x<=255:=fun x h=>by have:=A5U (s:=s) h;omega
def A62{s:B7}{n:Int}(h:(s.length:Int)<=n):((el (some (bI s))).length:Int)<=n:=by show((bI s).length:Int)<=n;rw[rR];exact h
def A6q{s:B7}(h:K1 (niF s) nmL 0=some v):iL s=1114113+v:=by unfold iL;rw[h]
def RS{s:B7}(h:K1 (niF s) nmL 0=none):iL s=if s=[83,112,97,99,101]then 32 else if s.length=1 then((s.getD 0 0).toNat:Int)else if s.take 2=[85,43]/\s.length<=8 then puB (s.drop 2)else -1:=by unfold iL;rw[h]
def A2m:∀ {l:List Int} {n v:Int},0<=n->pu l n=some v->0<=v/\v<(n+1)*16 ^ l.length
 | [],n,v,h0,h=>by cases h;simp;omega
 | c::l,n,v,h0,h=>by
   unfold pu at h;split at h
   .cases h
   .have d:hv c<16:=by unfold hv;(repeat' split)<;>omega
    have q:=A2m A2 h;have hp:(0:Int)<=16 ^ l.length:=Int.le_of_lt (Int.pow_pos F7);have hm:=Int.mul_le_mul_of_nonneg_right (show n*16+hv c+1<=(n+1)*16 by omega) hp;rw[Int.mul_assoc]at hm;rw[D5,Int.pow_succ,Int.mul_comm ((16:Int) ^ l.length) 16];omega
def A8B{s:B7}(f:(s.length:Int)<=6)(h:puE (List.drop (0:Int).toNat (el (some (bI s)))) 0=none):IntKind.i64.wrap (puV (List.drop (0:Int).toNat (el (some (bI s)))) 0)=(pu (bI s) 0).getD (-1):=by
 have e:List.drop (0:Int).toNat (el (some (bI s)))=bI s:=rfl;rw[e]at h ⊢;unfold puE at h;unfold puV;cases c:pu (bI s) 0 with
 | none=>rw[c]at h;cases h
 | some v =>
   have q:=A2m F7 c;rw[rR]at q;have d:(16:Int) ^ s.length<=16 ^ 6:=by
    have:=bO (n:=16) F7 (show s.length<=6 by omega)
    exact_mod_cast this
   show IntKind.i64.wrap v=v;exact iW A2 A2
def A8A{s:B7}(h:puE (List.drop (0:Int).toNat (el (some (bI s)))) 0=some j):(pu (bI s) 0).getD (-1) = -1:=by
 have e:List.drop (0:Int).toNat (el (some (bI s)))=bI s:=rfl;rw[e]at h;unfold puE at h;cases c:pu (bI s) 0 with
 | none=>rfl
 | some v=>rw[c]at h;cases h
def A5w{s:B7}(h:s=[]):puB s = -1:=A9 h
def UZ{s:B7}(h:¬s=[]):puB s=(pu (bI s) 0).getD (-1):=A8 h
def A5O{s:B7}(h:K1 (niF s) nmL 0=none)(h1:¬s=[83,112,97,99,101])(d:¬(s.length:Int)=1)(h3:¬¬List.take ((2:Int).toNat-(0:Int).toNat) (List.drop (0:Int).toNat s)=[85,43])(c:((List.drop (2:Int).toNat s).length:Int)<=6):iL s=puB (List.drop (2:Int).toNat s):=by
 rw[RS h,A8 h1,A8 A2,A9 ⟨E0.1 h3,by rw[E4]at c;simp at c;omega⟩];rfl
def A5N{s:B7}(h:K1 (niF s) nmL 0=none)(h1:¬s=[83,112,97,99,101])(c:¬(s.length:Int)=1)(h3:¬(s.take 2=[85,43]/\s.length<=8)):iL s = -1:=by
 rw[RS h,A8 h1,A8 A2,A8 h3]
def A8n{s:B7}(h:K1 (niF s) nmL 0=none)(h1:¬s=[83,112,97,99,101])(c:(s.length:Int)=1):iL s=((s.getD 0 0).toNat:Int):=by
 rw[RS h,A8 h1,A9 A2]
def A8m{s:B7}(h:¬2<=(s.length:Int)):¬(s.take 2=[85,43]/\s.length<=8):=fun k=>by have:=F0 List.length k.1;rw[R2]at this;simp at this;omega
def A8l{s:B7}(h:¬((List.drop (2:Int).toNat s).length:Int)<=6):¬(s.take 2=[85,43]/\s.length<=8):=fun k=>by rw[E4]at h;have:=k.2;simp at h;omega
noncomputable def A7a:X8:=⟨_,fun c=>(.cons (VY c) (.cons (A28 c) (.cons (A3m c) .nil)))⟩
def IJ:List U->Option (Nat×List U)
 | [.str s]=>if(s.length:Int)<=140737488351232 then some (0,[.int .i64 (iL s)])else none
 | _=>none
def A10(s:B7)(c:(s.length:Int)<=140737488351232):IJ [.str s]=some (0,[.int .i64 (iL s)]):=A9 c
def ZM(n:Nat):Tr:=aE [h 0 9,.string ⟨⟨[83,112,97,99,101]⟩⟩]<|.br n (J7 32) (aD [h 0 9]<|K0 (n+1) (n+2) 1 (.lt 4 (.idx) [h 0 9,jI 0]<|.lt 3 (.conv .i64) [h (n+3) 4]<|.ret [h3 (n+4)]) (J7 (-1)))
def n8(a0:Int)(e:Nat)(a2:Nat)(c d:Tr):Tr:=aD [h e 9]<|aH [h3 a2,jI a0]<|.br (a2+1) c d
def ZL(n:Nat):Tr:=n8 2 0 n (.lt 9 (.sub) [h 0 9,jI 0,jI 2]<|aE [h (n+2) 9,.string ⟨⟨[85,43]⟩⟩]<|Q1 (n+3) (n+4) (ZM (n+5)) (.lt 9 (.sub1) [h 0 9,jI 2]<|aE [h 0 9,.string ⟨⟨[83,112,97,99,101]⟩⟩]<|.br (n+6) (J7 32) (aD [h 0 9]<|K0 (n+7) (n+8) 1 (.lt 4 (.idx) [h 0 9,jI 0]<|.lt 3 (.conv .i64) [h (n+9) 4]<|.ret [h3 (n+10)]) (aD [h (n+5) 9]<|R7 (n+9) (n+10) 6 (aE [h (n+5) 9,.string ⟨⟨[]⟩⟩]<|.br (n+11) (.fn AP [h (n+5) 9] 1<|J7 (-1)) (.dt 11 (.byt) [h (n+5) 9]<|aD [h (n+12) 11]<|.lp mK [h (n+5) 9,.int .u64 (0),h (n+12) 11,h3 (n+13),jI 0] 0 2 (.lt 3 (.conv .i64) [h (n+14) 7]<|.ret [h3 (n+16)]) (.lp mK [h (n+5) 9,.int .u64 (0),h (n+12) 11,h3 (n+13),jI 0] 1 1 (.fn AP [h (n+5) 9] 1<|J7 (-1)) (.no)))) (J7 (-1)))))) (ZM (n+2))
def A3k:Tr:=.fn vN [] 1<|aD [h 1 11]<|.lp oZ [h 1 11,h 0 9,h3 2,jI 0] 0 0 (ZL 3) (.lp oZ [h 1 11,h 0 9,h3 2,jI 0] 1 1 (K5 3 4 0 (aA [jI 1114113,h3 3]<|.ret [h3 5]) (ZL 5)) (.no))
def A6s{G}(c:N9 G):M7 prog G 51 [.s 9] IJ [.s 3]:=by
 refine H6 (d:=60) A3k (cxg (A7a.2 c) (IZ c)) c ⟨f51,_,func51,rfl⟩ D9 D9 ?_;intro us outs f;unfold IJ at f;split at f
 .skip;rename_i s;split at f
  .rename_i l;cases f;have n:=SO (s.getD (0:Int).toNat 0);unfold A3k;refine w0 (.cons 0 _ (.nil)) ?_;repeat (first|(refine w7 [.int .i64 _] ?_;rotate_left)|refine w4 (fun g=>?_) fun g=>?_|refine MN ?_|refine BN ?_|refine nU ?_|refine JJ ?_|refine nV ?_|refine w1 (.idx) (e:=LG _ _ _ A2 A2) (k':=?_)|refine w31 AP (e:=A12 _ A2) (k':=?_)|refine uM ?_|refine mR ?_|refine w1 (.sub) (e:=lU _ _ _ _ _ A2 A2 A2) (k':=?_)|refine fD ?_|refine w1 (.sub1) (e:=lT _ _ _ A2 A2) (k':=?_)|refine uL ?_|refine w2 (.byt) (r:=rB) (e:=A1j _ rfl) (k':=?_)|(refine w6 mK (oM _ _ _ _ _ ⟨by first|rfl,F7,by first|omega,by first|exact A62 ‹_›,by first|exact A61 _,F7,F7⟩) (h0:=fun g=>?_) (h1:=fun v g=>?_);show Wk _ _ (.cons _ _ (.cons _ _ _));rotate_left;show Wk _ _ (.cons _ _ _);rotate_right)|refine mB ?_|refine bY ?_|refine w31 vN (e:=NP ) (k':=?_)|(refine w6 oZ (oY _ _ _ _ ⟨rfl,F7,by show(0:Int)<=26;decide,by show(26:Int)<=_;decide⟩) (h0:=fun g=>?_) (h1:=fun v g=>?_);skip;rotate_left;show Wk _ _ (.cons _ _ _);rotate_right))
   all_goals
    refine l0 ?_;symm;first
    | (exfalso;have:=A22 ‹_›;omega)
    | (have hv:=A22 ‹_›;rw[A6q ‹_›];first|done|(symm;exact iW A2 A2))
    | (rw[RS ‹_›,A9 ‹_›];done)
    | (rw[A8n ‹_› ‹_› ‹_›];first|rfl|(symm;exact iW A2 A2))
    | (rw[A5O ‹_› ‹_› ‹_› ‹_› ‹_›,A5w ‹_›];done)
    | (rw[A5O ‹_› ‹_› ‹_› ‹_› ‹_›,UZ ‹_›,A8B ‹_› ‹_›];done)
    | (rw[A5O ‹_› ‹_› ‹_› ‹_› ‹_›,UZ ‹_›,A8A ‹_›];done)
    | exact A5N ‹_› ‹_› ‹_› (A8m ‹_›)
    | exact A5N ‹_› ‹_› ‹_› (A8l ‹_›)
    | exact A5N ‹_› ‹_› ‹_› (fun k=>(by assumption:¬List.take ((2:Int).toNat-(0:Int).toNat) (List.drop (0:Int).toNat s)=[85,43]) k.1)
  .cases f
 .cases f
def cA(s:B7):Xt:=(1,iL (stp [83,45] 1 (stp [77,45] 2 (stp [67,45] 4 (s,0)))).1,(stp [83,45] 1 (stp [77,45] 2 (stp [67,45] 4 (s,0)))).2,0,0,0,0,[])
def kpO(s:B7):Xt:=if kyP (cA s)/\P7 (cA s)=s then cA s else X0
def kpE(s:B7):Int:=if kyP (cA s)/\P7 (cA s)=s then 0 else 6
def A6I{s:B7}{X:Xt}(d:cA s=X)(h1:kyP X)(c:¬P7 X≠s):kpO s=X/\kpE s=0:=by
 unfold kpO kpE;rw[d,A9 ⟨h1,E0.1 c⟩,A9 ⟨h1,E0.1 c⟩];exact⟨rfl,rfl⟩
def A6K{s:B7}{X:Xt}(c:cA s=X)(h1:¬kyP X):kpO s=X0/\kpE s=6:=by
 unfold kpO kpE;rw[c,A8 (fun k=>h1 k.1),A8 (fun k=>h1 k.1)];exact⟨rfl,rfl⟩
def A6J{s:B7}{X:Xt}(d:cA s=X)(c:P7 X≠s):kpO s=X0/\kpE s=6:=by
 unfold kpO kpE;rw[d,A8 (fun k=>c k.2),A8 (fun k=>c k.2)];exact⟨rfl,rfl⟩
def A4B{p s:B7}(v:Int)(h:¬2<=(s.length:Int)):stp p v (s,m)=(s,m):=A8 fun k=>h (by have:2<s.length:=k.1;omega)
def A4A{p s:B7}(v:Int)(h:¬List.take ((2:Int).toNat-(0:Int).toNat) (List.drop (0:Int).toNat s)=p):stp p v (s,m)=(s,m):=A8 fun k=>h k.2
def A3_{p s:B7}(v:Int)(h:List.drop (2:Int).toNat s=[]):stp p v (s,m)=(s,m):=A8 fun k=>by have:=F0 List.length h;rw[E4]at this;have h3:2<s.length:=k.1;simp at this;omega
def A39{p s:B7}(v:Int)(h:¬¬List.take ((2:Int).toNat-(0:Int).toNat) (List.drop (0:Int).toNat s)=p)(c:¬List.drop (2:Int).toNat s=[]):stp p v (s,m)=(List.drop (2:Int).toNat s,m+v):=A9 ⟨by show 2<s.length;exact fW fun k=>c (O1 k),E0.1 h⟩
noncomputable def A7L:X8:=⟨_,fun c=>(.cons (A6s c) (.cons (XY c) (.cons (NS c) .nil)))⟩
def oR:List U->Option (Nat×List U)
 | [.str s]=>if(s.length:Int)<=140737488351232 then some (0,[.int .i64 ((kpO s).1),.int .i64 ((kpO s).2.1),.int .i64 ((kpO s).2.2.1),.int .i64 ((kpO s).2.2.2.1),.int .i64 ((kpO s).2.2.2.2.1),.int .i64 ((kpO s).2.2.2.2.2.1),.int .i64 ((kpO s).2.2.2.2.2.2.1),.str ((kpO s).2.2.2.2.2.2.2),.int .i64 (kpE s)])else none
 | _=>none
def NL(s:B7)(c:(s.length:Int)<=140737488351232):oR [.str s]=some (0,[.int .i64 ((kpO s).1),.int .i64 ((kpO s).2.1),.int .i64 ((kpO s).2.2.1),.int .i64 ((kpO s).2.2.2.1),.int .i64 ((kpO s).2.2.2.2.1),.int .i64 ((kpO s).2.2.2.2.2.1),.int .i64 ((kpO s).2.2.2.2.2.2.1),.str ((kpO s).2.2.2.2.2.2.2),.int .i64 (kpE s)]):=A9 c
def P5:Tr:=.ret [jI 0,jI 0,jI 0,jI 0,jI 0,jI 0,jI 0,.string ⟨⟨[]⟩⟩,jI 6]
def aO(a0:Int)(c:Nat):Tr:=.ret [jI 1,h3 c,jI a0,jI 0,jI 0,jI 0,jI 0,.string ⟨⟨[]⟩⟩,jI 0]
def aP(a0:Int)(c:Nat)(e d:Tr):Tr:=.fn iF [jI 1,h3 c,jI a0,jI 0,jI 0,jI 0,jI 0,.string ⟨⟨[]⟩⟩] 1<|aN [h (c+3) 9,h 0 9]<|.br (c+4) e d
def aR(a0:Int)(e:Nat)(a2:Nat)(c d:Tr):Tr:=.fn IJ [h e 9] 1<|.fn pE [jI 1,h3 a2,jI a0,jI 0,jI 0,jI 0,jI 0,.string ⟨⟨[]⟩⟩] 1<|aX [h (a2+1) 8]<|.br (a2+2) c d
def KL(n:Nat):Tr:=aR 0 0 n P5 (aP 0 n P5 (aO 0 n))
def eC(a0:Int)(e:Nat)(a2:Nat)(c d:Tr):Tr:=.lt 9 (.sub1) [h e 9,jI a0]<|aN [h a2 9,.string ⟨⟨[]⟩⟩]<|.br (a2+1) c d
def tP(a0:Nat)(c:Nat)(e d:Tr):Tr:=.lt 9 (.sub) [h a0 9,jI 0,jI 2]<|aE [h c 9,.string ⟨⟨[83,45]⟩⟩]<|aX [h (c+1) 8]<|.br (c+2) e d
def KK(n:Nat):Tr:=n8 2 0 n (tP 0 (n+2) (KL (n+5)) (eC 2 0 (n+5) (aR 1 (n+5) (n+7) P5 (aP 1 (n+7) P5 (aO 1 (n+7)))) (KL (n+7)))) (KL (n+2))
def KJ(n:Nat):Tr:=n8 2 0 n (.lt 9 (.sub) [h 0 9,jI 0,jI 2]<|aE [h (n+2) 9,.string ⟨⟨[77,45]⟩⟩]<|Q1 (n+3) (n+4) (KK (n+5)) (eC 2 0 (n+5) (n8 2 (n+5) (n+7) (tP (n+5) (n+9) (aR 2 (n+5) (n+12) P5 (aP 2 (n+12) P5 (aO 2 (n+12)))) (eC 2 (n+5) (n+12) (aR 3 (n+12) (n+14) P5 (aP 3 (n+14) P5 (aO 3 (n+14)))) (aR 2 (n+5) (n+14) P5 (aP 2 (n+14) P5 (aO 2 (n+14)))))) (aR 2 (n+5) (n+9) P5 (aP 2 (n+9) P5 (aO 2 (n+9))))) (KK (n+7)))) (KK (n+2))
def KI(n:Nat):Tr:=aR 4 6 n P5 (aP 4 n P5 (aO 4 n))
def KH(n:Nat):Tr:=n8 2 6 n (tP 6 (n+2) (KI (n+5)) (eC 2 6 (n+5) (aR 5 (n+5) (n+7) P5 (aP 5 (n+7) P5 (aO 5 (n+7)))) (KI (n+7)))) (KI (n+2))
def KG(n:Nat):Tr:=aR 6 13 n P5 (aP 6 n P5 (aO 6 n))
def A21:Tr:=n8 2 0 1 (.lt 9 (.sub) [h 0 9,jI 0,jI 2]<|aE [h 3 9,.string ⟨⟨[67,45]⟩⟩]<|Q1 4 5 (KJ 6) (eC 2 0 6 (n8 2 6 8 (.lt 9 (.sub) [h 6 9,jI 0,jI 2]<|aE [h 10 9,.string ⟨⟨[77,45]⟩⟩]<|Q1 11 12 (KH 13) (eC 2 6 13 (n8 2 13 15 (tP 13 17 (KG 20) (eC 2 13 20 (aR 7 20 22 P5 (aP 7 22 P5 (aO 7 22))) (KG 22))) (KG 17)) (KH 15))) (KH 10)) (KJ 8))) (KJ 3)
def GA{G}(k:N9 G):M7 prog G 20 [.s 9] oR [.a [3,3,3,3,3,3,3,9],.s 3]:=by
 refine H6 (d:=60) A21 (cxg (A7L.2 k) .nil) k ⟨f20,_,func20,rfl⟩ D9 D9 ?_;intro us outs f;unfold oR at f;split at f
 .skip;rename_i s;split at f
  .rename_i l;cases f;unfold A21;refine w0 (.cons 0 _ (.nil)) ?_;repeat (first|refine w4 (fun g=>?_) fun g=>?_|refine w4B (fun g=>?_) fun g=>?_|(refine w7 [.int .i64 _,.int .i64 _,.int .i64 _,.int .i64 _,.int .i64 _,.int .i64 _,.int .i64 _,.str _,.int .i64 _] ?_;rotate_left)|refine fD ?_|refine EO ?_|refine A0c ?_|refine w31 IJ (e:=A10 _ (by first|omega|(simp only[E4];omega))) (k':=?_)|refine w31 pE (e:=CW _ _ _ _ _ _ _ _ ⟨F7,F7,RJ (m:=140737488351232) rfl⟩) (k':=?_)|refine w31 iF (e:=tW _ _ _ _ _ _ _ _ (GX (x:=(1,iL _,_,0,0,0,0,[])) (E0.1 ‹_›))) (k':=?_)|refine nU ?_|refine mR ?_|refine w1 (.sub) (e:=lU _ _ _ _ _ A2 A2 (by first|omega|(simp only[E4]at *;omega))) (k':=?_)|refine JJ ?_|refine w1 (.sub1) (e:=lT _ _ _ A2 (by first|omega|(simp only[E4];omega))) (k':=?_))
   all_goals
    first
    | (exfalso;omega)
    | contradiction
    | (have c:cA s=cA s:=rfl
       conv at c=>rhs;unfold cA
       first|rw[A4B (p:=[67,45]) 4 ‹_›]at c|rw[A4A (p:=[67,45]) 4 ‹_›]at c|rw[A3_ (p:=[67,45]) 4 (by first|assumption|exact E0.1 ‹_›)]at c|rw[A39 (p:=[67,45]) 4 ‹_› (by first|assumption|exact E0.1 ‹_›)]at c
       first|rw[A4B (p:=[77,45]) 2 ‹_›]at c|rw[A4A (p:=[77,45]) 2 ‹_›]at c|rw[A3_ (p:=[77,45]) 2 (by first|assumption|exact E0.1 ‹_›)]at c|rw[A39 (p:=[77,45]) 2 ‹_› (by first|assumption|exact E0.1 ‹_›)]at c
       first|rw[A4B (p:=[83,45]) 1 ‹_›]at c|rw[A4A (p:=[83,45]) 1 ‹_›]at c|rw[A3_ (p:=[83,45]) 1 (by first|assumption|exact E0.1 ‹_›)]at c|rw[A39 (p:=[83,45]) 1 ‹_› (by first|assumption|exact E0.1 ‹_›)]at c
       first
       | exact l9 (A6K c ‹_›).1 (A6K c ‹_›).2
       | exact l9 (A6J c ‹_›).1 (A6J c ‹_›).2
       | exact l9 (A6I c (E0.1 ‹_›) ‹_›).1 (A6I c (E0.1 ‹_›) ‹_›).2
)
  .cases f
 .cases f
def spl(c:UInt8):Nat->List B7->B7->Nat->List B7×B7×Nat
 | 0,a,s,i=>(a,s,i)
 | k+1,a,s,i=>if Lib.indexByte s c<0 then(a,s,i)else spl c k (a.set i (s.take (Lib.indexByte s c).toNat)) (s.drop ((Lib.indexByte s c).toNat+1)) (i+1)
def parts(s:B7)(c:UInt8):List B7 :=
 let n:=min (s.count c+1) (s.length+1)
 let r:=spl c (n-1) (List.replicate n []) s 0
 (r.1.set r.2.2 r.2.1).take (r.2.2+1)
def LD:∀ {s:B7} {c:UInt8},0<=Lib.indexByte s c->s=s.take (Lib.indexByte s c).toNat++c::s.drop ((Lib.indexByte s c).toNat+1)/\(Lib.indexByte s c).toNat<s.length/\s.count c=(s.drop ((Lib.indexByte s c).toNat+1)).count c+1
 | [],c,h=>by simp[Lib.indexByte]at h
 | b::l,c,h=>by
   have k:=Lib.indexByte_ge l c;unfold Lib.indexByte at h ⊢;split at h
   .rename_i d;rw[A9 d]
    have:=eq_of_beq d;subst this;simp
   .rename_i d;split at h
    .omega
    .rename_i h1;have h1:¬Lib.indexByte l c = -1:=by simpa using h1
     have f:0<=Lib.indexByte l c:=A2;obtain⟨i1,i2,i3⟩:=LD f;rw[A8 d,A8 (by simpa using h1)];have e:(Lib.indexByte l c+1).toNat=(Lib.indexByte l c).toNat+1:=A2;rw[e];refine⟨?_,?_,?_⟩
     .rw[List.take_succ_cons,List.drop_succ_cons,R4,<- i1]
     .rw[D5];omega
     .rw[List.drop_succ_cons,List.count_cons_of_ne (by simpa using d),i3]
def XZ:∀ {s:B7} {c:UInt8},Lib.indexByte s c<0->s.count c=0
 | [],_,_=>rfl
 | b::l,c,h=>by
   have d:=Lib.indexByte_ge l c;unfold Lib.indexByte at h;split at h
   .omega
   .rename_i e;split at h
    .rename_i h1;have h1:Lib.indexByte l c = -1:=by simpa using h1
     rw[List.count_cons_of_ne (by simpa using e),XZ A2]
    .omega
def O9(c:UInt8)(l:List B7):B7:=l.flatMap fun p=>p++[c]
def MR{c:UInt8}:∀ (k:Nat) (a:List B7) (s:B7) (i:Nat),s.count c=k->i+k<a.length->∃ P t,spl c k a s i=(a.take i++P++a.drop (i+k),t,i+k)/\P.length=k/\s=O9 c P++t
 | 0,a,s,i,_,h2=>⟨[],s,by simp[spl],rfl,by simp[O9]⟩
 | k+1,a,s,i,h1,h2=>by
   have hi:0<=Lib.indexByte s c:=by
    by_cases h:Lib.indexByte s c<0
    .have:=XZ h;omega
    .omega
   obtain⟨e,r,q⟩:=LD hi;unfold spl;rw[A8 A2];obtain⟨P,t,l,d,o⟩:=MR (c:=c) k (a.set i (s.take (Lib.indexByte s c).toNat)) (s.drop ((Lib.indexByte s c).toNat+1)) (i+1) A2 (by rw[Q5];omega);refine⟨s.take (Lib.indexByte s c).toNat::P,t,?_,by rw[D5,d],?_⟩
   .rw[l];refine Prod.ext ?_ (Prod.ext rfl (by show i+1+k=i+(k+1);omega));show(a.set i _).take (i+1)++P++(a.set i _).drop (i+1+k)=a.take i++(_::P)++a.drop (i+(k+1));have f:i<a.length:=A2;rw[List.drop_set_of_lt A2,show i+1+k=i+(k+1) by omega,List.take_add_one,List.take_set_of_le (A6 _),Q9 f];simp
   .have n:s=s.take (Lib.indexByte s c).toNat++c::(O9 c P++t):=by rw[<- o];exact e
    have:O9 c (s.take (Lib.indexByte s c).toNat::P)++t=s.take (Lib.indexByte s c).toNat++c::(O9 c P++t):=by simp[O9]
    rw[this];exact n
def qL(s:B7)(c:UInt8):∃ P t,parts s c=P++[t]/\P.length=s.count c/\s=O9 c P++t:=by
 have n:s.count c<=s.length:=bR;obtain⟨P,t,k,d,l⟩:=MR (c:=c) (s.count c) (List.replicate (s.count c+1) []) s 0 rfl (by simp);refine⟨P,t,?_,d,l⟩;have hm:min (s.count c+1) (s.length+1)=s.count c+1:=A2;unfold parts;simp only[hm,Nat.add_sub_cancel];rw[k];have e:(List.replicate (s.count c+1) ([]:B7)).drop (0+s.count c)=[[]]:=by
  rw[List.drop_replicate];simp
 rw[e];simp only[List.take_zero,G1,E8];rw[<- d,List.set_append_right _ _ (A6 _)];have f:(P++[[]].set (P.length-P.length) t:List B7)=P++[t]:=by simp
 rw[f];exact u7 (by simp)
def eqC(c b:UInt8):Bool:=decide (b=c)
def A6k{c b:UInt8}(h:b=c):eqC c b=true:=L1 h
def A6l{c b:UInt8}(h:¬b=c):eqC c b=false:=E9 h
def fx(c:UInt8)(s:B7):Option Int:=K1 (eqC c) s 0
def YF:∀ (s:B7) (c:UInt8) (i:Int),K1 (eqC c) s i=if Lib.indexByte s c = -1 then none else some (i+Lib.indexByte s c)
 | [],_,_=>rfl
 | b::l,c,i=>by
   have f:=Lib.indexByte_ge l c;show(if eqC c b=true then some i else K1 (eqC c) l (i+1))=_;by_cases e:b=c
   .have d:Lib.indexByte (b::l) c=0:=by rw[Lib.indexByte,A9 (beq_iff_eq.2 e)]
    rw[A9 (A6k e),d,A8 F7];simp
   .rw[A8 (by rw[A6l e];decide),YF l c (i+1)];by_cases k:Lib.indexByte l c = -1
    .have d:Lib.indexByte (b::l) c = -1:=by rw[Lib.indexByte,A8 (by simpa using e),k];rfl
     rw[A9 k,d,A9 rfl]
    .have d:Lib.indexByte (b::l) c=Lib.indexByte l c+1:=by rw[Lib.indexByte,A8 (by simpa using e),A8 (by simpa using k)]
     rw[A8 k,d,A8 A2];congr 1;omega
def A8h{s:B7}{c:UInt8}(h:Lib.indexByte s c<0):fx c s=none:=by
 have d:=Lib.indexByte_ge s c;unfold fx;rw[YF,A9 A2]
def A8g{s:B7}{c:UInt8}(h:¬Lib.indexByte s c<0):fx c s=some (Lib.indexByte s c):=by
 have d:=Lib.indexByte_ge s c;unfold fx;rw[YF,A8 A2,Int.zero_add]
def sp(c:UInt8):B7->List B7
 | []=>[[]]
 | b::l=>if b=c then[]::sp c l else match sp c l with
   | x::r=>(b::x)::r
   | []=>[[b]]
def A2P{c:UInt8}:∀ {u:B7},(∀ x ∈ u,x≠c)->sp c u=[u]
 | [],_=>rfl
 | b::u,h=>by
   unfold sp;rw[A8 (h b (B1 ..)),A2P fun x hx=>h x (C3 _ hx)]
def TJ{c:UInt8}:∀ {u v:B7},(∀ x ∈ u,x≠c)->sp c (u++c::v)=u::sp c v
 | [],v,_=>by
   show(if c=c then[]::sp c v else _)=_;rw[A9 rfl]
 | b::u,v,h=>by
   show sp c (b::(u++c::v))=_;unfold sp;rw[A8 (h b (B1 ..)),TJ fun x hx=>h x (C3 _ hx)];cases v<;>rfl
def EY{c:UInt8}:∀ {P:List B7} {t:B7},(∀ p ∈ P,∀ x ∈ p,x≠c)->(∀ x ∈ t,x≠c)->sp c (O9 c P++t)=P++[t]
 | [],t,_,h=>A2P h
 | p::P,t,h1,h=>by
   have e:O9 c (p::P)++t=p++c::(O9 c P++t):=by simp[O9]
   rw[e,TJ (h1 p (B1 ..)),EY (fun q d=>h1 q (C3 _ d)) h];rfl
def RV{c:UInt8}:∀ {P:List B7} {t:B7},(O9 c P++t).count c=P.length->(∀ p ∈ P,∀ x ∈ p,x≠c)/\(∀ x ∈ t,x≠c)
 | P,t,h=>by
   have k:∀ (P:List B7),(O9 c P).count c=P.length+(P.map (List.count c)).sum:=by
    intro P;induction P with
    | nil=>rfl
    | cons p P d =>
      have e:O9 c (p::P)=p++(c::O9 c P):=by simp[O9]
      rw[e,List.count_append,List.count_cons_self,d,D5,C4,List.sum_cons];omega
   rw[List.count_append,k]at h;have f:(P.map (List.count c)).sum=0:=A2;have n:t.count c=0:=A2;refine⟨fun p hp x hx e=>?_,fun x hx e=>?_⟩
   .have:List.count c p<=(P.map (List.count c)).sum:=by
     have:∀ {l:List B7},p ∈ l->List.count c p<=(l.map (List.count c)).sum:=by
      intro l;induction l with
      | nil=>intro h;cases h
      | cons q l d =>
        intro h;rw[C4,List.sum_cons];rcases B4.1 h with rfl|h
        .omega
        .have:=d h;omega
     exact this hp
    have:0<List.count c p:=List.count_pos_iff.2 (e▸hx);omega
   .have:0<List.count c t:=List.count_pos_iff.2 (e▸hx);omega
def vM(s:B7)(c:UInt8):parts s c=sp c s:=by
 obtain⟨P,t,h1,d,h3⟩:=qL s c;have f:(O9 c P++t).count c=P.length:=by rw[<- h3];exact d.symm
 obtain⟨e,k⟩:=RV f;rw[h1,h3,EY e k]
def TI(s:B7)(c:UInt8):(sp c s).length=s.count c+1:=by
 rw[<- vM];obtain⟨P,t,h1,d,h3⟩:=qL s c;rw[h1,B8,d];rfl
def TH{c:UInt8}{s p:B7}(h:p ∈ sp c s):p.length<=s.length:=by
 rw[<- vM]at h;obtain⟨P,t,h1,f,h3⟩:=qL s c;rw[h1]at h;rw[h3,B8];have k:∀ {P:List B7},p ∈ P->p.length<=(O9 c P).length:=by
  intro P;induction P with
  | nil=>intro h;cases h
  | cons q P d =>
    intro h;have e:O9 c (q::P)=q++(c::O9 c P):=by simp[O9]
    rw[e,B8,D5];rcases B4.1 h with rfl|h
    .omega
    .have:=d h;omega
 rcases B6.1 h with h|h
 .have:=k h;omega
 .obtain rfl:=g9.1 h;omega
def DD{α:Type}{p:α->Bool}:∀ {l:List α} {i:Int},(∀ a ∈ l,p a=false)->K1 p l i=none
 | [],_,_=>rfl
 | a::l,i,h=>by
   unfold K1;rw[h a (B1 ..)];exact DD fun b c=>h b (C3 _ c)
def bsF(b:B7):Prop:=b≠[]/\(b.length<=2∨b.getD 1 0≠45)
def A4u(c:Int):4<=(aB c).length:=by
 unfold aB
 (repeat' split)<;>exact A1 rfl
def A8t{c:Int}(h:cR c):bsF (t6 c):=by
 unfold cR at h;by_cases h1:1114113<=c
 .rw[A5R h1];have k:∀ n:Nat,n<26->(nmL.getD n [])≠[]/\((nmL.getD n []).length<=2∨(nmL.getD n []).getD 1 0≠45):=F7;exact k _ A2
 .by_cases d:c=32
  .rw[A5S d];exact⟨F7,.inr F7⟩
  .by_cases h3:c<=126
   .rw[A5T h1 d h3];exact⟨by simp,.inl (by simp)⟩
   .rw[LU h1 d h3];exact⟨by simp,.inr (by show(43:UInt8)≠45;decide)⟩
def tE(a v:_)(m:Int){r:B7}(h:r≠[]):stp [a,45] v ([a,45]++r,m)=(r,m+v):=by
 unfold stp;rw[A9]
 .rfl
 .refine⟨?_,rfl⟩;show 2<([a,45]++r).length;rw[B8]
  have:=cE.2 h;show 2<2+_;omega
def TC{b:UInt8}(v m:Int){r:B7}(h:b≠a):stp [a,45] v ([b,45]++r,m)=([b,45]++r,m):=by
 unfold stp;rw[A8];intro k
 have:=k.2;exact h (by injection this)
def JQ(v m:Int){r:B7}(h:bsF r):stp [a,45] v (r,m)=(r,m):=by
 unfold stp;rw[A8];intro ⟨d,c⟩;have d:2<r.length:=d;rcases h.2 with h|h
 .omega
 .match r,d,c,h with
  | x::y::l,_,c,h =>
    have c:[x,y]=[a,45]:=c;injection c with _ c
    injection c with c
    exact h c
def mdP(n:Int)(a:UInt8):B7:=if n=0 then[]else[a,45]
def KQ(a:UInt8):mdP 0 a=[]:=A9 rfl
def A1J(a:UInt8):mdP 1 a=[a,45]:=A8 F7
def A1I(a:UInt8):mdP 2 a=[a,45]:=A8 F7
def A1H(a:UInt8):mdP 4 a=[a,45]:=A8 F7
def A7x{x z:Int}(hx:x=0∨x=4)(e:y=0∨y=2)(d:z=0∨z=1)(h:bsF b):stp [83,45] 1 (stp [77,45] 2 (stp [67,45] 4 (mdP x 67++(mdP y 77++(mdP z 83++b)),0)))=(b,x+y+z):=by
 have c:=h.1;rcases hx with rfl|rfl<;>rcases e with rfl|rfl<;>rcases d with rfl|rfl
 .simp only[KQ,G1];rw[JQ _ _ h,JQ _ _ h,JQ _ _ h];first|done|rfl
 .simp only[KQ,A1J,G1];rw[TC _ _ F7,TC _ _ F7,tE _ _ _ c];first|done|rfl
 .simp only[KQ,A1I,G1];rw[TC _ _ F7,tE _ _ _ c,JQ _ _ h];first|done|rfl
 .simp only[KQ,A1I,A1J,G1];rw[TC _ _ F7,tE _ _ _ (by simp),tE _ _ _ c];first|done|rfl
 .simp only[A1H,KQ,G1];rw[tE _ _ _ c,JQ _ _ h,JQ _ _ h];first|done|rfl
 .simp only[A1H,KQ,A1J,G1];rw[tE _ _ _ (by simp),TC _ _ F7,tE _ _ _ c];first|done|rfl
 .simp only[A1H,A1I,KQ,G1];rw[tE _ _ _ (by simp),tE _ _ _ c,JQ _ _ h];first|done|rfl
 .simp only[A1H,A1I,A1J];rw[tE _ _ _ (by simp),tE _ _ _ (by simp),tE _ _ _ c];first|done|rfl
def A6a{d:Int}(h0:0<=d)(h1:d<16):hD (hU d)=d/\hv ((hU d).toNat:Int)=d:=by
 have k:∀ n:Nat,n<16->hD (hU n)=n/\hv ((hU n).toNat:Int)=n:=F7
 have:=k d.toNat A2
 rwa[show((d.toNat:Nat):Int)=d by omega]at this
def A8f{d n:Int}{l:B7}(h0:0<=d)(h1:d<16):hR (hU d::l) n=hR l (16*n+d):=by
 show(if hD (hU d)<0 then none else hR l (16*n+hD (hU d)))=_;rw[(A6a h0 h1).1,A8 A2]
def A7_{d n:Int}{l:List Int}(h0:0<=d)(h1:d<16):pu (((hU d).toNat:Int)::l) n=pu l (n*16+d):=by
 show(if hv _<0 then none else pu l (n*16+hv _))=_;rw[(A6a h0 h1).2,A8 A2]
def A6Y{c:Int}(h0:0<=c)(h1:c<16777216):hR (aB c) 0=some c:=by
 unfold aB
 (repeat' split)<;>(repeat rw[A8f A2 A2])<;>exact F0 some A2
def A6Z{c:Int}(h0:0<=c)(h1:c<16777216):pu (bI (aB c)) 0=some c:=by
 unfold aB
 (repeat' split)<;>(unfold bI;simp only[C4,F8])<;>(repeat rw[A7_ A2 A2])<;>exact F0 some A2
def A8T(h:b.length=1):K1 (niF b) nmL 0=none:=DD fun a c=>WA fun e=>by
 have k:∀ a ∈ nmL,a.length≠1:=F7;exact k a c (by rw[e,h])
def A5_ :K1 (niF ([85,43]++b)) nmL 0=none:=DD fun a c=>WA fun e=>by
 have k:∀ a ∈ nmL,a.getD 1 0≠43:=F7;exact k a c (by rw[e];rfl)
def A8S:∀ n:Nat,n<26->K1 (niF (nmL.getD n [])) nmL 0=some (n:Int):=by
 have k:((List.range 26).all fun n=>decide (K1 (niF (nmL.getD n [])) nmL 0=some (n:Int)))=true:=D9;exact fun n c=>K3 (D2.1 k n (V0.2 c))
def A5P{c:Int}(h:cR c):AO (t6 c)=c/\iL (t6 c)=c:=by
 unfold cR at h;by_cases h1:1114113<=c
 .rw[A5R h1]
  have:=A8S (c-1114113).toNat A2;rw[A8k this,A6q this];omega
 .by_cases f:c=32
  .rw[A5S f,f];decide
  .by_cases h3:c<=126
   .rw[A5T h1 f h3];have k:=A8T (b:=[UInt8.ofNat c.toNat]) rfl;have e:(((([UInt8.ofNat c.toNat]:B7).getD 0 0)).toNat:Int)=c:=by
     show((UInt8.ofNat c.toNat).toNat:Int)=c;rw[UInt8.toNat_ofNat',Y7 A2];omega
    have d:¬[UInt8.ofNat c.toNat]=([83,112,97,99,101]:B7):=fun e=>by have e:=F0 List.length e;simp at e
    have l:([UInt8.ofNat c.toNat]:B7).length=1:=rfl;refine⟨?_,?_⟩
    .rw[A6p k,A8 d,A9 l];exact e
    .rw[RS k,A8 d,A9 l];exact e
   .rw[LU h1 f h3];have n:=A4u c;have o:=OQ c;have l2:(([85,43]++aB c:B7)).length=2+(aB c).length:=by rw[B8];rfl
    have d:¬([85,43]++aB c:B7)=[83,112,97,99,101]:=fun e=>by cases e
    refine⟨?_,?_⟩
    .rw[A6p A5_,A8 d,A8 A2,A8 fun k=>k.elim A2 fun k=>k.elim A2 fun k=>k rfl];show(hR (aB c) 0).getD (-1)=c;rw[A6Y A2 A2];rfl
    .rw[RS A5_,A8 d,A8 A2,A9 ⟨rfl,A2⟩];show puB (aB c)=c;rw[UZ (fun e=>by rw[e]at n;exact absurd n F7),A6Z A2 A2];rfl
def A29(h:kyP x):x=(1,x.2.1,x.2.2.1,0,0,0,0,[])/\0<=x.2.2.1/\x.2.2.1<=7:=by
 obtain⟨k,c,m,w,b,r,cl,t⟩:=x;obtain⟨h1,d⟩:=h;have h1:k=1:=h1;have d:iU k c m w b r cl t:=d;unfold iU at d;rcases d with d|d|d|d
 .obtain⟨_,rfl,rfl,rfl,rfl,rfl,e⟩:=d;subst h1;refine⟨rfl,?_⟩;show 0<=m/\m<=7;unfold mF at e;omega
 .omega
 .omega
 .omega
def ZU(h:kyP x):iM (P7 x)=x/\cA (P7 x)=x:=by
 obtain⟨e,h0,n⟩:=A29 h;have c:=GX h;have l:=A8t c;have d:=A5P c;have k:P7 x=mdP (x.2.2.1 / 4%2*4) 67++(mdP (x.2.2.1 / 2%2*2) 77++(mdP (x.2.2.1 / 1%2*1) 83++t6 x.2.1)):=rfl;have f:=A7x (b:=t6 x.2.1) (x:=x.2.2.1 / 4%2*4) (y:=x.2.2.1 / 2%2*2) (z:=x.2.2.1 / 1%2*1) A2 A2 A2 l;unfold iM cA;rw[k,f,d.1,d.2,show x.2.2.1 / 4%2*4+x.2.2.1 / 2%2*2+x.2.2.1 / 1%2*1=x.2.2.1 by omega];exact⟨e.symm,e.symm⟩
def wA(s:B7):kpO s=wB s/\kpE s=yJ s:=by
 by_cases h:kyP (iM s)/\P7 (iM s)=s
 .have e:cA s=iM s:=by
   have:=(ZU h.1).2
   rwa[h.2]at this
  unfold kpO kpE wB yJ;rw[e,A9 h,A9 h];exact⟨rfl,rfl⟩
 .have c:¬(kyP (cA s)/\P7 (cA s)=s):=fun k=>h (by
   have:=(ZU k.1).1;rw[k.2]at this;rw[this];exact k)
  unfold kpO kpE wB yJ;rw[A8 h,A8 c,A8 h,A8 c];exact⟨rfl,rfl⟩
def nmB(l:B7):Prop:=∀ b ∈ l,33<=b.toNat/\b.toNat<=126
def A1C(x:Xt):P7 x=mdP (x.2.2.1 / 4%2*4) 67++(mdP (x.2.2.1 / 2%2*2) 77++(mdP (x.2.2.1 / 1%2*1) 83++t6 x.2.1)):=rfl
def q9(x:Xt):(P7 x).length<=14:=by
 rw[A1C];have k:∀ n a,(mdP n a).length<=2:=fun n a=>by
  unfold mdP;split
  .decide
  .exact A6 _
 have d:=k (x.2.2.1 / 4%2*4) 67;have e:=k (x.2.2.1 / 2%2*2) 77;have f:=k (x.2.2.1 / 1%2*1) 83;have c:=ZX x.2.1;simp only[B8];omega
def lnF(g:Gt):B7:=(if gR g=true then[45,114,32]else[])++(P7 (gK g)++32::gC g)
def prB(g:Gt):B7:=[98,105,110,100,32]++lnF g
def prP(x:Xt):B7:=[112,114,101,102,105,120,32]++P7 x
def QY(x:Xt)(l:List Gt):B7:=O9 10 (prP x::l.map prB)
def A02(x:Xt)(l:List Gt):B7:=if kmP x l then QY x l else[]
def A4R{l:List Gt}(h:kmP x l):A02 x l=QY x l:=A9 h
def A4S{l:List Gt}(h:¬kmP x l):A02 x l=[]:=A8 h
def OA(h:gP g):(lnF g).length<=118:=by
 have h1:=q9 (gK g);have c:=h.2.2.1;unfold lnF;rw[B8,B8,D5];split
 .show 3+_<=_;omega
 .show 0+_<=_;omega
def oX(c:UInt8)(p:B7)(l:List B7):O9 c (p::l)=p++c::O9 c l:=by simp[O9]
def A04(g:Gt):(prB g).length=5+(lnF g).length:=by
 unfold prB;rw[B8];rfl
def A03(x:Xt):(prP x).length=7+(P7 x).length:=by
 unfold prP;rw[B8];rfl
def XF:∀ {l:List Gt},(∀ g ∈ l,gP g)->(O9 10 (l.map prB)).length<=124*l.length
 | [],_=>by decide
 | g::l,h=>by
   have h1:=OA (h g (B1 ..));have c:=XF fun x hx=>h x (C3 _ hx)
   rw[C4,oX,B8,D5,D5,A04];omega
def A01{l:List Gt}(h:kmP x l):(QY x l).length<=8000:=by
 have h1:=XF h.2.2.1;have c:=h.2.1;have h3:=q9 x;unfold QY;rw[oX,B8,D5,A03];omega
def P3(s:B7):B7×B7×Bool:=match fx 32 s with
 | some j=>(s.take j.toNat,s.drop (j+1).toNat,true)
 | none=>(s,[],false)
def A5L{s:B7}(h:fx 32 s=some j):P3 s=(s.take j.toNat,s.drop (j+1).toNat,true):=by unfold P3;rw[h]
def A5M{s:B7}(h:fx 32 s=none):P3 s=(s,[],false):=by unfold P3;rw[h]
def bnR(s:B7):Bool:=decide (s.take 3=[45,114,32]/\3<s.length)
def bnA(s:B7):B7:=if bnR s=true then s.drop 3 else s
def mkG(x:Xt)(c:B7)(r:Bool):Gt:=(x.1,x.2.1,x.2.2.1,x.2.2.2.1,x.2.2.2.2.1,x.2.2.2.2.2.1,x.2.2.2.2.2.2.1,x.2.2.2.2.2.2.2,c,r)
def bnG(s:B7):Gt:=mkG (wB (P3 (bnA s)).1) (P3 (bnA s)).2.1 (bnR s)
def bnP(s:B7):Prop:=(P3 (bnA s)).2.2=true/\yJ (P3 (bnA s)).1=0/\(P3 (bnA s)).2.1≠[]
instance(s:B7):Decidable (bnP s):=by unfold bnP;infer_instance
def lnP(s:B7):Prop:=s.take 5=[98,105,110,100,32]/\bnP (s.drop 5)
instance(s:B7):Decidable (lnP s):=by unfold lnP;infer_instance
def jY(s:B7):Bool:=!decide (lnP s)
def lnG(s:B7):Gt:=bnG (s.drop 5)
def A4l{s:B7}(h:lnP s):jY s=false:=by unfold jY;rw[L1 h];rfl
def KV{s:B7}(h:¬lnP s):jY s=true:=by unfold jY;rw[E9 h];rfl
def rok:List B7->Bool
 | []=>false
 | [l]=>decide (l=[])
 | l::m::r=>!jY l && rok (m::r)
def rgs(l:List B7):List Gt:=l.dropLast.map lnG
def hdP(s:B7):Prop:=s.take 7=[112,114,101,102,105,120,32]/\yJ (s.drop 7)=0
instance(s:B7):Decidable (hdP s):=by unfold hdP;infer_instance
def psP(l:List B7):Prop:=hdP (l.headD [])/\rok l.tail=true
instance(l:List B7):Decidable (psP l):=by unfold psP;infer_instance
def psX(s:B7):Xt:=wB (((sp 10 s).headD []).drop 7)
def psL(s:B7):Option (List Gt):=W3 none (some (rgs (sp 10 s).tail))
def prE(s:B7):Int:=if 16384<s.length then 3 else if ¬psP (sp 10 s)then 6 else pW (psX s) (el (psL s))
def prX(s:B7):Xt:=if prE s=0 then psX s else X0
def prL(s:B7):Option (List Gt):=if prE s=0 then psL s else none
def A52{s:B7}(h:16384<s.length):prE s=3:=A9 h
def QZ{s:B7}(h:¬16384<s.length)(c:¬psP (sp 10 s)):prE s=6:=by unfold prE;rw[A8 h,A9 c]
def A8E{s:B7}(h:¬16384<s.length)(c:psP (sp 10 s)):prE s=pW (psX s) (el (psL s)):=by unfold prE;rw[A8 h,A8 fun k=>k c]
def A4U{s:B7}(h:prE s≠0):prX s=X0/\prL s=none:=⟨A8 h,A8 h⟩
def A51{s:B7}(h:prE s=0):prX s=psX s/\prL s=psL s:=⟨A9 h,A9 h⟩
def A5m{l:B7}{r:List B7}(h:r≠[]):rok (l::r)=(!jY l && rok r):=by
 cases r with
 | nil=>exact absurd rfl h
 | cons m r=>rfl
def MZ:∀ {l:List B7},rok l=true↔l.getLast? = some []/\l.dropLast.any jY=false
 | []=>by simp[rok]
 | [l]=>by simp[rok]
 | l::m::r=>by
   rw[A5m (by simp),G4,MZ (l:=m::r),List.dropLast_cons₂,P0,List.getLast?_cons_cons];cases jY l<;>simp
end
end Go.Proofs.YtbbicpheoakeeaaGreatDoor
