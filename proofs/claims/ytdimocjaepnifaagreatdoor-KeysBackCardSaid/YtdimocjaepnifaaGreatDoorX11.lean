import Derived.Test.YtdimocjaepnifaaGreatDoorX10
set_option linter.all false
set_option maxRecDepth 100000
set_option maxHeartbeats 4000000
namespace Go.Proofs.YtdimocjaepnifaaGreatDoor
open Go Go.Sx Go.Proofs.Tryz
variable {a b c cl d4 dc e hi i j k lo m mo r:Int}{ck fo pa sg z:Bool}{s t x:D1}{l:List Int}{p:E0}
noncomputable def B4j:Q1:=⟨_,fun hst=>(.cons (B1T hst) (.cons (B1S hst) (.cons (B3n hst) .nil)))⟩
def BC:List U→Option (Nat×List U)
 | [.int .i64 k,.int .i64 c,.int .i64 m,.int .i64 w,.int .i64 b,.int .i64 r,.int .i64 cl,.str t]=>if -9223372036854775808≤m∧m≤9223372036854775807∧(t.length:Int)≤140737488351232 then some (0,[.int .i64 (if O5 k c m w b r cl t then 0 else 430)])else none
 | _=>none
def VL(k:Int)(c:Int)(m:Int)(w:Int)(b:Int)(r:Int)(cl:Int)(t:D1)(hc : -9223372036854775808≤m∧m≤9223372036854775807∧(t.length:Int)≤140737488351232):BC [.int .i64 k,.int .i64 c,.int .i64 m,.int .i64 w,.int .i64 b,.int .i64 r,.int .i64 cl,.str t]=some (0,[.int .i64 (if O5 k c m w b r cl t then 0 else 430)]):=A4 hc
def A8C:Tr:=G3 0 8 1 (.fn KR [h3 1,h3 2] 1<|I3 10 9 (K8 430) (.lt 8 (.eqs) [h3 0,jI 1,h3 1,h3 1,h3 2,h3 2,h3 3,jI 0,h3 4,jI 0,h3 5,jI 0,h3 6,jI 0,h 7 9,.string ⟨⟨[]⟩⟩]<|I3 12 11 (K8 430) (K8 0))) (G3 0 9 2 (.fn KQ [h3 0,h3 1,h3 2,h3 3,h3 4,h3 5,h3 6,h 7 9] 1<|I3 11 10 (K8 430) (.lt 8 (.eqs) [h3 0,h3 0,h3 1,jI 0,h3 2,h3 2,h3 3,h3 3,h3 4,h3 4,h3 5,h3 5,h3 6,h3 6,h 7 9,.string ⟨⟨[]⟩⟩]<|I3 13 12 (K8 430) (K8 0))) (G3 0 10 3 (aD [h 7 9]<|W9 11 12 1000 (.fn PF [h 7 9,.string ⟨⟨[27]⟩⟩] 1<|aX [h 13 8]<|I3 15 14 (K8 430) (.lt 8 (.eqs) [h3 0,h3 0,h3 1,jI 0,h3 2,jI 0,h3 3,jI 0,h3 4,jI 0,h3 5,jI 0,h3 6,jI 0,h 7 9,h 7 9]<|I3 17 16 (K8 430) (K8 0))) (K8 430)) (G3 0 11 4 (L4 3 12 0 (aQ [h3 3,jI 1]<|I3 14 13 (K8 430) (.lt 8 (.eqs) [h3 0,h3 0,h3 1,jI 0,h3 2,jI 0,h3 3,h3 3,h3 4,jI 0,h3 5,jI 0,h3 6,jI 0,h 7 9,.string ⟨⟨[]⟩⟩]<|I3 16 15 (K8 430) (K8 0))) (K8 430)) (K8 430))))
def A8E{G}(hst:L9 G):M2 prog G 13 [.a [3,3,3,3,3,3,3,9]] BC [.s 3]:=by
 refine F1 (d:=60) A8C (cxg (B4j.2 hst) (gW hst)) hst ⟨f13,_,func13,rfl⟩ D0 D0 ?_;intro us outs hs;unfold BC at hs;split at hs
 ·skip;rename_i k c m w b r cl t;split at hs
  ·rename_i hc;cases hs;have zi:=A6U t;unfold A8C;refine w0 (.cons 7 _ (.cons 6 _ (.cons 5 _ (.cons 4 _ (.cons 3 _ (.cons 2 _ (.cons 1 _ (.cons 0 _ (.nil))))))))) ?_;repeat (first|refine w4 (fun g=>?_) fun g=>?_|refine w4B (fun g=>?_) fun g=>?_|refine l4 ?_|refine mK ?_|(refine w7 [.int .i64 _] ?_;rotate_left)|refine U1 ?_|refine w1 (.eqs) (e:=rfl) (k':=?_)|refine mN ?_|refine w31 KR (e:=A4b _ _ A1) (k':=?_)|refine w31 KQ (e:=A4Z _ _ _ _ _ _ _ _) (k':=?_)|refine LB ?_|refine w31 PF (e:=A6C _ _ rfl) (k':=?_)|refine jK ?_)
   all_goals
    refine l0 ?_;first
    | exact(A4 (by unfold O5;first|(simp_all;done)|(simp_all;omega))).symm
    | exact(A3 (fun h=>by
       unfold O5 at h;rcases h with h|h|h|h<;>first|(exfalso;omega)|(simp_all;done)|(simp_all;omega))).symm
  ·cases hs
 ·cases hs
noncomputable def B4k:Q1:=⟨_,fun hst=>(.cons (B2i hst) (.cons (A8E hst) .nil))⟩
def BD:List U→Option (Nat×List U)
 | [.bool b0,.bool b1,.bool ck,.bool b3,.bool b4,.bool b5,.bool b6,.bool pa,.bool fo,.bool b9,.bool b10,.int .i64 mo,.bool sg,.int .i64 k,.int .i64 c,.int .i64 m,.int .i64 w,.int .i64 b,.int .i64 r,.int .i64 cl,.str t]=>if -9223372036854775808≤m∧m≤9223372036854775807∧(t.length:Int)≤140737488351232 then some (0,[.int .i64 (M9 mo k c m w b r cl t)])else none
 | _=>none
def VM(b0:Bool)(b1:Bool)(ck:Bool)(b3:Bool)(b4:Bool)(b5:Bool)(b6:Bool)(pa:Bool)(fo:Bool)(b9:Bool)(b10:Bool)(mo:Int)(sg:Bool)(k:Int)(c:Int)(m:Int)(w:Int)(b:Int)(r:Int)(cl:Int)(t:D1)(hc : -9223372036854775808≤m∧m≤9223372036854775807∧(t.length:Int)≤140737488351232):BD [.bool b0,.bool b1,.bool ck,.bool b3,.bool b4,.bool b5,.bool b6,.bool pa,.bool fo,.bool b9,.bool b10,.int .i64 mo,.bool sg,.int .i64 k,.int .i64 c,.int .i64 m,.int .i64 w,.int .i64 b,.int .i64 r,.int .i64 cl,.str t]=some (0,[.int .i64 (M9 mo k c m w b r cl t)]):=A4 hc
def A8F:Tr:=.fn NK [h 0 8,h 1 8,h 2 8,h 3 8,h 4 8,h 5 8,h 6 8,h 7 8,h 8 8,h 9 8,h 10 8,h3 11,h 12 8] 1<|cC 21 22 0 (.ret [h3 21]) (.fn BC [h3 13,h3 14,h3 15,h3 16,h3 17,h3 18,h3 19,h 20 9] 1<|.ret [h3 23])
def A8G{G}(hst:L9 G):M2 prog G 48 [.a [8,8,8,8,8,8,8,8,8,8,8,3,8],.a [3,3,3,3,3,3,3,9]] BD [.s 3]:=by
 refine F1 (d:=60) A8F (cxg (B4k.2 hst) (gW hst)) hst ⟨f48,_,func48,rfl⟩ D0 D0 ?_;intro us outs hs;unfold BD at hs;split at hs
 ·skip;rename_i b0 b1 ck b3 b4 b5 b6 pa fo b9 b10 mo sg k c m w b r cl t;split at hs
  ·rename_i hc;cases hs;unfold A8F;refine s0L ?_;show Tr.sav _ _ (.cons 20 _ (.cons 19 _ (.cons 18 _ (.cons 17 _ (.cons 16 _ (.cons 15 _ (.cons 14 _ (.cons 13 _ (.cons 12 _ (.cons 11 _ (.cons 10 _ (.cons 9 _ (.cons 8 _ (.cons 7 _ (.cons 6 _ (.cons 5 _ (.cons 4 _ (.cons 3 _ (.cons 2 _ (.cons 1 _ (.cons 0 _ (.nil))))))))))))))))))))));refine Wk.s ?_;repeat (first|(refine w7 [.int .i64 _] ?_;rotate_left)|refine w31 NK (e:=A5R _ _ _ _ _ _ _ _ _ _ _ _ _) (k':=?_)|refine mL ?_|refine w4 (fun g=>?_) fun g=>?_|refine w31 BC (e:=VL _ _ _ _ _ _ _ _ hc) (k':=?_))
   all_goals
    refine l0 ?_;rw[← B3Z];first|(simp_all;done)
  ·cases hs
 ·cases hs
noncomputable def B4i:Q1:=⟨_,fun hst=>(.cons (A8G hst) (.cons (A9T hst) .nil))⟩
def NZ:List U→Option (Nat×List U)
 | [.bool b0,.bool b1,.bool ck,.bool b3,.bool b4,.bool b5,.bool b6,.bool pa,.bool fo,.bool b9,.bool b10,.int .i64 mo,.bool sg,.int .i64 k,.int .i64 c,.int .i64 m,.int .i64 w,.int .i64 b,.int .i64 r,.int .i64 cl,.str t]=>if -9223372036854775808≤m∧m≤9223372036854775807∧(t.length:Int)≤140737488351232 then some (0,[.int .i64 (ifI (cnS (M9 mo k c m w b r cl t) (isS pa fo mo k w b)) k),.int .i64 (ifI (cnS (M9 mo k c m w b r cl t) (isS pa fo mo k w b)) c),.int .i64 (ifI (cnS (M9 mo k c m w b r cl t) (isS pa fo mo k w b)) (dZ mo k m)),.int .i64 (ifI (cnS (M9 mo k c m w b r cl t) (isS pa fo mo k w b)) w),.int .i64 (ifI (cnS (M9 mo k c m w b r cl t) (isS pa fo mo k w b)) (eA sg k w b)),.int .i64 (ifI (cnS (M9 mo k c m w b r cl t) (isS pa fo mo k w b)) r),.int .i64 (ifI (cnS (M9 mo k c m w b r cl t) (isS pa fo mo k w b)) cl),.str (ifT (cnS (M9 mo k c m w b r cl t) (isS pa fo mo k w b)) t),.bool (cnS (M9 mo k c m w b r cl t) (isS pa fo mo k w b)),.int .i64 (M9 mo k c m w b r cl t)])else none
 | _=>none
def A5Z(b0:Bool)(b1:Bool)(ck:Bool)(b3:Bool)(b4:Bool)(b5:Bool)(b6:Bool)(pa:Bool)(fo:Bool)(b9:Bool)(b10:Bool)(mo:Int)(sg:Bool)(k:Int)(c:Int)(m:Int)(w:Int)(b:Int)(r:Int)(cl:Int)(t:D1)(hc : -9223372036854775808≤m∧m≤9223372036854775807∧(t.length:Int)≤140737488351232):NZ [.bool b0,.bool b1,.bool ck,.bool b3,.bool b4,.bool b5,.bool b6,.bool pa,.bool fo,.bool b9,.bool b10,.int .i64 mo,.bool sg,.int .i64 k,.int .i64 c,.int .i64 m,.int .i64 w,.int .i64 b,.int .i64 r,.int .i64 cl,.str t]=some (0,[.int .i64 (ifI (cnS (M9 mo k c m w b r cl t) (isS pa fo mo k w b)) k),.int .i64 (ifI (cnS (M9 mo k c m w b r cl t) (isS pa fo mo k w b)) c),.int .i64 (ifI (cnS (M9 mo k c m w b r cl t) (isS pa fo mo k w b)) (dZ mo k m)),.int .i64 (ifI (cnS (M9 mo k c m w b r cl t) (isS pa fo mo k w b)) w),.int .i64 (ifI (cnS (M9 mo k c m w b r cl t) (isS pa fo mo k w b)) (eA sg k w b)),.int .i64 (ifI (cnS (M9 mo k c m w b r cl t) (isS pa fo mo k w b)) r),.int .i64 (ifI (cnS (M9 mo k c m w b r cl t) (isS pa fo mo k w b)) cl),.str (ifT (cnS (M9 mo k c m w b r cl t) (isS pa fo mo k w b)) t),.bool (cnS (M9 mo k c m w b r cl t) (isS pa fo mo k w b)),.int .i64 (M9 mo k c m w b r cl t)]):=A4 hc
def A8A:Tr:=.fn BD [h 0 8,h 1 8,h 2 8,h 3 8,h 4 8,h 5 8,h 6 8,h 7 8,h 8 8,h 9 8,h 10 8,h3 11,h 12 8,h3 13,h3 14,h3 15,h3 16,h3 17,h3 18,h3 19,h 20 9] 1<|cC 21 22 0 (.ret [jI 0,jI 0,jI 0,jI 0,jI 0,jI 0,jI 0,.string ⟨⟨[]⟩⟩,.bool false,h3 21]) (.fn CJ [h 0 8,h 1 8,h 2 8,h 3 8,h 4 8,h 5 8,h 6 8,h 7 8,h 8 8,h 9 8,h 10 8,h3 11,h 12 8,h3 13,h3 14,h3 15,h3 16,h3 17,h3 18,h3 19,h 20 9] 9<|.ret [h3 23,h3 24,h3 25,h3 26,h3 27,h3 28,h3 29,h 30 9,h 31 8,jI 0])
def A8B{G}(hst:L9 G):M2 prog G 24 [.a [8,8,8,8,8,8,8,8,8,8,8,3,8],.a [3,3,3,3,3,3,3,9]] NZ [.a [3,3,3,3,3,3,3,9],.s 8,.s 3]:=by
 refine F1 (d:=60) A8A (cxg (B4i.2 hst) (gW hst)) hst ⟨f24,_,func24,rfl⟩ D0 D0 ?_;intro us outs hs;unfold NZ at hs;split at hs
 ·skip;rename_i b0 b1 ck b3 b4 b5 b6 pa fo b9 b10 mo sg k c m w b r cl t;split at hs
  ·rename_i hc;cases hs;unfold A8A;refine s0L ?_;show Tr.sav _ _ (.cons 20 _ (.cons 19 _ (.cons 18 _ (.cons 17 _ (.cons 16 _ (.cons 15 _ (.cons 14 _ (.cons 13 _ (.cons 12 _ (.cons 11 _ (.cons 10 _ (.cons 9 _ (.cons 8 _ (.cons 7 _ (.cons 6 _ (.cons 5 _ (.cons 4 _ (.cons 3 _ (.cons 2 _ (.cons 1 _ (.cons 0 _ (.nil))))))))))))))))))))));refine Wk.s ?_;refine w31 BD (e:=VM _ _ _ _ _ _ _ _ _ _ _ _ _ _ _ _ _ _ _ _ _ hc) (k':=?_);refine mL ?_;refine w4 (fun g0=>?_) fun g0=>?_
   ·refine w7 [.int .i64 _,.int .i64 _,.int .i64 _,.int .i64 _,.int .i64 _,.int .i64 _,.int .i64 _,.str _,.bool _,.int .i64 _] ?_;first|(rw[B3t (e:=M9 mo k c m w b r cl t) g0];rfl)|(rw[show M9 mo k c m w b r cl t=0 from F8.1 g0];rfl)
   refine w3 CJ (e:=WV _ _ _ _ _ _ _ _ _ _ _ _ _ _ _ _ _ _ _ _ _ (fun e=>B2e (OD (A28 (mo:=mo) (F8.1 g0)).2 e))) (k':=?_);show Wk _ _ (.cons _ _ (.cons _ _ (.cons _ _ (.cons _ _ (.cons _ _ (.cons _ _ (.cons _ _ (.cons _ _ (.cons _ _ _)))))))));refine w7 [.int .i64 _,.int .i64 _,.int .i64 _,.int .i64 _,.int .i64 _,.int .i64 _,.int .i64 _,.str _,.bool _,.int .i64 _] ?_;first|(rw[B3t (e:=M9 mo k c m w b r cl t) g0];rfl)|(rw[show M9 mo k c m w b r cl t=0 from F8.1 g0];rfl)
  ·cases hs
 ·cases hs
def mG(e:Int)(z:Bool)(s:D1):E0:=if e=0 then(if z then none else some (bI s))else none
def B1N(h:e≠0):mG e z s=none:=A3 h
def gU(h:z=true):mG 0 z s=none:=by subst h;rfl
def I9(h:z=false)(h2:t=s):mG 0 z s=some (bI t):=by subst h h2;rfl
def nD(k:Int)(z:Bool):Bool:=decide (k≠3) && !z
def gI(h:k≠3)(h2:z=false):nD k z=true:=by unfold nD;rw[F4 h,h2];rfl
def gJ(h:k=3):nD k z=false:=by unfold nD;rw[F6 (fun q=>q h)];rfl
def K9(h:z=true):nD k z=false:=by unfold nD;rw[h,Q3,V9]
def xW{w:Int}(h:k=3):isS pa fo mo k w b=pa:=by unfold isS;rw[A4 h]
def A8y{b0 b1 b3 b4 b5 b6 b9 b10:Bool}{w:Int}(hz:z=true)(h:msP m w b r cl):tY [.bool b0,.bool b1,.bool ck,.bool b3,.bool b4,.bool b5,.bool b6,.bool pa,.bool fo,.bool b9,.bool b10,.int .i64 mo,.bool sg,.int .i64 (ifI z k),.int .i64 (ifI z c),.int .i64 (ifI z m),.int .i64 (ifI z w),.int .i64 (ifI z b),.int .i64 (ifI z r),.int .i64 (ifI z cl),.str (ifT z t)]=some (0,[.str (moS sg m w b r cl)]):=by
 subst hz;exact WJ b0 b1 ck b3 b4 b5 b6 pa fo b9 b10 mo sg k c m w b r cl t h
def CB{w:Int}(h:k=3)(hp:pa=false):enS ck pa fo sg mo k c m w b r cl t=t:=A4 ⟨h,hp⟩
def vR{w:Int}(hz:isS pa fo mo k w b=true)(h:k=1):enS ck pa fo sg mo k c m w b r cl t=keS ck c m:=by
 unfold enS;rw[A3 (fun g=>by have:=g.1;omega),A3 (by rw[hz];decide),A4 h]
def xZ{w:Int}(hz:isS pa fo mo k w b=true)(h:k=2):enS ck pa fo sg mo k c m w b r cl t=moS sg (dZ mo k m) w (eA sg k w b) r cl:=by
 unfold enS;rw[A3 (fun g=>by have:=g.1;omega),A3 (by rw[hz];decide),A3 A1,A4 h]
def xY{w:Int}(hz:isS pa fo mo k w b=true)(h:k=3):enS ck pa fo sg mo k c m w b r cl t=[27,91,50,48,48,126]++t++[27,91,50,48,49,126]:=by
 have hp:pa=true:=by rw[← xW (pa:=pa) (fo:=fo) (mo:=mo) (w:=w) (b:=b) h];exact hz
 unfold enS;rw[A3 (by rw[hp];simp),A3 (by rw[hz];decide),A3 A1,A3 A1,A4 h]
def xX{w:Int}(hz:isS pa fo mo k w b=true)(h1:k≠1)(h2:k≠2)(h3:k≠3)(h:x=if w=0 then[79]else[73]):[27,91]++x=enS ck pa fo sg mo k c m w b r cl t:=by
 rw[h];unfold enS;rw[A3 (c:=k=3∧pa=false) (fun g=>h3 g.1),A3 (c:=isS pa fo mo k w b=false) (by rw[hz];decide),A3 h1,A3 h2,A3 h3]
def RT(h:(!z)=true):z=false:=by cases z<;>first|rfl|cases h
def RU(h:(!z)=false):z=true:=by cases z<;>first|rfl|cases h
def fZ{w:Int}(h0:0≤w)(h1:w≤1):(([79,73]:D1).drop w.toNat).take ((w+1).toNat-w.toNat)=if w=0 then[79]else[73]:=by
 have:w=0∨w=1:=A1;rcases this with rfl|rfl<;>rfl
noncomputable def B4g:Q1:=⟨_,fun hst=>(.cons (A8G hst) (.cons (A9T hst) (.cons (lW hst) (.cons (A8z hst) .nil))))⟩
def NV:List U→Option (Nat×List U)
 | [.bool b0,.bool b1,.bool ck,.bool b3,.bool b4,.bool b5,.bool b6,.bool pa,.bool fo,.bool b9,.bool b10,.int .i64 mo,.bool sg,.int .i64 k,.int .i64 c,.int .i64 m,.int .i64 w,.int .i64 b,.int .i64 r,.int .i64 cl,.str t]=>if -9223372036854775808≤m∧m≤9223372036854775807∧(t.length:Int)≤140737488351232 then some (0,[B6 rB (mG (M9 mo k c m w b r cl t) (nD k (isS pa fo mo k w b)) (enS ck pa fo sg mo k c m w b r cl t)),.int .i64 (M9 mo k c m w b r cl t)])else none
 | _=>none
def A5X(b0:Bool)(b1:Bool)(ck:Bool)(b3:Bool)(b4:Bool)(b5:Bool)(b6:Bool)(pa:Bool)(fo:Bool)(b9:Bool)(b10:Bool)(mo:Int)(sg:Bool)(k:Int)(c:Int)(m:Int)(w:Int)(b:Int)(r:Int)(cl:Int)(t:D1)(hc : -9223372036854775808≤m∧m≤9223372036854775807∧(t.length:Int)≤140737488351232):NV [.bool b0,.bool b1,.bool ck,.bool b3,.bool b4,.bool b5,.bool b6,.bool pa,.bool fo,.bool b9,.bool b10,.int .i64 mo,.bool sg,.int .i64 k,.int .i64 c,.int .i64 m,.int .i64 w,.int .i64 b,.int .i64 r,.int .i64 cl,.str t]=some (0,[B6 rB (mG (M9 mo k c m w b r cl t) (nD k (isS pa fo mo k w b)) (enS ck pa fo sg mo k c m w b r cl t)),.int .i64 (M9 mo k c m w b r cl t)]):=A4 hc
def l5(a0:Int)(a1:Nat):Tr:=.dt 11 (.nilw 1) []<|.ret [h a1 11,jI a0]
def o9(a0:Nat):Tr:=.ret [h a0 11,jI 0]
def A2D(n:Nat):Tr:=I3 n 31 (l5 0 (n+1)) (G3 13 (n+1) 1 (.fn tZ [h 0 8,h 1 8,h 2 8,h 3 8,h 4 8,h 5 8,h 6 8,h 7 8,h 8 8,h 9 8,h 10 8,h3 11,h 12 8,h3 13,h3 14,h3 15,h3 16,h3 17,h3 18,h3 19,h 20 9] 1<|.dt 11 (.byt) [h (n+2) 9]<|o9 (n+3)) (G3 13 (n+2) 2 (.fn tY [h 0 8,h 1 8,h 2 8,h 3 8,h 4 8,h 5 8,h 6 8,h 7 8,h 8 8,h 9 8,h 10 8,h3 11,h 12 8,h3 23,h3 24,h3 25,h3 26,h3 27,h3 28,h3 29,h 30 9] 1<|.dt 11 (.byt) [h (n+3) 9]<|o9 (n+4)) (G3 13 (n+3) 3 (aC [.string ⟨⟨[27,91,50,48,48,126]⟩⟩,h 20 9]<|aC [h (n+4) 9,.string ⟨⟨[27,91,50,48,49,126]⟩⟩]<|.dt 11 (.byt) [h (n+5) 9]<|o9 (n+6)) (aA [h3 16,jI 1]<|.lt 9 (.sub) [.string ⟨⟨[79,73]⟩⟩,h3 16,h3 (n+4)]<|aC [.string ⟨⟨[27,91]⟩⟩,h (n+5) 9]<|.dt 11 (.byt) [h (n+6) 9]<|o9 (n+7)))))
def A76:Tr:=.fn BD [h 0 8,h 1 8,h 2 8,h 3 8,h 4 8,h 5 8,h 6 8,h 7 8,h 8 8,h 9 8,h 10 8,h3 11,h 12 8,h3 13,h3 14,h3 15,h3 16,h3 17,h3 18,h3 19,h 20 9] 1<|cC 21 22 0 (.dt 11 (.nilw 1) []<|.ret [h 23 11,h3 21]) (.fn CJ [h 0 8,h 1 8,h 2 8,h 3 8,h 4 8,h 5 8,h 6 8,h 7 8,h 8 8,h 9 8,h 10 8,h3 11,h 12 8,h3 13,h3 14,h3 15,h3 16,h3 17,h3 18,h3 19,h 20 9] 9<|I3 32 31 (G3 13 33 3 (.dt 11 (.byt) [h 20 9]<|o9 34) (A2D 34)) (A2D 33))
def A77{G}(hst:L9 G):M2 prog G 23 [.a [8,8,8,8,8,8,8,8,8,8,8,3,8],.a [3,3,3,3,3,3,3,9]] NV [.s 11,.s 3]:=by
 refine F1 (d:=60) A76 (cxg (B4g.2 hst) (gW hst)) hst ⟨f23,_,func23,rfl⟩ D0 D0 ?_;intro us outs hs;unfold NV at hs;split at hs
 ·skip;rename_i b0 b1 ck b3 b4 b5 b6 pa fo b9 b10 mo sg k c m w b r cl t;split at hs
  ·rename_i hc;cases hs;unfold A76;refine s0L ?_;show Tr.sav _ _ (.cons 20 _ (.cons 19 _ (.cons 18 _ (.cons 17 _ (.cons 16 _ (.cons 15 _ (.cons 14 _ (.cons 13 _ (.cons 12 _ (.cons 11 _ (.cons 10 _ (.cons 9 _ (.cons 8 _ (.cons 7 _ (.cons 6 _ (.cons 5 _ (.cons 4 _ (.cons 3 _ (.cons 2 _ (.cons 1 _ (.cons 0 _ (.nil))))))))))))))))))))));refine Wk.s ?_;refine w31 BD (e:=VM _ _ _ _ _ _ _ _ _ _ _ _ _ _ _ _ _ _ _ _ _ hc) (k':=?_);refine mL ?_;refine w4 (fun g0=>?_) fun g0=>?_
   ·refine w2 (.nilw 1) (r:=rB) (e:=J2 rfl) (k':=?_);refine w7 [B6 rB _,.int .i64 _] ?_;rw[B1N (e:=M9 mo k c m w b r cl t) g0]
   have z2:=(A28 (mo:=mo) (F8.1 g0)).2;have z3:=B3C z2;refine w3 CJ (e:=WV _ _ _ _ _ _ _ _ _ _ _ _ _ _ _ _ _ _ _ _ _ (fun e=>B2e (OD (A28 (mo:=mo) (F8.1 g0)).2 e))) (k':=?_);show Wk _ _ (.cons _ _ (.cons _ _ (.cons _ _ (.cons _ _ (.cons _ _ (.cons _ _ (.cons _ _ (.cons _ _ (.cons _ _ _)))))))));first|refine l4 ?_|refine mK ?_
   first|refine w4 (fun g1=>?_) (fun g1=>?_)|refine w4B (fun g1=>?_) (fun g1=>?_)
   ·refine U1 ?_;refine w4 (fun g2=>?_) fun g2=>?_
    ·refine w2 (.byt) (r:=rB) (e:=dA _ rfl) (k':=?_);refine w7 [B6 rB _,.int .i64 _] ?_;have hz:=RT g1;rw[show M9 mo k c m w b r cl t=0 from F8.1 g0];first
     | (exfalso;simp_all;done)
     | (rw[gU (gI A1 hz)];done)
     | (rw[I9 (gJ A1) (CB A1 (by rw[← xW (pa:=pa) (fo:=fo) (mo:=mo) (w:=w) (b:=b) A1];exact hz)).symm];done)
     | (rw[I9 (K9 hz) (vR hz A1).symm];done)
     | (rw[I9 (K9 hz) (xZ hz A1).symm];done)
     | (rw[I9 (K9 hz) (xY hz A1).symm];done)
     | (rw[I9 (K9 hz) (xX hz A1 A1 A1 (fZ (z3.2.2.2 A1).1 (z3.2.2.2 A1).2))];done)
    first|refine l4 ?_|refine mK ?_
    first|refine w4 (fun g3=>?_) (fun g3=>?_)|refine w4B (fun g3=>?_) (fun g3=>?_)
    ·refine w2 (.nilw 1) (r:=rB) (e:=J2 rfl) (k':=?_);refine w7 [B6 rB _,.int .i64 _] ?_;have hz:=RT g1;rw[show M9 mo k c m w b r cl t=0 from F8.1 g0];first
     | (exfalso;simp_all;done)
     | (rw[gU (gI A1 hz)];done)
     | (rw[I9 (gJ A1) (CB A1 (by rw[← xW (pa:=pa) (fo:=fo) (mo:=mo) (w:=w) (b:=b) A1];exact hz)).symm];done)
     | (rw[I9 (K9 hz) (vR hz A1).symm];done)
     | (rw[I9 (K9 hz) (xZ hz A1).symm];done)
     | (rw[I9 (K9 hz) (xY hz A1).symm];done)
     | (rw[I9 (K9 hz) (xX hz A1 A1 A1 (fZ (z3.2.2.2 A1).1 (z3.2.2.2 A1).2))];done)
    refine U1 ?_;refine w4 (fun g4=>?_) fun g4=>?_
    ·refine w31 tZ (e:=JQ _ _ _ _ _ _ _ _ _ _ _ _ _ _ _ _ _ _ _ _ _ (A8Y z2 ‹_›)) (k':=?_);refine w2 (.byt) (r:=rB) (e:=dA _ rfl) (k':=?_);refine w7 [B6 rB _,.int .i64 _] ?_;have hz:=RT g1;rw[show M9 mo k c m w b r cl t=0 from F8.1 g0];first
     | (exfalso;simp_all;done)
     | (rw[gU (gI A1 hz)];done)
     | (rw[I9 (gJ A1) (CB A1 (by rw[← xW (pa:=pa) (fo:=fo) (mo:=mo) (w:=w) (b:=b) A1];exact hz)).symm];done)
     | (rw[I9 (K9 hz) (vR hz A1).symm];done)
     | (rw[I9 (K9 hz) (xZ hz A1).symm];done)
     | (rw[I9 (K9 hz) (xY hz A1).symm];done)
     | (rw[I9 (K9 hz) (xX hz A1 A1 A1 (fZ (z3.2.2.2 A1).1 (z3.2.2.2 A1).2))];done)
    refine U1 ?_;refine w4 (fun g5=>?_) fun g5=>?_
    ·refine w31 tY (e:=A8y (by first|exact RU g1|(exfalso;simp_all;done)) (IM (OD z2 ‹_›))) (k':=?_);refine w2 (.byt) (r:=rB) (e:=dA _ rfl) (k':=?_);refine w7 [B6 rB _,.int .i64 _] ?_;have hz:=RT g1;rw[show M9 mo k c m w b r cl t=0 from F8.1 g0];first
     | (exfalso;simp_all;done)
     | (rw[gU (gI A1 hz)];done)
     | (rw[I9 (gJ A1) (CB A1 (by rw[← xW (pa:=pa) (fo:=fo) (mo:=mo) (w:=w) (b:=b) A1];exact hz)).symm];done)
     | (rw[I9 (K9 hz) (vR hz A1).symm];done)
     | (rw[I9 (K9 hz) (xZ hz A1).symm];done)
     | (rw[I9 (K9 hz) (xY hz A1).symm];done)
     | (rw[I9 (K9 hz) (xX hz A1 A1 A1 (fZ (z3.2.2.2 A1).1 (z3.2.2.2 A1).2))];done)
    refine U1 ?_;refine w4 (fun g6=>?_) fun g6=>?_
    ·refine w1 (.bin .add) (e:=Y1 _ _ (by simp only[A7,B3,D2,D5,C9];omega)) (k':=?_);refine w1 (.bin .add) (e:=Y1 _ _ (by simp only[A7,B3,D2,D5,C9];omega)) (k':=?_);refine w2 (.byt) (r:=rB) (e:=dA _ rfl) (k':=?_);refine w7 [B6 rB _,.int .i64 _] ?_;have hz:=RT g1;rw[show M9 mo k c m w b r cl t=0 from F8.1 g0];first
     | (exfalso;simp_all;done)
     | (rw[gU (gI A1 hz)];done)
     | (rw[I9 (gJ A1) (CB A1 (by rw[← xW (pa:=pa) (fo:=fo) (mo:=mo) (w:=w) (b:=b) A1];exact hz)).symm];done)
     | (rw[I9 (K9 hz) (vR hz A1).symm];done)
     | (rw[I9 (K9 hz) (xZ hz A1).symm];done)
     | (rw[I9 (K9 hz) (xY hz A1).symm];done)
     | (rw[I9 (K9 hz) (xX hz A1 A1 A1 (fZ (z3.2.2.2 A1).1 (z3.2.2.2 A1).2))];done)
    first|refine y7 ?_|refine V4 ?_
    refine A0K ?_;refine w1 (.bin .add) (e:=Y1 _ _ (by simp only[A7,B3,D2,D5,C9];omega)) (k':=?_);refine w2 (.byt) (r:=rB) (e:=dA _ rfl) (k':=?_);refine w7 [B6 rB _,.int .i64 _] ?_;have hz:=RT g1;rw[show M9 mo k c m w b r cl t=0 from F8.1 g0];first
    | (exfalso;simp_all;done)
    | (rw[gU (gI A1 hz)];done)
    | (rw[I9 (gJ A1) (CB A1 (by rw[← xW (pa:=pa) (fo:=fo) (mo:=mo) (w:=w) (b:=b) A1];exact hz)).symm];done)
    | (rw[I9 (K9 hz) (vR hz A1).symm];done)
    | (rw[I9 (K9 hz) (xZ hz A1).symm];done)
    | (rw[I9 (K9 hz) (xY hz A1).symm];done)
    | (rw[I9 (K9 hz) (xX hz A1 A1 A1 (fZ (z3.2.2.2 A1).1 (z3.2.2.2 A1).2))];done)
   first|refine l4 ?_|refine mK ?_
   first|refine w4 (fun g2=>?_) (fun g2=>?_)|refine w4B (fun g2=>?_) (fun g2=>?_)
   ·refine w2 (.nilw 1) (r:=rB) (e:=J2 rfl) (k':=?_);refine w7 [B6 rB _,.int .i64 _] ?_;have hz:=RU g1;rw[show M9 mo k c m w b r cl t=0 from F8.1 g0];first
    | (exfalso;simp_all;done)
    | (rw[gU (gI A1 hz)];done)
    | (rw[I9 (gJ A1) (CB A1 (by rw[← xW (pa:=pa) (fo:=fo) (mo:=mo) (w:=w) (b:=b) A1];exact hz)).symm];done)
    | (rw[I9 (K9 hz) (vR hz A1).symm];done)
    | (rw[I9 (K9 hz) (xZ hz A1).symm];done)
    | (rw[I9 (K9 hz) (xY hz A1).symm];done)
    | (rw[I9 (K9 hz) (xX hz A1 A1 A1 (fZ (z3.2.2.2 A1).1 (z3.2.2.2 A1).2))];done)
   refine U1 ?_;refine w4 (fun g3=>?_) fun g3=>?_
   ·refine w31 tZ (e:=JQ _ _ _ _ _ _ _ _ _ _ _ _ _ _ _ _ _ _ _ _ _ (A8Y z2 ‹_›)) (k':=?_);refine w2 (.byt) (r:=rB) (e:=dA _ rfl) (k':=?_);refine w7 [B6 rB _,.int .i64 _] ?_;have hz:=RU g1;rw[show M9 mo k c m w b r cl t=0 from F8.1 g0];first
    | (exfalso;simp_all;done)
    | (rw[gU (gI A1 hz)];done)
    | (rw[I9 (gJ A1) (CB A1 (by rw[← xW (pa:=pa) (fo:=fo) (mo:=mo) (w:=w) (b:=b) A1];exact hz)).symm];done)
    | (rw[I9 (K9 hz) (vR hz A1).symm];done)
    | (rw[I9 (K9 hz) (xZ hz A1).symm];done)
    | (rw[I9 (K9 hz) (xY hz A1).symm];done)
    | (rw[I9 (K9 hz) (xX hz A1 A1 A1 (fZ (z3.2.2.2 A1).1 (z3.2.2.2 A1).2))];done)
   refine U1 ?_;refine w4 (fun g4=>?_) fun g4=>?_
   ·refine w31 tY (e:=A8y (by first|exact RU g1|(exfalso;simp_all;done)) (IM (OD z2 ‹_›))) (k':=?_);refine w2 (.byt) (r:=rB) (e:=dA _ rfl) (k':=?_);refine w7 [B6 rB _,.int .i64 _] ?_;have hz:=RU g1;rw[show M9 mo k c m w b r cl t=0 from F8.1 g0];first
    | (exfalso;simp_all;done)
    | (rw[gU (gI A1 hz)];done)
    | (rw[I9 (gJ A1) (CB A1 (by rw[← xW (pa:=pa) (fo:=fo) (mo:=mo) (w:=w) (b:=b) A1];exact hz)).symm];done)
    | (rw[I9 (K9 hz) (vR hz A1).symm];done)
    | (rw[I9 (K9 hz) (xZ hz A1).symm];done)
    | (rw[I9 (K9 hz) (xY hz A1).symm];done)
    | (rw[I9 (K9 hz) (xX hz A1 A1 A1 (fZ (z3.2.2.2 A1).1 (z3.2.2.2 A1).2))];done)
   refine U1 ?_;refine w4 (fun g5=>?_) fun g5=>?_
   ·refine w1 (.bin .add) (e:=Y1 _ _ (by simp only[A7,B3,D2,D5,C9];omega)) (k':=?_);refine w1 (.bin .add) (e:=Y1 _ _ (by simp only[A7,B3,D2,D5,C9];omega)) (k':=?_);refine w2 (.byt) (r:=rB) (e:=dA _ rfl) (k':=?_);refine w7 [B6 rB _,.int .i64 _] ?_;have hz:=RU g1;rw[show M9 mo k c m w b r cl t=0 from F8.1 g0];first
    | (exfalso;simp_all;done)
    | (rw[gU (gI A1 hz)];done)
    | (rw[I9 (gJ A1) (CB A1 (by rw[← xW (pa:=pa) (fo:=fo) (mo:=mo) (w:=w) (b:=b) A1];exact hz)).symm];done)
    | (rw[I9 (K9 hz) (vR hz A1).symm];done)
    | (rw[I9 (K9 hz) (xZ hz A1).symm];done)
    | (rw[I9 (K9 hz) (xY hz A1).symm];done)
    | (rw[I9 (K9 hz) (xX hz A1 A1 A1 (fZ (z3.2.2.2 A1).1 (z3.2.2.2 A1).2))];done)
   first|refine y7 ?_|refine V4 ?_
   refine A0K ?_;refine w1 (.bin .add) (e:=Y1 _ _ (by simp only[A7,B3,D2,D5,C9];omega)) (k':=?_);refine w2 (.byt) (r:=rB) (e:=dA _ rfl) (k':=?_);refine w7 [B6 rB _,.int .i64 _] ?_;have hz:=RU g1;rw[show M9 mo k c m w b r cl t=0 from F8.1 g0];first
   | (exfalso;simp_all;done)
   | (rw[gU (gI A1 hz)];done)
   | (rw[I9 (gJ A1) (CB A1 (by rw[← xW (pa:=pa) (fo:=fo) (mo:=mo) (w:=w) (b:=b) A1];exact hz)).symm];done)
   | (rw[I9 (K9 hz) (vR hz A1).symm];done)
   | (rw[I9 (K9 hz) (xZ hz A1).symm];done)
   | (rw[I9 (K9 hz) (xY hz A1).symm];done)
   | (rw[I9 (K9 hz) (xX hz A1 A1 A1 (fZ (z3.2.2.2 A1).1 (z3.2.2.2 A1).2))];done)
  ·cases hs
 ·cases hs
def nE(l:D1):D1:=l.filter fun x=>!isE x
def SW{α:Type}(x:Option (List α)):Y5 x (some [])=x:=by
 unfold Y5;cases x<;>simp[el]
def GU{α:Type}(x:Option (List α))(u v:List α):Y5 (Y5 x (some u)) (some v)=Y5 x (some (u++v)):=by
 cases u with
 | nil=>rw[SW];rfl
 | cons a u=>cases v with
   | nil=>simp[Y5,el]
   | cons c v=>simp[Y5,el]
def LD{l:D1}(h0:0≤i)(h1:i<1000):(l.take 1000).getD i.toNat default=l.getD i.toNat default:=by
 rw[B4,B4,F9 A1]
def B0O{l:D1}(h:(l.length:Int)≤i∨1000≤i):nE ((l.take 1000).drop i.toNat)=[]:=by
 rw[v8 (l.take 1000) (by rw[D5];omega)];rfl
def B5a{l:D1}(h0:0≤i)(h1:i<(l.length:Int))(hk:i<1000)(h2:¬(((l.getD i.toNat 0).toNat:Nat):Int)≠27):nE ((l.take 1000).drop i.toNat)=nE ((l.take 1000).drop (i+1).toNat):=by
 rw[R3 (l.take 1000) h0 (by rw[D5];omega),LD h0 hk,JC,show l.getD i.toNat 0=27 from A8w A1];rfl
def B5b{l:D1}(h0:0≤i)(h1:i<(l.length:Int))(hk:i<1000)(h2:(((l.getD i.toNat 0).toNat:Nat):Int)≠27):nE ((l.take 1000).drop i.toNat)=l.getD i.toNat 0::nE ((l.take 1000).drop (i+1).toNat):=by
 rw[R3 (l.take 1000) h0 (by rw[D5];omega),LD h0 hk,JC];have:isE (l.getD i.toNat 0)=false:=F6 fun h=>h2 (by rw[h];rfl)
 unfold nE;rw[List.filter_cons,this];rfl
def A1y(l:D1):(nE l).length≤l.length:=List.length_filter_le _ _
noncomputable def B4y:Q1:=⟨_,fun hst=>(.cons (UH hst) (.cons (A7b hst) .nil))⟩
def uB:List U→Option (Nat×List U)
 | [u_out,.int .i64 i,.int .u8 d0,.int .u8 d1,.int .u8 d2,.int .u8 d3,.int .u8 d4,.int .u8 d5,.int .u8 d6,.int .u32 dc,.str t]=>(J8 rB u_out).bind fun out=>if 0≤i∧i≤1000∧((el out).length:Int)≤i∧(t.length:Int)≤140737488351232 then some (0,[B6 rB (Y5 out (some (bI (nE ((t.take 1000).drop i.toNat)))))])else none
 | _=>none
def pO(out:E0)(i:Int)(d0:Int)(d1:Int)(d2:Int)(d3:Int)(d4:Int)(d5:Int)(d6:Int)(dc:Int)(t:D1)(hc:0≤i∧i≤1000∧((el out).length:Int)≤i∧(t.length:Int)≤140737488351232):uB [B6 rB out,.int .i64 i,.int .u8 d0,.int .u8 d1,.int .u8 d2,.int .u8 d3,.int .u8 d4,.int .u8 d5,.int .u8 d6,.int .u32 dc,.str t]=some (0,[B6 rB (Y5 out (some (bI (nE ((t.take 1000).drop i.toNat)))))]):=by
 simp only[uB,G9,D8];exact A4 hc
def A89:Q8:=⟨[(1,.pointer (some ⟨6,0,none⟩)),(2,.pointer (some ⟨7,0,none⟩)),(4,own 8 0 11),(5,h 1 3)],[(6,.cells 26 [h 2 4,h 3 4,h 4 4,h 5 4,h 6 4,h 7 4,h 8 4,h 9 6,h 10 9]),(7,.cells 23 [.int .i64 (0),.int .i64 (0),.int .i64 (0),.int .i64 (0),.int .i64 (0),.int .i64 (0),.int .i64 (0),.string ⟨⟨[]⟩⟩]),(8,.sq 0 11 5 9),(9,.frz)],11,[⟨.exit 1,[(2,.pointer (some ⟨7,0,none⟩)),(4,own 10 0 11)],[(7,.cells 23 [.int .i64 (0),.int .i64 (0),.int .i64 (0),.int .i64 (0),.int .i64 (0),.int .i64 (0),.int .i64 (0),.string ⟨⟨[]⟩⟩]),(10,.sq 0 11 5 11),(11,.frz)],1⟩]⟩
noncomputable def A3T:Code:=(f12.body).getD .skip
noncomputable def A85:Code:=match I0 [true,false,true,false,true,true,true,false,true,false,true,false] A3T with|some (.loop x)=>x|_=>.skip
def A88:f12.body=some A3T:=rfl
def A87:I0 [true,false,true,false,true,true,true,false,true,false,true,false] A3T=some (.loop A85):=D0
def A86:Tr:=aD [h 10 9]<|p7 1 11 12 (S6 1 13 1000 (.lt 4 (.idx) [h 10 9,h3 1]<|aN [h 14 4,.int .u8 (27)]<|.br 15 (.lt 4 (.idx) [h 10 9,h3 1]<|.dt 11 (.snoc 1) [h 0 11,h 16 4]<|aA [h3 1,jI 1]<|.ret [jI (-1),h 17 11,h3 18,h 2 4,h 3 4,h 4 4,h 5 4,h 6 4,h 7 4,h 8 4,h 9 6,h 10 9]) (aA [h3 1,jI 1]<|.ret [jI (-1),h 0 11,h3 16,h 2 4,h 3 4,h 4 4,h 5 4,h 6 4,h 7 4,h 8 4,h 9 6,h 10 9])) (.ret [jI 0,h 0 11])) (.ret [jI 0,h 0 11])
def A3S:List U→Nat
 | [u_out,.int .i64 i,.int .u8 d0,.int .u8 d1,.int .u8 d2,.int .u8 d3,.int .u8 d4,.int .u8 d5,.int .u8 d6,.int .u32 dc,.str t]=>(match J8 rB u_out with|some out=>(1000-i).toNat|none=>0)
 | _=>0
def A3R(out:E0)(i:Int)(d0:Int)(d1:Int)(d2:Int)(d3:Int)(d4:Int)(d5:Int)(d6:Int)(dc:Int)(t:D1):A3S [B6 rB out,.int .i64 i,.int .u8 d0,.int .u8 d1,.int .u8 d2,.int .u8 d3,.int .u8 d4,.int .u8 d5,.int .u8 d6,.int .u32 dc,.str t]=(1000-i).toNat:=by
 simp only[A3S,G9]
def B3f{G}(hst:L9 G):∀ (E:Nat→U) (base:Nat),@X1 ⟨E,G⟩ prog base gl f12.ntmps A85 (P3 prog gl n0 12 A89 uB):=by
 refine l6 (dep:=60) (f:=12) (n0:=n0) (nB:=12) (H0:=H0) A3S A86 (cxg (B4y.2 hst) (gW hst)) hst func12 A88 A87 D0 D0 D0 ?_;intro us d outs hs;have hs0:=hs;unfold uB at hs;split at hs
 ·skip;rename_i u_out i d0 d1 d2 d3 d4 d5 d6 dc t;have hq_out:=A9.1 hs;clear hs;obtain⟨out,hd_out,hs⟩:=hq_out;replace hd_out:=G1 hd_out;subst hd_out;split at hs
  ·rename_i hc;clear hs hs0;refine⟨rfl,?_⟩;unfold A86;refine w0 (.cons 10 _ (.cons 9 _ (.cons 8 _ (.cons 7 _ (.cons 6 _ (.cons 5 _ (.cons 4 _ (.cons 3 _ (.cons 2 _ (.cons 1 _ (.cons 0 _ (.nil)))))))))))) ?_;repeat (first|refine y7 ?_|refine V4 ?_|refine w4 (fun g=>?_) fun g=>?_|refine cD ?_|refine B1h ?_|(refine w7 [.int .i64 _,B6 rB _,.int .i64 _,.int .u8 _,.int .u8 _,.int .u8 _,.int .u8 _,.int .u8 _,.int .u8 _,.int .u8 _,.int .u32 _,.str _] ?_;rotate_left)|(refine w7 [.int .i64 _,B6 rB _] ?_;rotate_left)|refine LB ?_|refine mL ?_|refine w2 (.snoc 1) (r:=rB) (e:=U5 rfl rfl C3 (by simp[*]<;>omega)) (k':=?_))
   all_goals first
    | refine P4 ?_ ?_
      ·first
       | (have hx:∀ X,X=Y5 out (some (bI [t.getD i.toNat 0]))→uB [B6 rB X,.int .i64 (i+1),.int .u8 d0,.int .u8 d1,.int .u8 d2,.int .u8 d3,.int .u8 d4,.int .u8 d5,.int .u8 d6,.int .u32 dc,.str t]=uB [B6 rB out,.int .i64 i,.int .u8 d0,.int .u8 d1,.int .u8 d2,.int .u8 d3,.int .u8 d4,.int .u8 d5,.int .u8 d6,.int .u32 dc,.str t]:=fun X hX=>by
           rw[pO X (i+1) d0 d1 d2 d3 d4 d5 d6 dc t ⟨A1,A1,by rw[hX,fB,E8,A7,lK,B3,D2];omega,hc.2.2.2⟩,pO out i d0 d1 d2 d3 d4 d5 d6 dc t hc,hX,GU,← vW,B5b (i:=i) A1 A1 A1 ‹_›];rfl
          exact hx _ rfl)
       | (rw[pO out (i+1) d0 d1 d2 d3 d4 d5 d6 dc t ⟨A1,A1,A1,hc.2.2.2⟩,pO out i d0 d1 d2 d3 d4 d5 d6 dc t hc,B5a (i:=i) A1 A1 A1 ‹_›];done)
      ·rw[A3R,A3R];omega
    | refine L7 (d:=0) ?_
      rw[pO out i d0 d1 d2 d3 d4 d5 d6 dc t hc,B0O (i:=i) A1];exact H3 (fun z=>some (0,[B6 rB z])) (SW out)
  ·cases hs
 ·cases hs
noncomputable def B5B:List LpE:=(12,([true,false,true,false,true,true,true,false,true,false,true,false],P3 prog gl n0 12 A89 uB))::A9Z
def QD{G}(hst:L9 G):r7 prog G gl B5B:=.cons func12 A88 A87 (B3f hst) (gW hst)
def B3U(h0:0≤a)(h1:a<256):evU (.bin .and) [.int .u8 a,.int .u8 6]=.int .u8 (a / 2%4*2):=by
 rw[qT];have k:∀ n:Nat,n<256→IntKind.u8.wrap (BitVec.ofInt IntKind.u8.bits (n:Int) &&& BitVec.ofInt IntKind.u8.bits 6).toNat=(n:Int) / 2%4*2:=C3;obtain⟨n,rfl⟩:∃ n:Nat,a=n:=⟨a.toNat,A1⟩;exact H3 _ (k n A1)
def B3V(h0:0≤a)(h1:a<256):evU (.bin .and) [.int .u8 a,.int .u8 2]=.int .u8 (a / 2%2*2):=by
 rw[qT];have k:∀ n:Nat,n<256→IntKind.u8.wrap (BitVec.ofInt IntKind.u8.bits (n:Int) &&& BitVec.ofInt IntKind.u8.bits 2).toNat=(n:Int) / 2%2*2:=C3;obtain⟨n,rfl⟩:∃ n:Nat,a=n:=⟨a.toNat,A1⟩;exact H3 _ (k n A1)
def el0(l:D1):el (Y5 none (some (bI l)))=bI l:=by rw[fB];rfl
def B5U(l:D1):∀ n ∈ el (Y5 none (some (bI l))),0≤n∧n<256:=fun n h=>by rw[el0]at h;exact A38 h
def iB0(l:D1):iB (el (Y5 none (some (bI l))))=l:=by rw[el0,A2j]
def dC1(d4 dc:Int):Int:=if d4%2=0 then 1114113+d4 / 2%26 else dc
def dC2(x:Int):Int:=if x<1114113∧¬chP x then 97+x%26 else x
def dM(c m:Int):Int:=if i7 c (m%8)then m%8 else if i7 c (m%8 / 2%4*2)then m%8 / 2%4*2 else if i7 c (m / 2%2*2)then m / 2%2*2 else 0
def dC3(c m:Int):Int:=if i7 c (m%8)∨i7 c (m%8 / 2%4*2)∨i7 c (m / 2%2*2)∨i7 c 0 then c else 97
def diK(q:Int):Int:=if q=1 then 2 else if q=2 then 3 else if q=3 then 4 else 1
def diC(q d3 d4 dc:Int):Int:=if q=0 then dC3 (dC2 (dC1 d4 dc)) d3 else 0
def diM(q d3 d4 dc:Int):Int:=if q=0 then dM (dC2 (dC1 d4 dc)) d3 else if q=1 then d3%8 else 0
def diW(q d1:Int):Int:=if q=1 then d1%4 else if q=3 then d1%2 else 0
def diB(q d1 d2 d3 d5 d6:Int):Int:=if q=1 then(if O5 2 0 (d3%8) (d1%4) (d2%4) (d5%40) (d6%80) []then d2%4 else d2%4%2)else 0
def diR(q d5:Int):Int:=if q=1 then d5%40 else 0
def diL(q d6:Int):Int:=if q=1 then d6%80 else 0
def diT(q:Int)(t:D1):D1:=if q=2 then nE (t.take 1000)else[]
def l8{a1 a2 a3 a4 a5 a6 a7 b1 b2 b3 b4 b5 b6 b7:Int}(h1:a1=b1)(h2:a2=b2)(h3:a3=b3)(h4:a4=b4)(h5:a5=b5)(h6:a6=b6)(h7:a7=b7)(h8:s=t):[U.int .i64 a1,.int .i64 a2,.int .i64 a3,.int .i64 a4,.int .i64 a5,.int .i64 a6,.int .i64 a7,.str s]=[U.int .i64 b1,.int .i64 b2,.int .i64 b3,.int .i64 b4,.int .i64 b5,.int .i64 b6,.int .i64 b7,.str t]:=by rw[h1,h2,h3,h4,h5,h6,h7,h8]
def B3m(h:d4%2=0):dC1 d4 dc=1114113+d4 / 2%26:=A4 h
def B3l(h:¬d4%2=0):dC1 d4 dc=dc:=A3 h
noncomputable def B42:Q1:=⟨_,fun hst=>.nil⟩
def GO:List U→Option (Nat×List U)
 | [.int .i64 c]=>some (0,[.bool (decide (chP c))])
 | _=>none
def A6H(c:Int):GO [.int .i64 c]=some (0,[.bool (decide (chP c))]):=rfl
def A3p(n:Nat):Tr:=L4 0 n 32 (L4 0 (n+1) 127 (aQ [h3 0,jI 159]<|aX [h (n+2) 8]<|.ret [h (n+3) 8]) cB) J5
def A9K:Tr:=L4 0 1 0 (W9 0 2 1114111 (S6 0 3 55296 (A3p 4) (aV 0 4 57343 (A3p 5) J5)) J5) J5
def B3z{G}(hst:L9 G):M2 prog G 33 [.s 3] GO [.s 8]:=by
 refine F1 (d:=60) A9K (cxg (B42.2 hst) (QD hst)) hst ⟨f33,_,func33,rfl⟩ D0 D0 ?_;intro us outs hs;unfold GO at hs;split at hs
 ·skip;rename_i c;cases hs;unfold A9K;refine w0 (.cons 0 _ (.nil)) ?_;repeat (first|(refine w7 [.bool _] ?_;rotate_left)|refine w4 (fun g=>?_) fun g=>?_|refine jK ?_|refine mN ?_|refine l4 ?_|refine cD ?_|refine mO ?_)
  all_goals
   refine l1 ?_;first|(refine decide_eq_decide.2 ?_;unfold chP okU;omega)|(symm;first|exact F4 (by unfold chP okU;omega)|exact F6 (by unfold chP okU;omega))
 ·cases hs
noncomputable def B4x:Q1:=⟨_,fun hst=>(.cons (UH hst) (.cons (A7b hst) (.cons (B3z hst) .nil)))⟩
def OZ:List U→Option (Nat×List U)
 | [.int .u8 d0,.int .u8 d1,.int .u8 d2,.int .u8 d3,.int .u8 d4,.int .u8 d5,.int .u8 d6,.int .u32 dc,.str t]=>if 0≤d0∧d0<256∧0≤d1∧d1<256∧0≤d2∧d2<256∧0≤d3∧d3<256∧0≤d4∧d4<256∧0≤d5∧d5<256∧0≤d6∧d6<256∧0≤dc∧dc<4294967296∧(t.length:Int)≤140737488351232 then some (0,[.int .i64 (diK (d0%4)),.int .i64 (diC (d0%4) d3 d4 dc),.int .i64 (diM (d0%4) d3 d4 dc),.int .i64 (diW (d0%4) d1),.int .i64 (diB (d0%4) d1 d2 d3 d5 d6),.int .i64 (diR (d0%4) d5),.int .i64 (diL (d0%4) d6),.str (diT (d0%4) t)])else none
 | _=>none
def A57(d0:Int)(d1:Int)(d2:Int)(d3:Int)(d4:Int)(d5:Int)(d6:Int)(dc:Int)(t:D1)(hc:0≤d0∧d0<256∧0≤d1∧d1<256∧0≤d2∧d2<256∧0≤d3∧d3<256∧0≤d4∧d4<256∧0≤d5∧d5<256∧0≤d6∧d6<256∧0≤dc∧dc<4294967296∧(t.length:Int)≤140737488351232):OZ [.int .u8 d0,.int .u8 d1,.int .u8 d2,.int .u8 d3,.int .u8 d4,.int .u8 d5,.int .u8 d6,.int .u32 dc,.str t]=some (0,[.int .i64 (diK (d0%4)),.int .i64 (diC (d0%4) d3 d4 dc),.int .i64 (diM (d0%4) d3 d4 dc),.int .i64 (diW (d0%4) d1),.int .i64 (diB (d0%4) d1 d2 d3 d5 d6),.int .i64 (diR (d0%4) d5),.int .i64 (diL (d0%4) d6),.str (diT (d0%4) t)]):=A4 hc
def x8(a0:Nat)(a1:Nat):Tr:=.ret [jI 1,h3 a0,h3 a1,jI 0,jI 0,jI 0,jI 0,.string ⟨⟨[]⟩⟩]
def kN(a0:Int)(a1:Nat):Tr:=.ret [jI 1,h3 a1,jI a0,jI 0,jI 0,jI 0,jI 0,.string ⟨⟨[]⟩⟩]
def iG(a0:Int)(a1:Int):Tr:=.ret [jI 1,jI a1,jI a0,jI 0,jI 0,jI 0,jI 0,.string ⟨⟨[]⟩⟩]
def iH(a0:Nat)(a1:Nat)(a2:Nat)(k0 k1:Tr):Tr:=.fn lQ [h3 a0,h3 a1] 1<|.br a2 k0 k1
def yL(a0:Nat)(a1:Nat)(k0 k1:Tr):Tr:=.lt 4 (.bin .rem) [h 3 4,.int .u8 (8)]<|.lt 3 (.conv .i64) [h a1 4]<|.lt 4 (.bin .rem) [h 3 4,.int .u8 (8)]<|.lt 4 (.bin .and) [h (a1+2) 4,.int .u8 (6)]<|.lt 3 (.conv .i64) [h (a1+3) 4]<|.lt 4 (.bin .and) [h 3 4,.int .u8 (2)]<|.lt 3 (.conv .i64) [h (a1+5) 4]<|.fn lQ [h3 a0,h3 (a1+1)] 1<|.br (a1+7) k0 k1
def A3P(n:Nat):Tr:=yL 19 n (x8 19 (n+1)) (iH 19 (n+4) (n+8) (x8 19 (n+4)) (iH 19 (n+6) (n+9) (x8 19 (n+6)) (.fn lQ [h3 19,jI 0] 1<|.br (n+10) (kN 0 19) (iG 0 97))))
def A3O(n:Nat):Tr:=yL 13 n (x8 13 (n+1)) (iH 13 (n+4) (n+8) (x8 13 (n+4)) (iH 13 (n+6) (n+9) (x8 13 (n+6)) (.fn lQ [h3 13,jI 0] 1<|.br (n+10) (kN 0 13) (iG 0 97))))
def A83:Tr:=.lt 4 (.bin .rem) [h 0 4,.int .u8 (4)]<|aE [h 9 4,.int .u8 (1)]<|.br 10 (.lt 4 (.bin .rem) [h 1 4,.int .u8 (4)]<|.lt 3 (.conv .i64) [h 11 4]<|.lt 4 (.bin .rem) [h 2 4,.int .u8 (4)]<|.lt 3 (.conv .i64) [h 13 4]<|.lt 4 (.bin .rem) [h 3 4,.int .u8 (8)]<|.lt 3 (.conv .i64) [h 15 4]<|.lt 4 (.bin .rem) [h 5 4,.int .u8 (40)]<|.lt 3 (.conv .i64) [h 17 4]<|.lt 4 (.bin .rem) [h 6 4,.int .u8 (80)]<|.lt 3 (.conv .i64) [h 19 4]<|.fn MF [jI 2,jI 0,h3 16,h3 12,h3 14,h3 18,h3 20,.string ⟨⟨[]⟩⟩] 1<|I3 22 21 (.lt 3 (.bin .rem) [h3 14,jI 2]<|.ret [jI 2,jI 0,h3 16,h3 12,h3 23,h3 18,h3 20,.string ⟨⟨[]⟩⟩]) (.ret [jI 2,jI 0,h3 16,h3 12,h3 14,h3 18,h3 20,.string ⟨⟨[]⟩⟩])) (aE [h 9 4,.int .u8 (2)]<|.br 11 (.dt 11 (.nilw 1) []<|.fn uB [h 12 11,jI 0,h 0 4,h 1 4,h 2 4,h 3 4,h 4 4,h 5 4,h 6 4,h 7 6,h 8 9] 1<|.lt 9 (.str) [h 13 11]<|.ret [jI 3,jI 0,jI 0,jI 0,jI 0,jI 0,jI 0,h 14 9]) (aE [h 9 4,.int .u8 (3)]<|.br 12 (.lt 4 (.bin .rem) [h 1 4,.int .u8 (2)]<|.lt 3 (.conv .i64) [h 13 4]<|.ret [jI 4,jI 0,jI 0,h3 14,jI 0,jI 0,jI 0,.string ⟨⟨[]⟩⟩]) (.lt 3 (.conv .i64) [h 7 6]<|.lt 4 (.bin .rem) [h 4 4,.int .u8 (2)]<|aE [h 14 4,.int .u8 (0)]<|.br 15 (.lt 4 (.bin .quo) [h 4 4,.int .u8 (2)]<|.lt 3 (.conv .i64) [h 16 4]<|.lt 3 (.bin .rem) [h3 17,jI 26]<|aA [jI 1114113,h3 18]<|S6 19 20 1114113 (.fn GO [h3 19] 1<|I3 22 21 (.lt 3 (.bin .rem) [h3 19,jI 26]<|aA [jI 97,h3 23]<|yL 24 25 (x8 24 26) (iH 24 29 33 (x8 24 29) (iH 24 31 34 (x8 24 31) (.fn lQ [h3 24,jI 0] 1<|.br 35 (kN 0 24) (iG 0 97))))) (A3P 23)) (A3P 21)) (S6 13 16 1114113 (.fn GO [h3 13] 1<|I3 18 17 (.lt 3 (.bin .rem) [h3 13,jI 26]<|aA [jI 97,h3 19]<|yL 20 21 (x8 20 22) (iH 20 25 29 (x8 20 25) (iH 20 27 30 (x8 20 27) (.fn lQ [h3 20,jI 0] 1<|.br 31 (kN 0 20) (iG 0 97))))) (A3O 19)) (A3O 17)))))
def A84{G}(hst:L9 G):M2 prog G 12 [.a [4,4,4,4,4,4,4,6,9]] OZ [.a [3,3,3,3,3,3,3,9]]:=by
 refine F1 (d:=60) A83 (cxg (B4x.2 hst) (QD hst)) hst ⟨f12,_,func12,rfl⟩ D0 D0 ?_;intro us outs hs;unfold OZ at hs;split at hs
 ·skip;rename_i d0 d1 d2 d3 d4 d5 d6 dc t;split at hs
  ·rename_i hc;cases hs;have zt:nE (t.take 1000)=nE ((t.take 1000).drop (0:Int).toNat):=rfl;have zl:((el (none:E0)).length:Int)=0:=rfl;unfold A83;refine w0 (.cons 8 _ (.cons 7 _ (.cons 6 _ (.cons 5 _ (.cons 4 _ (.cons 3 _ (.cons 2 _ (.cons 1 _ (.cons 0 _ (.nil)))))))))) ?_;repeat (first|refine w4 (fun g=>?_) fun g=>?_|refine w4B (fun g=>?_) fun g=>?_|refine fV ?_|refine cE ?_|refine A9l ?_|refine w1 (.bin .rem) (e:=JK _ _ _ A1) (k':=?_)|(refine w7 [.int .i64 _,.int .i64 _,.int .i64 _,.int .i64 _,.int .i64 _,.int .i64 _,.int .i64 _,.str _] ?_;rotate_left)|refine w31 lQ (e:=UG _ _ A1) (k':=?_)|refine l4 ?_|refine mK ?_|refine y7 ?_|refine V4 ?_|refine w1 (.bin .and) (e:=B3U A1 A1) (k':=?_)|refine w1 (.bin .and) (e:=B3V A1 A1) (k':=?_)|refine U1 ?_|refine B5L ?_|refine w1 (.bin .quo) (e:=A2x _ _ _ A1) (k':=?_)|refine cD ?_|refine w31 GO (e:=A6H _) (k':=?_)|refine w31 MF (e:=A41 _ _ _ _ _ _ _ _ ⟨A1,A1,by show(0:Int)≤_;omega⟩) (k':=?_)|refine w2 (.nilw 1) (r:=rB) (e:=J2 rfl) (k':=?_)|refine w31 uB (e:=pO _ _ _ _ _ _ _ _ _ _ _ ⟨A1,A1,A1,A1⟩) (k':=?_)|refine w1 (.str) (e:=eY rfl (B5U _)) (k':=?_))
   all_goals
    first
    | (have hq:d0%4=1:=A1
       rw[hq];first
       | exact l8 rfl rfl rfl rfl (A4 (F8.1 ‹_›)).symm rfl rfl rfl
       | exact l8 rfl rfl rfl rfl (A3 ‹_›).symm rfl rfl rfl)
    | (have hq:d0%4=2:=A1
       rw[hq];exact l8 rfl rfl rfl rfl rfl rfl rfl (iB0 _))
    | (have hq:d0%4=3:=A1
       rw[hq];exact l8 rfl rfl rfl rfl rfl rfl rfl rfl)
    | (have hq:d0%4=0:=A1
       rw[hq];obtain⟨X,h1⟩:∃ X,X=dC1 d4 dc:=⟨_,rfl⟩;obtain⟨Y,h2⟩:∃ Y,Y=dC2 X:=⟨_,rfl⟩;have e1:=h1;have e2:=h2;first|rw[B3m ‹_›]at e1|rw[B3l ‹_›]at e1
       rw[e1]at e2;unfold dC2 at e2;first|rw[A4 ⟨by assumption,by assumption⟩]at e2|rw[A3 (fun g=>absurd g.1 ‹_›)]at e2|rw[A3 (fun g=>absurd g.2 ‹_›)]at e2
       refine l8 rfl ?_ ?_ rfl rfl rfl rfl rfl
       ·show _=dC3 (dC2 (dC1 d4 dc)) d3;rw[← h1,← h2,e2];unfold dC3;first
        | exact(A4 (.inl ‹_›)).symm
        | exact(A4 (.inr (.inl ‹_›))).symm
        | exact(A4 (.inr (.inr (.inl ‹_›)))).symm
        | exact(A4 (.inr (.inr (.inr ‹_›)))).symm
        | exact(A3 fun q=>q.elim ‹_› fun q=>q.elim ‹_› fun q=>q.elim ‹_› ‹_›).symm
       ·show _=dM (dC2 (dC1 d4 dc)) d3;rw[← h1,← h2,e2];unfold dM
        (repeat (first|rw[A4 ‹_›]|rw[A3 ‹_›]));done)
  ·cases hs
 ·cases hs
def rQ:Rw (D1×Int×Int×Int×Int×Int×Int×Int×D1):=rC SY (rC (Z8 .i64) (rC (Z8 .i64) (rC (Z8 .i64) (rC (Z8 .i64) (rC (Z8 .i64) (rC (Z8 .i64) (rC (Z8 .i64) (r1 SY))))))))
abbrev Qt:=(D1×Int×Int×Int×Int×Int×Int×Int×D1)
def qq(a b:Qt):Bool:=(a.1 == b.1 && true)
def qR(s:D1)(c m:Int):Qt:=(s,1,c,m,0,0,0,0,[])
def inQ(c:Int):Nat→Int→Option (List Qt)→Option (List Qt)
 | 0,_,x=>x
 | n+1,j,x=>inQ c n (j+1) (lO qq (lO qq x (qR (keS false c j) c j)) (qR (keS true c j) c j))
def otQ:Nat→Int→Option (List Qt)→Option (List Qt)
 | 0,_,x=>x
 | n+1,c,x=>otQ n (c+1) (inQ c 8 0 x)
def B3G{x:Option (List Qt)}(h:j<8):inQ c (8-j).toNat j x=inQ c (8-(j+1)).toNat (j+1) (lO qq (lO qq x (qR (keS false c j) c j)) (qR (keS true c j) c j)):=by
 rw[show(8-j).toNat=(8-(j+1)).toNat+1 by omega];rfl
def B3H{x:Option (List Qt)}(h:¬j<8):inQ c (8-j).toNat j x=x:=by
 rw[show(8-j).toNat=0 by omega];rfl
def B2R{x:Option (List Qt)}(h:c≤1114134):otQ (1114135-c).toNat c x=otQ (1114135-(c+1)).toNat (c+1) (inQ c 8 0 x):=by
 rw[show(1114135-c).toNat=(1114135-(c+1)).toNat+1 by omega];rfl
def B2S{x:Option (List Qt)}(h:¬c≤1114134):otQ (1114135-c).toNat c x=x:=by
 rw[show(1114135-c).toNat=0 by omega];rfl
def nn2{x:Option (List Qt)}{a:Qt}(h:x≠none):lO qq x a≠none:=by
 cases x with
 | none=>exact absurd rfl h
 | some l=>exact O1 _
def A8Z{c:Int}:∀ (n:Nat) (j:Int) {x:Option (List Qt)},x≠none→inQ c n j x≠none
 | 0,_,_,h=>h
 | n+1,j,_,h=>A8Z n (j+1) (nn2 (nn2 h))
def B2s(h:1114113≤c)(h2:c≤1114134)(h3:0≤m)(h4:m≤7):i7 c m:=.inr (.inl ⟨h,h2,h3,h4⟩)
noncomputable def B4R:Q1:=⟨_,fun hst=>(.cons (lW hst) .nil)⟩
def mR:List U→Option (Nat×List U)
 | [.int .i64 c,.int .i64 j,u_x]=>(J8 rQ u_x).bind fun x=>if 1114113≤c∧c≤1114134∧0≤j∧j≤8∧x≠none then some (0,[.int .i64 c,B6 rQ (inQ c (8-j).toNat j x)])else none
 | _=>none
def yQ(c:Int)(j:Int)(x:(Option (List (D1×Int×Int×Int×Int×Int×Int×Int×D1))))(hc:1114113≤c∧c≤1114134∧0≤j∧j≤8∧x≠none):mR [.int .i64 c,.int .i64 j,B6 rQ x]=some (0,[.int .i64 c,B6 rQ (inQ c (8-j).toNat j x)]):=by
 simp only[mR,G9,D8];exact A4 hc
def EJ:Q8:=⟨[(1,.map (some 6)),(2,h 0 3),(14,h 1 3)],[(6,.mp 2 19 81)],3,[⟨.exit 2,[(1,.map (some 6)),(2,h 0 3)],[(6,.mp 1 19 81)],2⟩]⟩
noncomputable def A0n:Code:=(f72.body).getD .skip
noncomputable def A7G:Code:=match I0 [true,true,false,true,false,false,true,false,false,true,false] A0n with|some (.loop x)=>x|_=>.skip
def EI:f72.body=some A0n:=rfl
def EH:I0 [true,true,false,true,false,false,true,false,false,true,false] A0n=some (.loop A7G):=D0
def A7H:Tr:=S6 1 3 8 (.fn tZ [.bool false,.bool false,.bool false,.bool false,.bool false,.bool false,.bool false,.bool false,.bool false,.bool false,.bool false,jI 0,.bool false,jI 1,h3 0,h3 1,jI 0,jI 0,jI 0,jI 0,.string ⟨⟨[]⟩⟩] 1<|.dt 19 (.mput 9 1) [h 2 19,h 4 9,jI 1,h3 0,h3 1,jI 0,jI 0,jI 0,jI 0,.string ⟨⟨[]⟩⟩]<|.fn tZ [.bool false,.bool false,.bool true,.bool false,.bool false,.bool false,.bool false,.bool false,.bool false,.bool false,.bool false,jI 0,.bool false,jI 1,h3 0,h3 1,jI 0,jI 0,jI 0,jI 0,.string ⟨⟨[]⟩⟩] 1<|.dt 19 (.mput 9 1) [h 5 19,h 6 9,jI 1,h3 0,h3 1,jI 0,jI 0,jI 0,jI 0,.string ⟨⟨[]⟩⟩]<|aA [h3 1,jI 1]<|.ret [jI (-1),h3 0,h3 8,h 7 19]) (.ret [jI 0,h3 0,h 2 19])
def A0m:List U→Nat
 | [.int .i64 c,.int .i64 j,u_x]=>(match J8 rQ u_x with|some x=>(8-j).toNat|none=>0)
 | _=>0
def A0l(c:Int)(j:Int)(x:(Option (List (D1×Int×Int×Int×Int×Int×Int×Int×D1)))):A0m [.int .i64 c,.int .i64 j,B6 rQ x]=(8-j).toNat:=by
 simp only[A0m,G9]
def LQ{G}(hst:L9 G):∀ (E:Nat→U) (base:Nat),@X1 ⟨E,G⟩ prog base gl f72.ntmps A7G (P3 prog gl n0 7 EJ mR):=by
 refine l6 (dep:=60) (f:=72) (n0:=n0) (nB:=7) (H0:=H0) A0m A7H (cxg (B4R.2 hst) .nil) hst func72 EI EH D0 D0 D0 ?_;intro us d outs hs;have hs0:=hs;unfold mR at hs;split at hs
 ·skip;rename_i c j u_x;have hq_x:=A9.1 hs;clear hs;obtain⟨x,hd_x,hs⟩:=hq_x;replace hd_x:=G1 hd_x;subst hd_x;split at hs
  ·rename_i hc;clear hs hs0;refine⟨rfl,?_⟩;unfold A7H;refine w0 (.cons 2 _ (.cons 1 _ (.cons 0 _ (.nil)))) ?_;repeat (first|refine w31 tZ (e:=JQ _ _ _ _ _ _ _ _ _ _ _ _ _ _ _ _ _ _ _ _ _ (B2s A1 A1 A1 A1)) (k':=?_)|refine y7 ?_|refine V4 ?_|refine cD ?_|refine w4 (fun g=>?_) fun g=>?_|refine w2 (.mput 9 1) (r:=rQ) (e:=bK qq (qR (keS false c j) c j) rfl rfl (fun _=>rfl) (by first|exact hc.2.2.2.2|exact nn2 hc.2.2.2.2|exact hc.2.2|exact nn2 hc.2.2)) (k':=?_)|refine w2 (.mput 9 1) (r:=rQ) (e:=bK qq (qR (keS true c j) c j) rfl rfl (fun _=>rfl) (by first|exact hc.2.2.2.2|exact nn2 hc.2.2.2.2|exact hc.2.2|exact nn2 hc.2.2)) (k':=?_)|(refine w7 [.int .i64 _,.int .i64 _,.int .i64 _,B6 rQ _] ?_;rotate_left)|(refine w7 [.int .i64 _,.int .i64 _,B6 rQ _] ?_;rotate_left))
   all_goals first
    | refine P4 ?_ ?_
      ·rw[yQ c (j+1) _ ⟨A1,A1,A1,A1,nn2 (nn2 hc.2.2.2.2)⟩,yQ c j x hc,B3G (c:=c) (j:=j) (x:=x) A1]
      ·rw[A0l,A0l];omega
    | refine L7 (d:=0) ?_
      rw[yQ c j x hc,B3H A1]
  ·cases hs
 ·cases hs
noncomputable def B49:List LpE:=(72,([true,true,false,true,false,false,true,false,false,true,false],P3 prog gl n0 7 EJ mR))::[]
def A4L{G}(hst:L9 G):r7 prog G gl B49:=.cons func72 EI EH (LQ hst) .nil
def XW:List Qt:=[([27,91,90],1,1114136,1,0,0,0,0,[]),([27,91,79],4,0,0,0,0,0,0,[]),([27,91,73],4,0,0,1,0,0,0,[])]
def uQ:List Qt:=[([27,91,90],1,1114136,1,0,0,0,0,[]),([27,91,79],4,0,0,0,0,0,0,[]),([27,91,73],4,0,0,1,0,0,0,[]),([27,91,65],1,1114113,0,0,0,0,0,[]),([27,79,65],1,1114113,0,0,0,0,0,[]),([27,91,49,59,50,65],1,1114113,1,0,0,0,0,[]),([27,91,49,59,51,65],1,1114113,2,0,0,0,0,[]),([27,91,49,59,52,65],1,1114113,3,0,0,0,0,[]),([27,91,49,59,53,65],1,1114113,4,0,0,0,0,[]),([27,91,49,59,54,65],1,1114113,5,0,0,0,0,[]),([27,91,49,59,55,65],1,1114113,6,0,0,0,0,[]),([27,91,49,59,56,65],1,1114113,7,0,0,0,0,[]),([27,91,66],1,1114114,0,0,0,0,0,[]),([27,79,66],1,1114114,0,0,0,0,0,[]),([27,91,49,59,50,66],1,1114114,1,0,0,0,0,[]),([27,91,49,59,51,66],1,1114114,2,0,0,0,0,[]),([27,91,49,59,52,66],1,1114114,3,0,0,0,0,[]),([27,91,49,59,53,66],1,1114114,4,0,0,0,0,[]),([27,91,49,59,54,66],1,1114114,5,0,0,0,0,[]),([27,91,49,59,55,66],1,1114114,6,0,0,0,0,[]),([27,91,49,59,56,66],1,1114114,7,0,0,0,0,[]),([27,91,67],1,1114115,0,0,0,0,0,[]),([27,79,67],1,1114115,0,0,0,0,0,[]),([27,91,49,59,50,67],1,1114115,1,0,0,0,0,[]),([27,91,49,59,51,67],1,1114115,2,0,0,0,0,[]),([27,91,49,59,52,67],1,1114115,3,0,0,0,0,[]),([27,91,49,59,53,67],1,1114115,4,0,0,0,0,[]),([27,91,49,59,54,67],1,1114115,5,0,0,0,0,[]),([27,91,49,59,55,67],1,1114115,6,0,0,0,0,[]),([27,91,49,59,56,67],1,1114115,7,0,0,0,0,[]),([27,91,68],1,1114116,0,0,0,0,0,[]),([27,79,68],1,1114116,0,0,0,0,0,[]),([27,91,49,59,50,68],1,1114116,1,0,0,0,0,[]),([27,91,49,59,51,68],1,1114116,2,0,0,0,0,[]),([27,91,49,59,52,68],1,1114116,3,0,0,0,0,[]),([27,91,49,59,53,68],1,1114116,4,0,0,0,0,[]),([27,91,49,59,54,68],1,1114116,5,0,0,0,0,[]),([27,91,49,59,55,68],1,1114116,6,0,0,0,0,[]),([27,91,49,59,56,68],1,1114116,7,0,0,0,0,[]),([27,91,70],1,1114117,0,0,0,0,0,[]),([27,79,70],1,1114117,0,0,0,0,0,[]),([27,91,49,59,50,70],1,1114117,1,0,0,0,0,[]),([27,91,49,59,51,70],1,1114117,2,0,0,0,0,[]),([27,91,49,59,52,70],1,1114117,3,0,0,0,0,[]),([27,91,49,59,53,70],1,1114117,4,0,0,0,0,[]),([27,91,49,59,54,70],1,1114117,5,0,0,0,0,[]),([27,91,49,59,55,70],1,1114117,6,0,0,0,0,[]),([27,91,49,59,56,70],1,1114117,7,0,0,0,0,[]),([27,91,72],1,1114118,0,0,0,0,0,[]),([27,79,72],1,1114118,0,0,0,0,0,[]),([27,91,49,59,50,72],1,1114118,1,0,0,0,0,[]),([27,91,49,59,51,72],1,1114118,2,0,0,0,0,[]),([27,91,49,59,52,72],1,1114118,3,0,0,0,0,[]),([27,91,49,59,53,72],1,1114118,4,0,0,0,0,[]),([27,91,49,59,54,72],1,1114118,5,0,0,0,0,[]),([27,91,49,59,55,72],1,1114118,6,0,0,0,0,[]),([27,91,49,59,56,72],1,1114118,7,0,0,0,0,[]),([27,79,80],1,1114119,0,0,0,0,0,[]),([27,91,49,59,50,80],1,1114119,1,0,0,0,0,[]),([27,91,49,59,51,80],1,1114119,2,0,0,0,0,[]),([27,91,49,59,52,80],1,1114119,3,0,0,0,0,[]),([27,91,49,59,53,80],1,1114119,4,0,0,0,0,[]),([27,91,49,59,54,80],1,1114119,5,0,0,0,0,[]),([27,91,49,59,55,80],1,1114119,6,0,0,0,0,[]),([27,91,49,59,56,80],1,1114119,7,0,0,0,0,[]),([27,79,81],1,1114120,0,0,0,0,0,[]),([27,91,49,59,50,81],1,1114120,1,0,0,0,0,[]),([27,91,49,59,51,81],1,1114120,2,0,0,0,0,[]),([27,91,49,59,52,81],1,1114120,3,0,0,0,0,[]),([27,91,49,59,53,81],1,1114120,4,0,0,0,0,[]),([27,91,49,59,54,81],1,1114120,5,0,0,0,0,[]),([27,91,49,59,55,81],1,1114120,6,0,0,0,0,[]),([27,91,49,59,56,81],1,1114120,7,0,0,0,0,[]),([27,79,82],1,1114121,0,0,0,0,0,[]),([27,91,49,59,50,82],1,1114121,1,0,0,0,0,[]),([27,91,49,59,51,82],1,1114121,2,0,0,0,0,[]),([27,91,49,59,52,82],1,1114121,3,0,0,0,0,[]),([27,91,49,59,53,82],1,1114121,4,0,0,0,0,[]),([27,91,49,59,54,82],1,1114121,5,0,0,0,0,[]),([27,91,49,59,55,82],1,1114121,6,0,0,0,0,[]),([27,91,49,59,56,82],1,1114121,7,0,0,0,0,[]),([27,79,83],1,1114122,0,0,0,0,0,[]),([27,91,49,59,50,83],1,1114122,1,0,0,0,0,[]),([27,91,49,59,51,83],1,1114122,2,0,0,0,0,[]),([27,91,49,59,52,83],1,1114122,3,0,0,0,0,[]),([27,91,49,59,53,83],1,1114122,4,0,0,0,0,[]),([27,91,49,59,54,83],1,1114122,5,0,0,0,0,[]),([27,91,49,59,55,83],1,1114122,6,0,0,0,0,[]),([27,91,49,59,56,83],1,1114122,7,0,0,0,0,[]),([27,91,50,126],1,1114123,0,0,0,0,0,[]),([27,91,50,59,50,126],1,1114123,1,0,0,0,0,[]),([27,91,50,59,51,126],1,1114123,2,0,0,0,0,[]),([27,91,50,59,52,126],1,1114123,3,0,0,0,0,[]),([27,91,50,59,53,126],1,1114123,4,0,0,0,0,[]),([27,91,50,59,54,126],1,1114123,5,0,0,0,0,[]),([27,91,50,59,55,126],1,1114123,6,0,0,0,0,[]),([27,91,50,59,56,126],1,1114123,7,0,0,0,0,[]),([27,91,51,126],1,1114124,0,0,0,0,0,[]),([27,91,51,59,50,126],1,1114124,1,0,0,0,0,[]),([27,91,51,59,51,126],1,1114124,2,0,0,0,0,[]),([27,91,51,59,52,126],1,1114124,3,0,0,0,0,[]),([27,91,51,59,53,126],1,1114124,4,0,0,0,0,[]),([27,91,51,59,54,126],1,1114124,5,0,0,0,0,[]),([27,91,51,59,55,126],1,1114124,6,0,0,0,0,[]),([27,91,51,59,56,126],1,1114124,7,0,0,0,0,[]),([27,91,53,126],1,1114125,0,0,0,0,0,[]),([27,91,53,59,50,126],1,1114125,1,0,0,0,0,[]),([27,91,53,59,51,126],1,1114125,2,0,0,0,0,[]),([27,91,53,59,52,126],1,1114125,3,0,0,0,0,[]),([27,91,53,59,53,126],1,1114125,4,0,0,0,0,[]),([27,91,53,59,54,126],1,1114125,5,0,0,0,0,[]),([27,91,53,59,55,126],1,1114125,6,0,0,0,0,[]),([27,91,53,59,56,126],1,1114125,7,0,0,0,0,[]),([27,91,54,126],1,1114126,0,0,0,0,0,[]),([27,91,54,59,50,126],1,1114126,1,0,0,0,0,[]),([27,91,54,59,51,126],1,1114126,2,0,0,0,0,[]),([27,91,54,59,52,126],1,1114126,3,0,0,0,0,[]),([27,91,54,59,53,126],1,1114126,4,0,0,0,0,[]),([27,91,54,59,54,126],1,1114126,5,0,0,0,0,[]),([27,91,54,59,55,126],1,1114126,6,0,0,0,0,[]),([27,91,54,59,56,126],1,1114126,7,0,0,0,0,[]),([27,91,49,53,126],1,1114127,0,0,0,0,0,[]),([27,91,49,53,59,50,126],1,1114127,1,0,0,0,0,[]),([27,91,49,53,59,51,126],1,1114127,2,0,0,0,0,[]),([27,91,49,53,59,52,126],1,1114127,3,0,0,0,0,[]),([27,91,49,53,59,53,126],1,1114127,4,0,0,0,0,[]),([27,91,49,53,59,54,126],1,1114127,5,0,0,0,0,[]),([27,91,49,53,59,55,126],1,1114127,6,0,0,0,0,[]),([27,91,49,53,59,56,126],1,1114127,7,0,0,0,0,[]),([27,91,49,55,126],1,1114128,0,0,0,0,0,[]),([27,91,49,55,59,50,126],1,1114128,1,0,0,0,0,[]),([27,91,49,55,59,51,126],1,1114128,2,0,0,0,0,[]),([27,91,49,55,59,52,126],1,1114128,3,0,0,0,0,[]),([27,91,49,55,59,53,126],1,1114128,4,0,0,0,0,[]),([27,91,49,55,59,54,126],1,1114128,5,0,0,0,0,[]),([27,91,49,55,59,55,126],1,1114128,6,0,0,0,0,[]),([27,91,49,55,59,56,126],1,1114128,7,0,0,0,0,[]),([27,91,49,56,126],1,1114129,0,0,0,0,0,[]),([27,91,49,56,59,50,126],1,1114129,1,0,0,0,0,[]),([27,91,49,56,59,51,126],1,1114129,2,0,0,0,0,[]),([27,91,49,56,59,52,126],1,1114129,3,0,0,0,0,[]),([27,91,49,56,59,53,126],1,1114129,4,0,0,0,0,[]),([27,91,49,56,59,54,126],1,1114129,5,0,0,0,0,[]),([27,91,49,56,59,55,126],1,1114129,6,0,0,0,0,[]),([27,91,49,56,59,56,126],1,1114129,7,0,0,0,0,[]),([27,91,49,57,126],1,1114130,0,0,0,0,0,[]),([27,91,49,57,59,50,126],1,1114130,1,0,0,0,0,[]),([27,91,49,57,59,51,126],1,1114130,2,0,0,0,0,[]),([27,91,49,57,59,52,126],1,1114130,3,0,0,0,0,[]),([27,91,49,57,59,53,126],1,1114130,4,0,0,0,0,[]),([27,91,49,57,59,54,126],1,1114130,5,0,0,0,0,[]),([27,91,49,57,59,55,126],1,1114130,6,0,0,0,0,[]),([27,91,49,57,59,56,126],1,1114130,7,0,0,0,0,[]),([27,91,50,48,126],1,1114131,0,0,0,0,0,[]),([27,91,50,48,59,50,126],1,1114131,1,0,0,0,0,[]),([27,91,50,48,59,51,126],1,1114131,2,0,0,0,0,[]),([27,91,50,48,59,52,126],1,1114131,3,0,0,0,0,[]),([27,91,50,48,59,53,126],1,1114131,4,0,0,0,0,[]),([27,91,50,48,59,54,126],1,1114131,5,0,0,0,0,[]),([27,91,50,48,59,55,126],1,1114131,6,0,0,0,0,[]),([27,91,50,48,59,56,126],1,1114131,7,0,0,0,0,[]),([27,91,50,49,126],1,1114132,0,0,0,0,0,[]),([27,91,50,49,59,50,126],1,1114132,1,0,0,0,0,[]),([27,91,50,49,59,51,126],1,1114132,2,0,0,0,0,[]),([27,91,50,49,59,52,126],1,1114132,3,0,0,0,0,[]),([27,91,50,49,59,53,126],1,1114132,4,0,0,0,0,[]),([27,91,50,49,59,54,126],1,1114132,5,0,0,0,0,[]),([27,91,50,49,59,55,126],1,1114132,6,0,0,0,0,[]),([27,91,50,49,59,56,126],1,1114132,7,0,0,0,0,[]),([27,91,50,51,126],1,1114133,0,0,0,0,0,[]),([27,91,50,51,59,50,126],1,1114133,1,0,0,0,0,[]),([27,91,50,51,59,51,126],1,1114133,2,0,0,0,0,[]),([27,91,50,51,59,52,126],1,1114133,3,0,0,0,0,[]),([27,91,50,51,59,53,126],1,1114133,4,0,0,0,0,[]),([27,91,50,51,59,54,126],1,1114133,5,0,0,0,0,[]),([27,91,50,51,59,55,126],1,1114133,6,0,0,0,0,[]),([27,91,50,51,59,56,126],1,1114133,7,0,0,0,0,[]),([27,91,50,52,126],1,1114134,0,0,0,0,0,[]),([27,91,50,52,59,50,126],1,1114134,1,0,0,0,0,[]),([27,91,50,52,59,51,126],1,1114134,2,0,0,0,0,[]),([27,91,50,52,59,52,126],1,1114134,3,0,0,0,0,[]),([27,91,50,52,59,53,126],1,1114134,4,0,0,0,0,[]),([27,91,50,52,59,54,126],1,1114134,5,0,0,0,0,[]),([27,91,50,52,59,55,126],1,1114134,6,0,0,0,0,[]),([27,91,50,52,59,56,126],1,1114134,7,0,0,0,0,[])]
def A92:otQ 22 1114113 (some XW)=some uQ:=D0
def A29(a b:Qt):Bool:=a.1 == b.1 && (a.2.1 == b.2.1 && (a.2.2.1 == b.2.2.1 && (a.2.2.2.1 == b.2.2.2.1 && (a.2.2.2.2.1 == b.2.2.2.2.1 && (a.2.2.2.2.2.1 == b.2.2.2.2.2.1 && (a.2.2.2.2.2.2.1 == b.2.2.2.2.2.2.1 && (a.2.2.2.2.2.2.2.1 == b.2.2.2.2.2.2.2.1 && (a.2.2.2.2.2.2.2.2 == b.2.2.2.2.2.2.2.2 && true))))))))
def B02{x y:Qt}(h:A29 x y=true):x=y:=by
 obtain⟨a1,a2,a3,a4,a5,a6,a7,a8,a9⟩:=x;obtain⟨b1,b2,b3,b4,b5,b6,b7,b8,b9⟩:=y;simp[A29]at h;obtain⟨h1,h2,h3,h4,h5,h6,h7,h8,h9⟩:=h;subst h1 h2 h3 h4 h5 h6 h7 h8 h9;rfl
def A3B:List Qt→List Qt→Bool
 | [],[]=>true
 | a::l,b::r=>A29 a b && A3B l r
 | _,_=>false
def A3A:∀ {l r:List Qt},A3B l r=true→l=r
 | [],[],_=>rfl
 | a::l,b::r,h=>by
   have h:(A29 a b && A3B l r)=true:=h;rw[I7]at h;rw[B02 h.1,A3A h.2]
 | [],_::_,h=>by cases h
 | _::_,[],h=>by cases h
def B0c(c:Int)(x:Option (List Qt)):Bool:=match x with
 | some l=>decide (c=1114113) && A3B l XW
 | none=>false
def B0b{x:Option (List Qt)}(h:B0c c x=true):c=1114113∧x=some XW:=by
 cases x with
 | none=>cases h
 | some l =>
   have h:(decide (c=1114113) && A3B l XW)=true:=h;rw[I7]at h;exact⟨J0 h.1,by rw[A3A h.2]⟩
def otF(c:Int)(x:Option (List Qt)):Option (List Qt):=if B0c c x=true then some uQ else otQ (1114135-c).toNat c x
def RO(c:Int)(x:Option (List Qt)):otF c x=otQ (1114135-c).toNat c x:=by
 unfold otF;by_cases h:B0c c x=true
 ·obtain⟨h1,h2⟩:=B0b h;rw[A4 h,h1,h2];exact A92.symm
 ·rw[A3 h]
noncomputable def B4P:Q1:=⟨_,fun hst=>(.cons (lW hst) .nil)⟩
def jM:List U→Option (Nat×List U)
 | [.int .i64 c,u_x]=>(J8 rQ u_x).bind fun x=>if 1114113≤c∧c≤1114135∧x≠none then some (0,[B6 rQ (otF c x)])else none
 | _=>none
def yP(c:Int)(x:(Option (List (D1×Int×Int×Int×Int×Int×Int×Int×D1))))(hc:1114113≤c∧c≤1114135∧x≠none):jM [.int .i64 c,B6 rQ x]=some (0,[B6 rQ (otF c x)]):=by
 simp only[jM,G9,D8];exact A4 hc
def LP:Q8:=⟨[(1,.map (some 6)),(2,h 0 3)],[(6,.mp 1 19 81)],2,[⟨.exit 0,[(1,.map (some 6))],[(6,.mp 0 19 81)],1⟩]⟩
noncomputable def A0h:Code:=(f72.body).getD .skip
noncomputable def A7C:Code:=match I0 [true,true,false,true,false] A0h with|some (.loop x)=>x|_=>.skip
def LO:f72.body=some A0h:=rfl
def LN:I0 [true,true,false,true,false] A0h=some (.loop A7C):=D0
def A7D:Tr:=W9 0 2 1114134 (.fn mR [h3 0,jI 0,h 1 19] 2<|aA [h3 3,jI 1]<|.ret [jI (-1),h3 5,h 4 19]) (.ret [jI 0,h 1 19])
def A0g:List U→Nat
 | [.int .i64 c,u_x]=>(match J8 rQ u_x with|some x=>(1114135-c).toNat|none=>0)
 | _=>0
def A0f(c:Int)(x:(Option (List (D1×Int×Int×Int×Int×Int×Int×Int×D1)))):A0g [.int .i64 c,B6 rQ x]=(1114135-c).toNat:=by
 simp only[A0g,G9]
def TX{G}(hst:L9 G):∀ (E:Nat→U) (base:Nat),@X1 ⟨E,G⟩ prog base gl f72.ntmps A7C (P3 prog gl n0 7 LP jM):=by
 refine l6 (dep:=60) (f:=72) (n0:=n0) (nB:=7) (H0:=H0) A0g A7D (cxg (B4P.2 hst) (A4L hst)) hst func72 LO LN D0 D0 D0 ?_;intro us d outs hs;have hs0:=hs;unfold jM at hs;split at hs
 ·skip;rename_i c u_x;have hq_x:=A9.1 hs;clear hs;obtain⟨x,hd_x,hs⟩:=hq_x;replace hd_x:=G1 hd_x;subst hd_x;split at hs
  ·rename_i hc;clear hs hs0;refine⟨rfl,?_⟩;unfold A7D;refine w0 (.cons 1 _ (.cons 0 _ (.nil))) ?_;repeat (first|refine y7 ?_|refine V4 ?_|refine mN ?_|refine w4 (fun g=>?_) fun g=>?_|refine w32 mR (e:=yQ _ _ _ ⟨A1,A1,A1,A1,hc.2.2⟩) (k':=?_)|(refine w7 [.int .i64 _,.int .i64 _,B6 rQ _] ?_;rotate_left)|(refine w7 [.int .i64 _,B6 rQ _] ?_;rotate_left))
   all_goals first
    | refine P4 ?_ ?_
      ·rw[yP (c+1) _ ⟨A1,A1,A8Z _ _ hc.2.2⟩,yP c x hc,RO,RO,B2R (c:=c) (x:=x) A1];rfl
      ·rw[A0f,A0f];omega
    | refine L7 (d:=0) ?_
      rw[yP c x hc,RO,B2S A1]
  ·cases hs
 ·cases hs
def S3(b:Int):Int:=if b<128 then 1 else if 194≤b∧b<224 then 2 else if 224≤b∧b<240 then 3 else if 240≤b∧b≤244 then 4 else 0
def loB(b:Int):Int:=if b=224 then 160 else if b=240 then 144 else 128
def hiB(b:Int):Int:=if b=237 then 159 else if b=244 then 143 else 191
def okT:List Int→Int→Int→Bool
 | [],_,_=>true
 | b::r,lo,hi=>decide (lo≤b∧b≤hi) && okT r 128 191
def knd(l:List Int):Int:=if S3 (l.getD 0 0)<(l.length:Int)then 0 else if okT (l.drop 1) (loB (l.getD 0 0)) (hiB (l.getD 0 0))=true then(if(l.length:Int)<S3 (l.getD 0 0)then 1 else 2)else 0
def B2X(h:¬i<(l.length:Int)):okT (l.drop i.toNat) lo hi=true:=by rw[v8 l A1];rfl
def B2W(h0:0≤i)(h1:i<(l.length:Int))(h:l.getD i.toNat default<lo∨hi<l.getD i.toNat default):okT (l.drop i.toNat) lo hi=false:=by
 rw[R3 l h0 h1];show(decide _ && _)=false;rw[F6 A1,Z6]
def B2V(h0:0≤i)(h1:i<(l.length:Int))(h:lo≤l.getD i.toNat default)(h2:l.getD i.toNat default≤hi):okT (l.drop i.toNat) lo hi=okT (l.drop (i+1).toNat) 128 191:=by
 rw[R3 l h0 h1];show(decide _ && _)=_;rw[F4 ⟨h,h2⟩,x5]
noncomputable def B4J:Q1:=⟨_,fun hst=>.nil⟩
def KZ:List U→Option (Nat×List U)
 | [.int .u8 b]=>if 0≤b∧b<256 then some (0,[.int .i64 (S3 b)])else none
 | _=>none
def A4j(b:Int)(hc:0≤b∧b<256):KZ [.int .u8 b]=some (0,[.int .i64 (S3 b)]):=A4 hc
def A0B(n:Nat):Tr:=aL [h 0 4,.int .u8 (128)]<|.br n (K8 1) (K8 0)
def A0A(n:Nat):Tr:=aH [h 0 4,.int .u8 (194)]<|.br n (aL [h 0 4,.int .u8 (224)]<|.br (n+1) (K8 2) (A0B (n+2))) (A0B (n+1))
def ZZ(n:Nat):Tr:=aH [h 0 4,.int .u8 (224)]<|.br n (aL [h 0 4,.int .u8 (240)]<|.br (n+1) (K8 3) (A0A (n+2))) (A0A (n+1))
def A6q:Tr:=aH [h 0 4,.int .u8 (240)]<|.br 1 (aQ [h 0 4,.int .u8 (244)]<|.br 2 (K8 4) (ZZ 3)) (ZZ 2)
def A6r{G}(hst:L9 G):M2 prog G 152 [.s 4] KZ [.s 3]:=by
 refine F1 (d:=60) A6q (cxg (B4J.2 hst) .nil) hst ⟨f152,_,func152,rfl⟩ D0 D0 ?_;intro us outs hs;unfold KZ at hs;split at hs
 ·skip;rename_i b;split at hs
  ·rename_i hc;cases hs;unfold A6q;refine w0 (.cons 0 _ (.nil)) ?_;repeat (first|(refine w7 [.int .i64 _] ?_;rotate_left)|refine w4 (fun g=>?_) fun g=>?_|refine cD ?_|refine jK ?_|refine mN ?_)
   all_goals
    first
    | (exfalso;omega)
    | (refine l0 ?_;unfold S3;repeat (first|rw[A3 A1]|rw[A4 A1]))
  ·cases hs
 ·cases hs
noncomputable def B4G:Q1:=⟨_,fun hst=>.nil⟩
def KY:List U→Option (Nat×List U)
 | [.int .u8 b]=>if 0≤b∧b<256 then some (0,[.int .u8 (loB b),.int .u8 (hiB b)])else none
 | _=>none
def A4h(b:Int)(hc:0≤b∧b<256):KY [.int .u8 b]=some (0,[.int .u8 (loB b),.int .u8 (hiB b)]):=A4 hc
def A6l:Tr:=aE [h 0 4,.int .u8 (224)]<|.br 1 (.ret [.int .u8 (160),.int .u8 (191)]) (aE [h 0 4,.int .u8 (237)]<|.br 2 (.ret [.int .u8 (128),.int .u8 (159)]) (aE [h 0 4,.int .u8 (240)]<|.br 3 (.ret [.int .u8 (144),.int .u8 (191)]) (aE [h 0 4,.int .u8 (244)]<|.br 4 (.ret [.int .u8 (128),.int .u8 (143)]) (.ret [.int .u8 (128),.int .u8 (191)]))))
def A6m{G}(hst:L9 G):M2 prog G 153 [.s 4] KY [.s 4,.s 4]:=by
 refine F1 (d:=60) A6l (cxg (B4G.2 hst) .nil) hst ⟨f153,_,func153,rfl⟩ D0 D0 ?_;intro us outs hs;unfold KY at hs;split at hs
 ·skip;rename_i b;split at hs
  ·rename_i hc;cases hs;unfold A6l;refine w0 (.cons 0 _ (.nil)) ?_;refine U1 ?_;refine w4 (fun g0=>?_) fun g0=>?_
   ·refine w7 [.int .u8 _,.int .u8 _] ?_;first
    | (subst g0;rfl)
    | (unfold loB hiB;repeat (first|rw[A3 A1]|rw[A4 A1]))
   refine U1 ?_;refine w4 (fun g1=>?_) fun g1=>?_
   ·refine w7 [.int .u8 _,.int .u8 _] ?_;first
    | (subst g0;rfl)
    | (unfold loB hiB;repeat (first|rw[A3 A1]|rw[A4 A1]))
   refine U1 ?_;refine w4 (fun g2=>?_) fun g2=>?_
   ·refine w7 [.int .u8 _,.int .u8 _] ?_;first
    | (subst g0;rfl)
    | (unfold loB hiB;repeat (first|rw[A3 A1]|rw[A4 A1]))
   refine U1 ?_;refine w4 (fun g3=>?_) fun g3=>?_
   ·refine w7 [.int .u8 _,.int .u8 _] ?_;first
    | (subst g0;rfl)
    | (unfold loB hiB;repeat (first|rw[A3 A1]|rw[A4 A1]))
   refine w7 [.int .u8 _,.int .u8 _] ?_;first
   | (subst g0;rfl)
   | (unfold loB hiB;repeat (first|rw[A3 A1]|rw[A4 A1]))
  ·cases hs
 ·cases hs
def okO(b:Bool):Option Unit:=if b then none else some ()
def A7v{b:Bool}(h:okO b=none):b=true:=by cases b<;>first|rfl|cases h
def B2Y{b:Bool}{u:Unit}(h:okO b=some u):b=false:=by cases b<;>first|rfl|cases h
noncomputable def B4K:Q1:=⟨_,fun hst=>(.cons (A6r hst) (.cons (A6m hst) .nil))⟩
def wE:List U→Option (Nat×List U)
 | [u_p,.int .i64 n,.int .u8 lo,.int .u8 hi,u_q,.int .i64 m,.int .i64 i]=>(J8 rB u_p).bind fun p=>(J8 rB u_q).bind fun q=>if m=((el q).length:Int)∧0≤i∧i≤((el q).length:Int)∧((el q).length:Int)≤1000∧0≤lo∧lo<256∧0≤hi∧hi<256 then fT (okO (okT ((el q).drop i.toNat) lo hi)) [B6 rB p,.int .i64 n] (fun _=>[])else none
 | _=>none
def rV(p:E0)(n:Int)(lo:Int)(hi:Int)(q:E0)(m:Int)(i:Int)(hc:m=((el q).length:Int)∧0≤i∧i≤((el q).length:Int)∧((el q).length:Int)≤1000∧0≤lo∧lo<256∧0≤hi∧hi<256):wE [B6 rB p,.int .i64 n,.int .u8 lo,.int .u8 hi,B6 rB q,.int .i64 m,.int .i64 i]=fT (okO (okT ((el q).drop i.toNat) lo hi)) [B6 rB p,.int .i64 n] (fun _=>[]):=by
 simp only[wE,G9,D8];exact A4 hc
def A6w:Q8:=⟨[(0,dat 7 0 11),(3,h 1 3),(4,h 2 4),(5,h 3 4),(24,dat 8 4 11),(25,h 5 3),(26,h 6 3)],[(7,.frz),(8,.frz)],7,[⟨.exit 0,[(0,dat 9 0 11),(3,h 1 3)],[(9,.frz)],2⟩,⟨.ret,[(2,.int .i64 (0))],[],0⟩]⟩
noncomputable def A0E:Code:=(f140.body).getD .skip
noncomputable def A6s:Code:=match I0 [true,true,true,true,false,true,false] A0E with|some (.loop x)=>x|_=>.skip
def A6v:f140.body=some A0E:=rfl
def A6u:I0 [true,true,true,true,false,true,false] A0E=some (.loop A6s):=D0
def x7(a0:Nat)(a1:Nat)(a2:Nat)(k0:Tr):Tr:=.lt 8 (.inbs 1) [h3 a0,h a1 11]<|.br a2 k0 .no
def A6t:Tr:=p7 6 5 7 (x7 6 4 8 (.lt 4 (.get 1 0) [h 4 11,h3 6]<|aL [h 9 4,h 2 4]<|.br 10 (K8 1) (aG [h 9 4,h 3 4]<|.br 11 (K8 1) (aA [h3 6,jI 1]<|.ret [jI (-1),h 0 11,h3 1,.int .u8 (128),.int .u8 (191),h 4 11,h3 5,h3 12])))) (.ret [jI 0,h 0 11,h3 1])
def A0D:List U→Nat
 | [u_p,.int .i64 n,.int .u8 lo,.int .u8 hi,u_q,.int .i64 m,.int .i64 i]=>(match J8 rB u_p with|some p=>(match J8 rB u_q with|some q=>(((el q).length:Int)-i).toNat|none=>0)|none=>0)
 | _=>0
def A0C(p:E0)(n:Int)(lo:Int)(hi:Int)(q:E0)(m:Int)(i:Int):A0D [B6 rB p,.int .i64 n,.int .u8 lo,.int .u8 hi,B6 rB q,.int .i64 m,.int .i64 i]=(((el q).length:Int)-i).toNat:=by
 simp only[A0D,G9]
def B1e{G}(hst:L9 G):∀ (E:Nat→U) (base:Nat),@X1 ⟨E,G⟩ prog base gl f140.ntmps A6s (P3 prog gl n0 10 A6w wE):=by
 refine l6 (dep:=60) (f:=140) (n0:=n0) (nB:=10) (H0:=H0) A0D A6t (cxg (B4K.2 hst) .nil) hst func140 A6v A6u D0 D0 D0 ?_;intro us d outs hs;have hs0:=hs;unfold wE at hs;split at hs
 ·skip;rename_i u_p n lo hi u_q m i;have hq_p:=A9.1 hs;clear hs;obtain⟨p,hd_p,hs⟩:=hq_p;replace hd_p:=G1 hd_p;subst hd_p;have hq_q:=A9.1 hs;clear hs;obtain⟨q,hd_q,hs⟩:=hq_q;replace hd_q:=G1 hd_q;subst hd_q;split at hs
  ·rename_i hc;clear hs hs0;refine⟨rfl,?_⟩;unfold A6t;refine w0 (.cons 6 _ (.cons 5 _ (.cons 4 _ (.cons 3 _ (.cons 2 _ (.cons 1 _ (.cons 0 _ (.nil)))))))) ?_;repeat (first|refine w4 (fun g=>?_) fun g=>?_|refine cD ?_|(refine w7 [.int .i64 _] ?_;rotate_left)|refine y7 ?_|refine V4 ?_|refine eH ?_|refine w1 (.get 1 0) (u:=.int .u8 _) (e:=J6 rfl A1 A1 rfl) (k':=?_)|refine mO ?_|(refine w7 [.int .i64 _,B6 rB _,.int .i64 _,.int .u8 _,.int .u8 _,B6 rB _,.int .i64 _,.int .i64 _] ?_;rotate_left)|(refine w8 ?_;first|omega)|(refine w7 [.int .i64 _,B6 rB _,.int .i64 _] ?_;rotate_left))
   all_goals first
    | refine P4 ?_ ?_
      ·rw[rV p n _ _ q m (i+1) ⟨hc.1,A1,A1,hc.2.2.2.1,A1,A1,A1,A1⟩,rV p n lo hi q m i hc,B2V (l:=el q) (i:=i) (lo:=lo) (hi:=hi) A1 A1 A1 A1]
      ·rw[A0C,A0C];omega
    | refine L7 (d:=0) ?_
      rw[rV p n lo hi q m i hc,B2X (l:=el q) (i:=i) A1];rfl
    | refine L7 (d:=1) ?_
      rw[rV p n lo hi q m i hc,B2W (l:=el q) (i:=i) A1 A1 A1];rfl
  ·cases hs
 ·cases hs
noncomputable def A6Z:List LpE:=[(140,([true,true,true,true,false,true,false],P3 prog gl n0 10 A6w wE))]
def CY{G}(hst:L9 G):r7 prog G gl A6Z:=(.cons func140 A6v A6u (B1e hst) .nil)
def el1(h:1≤((el p).length:Int)):el (L8 p (1:Int).toNat ((el p).length:Int).toNat)=(el p).drop 1:=by
 rw[K5];exact H1 (by simp)
def gt0(hb:∀ x ∈ el p,0≤x∧x<256)(h:1≤((el p).length:Int)):0≤(el p).getD 0 default∧(el p).getD 0 default<256:=by
 have:=fE (l:=el p) hb (i:=0) A1 A1;exact this
def A73 :0≤loB b∧loB b<256:=by unfold loB;(repeat' split)<;>omega
def A8l :0≤hiB b∧hiB b<256:=by unfold hiB;(repeat' split)<;>omega
def B2p(h:S3 (l.getD 0 0)<(l.length:Int)):0=knd l:=(A4 h).symm
def B2m(h:¬S3 (l.getD 0 0)<(l.length:Int))(h2:okT (l.drop 1) (loB (l.getD 0 0)) (hiB (l.getD 0 0))=false):0=knd l:=by
 unfold knd;rw[A3 h,A3 (by rw[h2];decide)]
def B2o(h:¬S3 (l.getD 0 0)<(l.length:Int))(h2:okT (l.drop 1) (loB (l.getD 0 0)) (hiB (l.getD 0 0))=true)(h3:(l.length:Int)<S3 (l.getD 0 0)):1=knd l:=by
 unfold knd;rw[A3 h,A4 h2,A4 h3]
def B2n(h:¬S3 (l.getD 0 0)<(l.length:Int))(h2:okT (l.drop 1) (loB (l.getD 0 0)) (hiB (l.getD 0 0))=true)(h3:¬(l.length:Int)<S3 (l.getD 0 0)):2=knd l:=by
 unfold knd;rw[A3 h,A4 h2,A3 h3]
def A1r{b:Bool}(h:1≤((el p).length:Int))(h2:okT ((el (L8 p (1:Int).toNat ((el p).length:Int).toNat)).drop (0:Int).toNat) lo hi=b):okT ((el p).drop 1) lo hi=b:=by
 rw[el1 h]at h2;exact h2
noncomputable def B4L:Q1:=⟨_,fun hst=>(.cons (A6r hst) (.cons (A6m hst) .nil))⟩
def iC:List U→Option (Nat×List U)
 | [u_p]=>(J8 rB u_p).bind fun p=>if 1≤((el p).length:Int)∧((el p).length:Int)≤1000∧(∀ x ∈ el p,0≤x∧x<256)then some (0,[.int .i64 (knd (el p))])else none
 | _=>none
def rW(p:E0)(hc:1≤((el p).length:Int)∧((el p).length:Int)≤1000∧(∀ x ∈ el p,0≤x∧x<256)):iC [B6 rB p]=some (0,[.int .i64 (knd (el p))]):=by
 simp only[iC,G9,D8];exact A4 hc
def x6(a0:Int)(a1:Nat)(a2:Nat)(k0:Tr):Tr:=.lt 8 (.inbs 1) [jI a0,h a1 11]<|.br a2 k0 .no
def A6x:Tr:=x6 0 0 1 (.lt 4 (.get 1 0) [h 0 11,jI 0]<|.fn KZ [h 2 4] 1<|aD [h 0 11]<|p7 3 4 5 (K8 0) (x6 0 0 6 (.lt 4 (.get 1 0) [h 0 11,jI 0]<|.fn KY [h 7 4] 2<|.dt 11 (.subs 1) [h 0 11,jI 1,h3 4]<|aD [h 10 11]<|.lp wE [h 0 11,h3 3,h 8 4,h 9 4,h 10 11,h3 11,jI 0] 0 2 (aD [h 12 11]<|p7 14 13 15 (K8 1) (K8 2)) (.lp wE [h 0 11,h3 3,h 8 4,h 9 4,h 10 11,h3 11,jI 0] 1 0 (K8 0) (.no)))))
def A0F{G}(hst:L9 G):M2 prog G 140 [.s 11] iC [.s 3]:=by
 refine F1 (d:=60) A6x (cxg (B4L.2 hst) (CY hst)) hst ⟨f140,_,func140,rfl⟩ D0 D0 ?_;intro us outs hs;unfold iC at hs;split at hs
 ·skip;rename_i u_p;have hq_p:=A9.1 hs;clear hs;obtain⟨p,hd_p,hs⟩:=hq_p;replace hd_p:=G1 hd_p;subst hd_p;split at hs
  ·rename_i hc;cases hs;have zg:=gt0 hc.2.2 hc.1;have zl:((el (L8 p (1:Int).toNat ((el p).length:Int).toNat)).length:Int)=((el p).length:Int)-1:=by
    rw[el1 hc.1,C9];omega
   unfold A6x;refine w0 (.cons 0 _ (.nil)) ?_;refine eH ?_;refine w5 (fun g0=>?_) fun g0=>?_
   ·refine w8 ?_;first|omega
   refine w1 (.get 1 0) (u:=.int .u8 _) (e:=J6 rfl A1 A1 rfl) (k':=?_);refine w31 KZ (e:=A4j _ zg) (k':=?_);refine W8 ?_;refine cD ?_;refine w4 (fun g1=>?_) fun g1=>?_
   ·refine w7 [.int .i64 _] ?_;refine l0 ?_;exact B2p g1
   refine eH ?_;refine w5 (fun g2=>?_) fun g2=>?_
   ·refine w8 ?_;first|omega
   refine w1 (.get 1 0) (u:=.int .u8 _) (e:=J6 rfl A1 A1 rfl) (k':=?_);refine w32 KY (e:=A4h _ zg) (k':=?_);refine w2 (.subs 1) (r:=rB) (e:=V6 rfl A1 A1 A1) (k':=?_);refine W8 ?_;refine w6 wE (rV _ _ _ _ _ _ _ ⟨rfl,A1,A1,A1,A73.1,A73.2,A8l.1,A8l.2⟩) (h0:=fun g3=>?_) (h1:=fun v3 g3=>?_)
   ·show Wk _ _ (.cons _ _ (.cons _ _ _));refine W8 ?_;refine cD ?_;refine w4 (fun g4=>?_) fun g4=>?_
    ·refine w7 [.int .i64 _] ?_;refine l0 ?_;exact B2o g1 (A1r hc.1 (A7v g3)) g4
    refine w7 [.int .i64 _] ?_;refine l0 ?_;exact B2n g1 (A1r hc.1 (A7v g3)) g4
   show Wk _ _ _;refine w7 [.int .i64 _] ?_;refine l0 ?_;exact B2m g1 (A1r hc.1 (B2Y g3))
  ·cases hs
 ·cases hs
def AT(n:Int):Int:=if n=3 then 31 else if n=4 then 15 else 7
def A5n{n:Int}(h:n=3∨n=4∨n=5):evU (.bin .shr) [.int .i64 255,.int .i64 n]=.int .i64 (AT n):=by
 rcases h with rfl|rfl|rfl<;>rfl
def A5v{n:Int}(h0:0≤a)(h1:a<256):evU (.bin .and) [.int .i64 a,.int .i64 (AT n)]=.int .i64 (a%(AT n+1)):=by
 unfold AT;split
 ·exact fA 5 32 C3 C3 C3
 ·split
  ·exact fA 4 16 C3 C3 C3
  ·exact fA 3 8 C3 C3 C3
def cdL:List Int→Int→Int
 | [],c=>c
 | b::r,c=>cdL r (c*64+b%64)
def dN(l:List Int):Int:=cdL (l.drop 1) (if(l.length:Int)>1 then l.getD 0 0%(AT ((l.length:Int)+1)+1)else l.getD 0 0)
def B33(h:¬i<(l.length:Int)):cdL (l.drop i.toNat) c=c:=by rw[v8 l A1];rfl
def B32(h0:0≤i)(h1:i<(l.length:Int)):cdL (l.drop i.toNat) c=cdL (l.drop (i+1).toNat) (c*64+l.getD i.toNat default%64):=by
 rw[R3 l h0 h1];rfl
def B3s(h:¬(l.length:Int)>1):dN l=cdL (l.drop 1) (l.getD 0 0):=by unfold dN;rw[A3 h]
def B3r(h:(l.length:Int)>1):dN l=cdL (l.drop 1) (l.getD 0 0%(AT ((l.length:Int)+1)+1)):=by unfold dN;rw[A4 h]
def A9R(h:1≤((el p).length:Int)):cdL ((el (L8 p (1:Int).toNat ((el p).length:Int).toNat)).drop (0:Int).toNat) c=cdL ((el p).drop 1) c:=by rw[el1 h];rfl
def B2d(n:Int):7≤AT n∧AT n≤31:=by unfold AT;(repeat' split)<;>omega
noncomputable def B4M:Q1:=⟨_,fun hst=>.nil⟩
def rY:List U→Option (Nat×List U)
 | [.int .i64 c,u_q,.int .i64 m,.int .i64 i]=>(J8 rB u_q).bind fun q=>if m=((el q).length:Int)∧0≤i∧i≤m∧m≤3∧0≤c∧((i=0∧c<256)∨(i=1∧c<16384)∨(i=2∧c<1048576)∨(i=3∧c<67108864))∧(∀ x ∈ el q,0≤x∧x<256)then some (0,[.int .i64 (cdL ((el q).drop i.toNat) c)])else none
 | _=>none
def rX(c:Int)(q:E0)(m:Int)(i:Int)(hc:m=((el q).length:Int)∧0≤i∧i≤m∧m≤3∧0≤c∧((i=0∧c<256)∨(i=1∧c<16384)∨(i=2∧c<1048576)∨(i=3∧c<67108864))∧(∀ x ∈ el q,0≤x∧x<256)):rY [.int .i64 c,B6 rB q,.int .i64 m,.int .i64 i]=some (0,[.int .i64 (cdL ((el q).drop i.toNat) c)]):=by
 simp only[rY,G9,D8];exact A4 hc
def A62:Q8:=⟨[(3,h 0 3),(20,dat 7 1 11),(21,h 2 3),(22,h 3 3)],[(7,.frz)],4,[⟨.exit 0,[(3,h 0 3)],[],1⟩]⟩
noncomputable def A0I:Code:=(f141.body).getD .skip
noncomputable def A6y:Code:=match I0 [true,true,true,false,true,false] A0I with|some (.loop x)=>x|_=>.skip
def A61:f141.body=some A0I:=rfl
def A60:I0 [true,true,true,false,true,false] A0I=some (.loop A6y):=D0
def A6z:Tr:=p7 3 2 4 (x7 3 1 5 (.lt 4 (.get 1 0) [h 1 11,h3 3]<|.lt 3 (.bin .shl) [h3 0,.int .u64 (6)]<|.lt 4 (.bin .and) [h 6 4,.int .u8 (63)]<|.lt 3 (.conv .i64) [h 8 4]<|.lt 3 (.bin .or) [h3 7,h3 9]<|aA [h3 3,jI 1]<|.ret [jI (-1),h3 10,h 1 11,h3 2,h3 11])) (.ret [jI 0,h3 0])
def A0H:List U→Nat
 | [.int .i64 c,u_q,.int .i64 m,.int .i64 i]=>(match J8 rB u_q with|some q=>(m-i).toNat|none=>0)
 | _=>0
def A0G(c:Int)(q:E0)(m:Int)(i:Int):A0H [.int .i64 c,B6 rB q,.int .i64 m,.int .i64 i]=(m-i).toNat:=by
 simp only[A0H,G9]
def B1f{G}(hst:L9 G):∀ (E:Nat→U) (base:Nat),@X1 ⟨E,G⟩ prog base gl f141.ntmps A6y (P3 prog gl n0 8 A62 rY):=by
 refine l6 (dep:=60) (f:=141) (n0:=n0) (nB:=8) (H0:=H0) A0H A6z (cxg (B4M.2 hst) (CY hst)) hst func141 A61 A60 D0 D0 D0 ?_;intro us d outs hs;have hs0:=hs;unfold rY at hs;split at hs
 ·skip;rename_i c u_q m i;have hq_q:=A9.1 hs;clear hs;obtain⟨q,hd_q,hs⟩:=hq_q;replace hd_q:=G1 hd_q;subst hd_q;split at hs
  ·rename_i hc;clear hs hs0;have zb:i<m→0≤((el q).getD i.toNat default)∧((el q).getD i.toNat default)<256:=fun h=>fE (l:=el q) hc.2.2.2.2.2.2 A1 A1
   refine⟨rfl,?_⟩;unfold A6z;refine w0 (.cons 3 _ (.cons 2 _ (.cons 1 _ (.cons 0 _ (.nil))))) ?_;refine cD ?_;refine w5 (fun g0=>?_) fun g0=>?_
   ·refine w7 [.int .i64 _,.int .i64 _] ?_;refine L7 (d:=0) ?_;rw[rX c q m i hc,B33 (l:=el q) (i:=i) A1]
   have zb:=zb g0;refine eH ?_;refine w5 (fun g1=>?_) fun g1=>?_
   ·refine w8 ?_;first|omega
   refine w1 (.get 1 0) (u:=.int .u8 _) (e:=J6 rfl A1 A1 rfl) (k':=?_);first|refine w1 (.bin .shl) (e:=zD 64 C3 C3 (kJ A1 A1)) (k':=?_)|refine w1 (.bin .shl) (e:=tV 64 C3 C3) (k':=?_)
   refine w1 (.bin .and) (e:=fA 6 64 C3 C3 C3) (k':=?_);first|refine fV ?_|refine cE ?_
   first|refine w1 (.bin .or) (e:=vN 6 64 9223372036854775808 C3 C3 A1 A1 A1 A1 A1) (k':=?_)|refine w1 (.bin .or) (e:=BX 6 64 9223372036854775808 C3 C3 A1 A1 A1 A1 A1) (k':=?_)|refine w1 (.bin .or) (e:=nZ _ _ _) (k':=?_)
   first|refine y7 ?_|refine V4 ?_
   refine w7 [.int .i64 _,.int .i64 _,B6 rB _,.int .i64 _,.int .i64 _] ?_;refine P4 ?_ ?_
   ·rw[rX _ q m (i+1) ⟨hc.1,A1,A1,A1,A1,A1,hc.2.2.2.2.2.2⟩,rX c q m i hc,B32 (l:=el q) (i:=i) A1 A1]
   ·rw[A0G,A0G];omega
  ·cases hs
 ·cases hs
noncomputable def A6Y:List LpE:=[(141,([true,true,true,false,true,false],P3 prog gl n0 8 A62 rY))]
def TH{G}(hst:L9 G):r7 prog G gl A6Y:=(.cons func141 A61 A60 (B1f hst) .nil)
noncomputable def B4N:Q1:=⟨_,fun hst=>.nil⟩
def rZ:List U→Option (Nat×List U)
 | [u_p]=>(J8 rB u_p).bind fun p=>if 1≤((el p).length:Int)∧((el p).length:Int)≤4∧(∀ x ∈ el p,0≤x∧x<256)then some (0,[.int .i64 (dN (el p))])else none
 | _=>none
def yG(p:E0)(hc:1≤((el p).length:Int)∧((el p).length:Int)≤4∧(∀ x ∈ el p,0≤x∧x<256)):rZ [B6 rB p]=some (0,[.int .i64 (dN (el p))]):=by
 simp only[rZ,G9,D8];exact A4 hc
def cU(a0:Nat)(a1:Nat)(a2:Int)(k0 k1:Tr):Tr:=aD [h a0 11]<|aG [h3 a1,jI a2]<|.br (a1+1) k0 k1
def A63:Tr:=x6 0 0 1 (.lt 4 (.get 1 0) [h 0 11,jI 0]<|.lt 3 (.conv .i64) [h 2 4]<|cU 0 4 1 (aA [h3 4,jI 1]<|.lt 3 (.bin .shr) [jI 255,h3 6]<|.lt 3 (.bin .and) [h3 3,h3 7]<|.dt 11 (.subs 1) [h 0 11,jI 1,h3 4]<|aD [h 9 11]<|.fn rY [h3 8,h 9 11,h3 10,jI 0] 1<|.ret [h3 11]) (.dt 11 (.subs 1) [h 0 11,jI 1,h3 4]<|aD [h 6 11]<|.fn rY [h3 3,h 6 11,h3 7,jI 0] 1<|.ret [h3 8]))
def A64{G}(hst:L9 G):M2 prog G 141 [.s 11] rZ [.s 3]:=by
 refine F1 (d:=60) A63 (cxg (B4N.2 hst) (TH hst)) hst ⟨f141,_,func141,rfl⟩ D0 D0 ?_;intro us outs hs;unfold rZ at hs;split at hs
 ·skip;rename_i u_p;have hq_p:=A9.1 hs;clear hs;obtain⟨p,hd_p,hs⟩:=hq_p;replace hd_p:=G1 hd_p;subst hd_p;split at hs
  ·rename_i hc;cases hs;have zg:0≤(el p).getD (0:Int).toNat default∧(el p).getD (0:Int).toNat default<256:=gt0 hc.2.2 hc.1;have zl:((el (L8 p (1:Int).toNat ((el p).length:Int).toNat)).length:Int)=((el p).length:Int)-1:=by
    rw[el1 hc.1,C9];omega
   have zm:=B2d (((el p).length:Int)+1);unfold A63;refine w0 (.cons 0 _ (.nil)) ?_;refine eH ?_;refine w5 (fun g0=>?_) fun g0=>?_
   ·refine w8 ?_;first|omega
   refine w1 (.get 1 0) (u:=.int .u8 _) (e:=J6 rfl A1 A1 rfl) (k':=?_);first|refine fV ?_|refine cE ?_
   refine W8 ?_;refine mO ?_;refine w4 (fun g1=>?_) fun g1=>?_
   ·have zq:0≤(el p).getD (0:Int).toNat default%(AT (((el p).length:Int)+1)+1)∧(el p).getD (0:Int).toNat default%(AT (((el p).length:Int)+1)+1)<256:=⟨eG _ A1,Int.lt_of_lt_of_le (gZ _ A1) A1⟩;first|refine y7 ?_|refine V4 ?_
    refine w1 (.bin .shr) (e:=A5n A1) (k':=?_);refine w1 (.bin .and) (e:=A5v A1 A1) (k':=?_);refine w2 (.subs 1) (r:=rB) (e:=V6 rfl A1 A1 A1) (k':=?_);refine W8 ?_;refine w31 rY (e:=rX _ _ _ _ ⟨rfl,A1,A1,A1,zq.1,.inl ⟨rfl,zq.2⟩,fun x hx=>hc.2.2 x (by rw[el1 hc.1]at hx;exact M3 hx)⟩) (k':=?_);refine w7 [.int .i64 _] ?_;refine l0 ?_;rw[B3r g1];exact A9R hc.1
   refine w2 (.subs 1) (r:=rB) (e:=V6 rfl A1 A1 A1) (k':=?_);refine W8 ?_;refine w31 rY (e:=rX _ _ _ _ ⟨rfl,A1,A1,A1,zg.1,.inl ⟨rfl,zg.2⟩,fun x hx=>hc.2.2 x (by rw[el1 hc.1]at hx;exact M3 hx)⟩) (k':=?_);refine w7 [.int .i64 _] ?_;refine l0 ?_;rw[B3s g1];exact A9R hc.1
  ·cases hs
 ·cases hs
noncomputable def B4I:Q1:=⟨_,fun hst=>(.cons (A0F hst) .nil)⟩
def wC:List U→Option (Nat×List U)
 | [u_p]=>(J8 rB u_p).bind fun p=>if((el p).length:Int)≤1000∧(∀ x ∈ el p,0≤x∧x<256)then some (0,[.bool (decide (((el p).length:Int)=0∨knd (el p)=1))])else none
 | _=>none
def TQ(p:E0)(hc:((el p).length:Int)≤1000∧(∀ x ∈ el p,0≤x∧x<256)):wC [B6 rB p]=some (0,[.bool (decide (((el p).length:Int)=0∨knd (el p)=1))]):=by
 simp only[wC,G9,D8];exact A4 hc
def eQ(a0:Int)(a1:Nat)(a2:Nat)(k0 k1:Tr):Tr:=aD [h a1 11]<|aE [h3 a2,jI a0]<|.br (a2+1) k0 k1
def A6o:Tr:=eQ 0 0 1 cB (.fn iC [h 0 11] 1<|iX 3 4 1)
def A6p{G}(hst:L9 G):M2 prog G 139 [.s 11] wC [.s 8]:=by
 refine F1 (d:=60) A6o (cxg (B4I.2 hst) .nil) hst ⟨f139,_,func139,rfl⟩ D0 D0 ?_;intro us outs hs;unfold wC at hs;split at hs
 ·skip;rename_i u_p;have hq_p:=A9.1 hs;clear hs;obtain⟨p,hd_p,hs⟩:=hq_p;replace hd_p:=G1 hd_p;subst hd_p;split at hs
  ·rename_i hc;cases hs;unfold A6o;refine w0 (.cons 0 _ (.nil)) ?_;repeat (first|refine U1 ?_|(refine w7 [.bool _] ?_;rotate_left)|refine W8 ?_|refine w4 (fun g=>?_) fun g=>?_|refine w31 iC (e:=rW _ ⟨A1,A1,hc.2⟩) (k':=?_))
   all_goals
    refine l1 ?_;first|exact(F4 (.inl A1)).symm|(exact decide_eq_decide.2 ⟨fun h=>.inr h,fun h=>h.resolve_left A1⟩)
  ·cases hs
 ·cases hs
def QL(b:Int):E0:=if knd [b]=1 then some [b]else none
def xO(b:Int):E0:=if knd [b]=2 then some [dN [b]]else if knd [b]=1 then none else some [65533]
def utR(l:List Int)(b:Int):E0:=if knd (l++[b])=2 then none else if knd (l++[b])=1 then some (l++[b])else if l=[]then none else QL b
def utC(l:List Int)(b:Int):E0:=if knd (l++[b])=2 then some [dN (l++[b])]else if knd (l++[b])=1 then none else if l=[]then some [65533]else some (65533::el (xO b))
def B1a :utR [] b=QL b∧utC [] b=xO b:=by
 unfold utR utC QL xO;constructor
 ·by_cases h:knd ([]++[b])=2
  ·rw[A4 h,A3 (by show ¬knd ([]++[b])=1;omega)]
  ·rw[A3 h];rfl
 ·rfl
def B3d(h:((el p).length:Int)=0):el p=[]:=D3.1 A1
def eT :el (L8 p (0:Int).toNat ((el p).length:Int).toNat)=el p:=by
 rw[K5];show((el p).drop 0).take _=_;rw[R1];exact H1 (by simp)
def ut2{a b c d:E0}(h1:a=b)(h2:c=d):[B6 rB a,B6 rN c]=[B6 rB b,B6 rN d]:=by rw[h1,h2]
def B1Y(h:knd (l++[b])=2):none=utR l b∧some [dN (l++[b])]=utC l b:=by unfold utR utC;rw[A4 h,A4 h];exact⟨rfl,rfl⟩
def B1Z(h:knd (l++[b])=1):some (l++[b])=utR l b∧none=utC l b:=by unfold utR utC;rw[A3 A1,A4 h,A3 A1,A4 h];exact⟨rfl,rfl⟩
def B1X(h2:¬knd (l++[b])=2)(h:¬knd (l++[b])=1)(h3:l=[]):none=utR l b∧some [65533]=utC l b:=by unfold utR utC;rw[A3 h2,A3 h,A3 h2,A3 h,A4 h3,A4 h3];exact⟨rfl,rfl⟩
def B5K(h2:¬knd (l++[b])=2)(h:¬knd (l++[b])=1)(h3:l≠[]):QL b=utR l b∧some (65533::el (xO b))=utC l b:=by unfold utR utC;rw[A3 h2,A3 h,A3 h2,A3 h,A3 h3,A3 h3];exact⟨rfl,rfl⟩
def A6M(hb:∀ x ∈ el p,0≤x∧x<256)(h0:0≤b)(h1:b<256):∀ x ∈ el p++[b],0≤x∧x<256:=fun x hx=>by
 rcases B5.1 hx with h|h
 ·exact hb x h
 ·have:x=b:=by simpa using h
  omega
def la(l:List Int)(b:Int):((l++[b]).length:Int)=(l.length:Int)+1:=by simp
def KX(b:Int):(el (xO b)).length≤1:=by unfold xO;(repeat' split)<;>simp[el]
def B1c(b:Int):utC (el (none:E0)) b=xO b:=B1a.2
def zO(b:Int):(el (utC (el (none:E0)) b)).length≤1:=by rw[B1c];exact KX b
def A2C :S3 (l.getD 0 0)≤4:=by unfold S3;(repeat' split)<;>omega
def VJ(h:knd l=1∨knd l=2):(l.length:Int)≤4:=by
 have:=A2C (l:=l);unfold knd at h;by_cases h1:S3 (l.getD 0 0)<(l.length:Int)
 ·rw[A4 h1]at h;omega
 ·omega
def jT(h:knd l=1):(l.length:Int)≤3:=by
 have:=A2C (l:=l);unfold knd at h;by_cases h1:S3 (l.getD 0 0)<(l.length:Int)
 ·rw[A4 h1]at h;omega
 ·rw[A3 h1]at h;by_cases h2:okT (l.drop 1) (loB (l.getD 0 0)) (hiB (l.getD 0 0))=true
  ·rw[A4 h2]at h;by_cases h3:(l.length:Int)<S3 (l.getD 0 0)
   ·omega
   ·rw[A3 h3]at h;omega
  ·rw[A3 h2]at h;omega
def A9i(x:E0):Y5 (some [65533]) x=some (65533::el x):=by
 cases x with
 | none=>rfl
 | some l=>cases l<;>rfl
noncomputable def B4H:Q1:=⟨_,fun hst=>(.cons (A0F hst) (.cons (A64 hst) (.cons (A6p hst) .nil)))⟩
def EB:List U→Option (Nat×List U)
 | [u_p,.int .u8 b]=>(J8 rB u_p).bind fun p=>if((el p).length:Int)=0∧(((el p).length:Int)=0∨knd (el p)=1)∧0≤b∧b<256∧(∀ x ∈ el p,0≤x∧x<256)then some (0,[B6 rB (utR (el p) b),B6 rN (utC (el p) b)])else none
 | _=>none
def A4i(p:E0)(b:Int)(hc:((el p).length:Int)=0∧(((el p).length:Int)=0∨knd (el p)=1)∧0≤b∧b<256∧(∀ x ∈ el p,0≤x∧x<256)):EB [B6 rB p,.int .u8 b]=some (0,[B6 rB (utR (el p) b),B6 rN (utC (el p) b)]):=by
 simp only[EB,G9,D8];exact A4 hc
def yK(a0:Nat)(a1:Nat):Tr:=.fn rZ [h a0 11] 1<|.dt 11 (.nilw 1) []<|.dt 11 (.mk 1) [h3 a1]<|.ret [h (a1+1) 11,h (a1+2) 11]
def eO(a0:Nat)(a1:Nat):Tr:=.ret [h a0 11,h a1 11]
def A6n:Tr:=.fn wC [h 0 11] 1<|I3 3 2 (.dt 11 (.mk 1) [h 1 4]<|.fn iC [h 4 11] 1<|G3 5 6 2 (.dt 11 (.mk 1) [h 1 4]<|yK 7 8) (G3 5 7 1 (.dt 11 (.mk 1) [h 1 4]<|.dt 11 (.nilw 1) []<|eO 8 9) (.dt 11 (.nilw 1) []<|.dt 11 (.mk 1) [jI 65533]<|eO 8 9))) (aD [h 0 11]<|.dt 11 (.subs 1) [h 0 11,jI 0,h3 4]<|.dt 11 (.snoc 1) [h 5 11,h 1 4]<|.fn iC [h 6 11] 1<|G3 7 8 2 (yK 6 9) (G3 7 9 1 (.dt 11 (.nilw 1) []<|eO 6 10) (aE [h3 4,jI 0]<|.br 10 (.dt 11 (.nilw 1) []<|.dt 11 (.mk 1) [jI 65533]<|eO 11 12) (.no))))
def B1d{G}(hst:L9 G):M2 prog G 127 [.s 11,.s 4] EB [.s 11,.s 11]:=by
 refine F1 (d:=2) A6n (cxg (B4H.2 hst) .nil) hst ⟨f127,_,func127,rfl⟩ D0 D0 ?_;intro us outs hs;unfold EB at hs;split at hs
 ·skip;rename_i u_p b;have hq_p:=A9.1 hs;clear hs;obtain⟨p,hd_p,hs⟩:=hq_p;replace hd_p:=G1 hd_p;subst hd_p;split at hs
  ·rename_i hc;cases hs;have zs:el (L8 p (0:Int).toNat ((el p).length:Int).toNat)++[b]=el p++[b]:=by rw[eT]
   have zn:((el (L8 p (0:Int).toNat ((el p).length:Int).toNat)).length:Int)=((el p).length:Int):=by rw[eT]
   unfold A6n;refine w0 (.cons 1 _ (.cons 0 _ (.nil))) ?_;refine w31 wC (e:=TQ _ ⟨A1,hc.2.2.2.2⟩) (k':=?_);first|refine l4 ?_|refine mK ?_
   first|refine w4 (fun g0=>?_) (fun g0=>?_)|refine w4B (fun g0=>?_) (fun g0=>?_)
   ·refine w2 (.mk 1) (r:=rB) (e:=S7 [_] rfl C3 rfl) (k':=?_);refine w31 iC (e:=rW _ (g0 hc.2.1).elim) (k':=?_);refine U1 ?_;refine w4 (fun g1=>?_) fun g1=>?_
    ·refine w2 (.mk 1) (r:=rB) (e:=S7 [_] rfl C3 rfl) (k':=?_);refine w31 rZ (e:=yG _ (g0 hc.2.1).elim) (k':=?_);refine w2 (.nilw 1) (r:=rB) (e:=J2 rfl) (k':=?_);refine w2 (.mk 1) (r:=rN) (e:=S7 [_] rfl C3 rfl) (k':=?_);refine w7 [B6 rB _,B6 rN _] ?_;exact(g0 hc.2.1).elim
    refine U1 ?_;refine w4 (fun g2=>?_) fun g2=>?_
    ·refine w2 (.mk 1) (r:=rB) (e:=S7 [_] rfl C3 rfl) (k':=?_);refine w2 (.nilw 1) (r:=rN) (e:=J2 rfl) (k':=?_);refine w7 [B6 rB _,B6 rN _] ?_;exact(g0 hc.2.1).elim
    refine w2 (.nilw 1) (r:=rB) (e:=J2 rfl) (k':=?_);refine w2 (.mk 1) (r:=rN) (e:=S7 [_] rfl C3 rfl) (k':=?_);refine w7 [B6 rB _,B6 rN _] ?_;exact(g0 hc.2.1).elim
   have zr:=hc.2.1;refine W8 ?_;refine w2 (.subs 1) (r:=rB) (e:=V6 rfl A1 A1 A1) (k':=?_);refine w2 (.snoc 1) (r:=rB) (e:=U5 rfl rfl C3 (by first|omega|(show 1+_≤1000000000;have:=zO b;omega))) (k':=?_);refine w31 iC (e:=rW _ ⟨by rw[E8,la];omega,by rw[E8,la];omega,by rw[E8,eT];exact A6M hc.2.2.2.2 hc.2.2.1 hc.2.2.2.1⟩) (k':=?_);refine U1 ?_;refine w4 (fun g1=>?_) fun g1=>?_
   ·refine w31 rZ (e:=yG _ ⟨by rw[E8,la];omega,(by have:=VJ (.inr g1);rw[E8];exact this),by rw[E8,eT];exact A6M hc.2.2.2.2 hc.2.2.1 hc.2.2.2.1⟩) (k':=?_);refine w2 (.nilw 1) (r:=rB) (e:=J2 rfl) (k':=?_);refine w2 (.mk 1) (r:=rN) (e:=S7 [_] rfl C3 rfl) (k':=?_);refine w7 [B6 rB _,B6 rN _] ?_;have z:=B1Y (l:=el p) (b:=b) (by rw[← zs];exact g1);exact ut2 z.1 (by rw[zs];exact z.2)
   refine U1 ?_;refine w4 (fun g2=>?_) fun g2=>?_
   ·refine w2 (.nilw 1) (r:=rN) (e:=J2 rfl) (k':=?_);refine w7 [B6 rB _,B6 rN _] ?_;have z:=B1Z (l:=el p) (b:=b) (by rw[← zs];exact g2);exact ut2 (by rw[zs];exact z.1) z.2
   refine U1 ?_;refine w5 (fun g3=>?_) fun g3=>?_
   ·refine w8 ?_;first|omega|(exfalso;simp_all;done)|(exfalso;simp_all;omega)
   refine w2 (.nilw 1) (r:=rB) (e:=J2 rfl) (k':=?_);refine w2 (.mk 1) (r:=rN) (e:=S7 [_] rfl C3 rfl) (k':=?_);refine w7 [B6 rB _,B6 rN _] ?_;have z:=B1X (l:=el p) (b:=b) (by rw[← zs];exact g1) (by rw[← zs];exact g2) (B3d g3);exact ut2 z.1 z.2
  ·cases hs
 ·cases hs
noncomputable def B4F:Q1:=⟨_,fun hst=>(.cons (A0F hst) (.cons (A64 hst) (.cons (A6p hst) (.cons (B1d hst) .nil))))⟩
def EA:List U→Option (Nat×List U)
 | [u_p,.int .u8 b]=>(J8 rB u_p).bind fun p=>if((el p).length:Int)≤100∧(((el p).length:Int)=0∨knd (el p)=1)∧0≤b∧b<256∧(∀ x ∈ el p,0≤x∧x<256)then some (0,[B6 rB (utR (el p) b),B6 rN (utC (el p) b)])else none
 | _=>none
def A4g(p:E0)(b:Int)(hc:((el p).length:Int)≤100∧(((el p).length:Int)=0∨knd (el p)=1)∧0≤b∧b<256∧(∀ x ∈ el p,0≤x∧x<256)):EA [B6 rB p,.int .u8 b]=some (0,[B6 rB (utR (el p) b),B6 rN (utC (el p) b)]):=by
 simp only[EA,G9,D8];exact A4 hc
def A6j:Tr:=.fn wC [h 0 11] 1<|I3 3 2 (.dt 11 (.mk 1) [h 1 4]<|.fn iC [h 4 11] 1<|G3 5 6 2 (.dt 11 (.mk 1) [h 1 4]<|yK 7 8) (G3 5 7 1 (.dt 11 (.mk 1) [h 1 4]<|.dt 11 (.nilw 1) []<|eO 8 9) (.dt 11 (.nilw 1) []<|.dt 11 (.mk 1) [jI 65533]<|eO 8 9))) (aD [h 0 11]<|.dt 11 (.subs 1) [h 0 11,jI 0,h3 4]<|.dt 11 (.snoc 1) [h 5 11,h 1 4]<|.fn iC [h 6 11] 1<|G3 7 8 2 (yK 6 9) (G3 7 9 1 (.dt 11 (.nilw 1) []<|eO 6 10) (G3 4 10 0 (.dt 11 (.nilw 1) []<|.dt 11 (.mk 1) [jI 65533]<|eO 11 12) (.dt 11 (.nilw 1) []<|.fn EB [h 11 11,h 1 4] 2<|.dt 11 (.mk 1) [jI 65533]<|.dt 11 (.cat 1) [h 14 11,h 13 11]<|eO 12 15))))
def A6k{G}(hst:L9 G):M2 prog G 127 [.s 11,.s 4] EA [.s 11,.s 11]:=by
 refine F1 (d:=60) A6j (cxg (B4F.2 hst) .nil) hst ⟨f127,_,func127,rfl⟩ D0 D0 ?_;intro us outs hs;unfold EA at hs;split at hs
 ·skip;rename_i u_p b;have hq_p:=A9.1 hs;clear hs;obtain⟨p,hd_p,hs⟩:=hq_p;replace hd_p:=G1 hd_p;subst hd_p;split at hs
  ·rename_i hc;cases hs;have zs:el (L8 p (0:Int).toNat ((el p).length:Int).toNat)++[b]=el p++[b]:=by rw[eT]
   have zn:((el (L8 p (0:Int).toNat ((el p).length:Int).toNat)).length:Int)=((el p).length:Int):=by rw[eT]
   unfold A6j;refine w0 (.cons 1 _ (.cons 0 _ (.nil))) ?_;refine w31 wC (e:=TQ _ ⟨A1,hc.2.2.2.2⟩) (k':=?_);first|refine l4 ?_|refine mK ?_
   first|refine w4 (fun g0=>?_) (fun g0=>?_)|refine w4B (fun g0=>?_) (fun g0=>?_)
   ·refine w2 (.mk 1) (r:=rB) (e:=S7 [_] rfl C3 rfl) (k':=?_);refine w31 iC (e:=rW _ (g0 hc.2.1).elim) (k':=?_);refine U1 ?_;refine w4 (fun g1=>?_) fun g1=>?_
    ·refine w2 (.mk 1) (r:=rB) (e:=S7 [_] rfl C3 rfl) (k':=?_);refine w31 rZ (e:=yG _ (g0 hc.2.1).elim) (k':=?_);refine w2 (.nilw 1) (r:=rB) (e:=J2 rfl) (k':=?_);refine w2 (.mk 1) (r:=rN) (e:=S7 [_] rfl C3 rfl) (k':=?_);refine w7 [B6 rB _,B6 rN _] ?_;exact(g0 hc.2.1).elim
    refine U1 ?_;refine w4 (fun g2=>?_) fun g2=>?_
    ·refine w2 (.mk 1) (r:=rB) (e:=S7 [_] rfl C3 rfl) (k':=?_);refine w2 (.nilw 1) (r:=rN) (e:=J2 rfl) (k':=?_);refine w7 [B6 rB _,B6 rN _] ?_;exact(g0 hc.2.1).elim
    refine w2 (.nilw 1) (r:=rB) (e:=J2 rfl) (k':=?_);refine w2 (.mk 1) (r:=rN) (e:=S7 [_] rfl C3 rfl) (k':=?_);refine w7 [B6 rB _,B6 rN _] ?_;exact(g0 hc.2.1).elim
   have zr:=hc.2.1;refine W8 ?_;refine w2 (.subs 1) (r:=rB) (e:=V6 rfl A1 A1 A1) (k':=?_);refine w2 (.snoc 1) (r:=rB) (e:=U5 rfl rfl C3 (by first|omega|(show 1+_≤1000000000;have:=zO b;omega))) (k':=?_);refine w31 iC (e:=rW _ ⟨by rw[E8,la];omega,by rw[E8,la];omega,by rw[E8,eT];exact A6M hc.2.2.2.2 hc.2.2.1 hc.2.2.2.1⟩) (k':=?_);refine U1 ?_;refine w4 (fun g1=>?_) fun g1=>?_
   ·refine w31 rZ (e:=yG _ ⟨by rw[E8,la];omega,(by have:=VJ (.inr g1);rw[E8];exact this),by rw[E8,eT];exact A6M hc.2.2.2.2 hc.2.2.1 hc.2.2.2.1⟩) (k':=?_);refine w2 (.nilw 1) (r:=rB) (e:=J2 rfl) (k':=?_);refine w2 (.mk 1) (r:=rN) (e:=S7 [_] rfl C3 rfl) (k':=?_);refine w7 [B6 rB _,B6 rN _] ?_;have z:=B1Y (l:=el p) (b:=b) (by rw[← zs];exact g1);exact ut2 z.1 (by rw[zs];exact z.2)
   refine U1 ?_;refine w4 (fun g2=>?_) fun g2=>?_
   ·refine w2 (.nilw 1) (r:=rN) (e:=J2 rfl) (k':=?_);refine w7 [B6 rB _,B6 rN _] ?_;have z:=B1Z (l:=el p) (b:=b) (by rw[← zs];exact g2);exact ut2 (by rw[zs];exact z.1) z.2
   refine U1 ?_;refine w4 (fun g3=>?_) fun g3=>?_
   ·refine w2 (.nilw 1) (r:=rB) (e:=J2 rfl) (k':=?_);refine w2 (.mk 1) (r:=rN) (e:=S7 [_] rfl C3 rfl) (k':=?_);refine w7 [B6 rB _,B6 rN _] ?_;have z:=B1X (l:=el p) (b:=b) (by rw[← zs];exact g1) (by rw[← zs];exact g2) (B3d g3);exact ut2 z.1 z.2
   refine w2 (.nilw 1) (r:=rB) (e:=J2 rfl) (k':=?_);refine w32 EB (e:=A4i _ _ ⟨rfl,.inl rfl,hc.2.2.1,hc.2.2.2.1,fun x hx=>by cases hx⟩) (k':=?_);refine w2 (.mk 1) (r:=rN) (e:=S7 [_] rfl C3 rfl) (k':=?_);refine w2 (.cat 1) (r:=rN) (e:=tW rfl (by first|omega|(show 1+_≤1000000000;have:=zO b;omega))) (k':=?_);refine w7 [B6 rB _,B6 rN _] ?_;have z:=B5K (l:=el p) (b:=b) (by rw[← zs];exact g1) (by rw[← zs];exact g2) (fun h=>g3 (by rw[h];rfl));exact ut2 (B1a.1.trans z.1) (by rw[← z.2,B1c];exact A9i _)
  ·cases hs
 ·cases hs
def fsN(b:Int):Int:=if b<128 then 1 else if 192≤b∧b<224 then 2 else if 224≤b∧b<240 then 3 else if 240≤b∧b<248 then 4 else 0
def fsL(b:Int):Int:=if b<128 then b else if 192≤b∧b<224 then b-192 else if 224≤b∧b<240 then b-224 else if 240≤b∧b<248 then b-240 else 0
def spL(l:List Int):Nat→Int→Int→Int→Option (Int×Int)
 | 0,_,lo,hi=>some (lo,hi)
 | k+1,i,lo,hi=>if i<(l.length:Int)then(if l.getD i.toNat default<128∨191<l.getD i.toNat default then none else spL l k (i+1) (lo*64+(l.getD i.toNat default-128)) (hi*64+63-63+(l.getD i.toNat default-128)))else spL l k (i+1) (lo*64) (hi*64+63)
def spN(l:List Int):Option (Int×Int):=if(l.length:Int)=0 then none else
 if(l.length:Int)>fsN (l.getD 0 0)then none else spL l (fsN (l.getD 0 0)-1).toNat 1 (fsL (l.getD 0 0)) (fsL (l.getD 0 0))
def spI(o:Option (Int×Int))(n:Int):Int:=if o.isSome then n else 0
def B1x(h:(l.length:Int)≠0)(h2:(l.length:Int)>fsN (l.getD 0 0)):spN l=none:=by unfold spN;rw[A3 h,A4 h2]
def B1w(h:(l.length:Int)≠0)(h2:¬(l.length:Int)>fsN (l.getD 0 0)):spN l=spL l (fsN (l.getD 0 0)-1).toNat 1 (fsL (l.getD 0 0)) (fsL (l.getD 0 0)):=by unfold spN;rw[A3 h,A3 h2]
end Go.Proofs.YtdimocjaepnifaaGreatDoor
