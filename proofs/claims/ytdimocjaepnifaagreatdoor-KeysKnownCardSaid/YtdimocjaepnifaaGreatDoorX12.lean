/- The law KeysKnown: for every input the call returns true, and the arguments read behind it as they read before. No condition. -/
import Derived.Test.YtdimocjaepnifaaGreatDoorX11
namespace Go.Proofs.YtdimocjaepnifaaGreatDoor
set_option linter.all false
open Go Go.Sx
set_option maxRecDepth 100000
set_option maxHeartbeats 4000000
set_option linter.unusedVariables false
set_option linter.unusedSimpArgs false
noncomputable def D1B:List (FuncId×FnC):=(48,E7 Tryz.prog [.a [8,8,8,8,8,8,8,8,8,8,8,3,8],.a [3,3,3,3,3,3,3,9]] A8V [.s 3])::(49,E7 Tryz.prog [.a [8,8,8,8,8,8,8,8,8,8,8,3,8],.a [3,3,3,3,3,3,3,9]] A7G [.a [3,3,3,3,3,3,3,9],.s 8])::L0
theorem C4A{G:Nat→Option Obj}(hst:A7 Tryz.prog G gl H0 n0):C5 Tryz.prog G gl D1B:=(.cons (C1_ hst) (.cons (B8u hst) .nil))
def B8M:List U→Option (Nat×List U)
 | [.bool b0,.bool b1,.bool ck,.bool b3,.bool b4,.bool b5,.bool b6,.bool pa,.bool fo,.bool b9,.bool b10,.int .i64 mo,.bool sg,.int .i64 k,.int .i64 c,.int .i64 m,.int .i64 w,.int .i64 b,.int .i64 r,.int .i64 cl,.str t]=>if -9223372036854775808≤m∧m≤9223372036854775807∧(t.length:Int)≤140737488351232 then some (0,[.int .i64 (ifI (cnS (R7 mo k c m w b r cl t) (isS pa fo mo k w b)) k),.int .i64 (ifI (cnS (R7 mo k c m w b r cl t) (isS pa fo mo k w b)) c),.int .i64 (ifI (cnS (R7 mo k c m w b r cl t) (isS pa fo mo k w b)) (A8u mo k m)),.int .i64 (ifI (cnS (R7 mo k c m w b r cl t) (isS pa fo mo k w b)) w),.int .i64 (ifI (cnS (R7 mo k c m w b r cl t) (isS pa fo mo k w b)) (A8v sg k w b)),.int .i64 (ifI (cnS (R7 mo k c m w b r cl t) (isS pa fo mo k w b)) r),.int .i64 (ifI (cnS (R7 mo k c m w b r cl t) (isS pa fo mo k w b)) cl),.str (ifT (cnS (R7 mo k c m w b r cl t) (isS pa fo mo k w b)) t),.bool (cnS (R7 mo k c m w b r cl t) (isS pa fo mo k w b)),.int .i64 (R7 mo k c m w b r cl t)])else none
 | _=>none
def C9D:Tr:=.fn A8V [h 0 8,h 1 8,h 2 8,h 3 8,h 4 8,h 5 8,h 6 8,h 7 8,h 8 8,h 9 8,h 10 8,h3 11,h 12 8,h3 13,h3 14,h3 15,h3 16,h3 17,h3 18,h3 19,h 20 9] 1<|aN [h3 21,jI 0]<|.br 22 (.ret [jI 0,jI 0,jI 0,jI 0,jI 0,jI 0,jI 0,.string ⟨⟨[]⟩⟩,.bool false,h3 21]) (.fn A7G [h 0 8,h 1 8,h 2 8,h 3 8,h 4 8,h 5 8,h 6 8,h 7 8,h 8 8,h 9 8,h 10 8,h3 11,h 12 8,h3 13,h3 14,h3 15,h3 16,h3 17,h3 18,h3 19,h 20 9] 9<|.ret [h3 23,h3 24,h3 25,h3 26,h3 27,h3 28,h3 29,h 30 9,h 31 8,jI 0])
theorem C9E{G:Nat→Option Obj}(hst:A7 Tryz.prog G gl H0 n0):H8 Tryz.prog G 24 [.a [8,8,8,8,8,8,8,8,8,8,8,3,8],.a [3,3,3,3,3,3,3,9]] B8M [.a [3,3,3,3,3,3,3,9],.s 8,.s 3]:=by
 refine C6 (C:=cx D1B A8e) (d:=60) C9D (cxg (C4A hst) (A2J hst)) hst ⟨Tryz.f24,_,Tryz.func24,rfl⟩ (by kernel_rfl) (by kernel_rfl) ?_;intro us outs hs;unfold B8M at hs;split at hs
 ·skip;rename_i b0 b1 ck b3 b4 b5 b6 pa fo b9 b10 mo sg k c m w b r cl t;split at hs
  ·rename_i hc;cases hs;unfold C9D;refine s0L ?_;show Tr.sav _ _ (.cons 20 _ (.cons 19 _ (.cons 18 _ (.cons 17 _ (.cons 16 _ (.cons 15 _ (.cons 14 _ (.cons 13 _ (.cons 12 _ (.cons 11 _ (.cons 10 _ (.cons 9 _ (.cons 8 _ (.cons 7 _ (.cons 6 _ (.cons 5 _ (.cons 4 _ (.cons 3 _ (.cons 2 _ (.cons 1 _ (.cons 0 _ (.nil))))))))))))))))))))));refine s31 (B8N _ _ _ _ _ _ _ _ _ _ _ _ _ _ _ _ _ _ _ _ _ hc) rfl ?_;refine s1 (T4 _ _ _) rfl rfl rfl ?_;refine s4 rfl (fun g0=>?_) fun g0=>?_
   ·refine s7 [.int .i64 _,.int .i64 _,.int .i64 _,.int .i64 _,.int .i64 _,.int .i64 _,.int .i64 _,.str _,.bool _,.int .i64 _] rfl ?_;first|(rw[C6_ (e:=R7 mo k c m w b r cl t) g0];rfl)|(rw[show R7 mo k c m w b r cl t=0 from C4.1 g0];rfl)
   refine s3 (B8t _ _ _ _ _ _ _ _ _ _ _ _ _ _ _ _ _ _ _ _ _ (fun e=>C6Q (A0i (B5h (mo:=mo) (C4.1 g0)).2 e))) rfl ?_;show Tr.sav _ _ (.cons 31 _ (.cons 30 _ (.cons 29 _ (.cons 28 _ (.cons 27 _ (.cons 26 _ (.cons 25 _ (.cons 24 _ (.cons 23 _ _)))))))));refine s7 [.int .i64 _,.int .i64 _,.int .i64 _,.int .i64 _,.int .i64 _,.int .i64 _,.int .i64 _,.str _,.bool _,.int .i64 _] rfl ?_;first|(rw[C6_ (e:=R7 mo k c m w b r cl t) g0];rfl)|(rw[show R7 mo k c m w b r cl t=0 from C4.1 g0];rfl)
  ·cases hs
 ·cases hs
noncomputable def D16:List (FuncId×FnC):=(24,E7 Tryz.prog [.a [8,8,8,8,8,8,8,8,8,8,8,3,8],.a [3,3,3,3,3,3,3,9]] B8M [.a [3,3,3,3,3,3,3,9],.s 8,.s 3])::D18
theorem C5A{G:Nat→Option Obj}(hst:A7 Tryz.prog G gl H0 n0):C5 Tryz.prog G gl D16:=.cons (C9E hst) (C5C hst)
def C7F(e:Int)(z:Bool)(s:List UInt8):Option (List Int):=if e=0 then(if z then none else some (bI s))else none
theorem D3M{e:Int}{z:Bool}{s:List UInt8}(h:e≠0):C7F e z s=none:=if_neg h
theorem A2H{z:Bool}{s:List UInt8}(h:z=true):C7F 0 z s=none:=by subst h;rfl
theorem I0{z:Bool}{s t:List UInt8}(h:z=false)(h2:t=s):C7F 0 z s=some (bI t):=by subst h h2;rfl
def B6k(k:Int)(z:Bool):Bool:=decide (k≠3) && !z
theorem A14{k:Int}{z:Bool}(h:k≠3)(h2:z=false):B6k k z=true:=by unfold B6k;rw[decide_eq_true h,h2];rfl
theorem A15{k:Int}{z:Bool}(h:k=3):B6k k z=false:=by unfold B6k;rw[decide_eq_false (fun q=>q h)];rfl
theorem K3{k:Int}{z:Bool}(h:z=true):B6k k z=false:=by unfold B6k;rw[h,P7,U4]
theorem A8r{pa fo:Bool}{mo k w b:Int}(h:k=3):isS pa fo mo k w b=pa:=by unfold isS;rw[if_pos h]
theorem C9o{sg:Bool}{b0 b1 ck b3 b4 b5 b6 pa fo b9 b10:Bool}{mo k c m w b r cl:Int}{t:List UInt8}{z:Bool}(hz:z=true)(h:msP m w b r cl):y8 [.bool b0,.bool b1,.bool ck,.bool b3,.bool b4,.bool b5,.bool b6,.bool pa,.bool fo,.bool b9,.bool b10,.int .i64 mo,.bool sg,.int .i64 (ifI z k),.int .i64 (ifI z c),.int .i64 (ifI z m),.int .i64 (ifI z w),.int .i64 (ifI z b),.int .i64 (ifI z r),.int .i64 (ifI z cl),.str (ifT z t)]=some (0,[.str (moS sg m w b r cl)]):=by
 subst hz;exact w9 b0 b1 ck b3 b4 b5 b6 pa fo b9 b10 mo sg k c m w b r cl t h
theorem B0f{ck pa fo sg:Bool}{mo k c m w b r cl:Int}{t:List UInt8}(h:k=3)(hp:pa=false):enS ck pa fo sg mo k c m w b r cl t=t:=if_pos ⟨h,hp⟩
theorem B0j{ck pa fo sg:Bool}{mo k c m w b r cl:Int}{t:List UInt8}(hz:isS pa fo mo k w b=true)(h:k=1):enS ck pa fo sg mo k c m w b r cl t=keS ck c m:=by
 unfold enS;rw[if_neg (fun g=>by have:=g.1;omega),if_neg (by rw[hz];decide),if_pos h]
theorem B0i{ck pa fo sg:Bool}{mo k c m w b r cl:Int}{t:List UInt8}(hz:isS pa fo mo k w b=true)(h:k=2):enS ck pa fo sg mo k c m w b r cl t=moS sg (A8u mo k m) w (A8v sg k w b) r cl:=by
 unfold enS;rw[if_neg (fun g=>by have:=g.1;omega),if_neg (by rw[hz];decide),if_neg (by omega),if_pos h]
theorem B0h{ck pa fo sg:Bool}{mo k c m w b r cl:Int}{t:List UInt8}(hz:isS pa fo mo k w b=true)(h:k=3):enS ck pa fo sg mo k c m w b r cl t=[27,91,50,48,48,126]++t++[27,91,50,48,49,126]:=by
 have hp:pa=true:=by rw[← A8r (pa:=pa) (fo:=fo) (mo:=mo) (w:=w) (b:=b) h];exact hz
 unfold enS;rw[if_neg (by rw[hp];simp),if_neg (by rw[hz];decide),if_neg (by omega),if_neg (by omega),if_pos h]
theorem B0g{ck pa fo sg:Bool}{mo k c m w b r cl:Int}{t x:List UInt8}(hz:isS pa fo mo k w b=true)(h1:k≠1)(h2:k≠2)(h3:k≠3)(h:x=if w=0 then[79]else[73]):[27,91]++x=enS ck pa fo sg mo k c m w b r cl t:=by
 rw[h];unfold enS;rw[if_neg (c:=k=3∧pa=false) (fun g=>h3 g.1),if_neg (c:=isS pa fo mo k w b=false) (by rw[hz];decide),if_neg h1,if_neg h2,if_neg h3]
theorem B6n{z:Bool}(h:(!z)=true):z=false:=by cases z<;>first|rfl|cases h
theorem A2r{z:Bool}(h:(!z)=false):z=true:=by cases z<;>first|rfl|cases h
theorem A1w{w:Int}(h0:0≤w)(h1:w≤1):(([79,73]:List UInt8).drop w.toNat).take ((w+1).toNat-w.toNat)=if w=0 then[79]else[73]:=by
 have:w=0∨w=1:=by omega
 rcases this with rfl|rfl<;>rfl
noncomputable def D0_:List (FuncId×FnC):=(48,E7 Tryz.prog [.a [8,8,8,8,8,8,8,8,8,8,8,3,8],.a [3,3,3,3,3,3,3,9]] A8V [.s 3])::(49,E7 Tryz.prog [.a [8,8,8,8,8,8,8,8,8,8,8,3,8],.a [3,3,3,3,3,3,3,9]] A7G [.a [3,3,3,3,3,3,3,9],.s 8])::(50,E7 Tryz.prog [.a [8,8,8,8,8,8,8,8,8,8,8,3,8],.a [3,3,3,3,3,3,3,9]] t8 [.s 9])::(51,E7 Tryz.prog [.a [8,8,8,8,8,8,8,8,8,8,8,3,8],.a [3,3,3,3,3,3,3,9]] y8 [.s 9])::L0
theorem C39{G:Nat→Option Obj}(hst:A7 Tryz.prog G gl H0 n0):C5 Tryz.prog G gl D0_:=(.cons (C1_ hst) (.cons (B8u hst) (.cons (A3G hst) (.cons (C2g hst) .nil))))
def B5E:List U→Option (Nat×List U)
 | [.bool b0,.bool b1,.bool ck,.bool b3,.bool b4,.bool b5,.bool b6,.bool pa,.bool fo,.bool b9,.bool b10,.int .i64 mo,.bool sg,.int .i64 k,.int .i64 c,.int .i64 m,.int .i64 w,.int .i64 b,.int .i64 r,.int .i64 cl,.str t]=>if -9223372036854775808≤m∧m≤9223372036854775807∧(t.length:Int)≤140737488351232 then some (0,[A8 rB (C7F (R7 mo k c m w b r cl t) (B6k k (isS pa fo mo k w b)) (enS ck pa fo sg mo k c m w b r cl t)),.int .i64 (R7 mo k c m w b r cl t)])else none
 | _=>none
def C89:Tr:=.fn A8V [h 0 8,h 1 8,h 2 8,h 3 8,h 4 8,h 5 8,h 6 8,h 7 8,h 8 8,h 9 8,h 10 8,h3 11,h 12 8,h3 13,h3 14,h3 15,h3 16,h3 17,h3 18,h3 19,h 20 9] 1<|aN [h3 21,jI 0]<|.br 22 (.dt 11 (.nilw 1) []<|.ret [h 23 11,h3 21]) (.fn A7G [h 0 8,h 1 8,h 2 8,h 3 8,h 4 8,h 5 8,h 6 8,h 7 8,h 8 8,h 9 8,h 10 8,h3 11,h 12 8,h3 13,h3 14,h3 15,h3 16,h3 17,h3 18,h3 19,h 20 9] 9<|aX [h 31 8]<|.br 32 (aE [h3 13,jI 3]<|.br 33 (.dt 11 (.byt) [h 20 9]<|.ret [h 34 11,jI 0]) (aX [h 31 8]<|.br 34 (.dt 11 (.nilw 1) []<|.ret [h 35 11,jI 0]) (aE [h3 13,jI 1]<|.br 35 (.fn t8 [h 0 8,h 1 8,h 2 8,h 3 8,h 4 8,h 5 8,h 6 8,h 7 8,h 8 8,h 9 8,h 10 8,h3 11,h 12 8,h3 13,h3 14,h3 15,h3 16,h3 17,h3 18,h3 19,h 20 9] 1<|.dt 11 (.byt) [h 36 9]<|.ret [h 37 11,jI 0]) (aE [h3 13,jI 2]<|.br 36 (.fn y8 [h 0 8,h 1 8,h 2 8,h 3 8,h 4 8,h 5 8,h 6 8,h 7 8,h 8 8,h 9 8,h 10 8,h3 11,h 12 8,h3 23,h3 24,h3 25,h3 26,h3 27,h3 28,h3 29,h 30 9] 1<|.dt 11 (.byt) [h 37 9]<|.ret [h 38 11,jI 0]) (aE [h3 13,jI 3]<|.br 37 (aC [.string ⟨⟨[27,91,50,48,48,126]⟩⟩,h 20 9]<|aC [h 38 9,.string ⟨⟨[27,91,50,48,49,126]⟩⟩]<|.dt 11 (.byt) [h 39 9]<|.ret [h 40 11,jI 0]) (aA [h3 16,jI 1]<|.lt 9 (.sub) [.string ⟨⟨[79,73]⟩⟩,h3 16,h3 38]<|aC [.string ⟨⟨[27,91]⟩⟩,h 39 9]<|.dt 11 (.byt) [h 40 9]<|.ret [h 41 11,jI 0])))))) (aX [h 31 8]<|.br 33 (.dt 11 (.nilw 1) []<|.ret [h 34 11,jI 0]) (aE [h3 13,jI 1]<|.br 34 (.fn t8 [h 0 8,h 1 8,h 2 8,h 3 8,h 4 8,h 5 8,h 6 8,h 7 8,h 8 8,h 9 8,h 10 8,h3 11,h 12 8,h3 13,h3 14,h3 15,h3 16,h3 17,h3 18,h3 19,h 20 9] 1<|.dt 11 (.byt) [h 35 9]<|.ret [h 36 11,jI 0]) (aE [h3 13,jI 2]<|.br 35 (.fn y8 [h 0 8,h 1 8,h 2 8,h 3 8,h 4 8,h 5 8,h 6 8,h 7 8,h 8 8,h 9 8,h 10 8,h3 11,h 12 8,h3 23,h3 24,h3 25,h3 26,h3 27,h3 28,h3 29,h 30 9] 1<|.dt 11 (.byt) [h 36 9]<|.ret [h 37 11,jI 0]) (aE [h3 13,jI 3]<|.br 36 (aC [.string ⟨⟨[27,91,50,48,48,126]⟩⟩,h 20 9]<|aC [h 37 9,.string ⟨⟨[27,91,50,48,49,126]⟩⟩]<|.dt 11 (.byt) [h 38 9]<|.ret [h 39 11,jI 0]) (aA [h3 16,jI 1]<|.lt 9 (.sub) [.string ⟨⟨[79,73]⟩⟩,h3 16,h3 37]<|aC [.string ⟨⟨[27,91]⟩⟩,h 38 9]<|.dt 11 (.byt) [h 39 9]<|.ret [h 40 11,jI 0]))))))
theorem C16{G:Nat→Option Obj}(hst:A7 Tryz.prog G gl H0 n0):H8 Tryz.prog G 23 [.a [8,8,8,8,8,8,8,8,8,8,8,3,8],.a [3,3,3,3,3,3,3,9]] B5E [.s 11,.s 3]:=by
 refine C6 (C:=cx D0_ A8e) (d:=60) C89 (cxg (C39 hst) (A2J hst)) hst ⟨Tryz.f23,_,Tryz.func23,rfl⟩ (by kernel_rfl) (by kernel_rfl) ?_;intro us outs hs;unfold B5E at hs;split at hs
 ·skip;rename_i b0 b1 ck b3 b4 b5 b6 pa fo b9 b10 mo sg k c m w b r cl t;split at hs
  ·rename_i hc;cases hs;unfold C89;refine s0L ?_;show Tr.sav _ _ (.cons 20 _ (.cons 19 _ (.cons 18 _ (.cons 17 _ (.cons 16 _ (.cons 15 _ (.cons 14 _ (.cons 13 _ (.cons 12 _ (.cons 11 _ (.cons 10 _ (.cons 9 _ (.cons 8 _ (.cons 7 _ (.cons 6 _ (.cons 5 _ (.cons 4 _ (.cons 3 _ (.cons 2 _ (.cons 1 _ (.cons 0 _ (.nil))))))))))))))))))))));refine s31 (B8N _ _ _ _ _ _ _ _ _ _ _ _ _ _ _ _ _ _ _ _ _ hc) rfl ?_;refine s1 (T4 _ _ _) rfl rfl rfl ?_;refine s4 rfl (fun g0=>?_) fun g0=>?_
   ·refine s2 (r:=rB) (D5 rfl) rfl rfl ?_;refine s7 [A8 rB _,.int .i64 _] rfl ?_;rw[D3M (e:=R7 mo k c m w b r cl t) g0]
   have z2:=(B5h (mo:=mo) (C4.1 g0)).2;have z3:=C9L z2;refine s3 (B8t _ _ _ _ _ _ _ _ _ _ _ _ _ _ _ _ _ _ _ _ _ (fun e=>C6Q (A0i (B5h (mo:=mo) (C4.1 g0)).2 e))) rfl ?_;show Tr.sav _ _ (.cons 31 _ (.cons 30 _ (.cons 29 _ (.cons 28 _ (.cons 27 _ (.cons 26 _ (.cons 25 _ (.cons 24 _ (.cons 23 _ _)))))))));first|refine s1 (R1 _) rfl rfl rfl ?_|refine s1 (X9 _) rfl rfl rfl ?_
   first|refine s4 rfl (fun g1=>?_) (fun g1=>?_)|refine s4B rfl (fun g1=>?_) (fun g1=>?_)
   ·refine s1 (G5 _ _ _) rfl rfl rfl ?_;refine s4 rfl (fun g2=>?_) fun g2=>?_
    ·refine s2 (r:=rB) (A0R _ rfl) rfl rfl ?_;refine s7 [A8 rB _,.int .i64 _] rfl ?_;have hz:=B6n g1;rw[show R7 mo k c m w b r cl t=0 from C4.1 g0];first
     | (exfalso;simp_all;done)
     | (rw[A2H (A14 (by omega) hz)];done)
     | (rw[I0 (A15 (by omega)) (B0f (by omega) (by rw[← A8r (pa:=pa) (fo:=fo) (mo:=mo) (w:=w) (b:=b) (by omega)];exact hz)).symm];done)
     | (rw[I0 (K3 hz) (B0j hz (by omega)).symm];done)
     | (rw[I0 (K3 hz) (B0i hz (by omega)).symm];done)
     | (rw[I0 (K3 hz) (B0h hz (by omega)).symm];done)
     | (rw[I0 (K3 hz) (B0g hz (by omega) (by omega) (by omega) (A1w (z3.2.2.2 (by omega)).1 (z3.2.2.2 (by omega)).2))];done)
    first|refine s1 (R1 _) rfl rfl rfl ?_|refine s1 (X9 _) rfl rfl rfl ?_
    first|refine s4 rfl (fun g3=>?_) (fun g3=>?_)|refine s4B rfl (fun g3=>?_) (fun g3=>?_)
    ·refine s2 (r:=rB) (D5 rfl) rfl rfl ?_;refine s7 [A8 rB _,.int .i64 _] rfl ?_;have hz:=B6n g1;rw[show R7 mo k c m w b r cl t=0 from C4.1 g0];first
     | (exfalso;simp_all;done)
     | (rw[A2H (A14 (by omega) hz)];done)
     | (rw[I0 (A15 (by omega)) (B0f (by omega) (by rw[← A8r (pa:=pa) (fo:=fo) (mo:=mo) (w:=w) (b:=b) (by omega)];exact hz)).symm];done)
     | (rw[I0 (K3 hz) (B0j hz (by omega)).symm];done)
     | (rw[I0 (K3 hz) (B0i hz (by omega)).symm];done)
     | (rw[I0 (K3 hz) (B0h hz (by omega)).symm];done)
     | (rw[I0 (K3 hz) (B0g hz (by omega) (by omega) (by omega) (A1w (z3.2.2.2 (by omega)).1 (z3.2.2.2 (by omega)).2))];done)
    refine s1 (G5 _ _ _) rfl rfl rfl ?_;refine s4 rfl (fun g4=>?_) fun g4=>?_
    ·refine s31 (B3p _ _ _ _ _ _ _ _ _ _ _ _ _ _ _ _ _ _ _ _ _ (C2J z2 ‹_›)) rfl ?_;refine s2 (r:=rB) (A0R _ rfl) rfl rfl ?_;refine s7 [A8 rB _,.int .i64 _] rfl ?_;have hz:=B6n g1;rw[show R7 mo k c m w b r cl t=0 from C4.1 g0];first
     | (exfalso;simp_all;done)
     | (rw[A2H (A14 (by omega) hz)];done)
     | (rw[I0 (A15 (by omega)) (B0f (by omega) (by rw[← A8r (pa:=pa) (fo:=fo) (mo:=mo) (w:=w) (b:=b) (by omega)];exact hz)).symm];done)
     | (rw[I0 (K3 hz) (B0j hz (by omega)).symm];done)
     | (rw[I0 (K3 hz) (B0i hz (by omega)).symm];done)
     | (rw[I0 (K3 hz) (B0h hz (by omega)).symm];done)
     | (rw[I0 (K3 hz) (B0g hz (by omega) (by omega) (by omega) (A1w (z3.2.2.2 (by omega)).1 (z3.2.2.2 (by omega)).2))];done)
    refine s1 (G5 _ _ _) rfl rfl rfl ?_;refine s4 rfl (fun g5=>?_) fun g5=>?_
    ·refine s31 (C9o (by first|exact A2r g1|(exfalso;simp_all;done)) (B6o (A0i z2 ‹_›))) rfl ?_;refine s2 (r:=rB) (A0R _ rfl) rfl rfl ?_;refine s7 [A8 rB _,.int .i64 _] rfl ?_;have hz:=B6n g1;rw[show R7 mo k c m w b r cl t=0 from C4.1 g0];first
     | (exfalso;simp_all;done)
     | (rw[A2H (A14 (by omega) hz)];done)
     | (rw[I0 (A15 (by omega)) (B0f (by omega) (by rw[← A8r (pa:=pa) (fo:=fo) (mo:=mo) (w:=w) (b:=b) (by omega)];exact hz)).symm];done)
     | (rw[I0 (K3 hz) (B0j hz (by omega)).symm];done)
     | (rw[I0 (K3 hz) (B0i hz (by omega)).symm];done)
     | (rw[I0 (K3 hz) (B0h hz (by omega)).symm];done)
     | (rw[I0 (K3 hz) (B0g hz (by omega) (by omega) (by omega) (A1w (z3.2.2.2 (by omega)).1 (z3.2.2.2 (by omega)).2))];done)
    refine s1 (G5 _ _ _) rfl rfl rfl ?_;refine s4 rfl (fun g6=>?_) fun g6=>?_
    ·refine s1 (Q9 _ _ (by simp only[B0,B8,E1,E8,D8];omega)) rfl rfl rfl ?_;refine s1 (Q9 _ _ (by simp only[B0,B8,E1,E8,D8];omega)) rfl rfl rfl ?_;refine s2 (r:=rB) (A0R _ rfl) rfl rfl ?_;refine s7 [A8 rB _,.int .i64 _] rfl ?_;have hz:=B6n g1;rw[show R7 mo k c m w b r cl t=0 from C4.1 g0];first
     | (exfalso;simp_all;done)
     | (rw[A2H (A14 (by omega) hz)];done)
     | (rw[I0 (A15 (by omega)) (B0f (by omega) (by rw[← A8r (pa:=pa) (fo:=fo) (mo:=mo) (w:=w) (b:=b) (by omega)];exact hz)).symm];done)
     | (rw[I0 (K3 hz) (B0j hz (by omega)).symm];done)
     | (rw[I0 (K3 hz) (B0i hz (by omega)).symm];done)
     | (rw[I0 (K3 hz) (B0h hz (by omega)).symm];done)
     | (rw[I0 (K3 hz) (B0g hz (by omega) (by omega) (by omega) (A1w (z3.2.2.2 (by omega)).1 (z3.2.2.2 (by omega)).2))];done)
    first|refine s1 (G9 (C7 (by omega) (by omega))) rfl rfl rfl ?_|refine s1 (J1 _ _ _) rfl rfl rfl ?_
    refine s1 (A9E _ _ _ _ _ (by omega) (by omega) (by simp[*]<;>omega)) rfl rfl rfl ?_;refine s1 (Q9 _ _ (by simp only[B0,B8,E1,E8,D8];omega)) rfl rfl rfl ?_;refine s2 (r:=rB) (A0R _ rfl) rfl rfl ?_;refine s7 [A8 rB _,.int .i64 _] rfl ?_;have hz:=B6n g1;rw[show R7 mo k c m w b r cl t=0 from C4.1 g0];first
    | (exfalso;simp_all;done)
    | (rw[A2H (A14 (by omega) hz)];done)
    | (rw[I0 (A15 (by omega)) (B0f (by omega) (by rw[← A8r (pa:=pa) (fo:=fo) (mo:=mo) (w:=w) (b:=b) (by omega)];exact hz)).symm];done)
    | (rw[I0 (K3 hz) (B0j hz (by omega)).symm];done)
    | (rw[I0 (K3 hz) (B0i hz (by omega)).symm];done)
    | (rw[I0 (K3 hz) (B0h hz (by omega)).symm];done)
    | (rw[I0 (K3 hz) (B0g hz (by omega) (by omega) (by omega) (A1w (z3.2.2.2 (by omega)).1 (z3.2.2.2 (by omega)).2))];done)
   first|refine s1 (R1 _) rfl rfl rfl ?_|refine s1 (X9 _) rfl rfl rfl ?_
   first|refine s4 rfl (fun g2=>?_) (fun g2=>?_)|refine s4B rfl (fun g2=>?_) (fun g2=>?_)
   ·refine s2 (r:=rB) (D5 rfl) rfl rfl ?_;refine s7 [A8 rB _,.int .i64 _] rfl ?_;have hz:=A2r g1;rw[show R7 mo k c m w b r cl t=0 from C4.1 g0];first
    | (exfalso;simp_all;done)
    | (rw[A2H (A14 (by omega) hz)];done)
    | (rw[I0 (A15 (by omega)) (B0f (by omega) (by rw[← A8r (pa:=pa) (fo:=fo) (mo:=mo) (w:=w) (b:=b) (by omega)];exact hz)).symm];done)
    | (rw[I0 (K3 hz) (B0j hz (by omega)).symm];done)
    | (rw[I0 (K3 hz) (B0i hz (by omega)).symm];done)
    | (rw[I0 (K3 hz) (B0h hz (by omega)).symm];done)
    | (rw[I0 (K3 hz) (B0g hz (by omega) (by omega) (by omega) (A1w (z3.2.2.2 (by omega)).1 (z3.2.2.2 (by omega)).2))];done)
   refine s1 (G5 _ _ _) rfl rfl rfl ?_;refine s4 rfl (fun g3=>?_) fun g3=>?_
   ·refine s31 (B3p _ _ _ _ _ _ _ _ _ _ _ _ _ _ _ _ _ _ _ _ _ (C2J z2 ‹_›)) rfl ?_;refine s2 (r:=rB) (A0R _ rfl) rfl rfl ?_;refine s7 [A8 rB _,.int .i64 _] rfl ?_;have hz:=A2r g1;rw[show R7 mo k c m w b r cl t=0 from C4.1 g0];first
    | (exfalso;simp_all;done)
    | (rw[A2H (A14 (by omega) hz)];done)
    | (rw[I0 (A15 (by omega)) (B0f (by omega) (by rw[← A8r (pa:=pa) (fo:=fo) (mo:=mo) (w:=w) (b:=b) (by omega)];exact hz)).symm];done)
    | (rw[I0 (K3 hz) (B0j hz (by omega)).symm];done)
    | (rw[I0 (K3 hz) (B0i hz (by omega)).symm];done)
    | (rw[I0 (K3 hz) (B0h hz (by omega)).symm];done)
    | (rw[I0 (K3 hz) (B0g hz (by omega) (by omega) (by omega) (A1w (z3.2.2.2 (by omega)).1 (z3.2.2.2 (by omega)).2))];done)
   refine s1 (G5 _ _ _) rfl rfl rfl ?_;refine s4 rfl (fun g4=>?_) fun g4=>?_
   ·refine s31 (C9o (by first|exact A2r g1|(exfalso;simp_all;done)) (B6o (A0i z2 ‹_›))) rfl ?_;refine s2 (r:=rB) (A0R _ rfl) rfl rfl ?_;refine s7 [A8 rB _,.int .i64 _] rfl ?_;have hz:=A2r g1;rw[show R7 mo k c m w b r cl t=0 from C4.1 g0];first
    | (exfalso;simp_all;done)
    | (rw[A2H (A14 (by omega) hz)];done)
    | (rw[I0 (A15 (by omega)) (B0f (by omega) (by rw[← A8r (pa:=pa) (fo:=fo) (mo:=mo) (w:=w) (b:=b) (by omega)];exact hz)).symm];done)
    | (rw[I0 (K3 hz) (B0j hz (by omega)).symm];done)
    | (rw[I0 (K3 hz) (B0i hz (by omega)).symm];done)
    | (rw[I0 (K3 hz) (B0h hz (by omega)).symm];done)
    | (rw[I0 (K3 hz) (B0g hz (by omega) (by omega) (by omega) (A1w (z3.2.2.2 (by omega)).1 (z3.2.2.2 (by omega)).2))];done)
   refine s1 (G5 _ _ _) rfl rfl rfl ?_;refine s4 rfl (fun g5=>?_) fun g5=>?_
   ·refine s1 (Q9 _ _ (by simp only[B0,B8,E1,E8,D8];omega)) rfl rfl rfl ?_;refine s1 (Q9 _ _ (by simp only[B0,B8,E1,E8,D8];omega)) rfl rfl rfl ?_;refine s2 (r:=rB) (A0R _ rfl) rfl rfl ?_;refine s7 [A8 rB _,.int .i64 _] rfl ?_;have hz:=A2r g1;rw[show R7 mo k c m w b r cl t=0 from C4.1 g0];first
    | (exfalso;simp_all;done)
    | (rw[A2H (A14 (by omega) hz)];done)
    | (rw[I0 (A15 (by omega)) (B0f (by omega) (by rw[← A8r (pa:=pa) (fo:=fo) (mo:=mo) (w:=w) (b:=b) (by omega)];exact hz)).symm];done)
    | (rw[I0 (K3 hz) (B0j hz (by omega)).symm];done)
    | (rw[I0 (K3 hz) (B0i hz (by omega)).symm];done)
    | (rw[I0 (K3 hz) (B0h hz (by omega)).symm];done)
    | (rw[I0 (K3 hz) (B0g hz (by omega) (by omega) (by omega) (A1w (z3.2.2.2 (by omega)).1 (z3.2.2.2 (by omega)).2))];done)
   first|refine s1 (G9 (C7 (by omega) (by omega))) rfl rfl rfl ?_|refine s1 (J1 _ _ _) rfl rfl rfl ?_
   refine s1 (A9E _ _ _ _ _ (by omega) (by omega) (by simp[*]<;>omega)) rfl rfl rfl ?_;refine s1 (Q9 _ _ (by simp only[B0,B8,E1,E8,D8];omega)) rfl rfl rfl ?_;refine s2 (r:=rB) (A0R _ rfl) rfl rfl ?_;refine s7 [A8 rB _,.int .i64 _] rfl ?_;have hz:=A2r g1;rw[show R7 mo k c m w b r cl t=0 from C4.1 g0];first
   | (exfalso;simp_all;done)
   | (rw[A2H (A14 (by omega) hz)];done)
   | (rw[I0 (A15 (by omega)) (B0f (by omega) (by rw[← A8r (pa:=pa) (fo:=fo) (mo:=mo) (w:=w) (b:=b) (by omega)];exact hz)).symm];done)
   | (rw[I0 (K3 hz) (B0j hz (by omega)).symm];done)
   | (rw[I0 (K3 hz) (B0i hz (by omega)).symm];done)
   | (rw[I0 (K3 hz) (B0h hz (by omega)).symm];done)
   | (rw[I0 (K3 hz) (B0g hz (by omega) (by omega) (by omega) (A1w (z3.2.2.2 (by omega)).1 (z3.2.2.2 (by omega)).2))];done)
  ·cases hs
 ·cases hs
noncomputable def D15:List (FuncId×FnC):=(23,E7 Tryz.prog [.a [8,8,8,8,8,8,8,8,8,8,8,3,8],.a [3,3,3,3,3,3,3,9]] B5E [.s 11,.s 3])::D16
theorem C4_{G:Nat→Option Obj}(hst:A7 Tryz.prog G gl H0 n0):C5 Tryz.prog G gl D15:=.cons (C16 hst) (C5A hst)
def nE(l:List UInt8):List UInt8:=l.filter fun x=>!isE x
theorem C2_{α:Type}(x:Option (List α)):j7 x (some [])=x:=by
 unfold j7;cases x<;>simp[el]
theorem B9y{α:Type}(x:Option (List α))(u v:List α):j7 (j7 x (some u)) (some v)=j7 x (some (u++v)):=by
 cases u with
 | nil=>rw[C2_];rfl
 | cons a u=>cases v with
   | nil=>simp[j7,el]
   | cons c v=>simp[j7,el]
theorem B4K{l:List UInt8}{i:Int}(h0:0≤i)(h1:i<1000):(l.take 1000).getD i.toNat default=l.getD i.toNat default:=by
 rw[B4,B4,F0 (by omega)]
theorem D2p{l:List UInt8}{i:Int}(h:(l.length:Int)≤i∨1000≤i):nE ((l.take 1000).drop i.toNat)=[]:=by
 rw[A0S (l.take 1000) (by rw[E8];omega)];rfl
theorem D5s{l:List UInt8}{i:Int}(h0:0≤i)(h1:i<(l.length:Int))(hk:i<1000)(h2:¬(((l.getD i.toNat 0).toNat:Nat):Int)≠27):nE ((l.take 1000).drop i.toNat)=nE ((l.take 1000).drop (i+1).toNat):=by
 rw[S2 (l.take 1000) h0 (by rw[E8];omega),B4K h0 hk,B3b,show l.getD i.toNat 0=27 from C9m (by omega)];rfl
theorem D5t{l:List UInt8}{i:Int}(h0:0≤i)(h1:i<(l.length:Int))(hk:i<1000)(h2:(((l.getD i.toNat 0).toNat:Nat):Int)≠27):nE ((l.take 1000).drop i.toNat)=l.getD i.toNat 0::nE ((l.take 1000).drop (i+1).toNat):=by
 rw[S2 (l.take 1000) h0 (by rw[E8];omega),B4K h0 hk,B3b];have:isE (l.getD i.toNat 0)=false:=decide_eq_false fun h=>h2 (by rw[h];rfl)
 unfold nE;rw[List.filter_cons,this];rfl
noncomputable def D1L:List (FuncId×FnC):=(34,E7 Tryz.prog [.s 3,.s 3] S7 [.s 8])::(32,E7 Tryz.prog [.a [3,3,3,3,3,3,3,9]] A5i [.s 8])::L0
theorem C4K{G:Nat→Option Obj}(hst:A7 Tryz.prog G gl H0 n0):C5 Tryz.prog G gl D1L:=(.cons (B4d hst) (.cons (B7n hst) .nil))
def A8Y:List U→Option (Nat×List U)
 | [u_out,.int .i64 i,.int .u8 d0,.int .u8 d1,.int .u8 d2,.int .u8 d3,.int .u8 d4,.int .u8 d5,.int .u8 d6,.int .u32 dc,.str t]=>(J9 rB u_out).bind fun out=>if 0≤i∧i≤1000∧((el out).length:Int)≤i∧(t.length:Int)≤140737488351232 then some (0,[A8 rB (j7 out (some (bI (nE ((t.take 1000).drop i.toNat)))))])else none
 | _=>none
theorem A5W(out:(Option (List Int)))(i:Int)(d0:Int)(d1:Int)(d2:Int)(d3:Int)(d4:Int)(d5:Int)(d6:Int)(dc:Int)(t:(List UInt8))(hc:0≤i∧i≤1000∧((el out).length:Int)≤i∧(t.length:Int)≤140737488351232):A8Y [A8 rB out,.int .i64 i,.int .u8 d0,.int .u8 d1,.int .u8 d2,.int .u8 d3,.int .u8 d4,.int .u8 d5,.int .u8 d6,.int .u32 dc,.str t]=some (0,[A8 rB (j7 out (some (bI (nE ((t.take 1000).drop i.toNat)))))]):=by
 simp only[A8Y,G0,D1];exact if_pos hc
def C9x:Q6:=⟨[(1,.pointer (some ⟨6,0,none⟩)),(2,.pointer (some ⟨7,0,none⟩)),(4,own 8 0 11),(5,h 1 3)],[(6,.cells 26 [h 2 4,h 3 4,h 4 4,h 5 4,h 6 4,h 7 4,h 8 4,h 9 6,h 10 9]),(7,.cells 23 [.int .i64 (0),.int .i64 (0),.int .i64 (0),.int .i64 (0),.int .i64 (0),.int .i64 (0),.int .i64 (0),.string ⟨⟨[]⟩⟩]),(8,.sq 0 11 5 9),(9,.frz)],11,[⟨.exit 1,[(2,.pointer (some ⟨7,0,none⟩)),(4,own 10 0 11)],[(7,.cells 23 [.int .i64 (0),.int .i64 (0),.int .i64 (0),.int .i64 (0),.int .i64 (0),.int .i64 (0),.int .i64 (0),.string ⟨⟨[]⟩⟩]),(10,.sq 0 11 5 11),(11,.frz)],1⟩]⟩
noncomputable def C2p:Code:=(Tryz.f12.body).getD .skip
noncomputable def C9t:Code:=match H4 [true,false,true,false,true,true,true,false,true,false,true,false] C2p with|some (.loop x)=>x|_=>.skip
theorem C9w:Tryz.f12.body=some C2p:=rfl
theorem C9v:H4 [true,false,true,false,true,true,true,false,true,false,true,false] C2p=some (.loop C9t):=by kernel_rfl
def C9u:Tr:=aD [h 10 9]<|aL [h3 1,h3 11]<|.br 12 (aL [h3 1,jI 1000]<|.br 13 (.lt 4 (.idx) [h 10 9,h3 1]<|aN [h 14 4,.int .u8 (27)]<|.br 15 (.lt 4 (.idx) [h 10 9,h3 1]<|.dt 11 (.snoc 1) [h 0 11,h 16 4]<|aA [h3 1,jI 1]<|.ret [jI (-1),h 17 11,h3 18,h 2 4,h 3 4,h 4 4,h 5 4,h 6 4,h 7 4,h 8 4,h 9 6,h 10 9]) (aA [h3 1,jI 1]<|.ret [jI (-1),h 0 11,h3 16,h 2 4,h 3 4,h 4 4,h 5 4,h 6 4,h 7 4,h 8 4,h 9 6,h 10 9])) (.ret [jI 0,h 0 11])) (.ret [jI 0,h 0 11])
def C2o:List U→Nat
 | [u_out,.int .i64 i,.int .u8 d0,.int .u8 d1,.int .u8 d2,.int .u8 d3,.int .u8 d4,.int .u8 d5,.int .u8 d6,.int .u32 dc,.str t]=>(match J9 rB u_out with|some out=>(1000-i).toNat|none=>0)
 | _=>0
theorem C2n(out:(Option (List Int)))(i:Int)(d0:Int)(d1:Int)(d2:Int)(d3:Int)(d4:Int)(d5:Int)(d6:Int)(dc:Int)(t:(List UInt8)):C2o [A8 rB out,.int .i64 i,.int .u8 d0,.int .u8 d1,.int .u8 d2,.int .u8 d3,.int .u8 d4,.int .u8 d5,.int .u8 d6,.int .u32 dc,.str t]=(1000-i).toNat:=by
 simp only[C2o,G0]
theorem D45{G:Nat→Option Obj}(hst:A7 Tryz.prog G gl H0 n0):∀ (E:Nat→U) (base:Nat),@W7 ⟨E,G⟩ Tryz.prog base gl Tryz.f12.ntmps C9t (O6 Tryz.prog gl n0 12 C9x A8Y):=by
 refine m9 (C:=cx D1L A8e) (dep:=60) (f:=12) (n0:=n0) (nB:=12) (H0:=H0) C2o C9u (cxg (C4K hst) (A2J hst)) hst Tryz.func12 C9w C9v (by kernel_rfl) (by kernel_rfl) (by kernel_rfl) ?_;intro us d outs hs;have hs0:=hs;unfold A8Y at hs;split at hs
 ·skip;rename_i u_out i d0 d1 d2 d3 d4 d5 d6 dc t;have hq_out:=A4.1 hs;clear hs;obtain⟨out,hd_out,hs⟩:=hq_out;replace hd_out:=F1 hd_out;subst hd_out;split at hs
  ·rename_i hc;clear hs hs0;refine⟨rfl,?_⟩;unfold C9u;refine w0 (.cons 10 _ (.cons 9 _ (.cons 8 _ (.cons 7 _ (.cons 6 _ (.cons 5 _ (.cons 4 _ (.cons 3 _ (.cons 2 _ (.cons 1 _ (.cons 0 _ (.nil)))))))))))) ?_;repeat (first|refine A9b ?_|refine A4F ?_|refine w4 (fun g=>?_) fun g=>?_|refine A37 ?_|refine D3d ?_|(refine w7 [.int .i64 _,A8 rB _,.int .i64 _,.int .u8 _,.int .u8 _,.int .u8 _,.int .u8 _,.int .u8 _,.int .u8 _,.int .u8 _,.int .u32 _,.str _] ?_;rotate_left)|(refine w7 [.int .i64 _,A8 rB _] ?_;rotate_left)|refine B9D ?_|refine A9W ?_|refine w2 (.snoc 1) (r:=rB) (e:=J4 rfl rfl (by decide) (by simp[*]<;>omega)) (k':=?_))
   all_goals first
    | refine J2 ?_ ?_
      ·first
       | (have hx:∀ X,X=j7 out (some (bI [t.getD i.toNat 0]))→A8Y [A8 rB X,.int .i64 (i+1),.int .u8 d0,.int .u8 d1,.int .u8 d2,.int .u8 d3,.int .u8 d4,.int .u8 d5,.int .u8 d6,.int .u32 dc,.str t]=A8Y [A8 rB out,.int .i64 i,.int .u8 d0,.int .u8 d1,.int .u8 d2,.int .u8 d3,.int .u8 d4,.int .u8 d5,.int .u8 d6,.int .u32 dc,.str t]:=fun X hX=>by
           rw[A5W X (i+1) d0 d1 d2 d3 d4 d5 d6 dc t ⟨by omega,by omega,by rw[hX,A1d,E9,B0,B7F,B8,E1];omega,hc.2.2.2⟩,A5W out i d0 d1 d2 d3 d4 d5 d6 dc t hc,hX,B9y,← D3P,D5t (i:=i) (by omega) (by omega) (by omega) ‹_›];rfl
          exact hx _ rfl)
       | (rw[A5W out (i+1) d0 d1 d2 d3 d4 d5 d6 dc t ⟨by omega,by omega,by omega,hc.2.2.2⟩,A5W out i d0 d1 d2 d3 d4 d5 d6 dc t hc,D5s (i:=i) (by omega) (by omega) (by omega) ‹_›];done)
      ·rw[C2n,C2n];omega
    | refine K0 (d:=0) ?_
      rw[A5W out i d0 d1 d2 d3 d4 d5 d6 dc t hc,D2p (i:=i) (by omega)];exact congrArg (fun z=>some (0,[A8 rB z])) (C2_ out)
  ·cases hs
 ·cases hs
noncomputable def B57:List LpE:=(12,([true,false,true,false,true,true,true,false,true,false,true,false],O6 Tryz.prog gl n0 12 C9x A8Y))::A8e
theorem A7R{G:Nat→Option Obj}(hst:A7 Tryz.prog G gl H0 n0):o7 Tryz.prog G gl B57:=.cons Tryz.func12 C9w C9v (D45 hst) (A2J hst)
theorem B2S{a:Int}(h0:0≤a)(h1:a<256):evU (.bin .and) [.int .u8 a,.int .u8 6]=.int .u8 (a / 2%4*2):=by
 rw[A56];have k:∀ n:Nat,n<256→IntKind.u8.wrap (BitVec.ofInt IntKind.u8.bits (n:Int) &&& BitVec.ofInt IntKind.u8.bits 6).toNat=(n:Int) / 2%4*2:=by decide
 obtain⟨n,rfl⟩:∃ n:Nat,a=n:=⟨a.toNat,by omega⟩;exact congrArg _ (k n (by omega))
theorem B2T{a:Int}(h0:0≤a)(h1:a<256):evU (.bin .and) [.int .u8 a,.int .u8 2]=.int .u8 (a / 2%2*2):=by
 rw[A56];have k:∀ n:Nat,n<256→IntKind.u8.wrap (BitVec.ofInt IntKind.u8.bits (n:Int) &&& BitVec.ofInt IntKind.u8.bits 2).toNat=(n:Int) / 2%2*2:=by decide
 obtain⟨n,rfl⟩:∃ n:Nat,a=n:=⟨a.toNat,by omega⟩;exact congrArg _ (k n (by omega))
theorem el0(l:List UInt8):el (j7 none (some (bI l)))=bI l:=by rw[A1d];rfl
theorem D5l(l:List UInt8):∀ n ∈ el (j7 none (some (bI l))),0≤n∧n<256:=fun n h=>by rw[el0]at h;exact D3O h
theorem iB0(l:List UInt8):iB (el (j7 none (some (bI l))))=l:=by rw[el0,D4p]
def dC1(d4 dc:Int):Int:=if d4%2=0 then 1114113+d4 / 2%26 else dc
def dC2(x:Int):Int:=if x<1114113∧¬chP x then 97+x%26 else x
def dM(c m:Int):Int:=if W9 c (m%8)then m%8 else if W9 c (m%8 / 2%4*2)then m%8 / 2%4*2 else if W9 c (m / 2%2*2)then m / 2%2*2 else 0
def dC3(c m:Int):Int:=if W9 c (m%8)∨W9 c (m%8 / 2%4*2)∨W9 c (m / 2%2*2)∨W9 c 0 then c else 97
def diK(q:Int):Int:=if q=1 then 2 else if q=2 then 3 else if q=3 then 4 else 1
def diC(q d3 d4 dc:Int):Int:=if q=0 then dC3 (dC2 (dC1 d4 dc)) d3 else 0
def diM(q d3 d4 dc:Int):Int:=if q=0 then dM (dC2 (dC1 d4 dc)) d3 else if q=1 then d3%8 else 0
def diW(q d1:Int):Int:=if q=1 then d1%4 else if q=3 then d1%2 else 0
def diB(q d1 d2 d3 d5 d6:Int):Int:=if q=1 then(if X7 2 0 (d3%8) (d1%4) (d2%4) (d5%40) (d6%80) []then d2%4 else d2%4%2)else 0
def diR(q d5:Int):Int:=if q=1 then d5%40 else 0
def diL(q d6:Int):Int:=if q=1 then d6%80 else 0
def diT(q:Int)(t:List UInt8):List UInt8:=if q=2 then nE (t.take 1000)else[]
theorem l8{a1 a2 a3 a4 a5 a6 a7 b1 b2 b3 b4 b5 b6 b7:Int}{s t:List UInt8}(h1:a1=b1)(h2:a2=b2)(h3:a3=b3)(h4:a4=b4)(h5:a5=b5)(h6:a6=b6)(h7:a7=b7)(h8:s=t):[U.int .i64 a1,.int .i64 a2,.int .i64 a3,.int .i64 a4,.int .i64 a5,.int .i64 a6,.int .i64 a7,.str s]=[U.int .i64 b1,.int .i64 b2,.int .i64 b3,.int .i64 b4,.int .i64 b5,.int .i64 b6,.int .i64 b7,.str t]:=by rw[h1,h2,h3,h4,h5,h6,h7,h8]
theorem D46{d1 d2 d3 d5 d6:Int}(h:decide (X7 2 0 (d3%8) (d1%4) (d2%4) (d5%40) (d6%80) [])=true):d2%4=diB 1 d1 d2 d3 d5 d6:=(if_pos (of_decide_eq_true h)).symm
theorem D47{d1 d2 d3 d5 d6:Int}(h:decide (X7 2 0 (d3%8) (d1%4) (d2%4) (d5%40) (d6%80) [])=false):d2%4%2=diB 1 d1 d2 d3 d5 d6:=(if_neg (of_decide_eq_false h)).symm
theorem A2G{d4 dc:Int}(h:d4%2=0):dC1 d4 dc=1114113+d4 / 2%26:=if_pos h
theorem A2F{d4 dc:Int}(h:¬d4%2=0):dC1 d4 dc=dc:=if_neg h
theorem A5m{x:Int}(h:x<1114113)(h2:decide (chP x)=false):dC2 x=97+x%26:=if_pos ⟨h,of_decide_eq_false h2⟩
theorem A5n{x:Int}(h:¬x<1114113):dC2 x=x:=if_neg fun g=>h g.1
theorem A5o{x:Int}(h2:decide (chP x)=true):dC2 x=x:=if_neg fun g=>g.2 (of_decide_eq_true h2)
theorem B9u{c m:Int}(h:decide (W9 c (m%8))=true):dM c m=m%8∧dC3 c m=c:=⟨if_pos (of_decide_eq_true h),if_pos (.inl (of_decide_eq_true h))⟩
theorem B9t{c m:Int}(g:decide (W9 c (m%8))=false)(h:decide (W9 c (m%8 / 2%4*2))=true):dM c m=m%8 / 2%4*2∧dC3 c m=c:=⟨by unfold dM;rw[if_neg (of_decide_eq_false g),if_pos (of_decide_eq_true h)],if_pos (.inr (.inl (of_decide_eq_true h)))⟩
theorem B9s{c m:Int}(g:decide (W9 c (m%8))=false)(g2:decide (W9 c (m%8 / 2%4*2))=false)(h:decide (W9 c (m / 2%2*2))=true):dM c m=m / 2%2*2∧dC3 c m=c:=⟨by unfold dM;rw[if_neg (of_decide_eq_false g),if_neg (of_decide_eq_false g2),if_pos (of_decide_eq_true h)],if_pos (.inr (.inr (.inl (of_decide_eq_true h))))⟩
theorem B9r{c m:Int}(g:decide (W9 c (m%8))=false)(g2:decide (W9 c (m%8 / 2%4*2))=false)(g3:decide (W9 c (m / 2%2*2))=false)(h:decide (W9 c 0)=true):dM c m=0∧dC3 c m=c:=⟨by unfold dM;rw[if_neg (of_decide_eq_false g),if_neg (of_decide_eq_false g2),if_neg (of_decide_eq_false g3)],if_pos (.inr (.inr (.inr (of_decide_eq_true h))))⟩
theorem B9q{c m:Int}(g:decide (W9 c (m%8))=false)(g2:decide (W9 c (m%8 / 2%4*2))=false)(g3:decide (W9 c (m / 2%2*2))=false)(h:decide (W9 c 0)=false):dM c m=0∧dC3 c m=97:=⟨by unfold dM;rw[if_neg (of_decide_eq_false g),if_neg (of_decide_eq_false g2),if_neg (of_decide_eq_false g3)],if_neg fun q=>q.elim (of_decide_eq_false g) fun q=>q.elim (of_decide_eq_false g2) fun q=>q.elim (of_decide_eq_false g3) (of_decide_eq_false h)⟩
noncomputable def D1U:List (FuncId×FnC):=L0
theorem C4T{G:Nat→Option Obj}(hst:A7 Tryz.prog G gl H0 n0):C5 Tryz.prog G gl D1U:=.nil
def B0v:List U→Option (Nat×List U)
 | [.int .i64 c]=>some (0,[.bool (decide (chP c))])
 | _=>none
theorem B8s(c:Int):B0v [.int .i64 c]=some (0,[.bool (decide (chP c))]):=rfl
def D0D:Tr:=aH [h3 0,jI 0]<|.br 1 (aQ [h3 0,jI 1114111]<|.br 2 (aL [h3 0,jI 55296]<|.br 3 (aH [h3 0,jI 32]<|.br 4 (aH [h3 0,jI 127]<|.br 5 (aQ [h3 0,jI 159]<|aX [h 6 8]<|.ret [h 7 8]) (.ret [.bool true])) (.ret [.bool false])) (aG [h3 0,jI 57343]<|.br 4 (aH [h3 0,jI 32]<|.br 5 (aH [h3 0,jI 127]<|.br 6 (aQ [h3 0,jI 159]<|aX [h 7 8]<|.ret [h 8 8]) (.ret [.bool true])) (.ret [.bool false])) (.ret [.bool false]))) (.ret [.bool false])) (.ret [.bool false])
theorem D0E{G:Nat→Option Obj}(hst:A7 Tryz.prog G gl H0 n0):H8 Tryz.prog G 33 [.s 3] B0v [.s 8]:=by
 refine C6 (C:=cx D1U B57) (d:=60) D0D (cxg (C4T hst) (A7R hst)) hst ⟨Tryz.f33,_,Tryz.func33,rfl⟩ (by kernel_rfl) (by kernel_rfl) ?_;intro us outs hs;unfold B0v at hs;split at hs
 ·skip;rename_i c;cases hs;unfold D0D;refine w0 (.cons 0 _ (.nil)) ?_;repeat (first|(refine w7 [.bool _] ?_;rotate_left)|refine w4 (fun g=>?_) fun g=>?_|refine A4D ?_|refine A5b ?_|refine A1S ?_|refine A37 ?_|refine A9Y ?_)
  all_goals
   refine l1 ?_;first|(refine decide_eq_decide.2 ?_;unfold chP okU;omega)|(symm;first|exact decide_eq_true (by unfold chP okU;omega)|exact decide_eq_false (by unfold chP okU;omega))
 ·cases hs
noncomputable def D2K:List (FuncId×FnC):=(33,E7 Tryz.prog [.s 3] B0v [.s 8])::D15
theorem C5R{G:Nat→Option Obj}(hst:A7 Tryz.prog G gl H0 n0):C5 Tryz.prog G gl D2K:=.cons (D0E hst) (C4_ hst)
noncomputable def D1K:List (FuncId×FnC):=(34,E7 Tryz.prog [.s 3,.s 3] S7 [.s 8])::(32,E7 Tryz.prog [.a [3,3,3,3,3,3,3,9]] A5i [.s 8])::(33,E7 Tryz.prog [.s 3] B0v [.s 8])::L0
theorem C4J{G:Nat→Option Obj}(hst:A7 Tryz.prog G gl H0 n0):C5 Tryz.prog G gl D1K:=(.cons (B4d hst) (.cons (B7n hst) (.cons (D0E hst) .nil)))
def C2l:List U→Option (Nat×List U)
 | [.int .u8 d0,.int .u8 d1,.int .u8 d2,.int .u8 d3,.int .u8 d4,.int .u8 d5,.int .u8 d6,.int .u32 dc,.str t]=>if 0≤d0∧d0<256∧0≤d1∧d1<256∧0≤d2∧d2<256∧0≤d3∧d3<256∧0≤d4∧d4<256∧0≤d5∧d5<256∧0≤d6∧d6<256∧0≤dc∧dc<4294967296∧(t.length:Int)≤140737488351232 then some (0,[.int .i64 (diK (d0%4)),.int .i64 (diC (d0%4) d3 d4 dc),.int .i64 (diM (d0%4) d3 d4 dc),.int .i64 (diW (d0%4) d1),.int .i64 (diB (d0%4) d1 d2 d3 d5 d6),.int .i64 (diR (d0%4) d5),.int .i64 (diL (d0%4) d6),.str (diT (d0%4) t)])else none
 | _=>none
def C9s:Tr:=.lt 4 (.bin .rem) [h 0 4,.int .u8 (4)]<|aE [h 9 4,.int .u8 (1)]<|.br 10 (.lt 4 (.bin .rem) [h 1 4,.int .u8 (4)]<|.lt 3 (.conv .i64) [h 11 4]<|.lt 4 (.bin .rem) [h 2 4,.int .u8 (4)]<|.lt 3 (.conv .i64) [h 13 4]<|.lt 4 (.bin .rem) [h 3 4,.int .u8 (8)]<|.lt 3 (.conv .i64) [h 15 4]<|.lt 4 (.bin .rem) [h 5 4,.int .u8 (40)]<|.lt 3 (.conv .i64) [h 17 4]<|.lt 4 (.bin .rem) [h 6 4,.int .u8 (80)]<|.lt 3 (.conv .i64) [h 19 4]<|.fn A5i [jI 2,jI 0,h3 16,h3 12,h3 14,h3 18,h3 20,.string ⟨⟨[]⟩⟩] 1<|aX [h 21 8]<|.br 22 (.lt 3 (.bin .rem) [h3 14,jI 2]<|.ret [jI 2,jI 0,h3 16,h3 12,h3 23,h3 18,h3 20,.string ⟨⟨[]⟩⟩]) (.ret [jI 2,jI 0,h3 16,h3 12,h3 14,h3 18,h3 20,.string ⟨⟨[]⟩⟩])) (aE [h 9 4,.int .u8 (2)]<|.br 11 (.dt 11 (.nilw 1) []<|.fn A8Y [h 12 11,jI 0,h 0 4,h 1 4,h 2 4,h 3 4,h 4 4,h 5 4,h 6 4,h 7 6,h 8 9] 1<|.lt 9 (.str) [h 13 11]<|.ret [jI 3,jI 0,jI 0,jI 0,jI 0,jI 0,jI 0,h 14 9]) (aE [h 9 4,.int .u8 (3)]<|.br 12 (.lt 4 (.bin .rem) [h 1 4,.int .u8 (2)]<|.lt 3 (.conv .i64) [h 13 4]<|.ret [jI 4,jI 0,jI 0,h3 14,jI 0,jI 0,jI 0,.string ⟨⟨[]⟩⟩]) (.lt 3 (.conv .i64) [h 7 6]<|.lt 4 (.bin .rem) [h 4 4,.int .u8 (2)]<|aE [h 14 4,.int .u8 (0)]<|.br 15 (.lt 4 (.bin .quo) [h 4 4,.int .u8 (2)]<|.lt 3 (.conv .i64) [h 16 4]<|.lt 3 (.bin .rem) [h3 17,jI 26]<|aA [jI 1114113,h3 18]<|aL [h3 19,jI 1114113]<|.br 20 (.fn B0v [h3 19] 1<|aX [h 21 8]<|.br 22 (.lt 3 (.bin .rem) [h3 19,jI 26]<|aA [jI 97,h3 23]<|.lt 4 (.bin .rem) [h 3 4,.int .u8 (8)]<|.lt 3 (.conv .i64) [h 25 4]<|.lt 4 (.bin .rem) [h 3 4,.int .u8 (8)]<|.lt 4 (.bin .and) [h 27 4,.int .u8 (6)]<|.lt 3 (.conv .i64) [h 28 4]<|.lt 4 (.bin .and) [h 3 4,.int .u8 (2)]<|.lt 3 (.conv .i64) [h 30 4]<|.fn S7 [h3 24,h3 26] 1<|.br 32 (.ret [jI 1,h3 24,h3 26,jI 0,jI 0,jI 0,jI 0,.string ⟨⟨[]⟩⟩]) (.fn S7 [h3 24,h3 29] 1<|.br 33 (.ret [jI 1,h3 24,h3 29,jI 0,jI 0,jI 0,jI 0,.string ⟨⟨[]⟩⟩]) (.fn S7 [h3 24,h3 31] 1<|.br 34 (.ret [jI 1,h3 24,h3 31,jI 0,jI 0,jI 0,jI 0,.string ⟨⟨[]⟩⟩]) (.fn S7 [h3 24,jI 0] 1<|.br 35 (.ret [jI 1,h3 24,jI 0,jI 0,jI 0,jI 0,jI 0,.string ⟨⟨[]⟩⟩]) (.ret [jI 1,jI 97,jI 0,jI 0,jI 0,jI 0,jI 0,.string ⟨⟨[]⟩⟩]))))) (.lt 4 (.bin .rem) [h 3 4,.int .u8 (8)]<|.lt 3 (.conv .i64) [h 23 4]<|.lt 4 (.bin .rem) [h 3 4,.int .u8 (8)]<|.lt 4 (.bin .and) [h 25 4,.int .u8 (6)]<|.lt 3 (.conv .i64) [h 26 4]<|.lt 4 (.bin .and) [h 3 4,.int .u8 (2)]<|.lt 3 (.conv .i64) [h 28 4]<|.fn S7 [h3 19,h3 24] 1<|.br 30 (.ret [jI 1,h3 19,h3 24,jI 0,jI 0,jI 0,jI 0,.string ⟨⟨[]⟩⟩]) (.fn S7 [h3 19,h3 27] 1<|.br 31 (.ret [jI 1,h3 19,h3 27,jI 0,jI 0,jI 0,jI 0,.string ⟨⟨[]⟩⟩]) (.fn S7 [h3 19,h3 29] 1<|.br 32 (.ret [jI 1,h3 19,h3 29,jI 0,jI 0,jI 0,jI 0,.string ⟨⟨[]⟩⟩]) (.fn S7 [h3 19,jI 0] 1<|.br 33 (.ret [jI 1,h3 19,jI 0,jI 0,jI 0,jI 0,jI 0,.string ⟨⟨[]⟩⟩]) (.ret [jI 1,jI 97,jI 0,jI 0,jI 0,jI 0,jI 0,.string ⟨⟨[]⟩⟩])))))) (.lt 4 (.bin .rem) [h 3 4,.int .u8 (8)]<|.lt 3 (.conv .i64) [h 21 4]<|.lt 4 (.bin .rem) [h 3 4,.int .u8 (8)]<|.lt 4 (.bin .and) [h 23 4,.int .u8 (6)]<|.lt 3 (.conv .i64) [h 24 4]<|.lt 4 (.bin .and) [h 3 4,.int .u8 (2)]<|.lt 3 (.conv .i64) [h 26 4]<|.fn S7 [h3 19,h3 22] 1<|.br 28 (.ret [jI 1,h3 19,h3 22,jI 0,jI 0,jI 0,jI 0,.string ⟨⟨[]⟩⟩]) (.fn S7 [h3 19,h3 25] 1<|.br 29 (.ret [jI 1,h3 19,h3 25,jI 0,jI 0,jI 0,jI 0,.string ⟨⟨[]⟩⟩]) (.fn S7 [h3 19,h3 27] 1<|.br 30 (.ret [jI 1,h3 19,h3 27,jI 0,jI 0,jI 0,jI 0,.string ⟨⟨[]⟩⟩]) (.fn S7 [h3 19,jI 0] 1<|.br 31 (.ret [jI 1,h3 19,jI 0,jI 0,jI 0,jI 0,jI 0,.string ⟨⟨[]⟩⟩]) (.ret [jI 1,jI 97,jI 0,jI 0,jI 0,jI 0,jI 0,.string ⟨⟨[]⟩⟩])))))) (aL [h3 13,jI 1114113]<|.br 16 (.fn B0v [h3 13] 1<|aX [h 17 8]<|.br 18 (.lt 3 (.bin .rem) [h3 13,jI 26]<|aA [jI 97,h3 19]<|.lt 4 (.bin .rem) [h 3 4,.int .u8 (8)]<|.lt 3 (.conv .i64) [h 21 4]<|.lt 4 (.bin .rem) [h 3 4,.int .u8 (8)]<|.lt 4 (.bin .and) [h 23 4,.int .u8 (6)]<|.lt 3 (.conv .i64) [h 24 4]<|.lt 4 (.bin .and) [h 3 4,.int .u8 (2)]<|.lt 3 (.conv .i64) [h 26 4]<|.fn S7 [h3 20,h3 22] 1<|.br 28 (.ret [jI 1,h3 20,h3 22,jI 0,jI 0,jI 0,jI 0,.string ⟨⟨[]⟩⟩]) (.fn S7 [h3 20,h3 25] 1<|.br 29 (.ret [jI 1,h3 20,h3 25,jI 0,jI 0,jI 0,jI 0,.string ⟨⟨[]⟩⟩]) (.fn S7 [h3 20,h3 27] 1<|.br 30 (.ret [jI 1,h3 20,h3 27,jI 0,jI 0,jI 0,jI 0,.string ⟨⟨[]⟩⟩]) (.fn S7 [h3 20,jI 0] 1<|.br 31 (.ret [jI 1,h3 20,jI 0,jI 0,jI 0,jI 0,jI 0,.string ⟨⟨[]⟩⟩]) (.ret [jI 1,jI 97,jI 0,jI 0,jI 0,jI 0,jI 0,.string ⟨⟨[]⟩⟩]))))) (.lt 4 (.bin .rem) [h 3 4,.int .u8 (8)]<|.lt 3 (.conv .i64) [h 19 4]<|.lt 4 (.bin .rem) [h 3 4,.int .u8 (8)]<|.lt 4 (.bin .and) [h 21 4,.int .u8 (6)]<|.lt 3 (.conv .i64) [h 22 4]<|.lt 4 (.bin .and) [h 3 4,.int .u8 (2)]<|.lt 3 (.conv .i64) [h 24 4]<|.fn S7 [h3 13,h3 20] 1<|.br 26 (.ret [jI 1,h3 13,h3 20,jI 0,jI 0,jI 0,jI 0,.string ⟨⟨[]⟩⟩]) (.fn S7 [h3 13,h3 23] 1<|.br 27 (.ret [jI 1,h3 13,h3 23,jI 0,jI 0,jI 0,jI 0,.string ⟨⟨[]⟩⟩]) (.fn S7 [h3 13,h3 25] 1<|.br 28 (.ret [jI 1,h3 13,h3 25,jI 0,jI 0,jI 0,jI 0,.string ⟨⟨[]⟩⟩]) (.fn S7 [h3 13,jI 0] 1<|.br 29 (.ret [jI 1,h3 13,jI 0,jI 0,jI 0,jI 0,jI 0,.string ⟨⟨[]⟩⟩]) (.ret [jI 1,jI 97,jI 0,jI 0,jI 0,jI 0,jI 0,.string ⟨⟨[]⟩⟩])))))) (.lt 4 (.bin .rem) [h 3 4,.int .u8 (8)]<|.lt 3 (.conv .i64) [h 17 4]<|.lt 4 (.bin .rem) [h 3 4,.int .u8 (8)]<|.lt 4 (.bin .and) [h 19 4,.int .u8 (6)]<|.lt 3 (.conv .i64) [h 20 4]<|.lt 4 (.bin .and) [h 3 4,.int .u8 (2)]<|.lt 3 (.conv .i64) [h 22 4]<|.fn S7 [h3 13,h3 18] 1<|.br 24 (.ret [jI 1,h3 13,h3 18,jI 0,jI 0,jI 0,jI 0,.string ⟨⟨[]⟩⟩]) (.fn S7 [h3 13,h3 21] 1<|.br 25 (.ret [jI 1,h3 13,h3 21,jI 0,jI 0,jI 0,jI 0,.string ⟨⟨[]⟩⟩]) (.fn S7 [h3 13,h3 23] 1<|.br 26 (.ret [jI 1,h3 13,h3 23,jI 0,jI 0,jI 0,jI 0,.string ⟨⟨[]⟩⟩]) (.fn S7 [h3 13,jI 0] 1<|.br 27 (.ret [jI 1,h3 13,jI 0,jI 0,jI 0,jI 0,jI 0,.string ⟨⟨[]⟩⟩]) (.ret [jI 1,jI 97,jI 0,jI 0,jI 0,jI 0,jI 0,.string ⟨⟨[]⟩⟩])))))))))
theorem D43{G:Nat→Option Obj}(hst:A7 Tryz.prog G gl H0 n0):H8 Tryz.prog G 12 [.a [4,4,4,4,4,4,4,6,9]] C2l [.a [3,3,3,3,3,3,3,9]]:=by
 refine C6 (C:=cx D1K B57) (d:=60) C9s (cxg (C4J hst) (A7R hst)) hst ⟨Tryz.f12,_,Tryz.func12,rfl⟩ (by kernel_rfl) (by kernel_rfl) ?_;intro us outs hs;unfold C2l at hs;split at hs
 ·skip;rename_i d0 d1 d2 d3 d4 d5 d6 dc t;split at hs
  ·rename_i hc;cases hs;have zt:nE (t.take 1000)=nE ((t.take 1000).drop (0:Int).toNat):=rfl;have zl:((el (none:Option (List Int))).length:Int)=0:=rfl;unfold C9s;refine s0 (.cons 8 _ (.cons 7 _ (.cons 6 _ (.cons 5 _ (.cons 4 _ (.cons 3 _ (.cons 2 _ (.cons 1 _ (.cons 0 _ (.nil)))))))))) rfl (by simp[Ev.ok,Ev.len]) ?_;first|refine s1 (L5 (by omega) (by omega)) rfl rfl rfl ?_|refine s1 (P5 _ _ _ (by omega)) rfl rfl rfl ?_
   refine s1 (G5 _ _ _) rfl rfl rfl ?_;refine s4 rfl (fun g0=>?_) fun g0=>?_
   ·first|refine s1 (L5 (by omega) (by omega)) rfl rfl rfl ?_|refine s1 (P5 _ _ _ (by omega)) rfl rfl rfl ?_
    first|refine s1 (F6 (C7 (by omega) (by omega))) rfl rfl rfl ?_|refine s1 (G4 _ _ _) rfl rfl rfl ?_
    first|refine s1 (L5 (by omega) (by omega)) rfl rfl rfl ?_|refine s1 (P5 _ _ _ (by omega)) rfl rfl rfl ?_
    first|refine s1 (F6 (C7 (by omega) (by omega))) rfl rfl rfl ?_|refine s1 (G4 _ _ _) rfl rfl rfl ?_
    first|refine s1 (L5 (by omega) (by omega)) rfl rfl rfl ?_|refine s1 (P5 _ _ _ (by omega)) rfl rfl rfl ?_
    first|refine s1 (F6 (C7 (by omega) (by omega))) rfl rfl rfl ?_|refine s1 (G4 _ _ _) rfl rfl rfl ?_
    first|refine s1 (L5 (by omega) (by omega)) rfl rfl rfl ?_|refine s1 (P5 _ _ _ (by omega)) rfl rfl rfl ?_
    first|refine s1 (F6 (C7 (by omega) (by omega))) rfl rfl rfl ?_|refine s1 (G4 _ _ _) rfl rfl rfl ?_
    first|refine s1 (L5 (by omega) (by omega)) rfl rfl rfl ?_|refine s1 (P5 _ _ _ (by omega)) rfl rfl rfl ?_
    first|refine s1 (F6 (C7 (by omega) (by omega))) rfl rfl rfl ?_|refine s1 (G4 _ _ _) rfl rfl rfl ?_
    refine s31 (B7m _ _ _ _ _ _ _ _ ⟨by omega,by omega,by show(0:Int)≤_;omega⟩) rfl ?_;first|refine s1 (R1 _) rfl rfl rfl ?_|refine s1 (X9 _) rfl rfl rfl ?_
    first|refine s5 rfl (fun g1=>?_) (fun g1=>?_)|refine s5B rfl (fun g1=>?_) (fun g1=>?_)
    ·refine s7 [.int .i64 _,.int .i64 _,.int .i64 _,.int .i64 _,.int .i64 _,.int .i64 _,.int .i64 _,.str _] rfl ?_;have hq:d0%4=1:=g0;rw[hq];refine l8 rfl rfl rfl rfl (D46 (by simpa using g1)) rfl rfl rfl
    first|refine s1 (L5 (by omega) (by omega)) rfl rfl rfl ?_|refine s1 (P5 _ _ _ (by omega)) rfl rfl rfl ?_
    refine s7 [.int .i64 _,.int .i64 _,.int .i64 _,.int .i64 _,.int .i64 _,.int .i64 _,.int .i64 _,.str _] rfl ?_;have hq:d0%4=1:=g0;rw[hq];refine l8 rfl rfl rfl rfl (D47 (by simpa using g1)) rfl rfl rfl
   refine s1 (G5 _ _ _) rfl rfl rfl ?_;refine s4 rfl (fun g1=>?_) fun g1=>?_
   ·refine s2 (r:=rB) (D5 rfl) rfl rfl ?_;refine s31 (A5W _ _ _ _ _ _ _ _ _ _ _ ⟨by omega,by omega,by omega,by omega⟩) rfl ?_;refine s1 (A0O rfl (D5l _)) rfl rfl rfl ?_;refine s7 [.int .i64 _,.int .i64 _,.int .i64 _,.int .i64 _,.int .i64 _,.int .i64 _,.int .i64 _,.str _] rfl ?_;have hq:d0%4=2:=g1;rw[hq];exact l8 rfl rfl rfl rfl rfl rfl rfl (iB0 _)
   refine s1 (G5 _ _ _) rfl rfl rfl ?_;refine s4 rfl (fun g2=>?_) fun g2=>?_
   ·first|refine s1 (L5 (by omega) (by omega)) rfl rfl rfl ?_|refine s1 (P5 _ _ _ (by omega)) rfl rfl rfl ?_
    first|refine s1 (F6 (C7 (by omega) (by omega))) rfl rfl rfl ?_|refine s1 (G4 _ _ _) rfl rfl rfl ?_
    refine s7 [.int .i64 _,.int .i64 _,.int .i64 _,.int .i64 _,.int .i64 _,.int .i64 _,.int .i64 _,.str _] rfl ?_;have hq:d0%4=3:=g2;rw[hq];refine l8 rfl rfl rfl rfl rfl rfl rfl rfl
   first|refine s1 (F6 (C7 (by omega) (by omega))) rfl rfl rfl ?_|refine s1 (G4 _ _ _) rfl rfl rfl ?_
   first|refine s1 (L5 (by omega) (by omega)) rfl rfl rfl ?_|refine s1 (P5 _ _ _ (by omega)) rfl rfl rfl ?_
   refine s1 (G5 _ _ _) rfl rfl rfl ?_;refine s4 rfl (fun g3=>?_) fun g3=>?_
   ·first|refine s1 (A5R (by omega) (by omega) (x9 (by omega) (by omega))) rfl rfl rfl ?_|refine s1 (A4n _ _ _ (by omega)) rfl rfl rfl ?_
    first|refine s1 (F6 (C7 (by omega) (by omega))) rfl rfl rfl ?_|refine s1 (G4 _ _ _) rfl rfl rfl ?_
    first|refine s1 (L5 (by omega) (by omega)) rfl rfl rfl ?_|refine s1 (P5 _ _ _ (by omega)) rfl rfl rfl ?_
    first|refine s1 (G9 (C7 (by omega) (by omega))) rfl rfl rfl ?_|refine s1 (J1 _ _ _) rfl rfl rfl ?_
    refine s1 (T5 _ _ _) rfl rfl rfl ?_;refine s4 rfl (fun g4=>?_) fun g4=>?_
    ·refine s31 (B8s _) rfl ?_;first|refine s1 (R1 _) rfl rfl rfl ?_|refine s1 (X9 _) rfl rfl rfl ?_
     first|refine s4 rfl (fun g5=>?_) (fun g5=>?_)|refine s4B rfl (fun g5=>?_) (fun g5=>?_)
     ·first|refine s1 (L5 (by omega) (by omega)) rfl rfl rfl ?_|refine s1 (P5 _ _ _ (by omega)) rfl rfl rfl ?_
      first|refine s1 (G9 (C7 (by omega) (by omega))) rfl rfl rfl ?_|refine s1 (J1 _ _ _) rfl rfl rfl ?_
      first|refine s1 (L5 (by omega) (by omega)) rfl rfl rfl ?_|refine s1 (P5 _ _ _ (by omega)) rfl rfl rfl ?_
      first|refine s1 (F6 (C7 (by omega) (by omega))) rfl rfl rfl ?_|refine s1 (G4 _ _ _) rfl rfl rfl ?_
      first|refine s1 (L5 (by omega) (by omega)) rfl rfl rfl ?_|refine s1 (P5 _ _ _ (by omega)) rfl rfl rfl ?_
      refine s1 (B2S (by omega) (by omega)) rfl rfl rfl ?_;first|refine s1 (F6 (C7 (by omega) (by omega))) rfl rfl rfl ?_|refine s1 (G4 _ _ _) rfl rfl rfl ?_
      refine s1 (B2T (by omega) (by omega)) rfl rfl rfl ?_;first|refine s1 (F6 (C7 (by omega) (by omega))) rfl rfl rfl ?_|refine s1 (G4 _ _ _) rfl rfl rfl ?_
      refine s31 (N1 _ _ (by omega)) rfl ?_;first|refine s4 rfl (fun g6=>?_) (fun g6=>?_)|refine s4B rfl (fun g6=>?_) (fun g6=>?_)
      ·refine s7 [.int .i64 _,.int .i64 _,.int .i64 _,.int .i64 _,.int .i64 _,.int .i64 _,.int .i64 _,.str _] rfl ?_;have hq:d0%4=0:=by omega
       rw[hq];have h1:=A2G (dc:=dc) g3;have h2:=A5m g4 (by simpa using g5);have h3:=B9u (c:=(97+(1114113+d4 / 2%26)%26)) (m:=d3) (by first|exact g6|exact decide_eq_true g6|exact decide_eq_false g6);exact l8 rfl (by show _=dC3 (dC2 (dC1 d4 dc)) d3;rw[h1,h2,h3.2]) (by show _=dM (dC2 (dC1 d4 dc)) d3;rw[h1,h2,h3.1]) rfl rfl rfl rfl rfl
      refine s31 (N1 _ _ (by omega)) rfl ?_;first|refine s4 rfl (fun g7=>?_) (fun g7=>?_)|refine s4B rfl (fun g7=>?_) (fun g7=>?_)
      ·refine s7 [.int .i64 _,.int .i64 _,.int .i64 _,.int .i64 _,.int .i64 _,.int .i64 _,.int .i64 _,.str _] rfl ?_;have hq:d0%4=0:=by omega
       rw[hq];have h1:=A2G (dc:=dc) g3;have h2:=A5m g4 (by simpa using g5);have h3:=B9t (c:=(97+(1114113+d4 / 2%26)%26)) (m:=d3) (by first|exact g6|exact decide_eq_true g6|exact decide_eq_false g6) (by first|exact g7|exact decide_eq_true g7|exact decide_eq_false g7);exact l8 rfl (by show _=dC3 (dC2 (dC1 d4 dc)) d3;rw[h1,h2,h3.2]) (by show _=dM (dC2 (dC1 d4 dc)) d3;rw[h1,h2,h3.1]) rfl rfl rfl rfl rfl
      refine s31 (N1 _ _ (by omega)) rfl ?_;first|refine s4 rfl (fun g8=>?_) (fun g8=>?_)|refine s4B rfl (fun g8=>?_) (fun g8=>?_)
      ·refine s7 [.int .i64 _,.int .i64 _,.int .i64 _,.int .i64 _,.int .i64 _,.int .i64 _,.int .i64 _,.str _] rfl ?_;have hq:d0%4=0:=by omega
       rw[hq];have h1:=A2G (dc:=dc) g3;have h2:=A5m g4 (by simpa using g5);have h3:=B9s (c:=(97+(1114113+d4 / 2%26)%26)) (m:=d3) (by first|exact g6|exact decide_eq_true g6|exact decide_eq_false g6) (by first|exact g7|exact decide_eq_true g7|exact decide_eq_false g7) (by first|exact g8|exact decide_eq_true g8|exact decide_eq_false g8);exact l8 rfl (by show _=dC3 (dC2 (dC1 d4 dc)) d3;rw[h1,h2,h3.2]) (by show _=dM (dC2 (dC1 d4 dc)) d3;rw[h1,h2,h3.1]) rfl rfl rfl rfl rfl
      refine s31 (N1 _ _ (by omega)) rfl ?_;first|refine s4 rfl (fun g9=>?_) (fun g9=>?_)|refine s4B rfl (fun g9=>?_) (fun g9=>?_)
      ·refine s7 [.int .i64 _,.int .i64 _,.int .i64 _,.int .i64 _,.int .i64 _,.int .i64 _,.int .i64 _,.str _] rfl ?_;have hq:d0%4=0:=by omega
       rw[hq];have h1:=A2G (dc:=dc) g3;have h2:=A5m g4 (by simpa using g5);have h3:=B9r (c:=(97+(1114113+d4 / 2%26)%26)) (m:=d3) (by first|exact g6|exact decide_eq_true g6|exact decide_eq_false g6) (by first|exact g7|exact decide_eq_true g7|exact decide_eq_false g7) (by first|exact g8|exact decide_eq_true g8|exact decide_eq_false g8) (by first|exact g9|exact decide_eq_true g9|exact decide_eq_false g9);exact l8 rfl (by show _=dC3 (dC2 (dC1 d4 dc)) d3;rw[h1,h2,h3.2]) (by show _=dM (dC2 (dC1 d4 dc)) d3;rw[h1,h2,h3.1]) rfl rfl rfl rfl rfl
      refine s7 [.int .i64 _,.int .i64 _,.int .i64 _,.int .i64 _,.int .i64 _,.int .i64 _,.int .i64 _,.str _] rfl ?_;have hq:d0%4=0:=by omega
      rw[hq];have h1:=A2G (dc:=dc) g3;have h2:=A5m g4 (by simpa using g5);have h3:=B9q (c:=(97+(1114113+d4 / 2%26)%26)) (m:=d3) (by first|exact g6|exact decide_eq_true g6|exact decide_eq_false g6) (by first|exact g7|exact decide_eq_true g7|exact decide_eq_false g7) (by first|exact g8|exact decide_eq_true g8|exact decide_eq_false g8) (by first|exact g9|exact decide_eq_true g9|exact decide_eq_false g9);exact l8 rfl (by show _=dC3 (dC2 (dC1 d4 dc)) d3;rw[h1,h2,h3.2]) (by show _=dM (dC2 (dC1 d4 dc)) d3;rw[h1,h2,h3.1]) rfl rfl rfl rfl rfl
     first|refine s1 (L5 (by omega) (by omega)) rfl rfl rfl ?_|refine s1 (P5 _ _ _ (by omega)) rfl rfl rfl ?_
     first|refine s1 (F6 (C7 (by omega) (by omega))) rfl rfl rfl ?_|refine s1 (G4 _ _ _) rfl rfl rfl ?_
     first|refine s1 (L5 (by omega) (by omega)) rfl rfl rfl ?_|refine s1 (P5 _ _ _ (by omega)) rfl rfl rfl ?_
     refine s1 (B2S (by omega) (by omega)) rfl rfl rfl ?_;first|refine s1 (F6 (C7 (by omega) (by omega))) rfl rfl rfl ?_|refine s1 (G4 _ _ _) rfl rfl rfl ?_
     refine s1 (B2T (by omega) (by omega)) rfl rfl rfl ?_;first|refine s1 (F6 (C7 (by omega) (by omega))) rfl rfl rfl ?_|refine s1 (G4 _ _ _) rfl rfl rfl ?_
     refine s31 (N1 _ _ (by omega)) rfl ?_;first|refine s4 rfl (fun g6=>?_) (fun g6=>?_)|refine s4B rfl (fun g6=>?_) (fun g6=>?_)
     ·refine s7 [.int .i64 _,.int .i64 _,.int .i64 _,.int .i64 _,.int .i64 _,.int .i64 _,.int .i64 _,.str _] rfl ?_;have hq:d0%4=0:=by omega
      rw[hq];have h1:=A2G (dc:=dc) g3;have h2:=A5o (x:=(1114113+d4 / 2%26)) (by simpa using g5);have h3:=B9u (c:=(1114113+d4 / 2%26)) (m:=d3) (by first|exact g6|exact decide_eq_true g6|exact decide_eq_false g6);exact l8 rfl (by show _=dC3 (dC2 (dC1 d4 dc)) d3;rw[h1,h2,h3.2]) (by show _=dM (dC2 (dC1 d4 dc)) d3;rw[h1,h2,h3.1]) rfl rfl rfl rfl rfl
     refine s31 (N1 _ _ (by omega)) rfl ?_;first|refine s4 rfl (fun g7=>?_) (fun g7=>?_)|refine s4B rfl (fun g7=>?_) (fun g7=>?_)
     ·refine s7 [.int .i64 _,.int .i64 _,.int .i64 _,.int .i64 _,.int .i64 _,.int .i64 _,.int .i64 _,.str _] rfl ?_;have hq:d0%4=0:=by omega
      rw[hq];have h1:=A2G (dc:=dc) g3;have h2:=A5o (x:=(1114113+d4 / 2%26)) (by simpa using g5);have h3:=B9t (c:=(1114113+d4 / 2%26)) (m:=d3) (by first|exact g6|exact decide_eq_true g6|exact decide_eq_false g6) (by first|exact g7|exact decide_eq_true g7|exact decide_eq_false g7);exact l8 rfl (by show _=dC3 (dC2 (dC1 d4 dc)) d3;rw[h1,h2,h3.2]) (by show _=dM (dC2 (dC1 d4 dc)) d3;rw[h1,h2,h3.1]) rfl rfl rfl rfl rfl
     refine s31 (N1 _ _ (by omega)) rfl ?_;first|refine s4 rfl (fun g8=>?_) (fun g8=>?_)|refine s4B rfl (fun g8=>?_) (fun g8=>?_)
     ·refine s7 [.int .i64 _,.int .i64 _,.int .i64 _,.int .i64 _,.int .i64 _,.int .i64 _,.int .i64 _,.str _] rfl ?_;have hq:d0%4=0:=by omega
      rw[hq];have h1:=A2G (dc:=dc) g3;have h2:=A5o (x:=(1114113+d4 / 2%26)) (by simpa using g5);have h3:=B9s (c:=(1114113+d4 / 2%26)) (m:=d3) (by first|exact g6|exact decide_eq_true g6|exact decide_eq_false g6) (by first|exact g7|exact decide_eq_true g7|exact decide_eq_false g7) (by first|exact g8|exact decide_eq_true g8|exact decide_eq_false g8);exact l8 rfl (by show _=dC3 (dC2 (dC1 d4 dc)) d3;rw[h1,h2,h3.2]) (by show _=dM (dC2 (dC1 d4 dc)) d3;rw[h1,h2,h3.1]) rfl rfl rfl rfl rfl
     refine s31 (N1 _ _ (by omega)) rfl ?_;first|refine s4 rfl (fun g9=>?_) (fun g9=>?_)|refine s4B rfl (fun g9=>?_) (fun g9=>?_)
     ·refine s7 [.int .i64 _,.int .i64 _,.int .i64 _,.int .i64 _,.int .i64 _,.int .i64 _,.int .i64 _,.str _] rfl ?_;have hq:d0%4=0:=by omega
      rw[hq];have h1:=A2G (dc:=dc) g3;have h2:=A5o (x:=(1114113+d4 / 2%26)) (by simpa using g5);have h3:=B9r (c:=(1114113+d4 / 2%26)) (m:=d3) (by first|exact g6|exact decide_eq_true g6|exact decide_eq_false g6) (by first|exact g7|exact decide_eq_true g7|exact decide_eq_false g7) (by first|exact g8|exact decide_eq_true g8|exact decide_eq_false g8) (by first|exact g9|exact decide_eq_true g9|exact decide_eq_false g9);exact l8 rfl (by show _=dC3 (dC2 (dC1 d4 dc)) d3;rw[h1,h2,h3.2]) (by show _=dM (dC2 (dC1 d4 dc)) d3;rw[h1,h2,h3.1]) rfl rfl rfl rfl rfl
     refine s7 [.int .i64 _,.int .i64 _,.int .i64 _,.int .i64 _,.int .i64 _,.int .i64 _,.int .i64 _,.str _] rfl ?_;have hq:d0%4=0:=by omega
     rw[hq];have h1:=A2G (dc:=dc) g3;have h2:=A5o (x:=(1114113+d4 / 2%26)) (by simpa using g5);have h3:=B9q (c:=(1114113+d4 / 2%26)) (m:=d3) (by first|exact g6|exact decide_eq_true g6|exact decide_eq_false g6) (by first|exact g7|exact decide_eq_true g7|exact decide_eq_false g7) (by first|exact g8|exact decide_eq_true g8|exact decide_eq_false g8) (by first|exact g9|exact decide_eq_true g9|exact decide_eq_false g9);exact l8 rfl (by show _=dC3 (dC2 (dC1 d4 dc)) d3;rw[h1,h2,h3.2]) (by show _=dM (dC2 (dC1 d4 dc)) d3;rw[h1,h2,h3.1]) rfl rfl rfl rfl rfl
    first|refine s1 (L5 (by omega) (by omega)) rfl rfl rfl ?_|refine s1 (P5 _ _ _ (by omega)) rfl rfl rfl ?_
    first|refine s1 (F6 (C7 (by omega) (by omega))) rfl rfl rfl ?_|refine s1 (G4 _ _ _) rfl rfl rfl ?_
    first|refine s1 (L5 (by omega) (by omega)) rfl rfl rfl ?_|refine s1 (P5 _ _ _ (by omega)) rfl rfl rfl ?_
    refine s1 (B2S (by omega) (by omega)) rfl rfl rfl ?_;first|refine s1 (F6 (C7 (by omega) (by omega))) rfl rfl rfl ?_|refine s1 (G4 _ _ _) rfl rfl rfl ?_
    refine s1 (B2T (by omega) (by omega)) rfl rfl rfl ?_;first|refine s1 (F6 (C7 (by omega) (by omega))) rfl rfl rfl ?_|refine s1 (G4 _ _ _) rfl rfl rfl ?_
    refine s31 (N1 _ _ (by omega)) rfl ?_;first|refine s4 rfl (fun g5=>?_) (fun g5=>?_)|refine s4B rfl (fun g5=>?_) (fun g5=>?_)
    ·refine s7 [.int .i64 _,.int .i64 _,.int .i64 _,.int .i64 _,.int .i64 _,.int .i64 _,.int .i64 _,.str _] rfl ?_;have hq:d0%4=0:=by omega
     rw[hq];have h1:=A2G (dc:=dc) g3;have h2:=A5n g4;have h3:=B9u (c:=(1114113+d4 / 2%26)) (m:=d3) (by first|exact g5|exact decide_eq_true g5|exact decide_eq_false g5);exact l8 rfl (by show _=dC3 (dC2 (dC1 d4 dc)) d3;rw[h1,h2,h3.2]) (by show _=dM (dC2 (dC1 d4 dc)) d3;rw[h1,h2,h3.1]) rfl rfl rfl rfl rfl
    refine s31 (N1 _ _ (by omega)) rfl ?_;first|refine s4 rfl (fun g6=>?_) (fun g6=>?_)|refine s4B rfl (fun g6=>?_) (fun g6=>?_)
    ·refine s7 [.int .i64 _,.int .i64 _,.int .i64 _,.int .i64 _,.int .i64 _,.int .i64 _,.int .i64 _,.str _] rfl ?_;have hq:d0%4=0:=by omega
     rw[hq];have h1:=A2G (dc:=dc) g3;have h2:=A5n g4;have h3:=B9t (c:=(1114113+d4 / 2%26)) (m:=d3) (by first|exact g5|exact decide_eq_true g5|exact decide_eq_false g5) (by first|exact g6|exact decide_eq_true g6|exact decide_eq_false g6);exact l8 rfl (by show _=dC3 (dC2 (dC1 d4 dc)) d3;rw[h1,h2,h3.2]) (by show _=dM (dC2 (dC1 d4 dc)) d3;rw[h1,h2,h3.1]) rfl rfl rfl rfl rfl
    refine s31 (N1 _ _ (by omega)) rfl ?_;first|refine s4 rfl (fun g7=>?_) (fun g7=>?_)|refine s4B rfl (fun g7=>?_) (fun g7=>?_)
    ·refine s7 [.int .i64 _,.int .i64 _,.int .i64 _,.int .i64 _,.int .i64 _,.int .i64 _,.int .i64 _,.str _] rfl ?_;have hq:d0%4=0:=by omega
     rw[hq];have h1:=A2G (dc:=dc) g3;have h2:=A5n g4;have h3:=B9s (c:=(1114113+d4 / 2%26)) (m:=d3) (by first|exact g5|exact decide_eq_true g5|exact decide_eq_false g5) (by first|exact g6|exact decide_eq_true g6|exact decide_eq_false g6) (by first|exact g7|exact decide_eq_true g7|exact decide_eq_false g7);exact l8 rfl (by show _=dC3 (dC2 (dC1 d4 dc)) d3;rw[h1,h2,h3.2]) (by show _=dM (dC2 (dC1 d4 dc)) d3;rw[h1,h2,h3.1]) rfl rfl rfl rfl rfl
    refine s31 (N1 _ _ (by omega)) rfl ?_;first|refine s4 rfl (fun g8=>?_) (fun g8=>?_)|refine s4B rfl (fun g8=>?_) (fun g8=>?_)
    ·refine s7 [.int .i64 _,.int .i64 _,.int .i64 _,.int .i64 _,.int .i64 _,.int .i64 _,.int .i64 _,.str _] rfl ?_;have hq:d0%4=0:=by omega
     rw[hq];have h1:=A2G (dc:=dc) g3;have h2:=A5n g4;have h3:=B9r (c:=(1114113+d4 / 2%26)) (m:=d3) (by first|exact g5|exact decide_eq_true g5|exact decide_eq_false g5) (by first|exact g6|exact decide_eq_true g6|exact decide_eq_false g6) (by first|exact g7|exact decide_eq_true g7|exact decide_eq_false g7) (by first|exact g8|exact decide_eq_true g8|exact decide_eq_false g8);exact l8 rfl (by show _=dC3 (dC2 (dC1 d4 dc)) d3;rw[h1,h2,h3.2]) (by show _=dM (dC2 (dC1 d4 dc)) d3;rw[h1,h2,h3.1]) rfl rfl rfl rfl rfl
    refine s7 [.int .i64 _,.int .i64 _,.int .i64 _,.int .i64 _,.int .i64 _,.int .i64 _,.int .i64 _,.str _] rfl ?_;have hq:d0%4=0:=by omega
    rw[hq];have h1:=A2G (dc:=dc) g3;have h2:=A5n g4;have h3:=B9q (c:=(1114113+d4 / 2%26)) (m:=d3) (by first|exact g5|exact decide_eq_true g5|exact decide_eq_false g5) (by first|exact g6|exact decide_eq_true g6|exact decide_eq_false g6) (by first|exact g7|exact decide_eq_true g7|exact decide_eq_false g7) (by first|exact g8|exact decide_eq_true g8|exact decide_eq_false g8);exact l8 rfl (by show _=dC3 (dC2 (dC1 d4 dc)) d3;rw[h1,h2,h3.2]) (by show _=dM (dC2 (dC1 d4 dc)) d3;rw[h1,h2,h3.1]) rfl rfl rfl rfl rfl
   refine s1 (T5 _ _ _) rfl rfl rfl ?_;refine s4 rfl (fun g4=>?_) fun g4=>?_
   ·refine s31 (B8s _) rfl ?_;first|refine s1 (R1 _) rfl rfl rfl ?_|refine s1 (X9 _) rfl rfl rfl ?_
    first|refine s4 rfl (fun g5=>?_) (fun g5=>?_)|refine s4B rfl (fun g5=>?_) (fun g5=>?_)
    ·first|refine s1 (L5 (by omega) (by omega)) rfl rfl rfl ?_|refine s1 (P5 _ _ _ (by omega)) rfl rfl rfl ?_
     first|refine s1 (G9 (C7 (by omega) (by omega))) rfl rfl rfl ?_|refine s1 (J1 _ _ _) rfl rfl rfl ?_
     first|refine s1 (L5 (by omega) (by omega)) rfl rfl rfl ?_|refine s1 (P5 _ _ _ (by omega)) rfl rfl rfl ?_
     first|refine s1 (F6 (C7 (by omega) (by omega))) rfl rfl rfl ?_|refine s1 (G4 _ _ _) rfl rfl rfl ?_
     first|refine s1 (L5 (by omega) (by omega)) rfl rfl rfl ?_|refine s1 (P5 _ _ _ (by omega)) rfl rfl rfl ?_
     refine s1 (B2S (by omega) (by omega)) rfl rfl rfl ?_;first|refine s1 (F6 (C7 (by omega) (by omega))) rfl rfl rfl ?_|refine s1 (G4 _ _ _) rfl rfl rfl ?_
     refine s1 (B2T (by omega) (by omega)) rfl rfl rfl ?_;first|refine s1 (F6 (C7 (by omega) (by omega))) rfl rfl rfl ?_|refine s1 (G4 _ _ _) rfl rfl rfl ?_
     refine s31 (N1 _ _ (by omega)) rfl ?_;first|refine s4 rfl (fun g6=>?_) (fun g6=>?_)|refine s4B rfl (fun g6=>?_) (fun g6=>?_)
     ·refine s7 [.int .i64 _,.int .i64 _,.int .i64 _,.int .i64 _,.int .i64 _,.int .i64 _,.int .i64 _,.str _] rfl ?_;have hq:d0%4=0:=by omega
      rw[hq];have h1:=A2F (dc:=dc) g3;have h2:=A5m g4 (by simpa using g5);have h3:=B9u (c:=(97+dc%26)) (m:=d3) (by first|exact g6|exact decide_eq_true g6|exact decide_eq_false g6);exact l8 rfl (by show _=dC3 (dC2 (dC1 d4 dc)) d3;rw[h1,h2,h3.2]) (by show _=dM (dC2 (dC1 d4 dc)) d3;rw[h1,h2,h3.1]) rfl rfl rfl rfl rfl
     refine s31 (N1 _ _ (by omega)) rfl ?_;first|refine s4 rfl (fun g7=>?_) (fun g7=>?_)|refine s4B rfl (fun g7=>?_) (fun g7=>?_)
     ·refine s7 [.int .i64 _,.int .i64 _,.int .i64 _,.int .i64 _,.int .i64 _,.int .i64 _,.int .i64 _,.str _] rfl ?_;have hq:d0%4=0:=by omega
      rw[hq];have h1:=A2F (dc:=dc) g3;have h2:=A5m g4 (by simpa using g5);have h3:=B9t (c:=(97+dc%26)) (m:=d3) (by first|exact g6|exact decide_eq_true g6|exact decide_eq_false g6) (by first|exact g7|exact decide_eq_true g7|exact decide_eq_false g7);exact l8 rfl (by show _=dC3 (dC2 (dC1 d4 dc)) d3;rw[h1,h2,h3.2]) (by show _=dM (dC2 (dC1 d4 dc)) d3;rw[h1,h2,h3.1]) rfl rfl rfl rfl rfl
     refine s31 (N1 _ _ (by omega)) rfl ?_;first|refine s4 rfl (fun g8=>?_) (fun g8=>?_)|refine s4B rfl (fun g8=>?_) (fun g8=>?_)
     ·refine s7 [.int .i64 _,.int .i64 _,.int .i64 _,.int .i64 _,.int .i64 _,.int .i64 _,.int .i64 _,.str _] rfl ?_;have hq:d0%4=0:=by omega
      rw[hq];have h1:=A2F (dc:=dc) g3;have h2:=A5m g4 (by simpa using g5);have h3:=B9s (c:=(97+dc%26)) (m:=d3) (by first|exact g6|exact decide_eq_true g6|exact decide_eq_false g6) (by first|exact g7|exact decide_eq_true g7|exact decide_eq_false g7) (by first|exact g8|exact decide_eq_true g8|exact decide_eq_false g8);exact l8 rfl (by show _=dC3 (dC2 (dC1 d4 dc)) d3;rw[h1,h2,h3.2]) (by show _=dM (dC2 (dC1 d4 dc)) d3;rw[h1,h2,h3.1]) rfl rfl rfl rfl rfl
     refine s31 (N1 _ _ (by omega)) rfl ?_;first|refine s4 rfl (fun g9=>?_) (fun g9=>?_)|refine s4B rfl (fun g9=>?_) (fun g9=>?_)
     ·refine s7 [.int .i64 _,.int .i64 _,.int .i64 _,.int .i64 _,.int .i64 _,.int .i64 _,.int .i64 _,.str _] rfl ?_;have hq:d0%4=0:=by omega
      rw[hq];have h1:=A2F (dc:=dc) g3;have h2:=A5m g4 (by simpa using g5);have h3:=B9r (c:=(97+dc%26)) (m:=d3) (by first|exact g6|exact decide_eq_true g6|exact decide_eq_false g6) (by first|exact g7|exact decide_eq_true g7|exact decide_eq_false g7) (by first|exact g8|exact decide_eq_true g8|exact decide_eq_false g8) (by first|exact g9|exact decide_eq_true g9|exact decide_eq_false g9);exact l8 rfl (by show _=dC3 (dC2 (dC1 d4 dc)) d3;rw[h1,h2,h3.2]) (by show _=dM (dC2 (dC1 d4 dc)) d3;rw[h1,h2,h3.1]) rfl rfl rfl rfl rfl
     refine s7 [.int .i64 _,.int .i64 _,.int .i64 _,.int .i64 _,.int .i64 _,.int .i64 _,.int .i64 _,.str _] rfl ?_;have hq:d0%4=0:=by omega
     rw[hq];have h1:=A2F (dc:=dc) g3;have h2:=A5m g4 (by simpa using g5);have h3:=B9q (c:=(97+dc%26)) (m:=d3) (by first|exact g6|exact decide_eq_true g6|exact decide_eq_false g6) (by first|exact g7|exact decide_eq_true g7|exact decide_eq_false g7) (by first|exact g8|exact decide_eq_true g8|exact decide_eq_false g8) (by first|exact g9|exact decide_eq_true g9|exact decide_eq_false g9);exact l8 rfl (by show _=dC3 (dC2 (dC1 d4 dc)) d3;rw[h1,h2,h3.2]) (by show _=dM (dC2 (dC1 d4 dc)) d3;rw[h1,h2,h3.1]) rfl rfl rfl rfl rfl
    first|refine s1 (L5 (by omega) (by omega)) rfl rfl rfl ?_|refine s1 (P5 _ _ _ (by omega)) rfl rfl rfl ?_
    first|refine s1 (F6 (C7 (by omega) (by omega))) rfl rfl rfl ?_|refine s1 (G4 _ _ _) rfl rfl rfl ?_
    first|refine s1 (L5 (by omega) (by omega)) rfl rfl rfl ?_|refine s1 (P5 _ _ _ (by omega)) rfl rfl rfl ?_
    refine s1 (B2S (by omega) (by omega)) rfl rfl rfl ?_;first|refine s1 (F6 (C7 (by omega) (by omega))) rfl rfl rfl ?_|refine s1 (G4 _ _ _) rfl rfl rfl ?_
    refine s1 (B2T (by omega) (by omega)) rfl rfl rfl ?_;first|refine s1 (F6 (C7 (by omega) (by omega))) rfl rfl rfl ?_|refine s1 (G4 _ _ _) rfl rfl rfl ?_
    refine s31 (N1 _ _ (by omega)) rfl ?_;first|refine s4 rfl (fun g6=>?_) (fun g6=>?_)|refine s4B rfl (fun g6=>?_) (fun g6=>?_)
    ·refine s7 [.int .i64 _,.int .i64 _,.int .i64 _,.int .i64 _,.int .i64 _,.int .i64 _,.int .i64 _,.str _] rfl ?_;have hq:d0%4=0:=by omega
     rw[hq];have h1:=A2F (dc:=dc) g3;have h2:=A5o (x:=dc) (by simpa using g5);have h3:=B9u (c:=dc) (m:=d3) (by first|exact g6|exact decide_eq_true g6|exact decide_eq_false g6);exact l8 rfl (by show _=dC3 (dC2 (dC1 d4 dc)) d3;rw[h1,h2,h3.2]) (by show _=dM (dC2 (dC1 d4 dc)) d3;rw[h1,h2,h3.1]) rfl rfl rfl rfl rfl
    refine s31 (N1 _ _ (by omega)) rfl ?_;first|refine s4 rfl (fun g7=>?_) (fun g7=>?_)|refine s4B rfl (fun g7=>?_) (fun g7=>?_)
    ·refine s7 [.int .i64 _,.int .i64 _,.int .i64 _,.int .i64 _,.int .i64 _,.int .i64 _,.int .i64 _,.str _] rfl ?_;have hq:d0%4=0:=by omega
     rw[hq];have h1:=A2F (dc:=dc) g3;have h2:=A5o (x:=dc) (by simpa using g5);have h3:=B9t (c:=dc) (m:=d3) (by first|exact g6|exact decide_eq_true g6|exact decide_eq_false g6) (by first|exact g7|exact decide_eq_true g7|exact decide_eq_false g7);exact l8 rfl (by show _=dC3 (dC2 (dC1 d4 dc)) d3;rw[h1,h2,h3.2]) (by show _=dM (dC2 (dC1 d4 dc)) d3;rw[h1,h2,h3.1]) rfl rfl rfl rfl rfl
    refine s31 (N1 _ _ (by omega)) rfl ?_;first|refine s4 rfl (fun g8=>?_) (fun g8=>?_)|refine s4B rfl (fun g8=>?_) (fun g8=>?_)
    ·refine s7 [.int .i64 _,.int .i64 _,.int .i64 _,.int .i64 _,.int .i64 _,.int .i64 _,.int .i64 _,.str _] rfl ?_;have hq:d0%4=0:=by omega
     rw[hq];have h1:=A2F (dc:=dc) g3;have h2:=A5o (x:=dc) (by simpa using g5);have h3:=B9s (c:=dc) (m:=d3) (by first|exact g6|exact decide_eq_true g6|exact decide_eq_false g6) (by first|exact g7|exact decide_eq_true g7|exact decide_eq_false g7) (by first|exact g8|exact decide_eq_true g8|exact decide_eq_false g8);exact l8 rfl (by show _=dC3 (dC2 (dC1 d4 dc)) d3;rw[h1,h2,h3.2]) (by show _=dM (dC2 (dC1 d4 dc)) d3;rw[h1,h2,h3.1]) rfl rfl rfl rfl rfl
    refine s31 (N1 _ _ (by omega)) rfl ?_;first|refine s4 rfl (fun g9=>?_) (fun g9=>?_)|refine s4B rfl (fun g9=>?_) (fun g9=>?_)
    ·refine s7 [.int .i64 _,.int .i64 _,.int .i64 _,.int .i64 _,.int .i64 _,.int .i64 _,.int .i64 _,.str _] rfl ?_;have hq:d0%4=0:=by omega
     rw[hq];have h1:=A2F (dc:=dc) g3;have h2:=A5o (x:=dc) (by simpa using g5);have h3:=B9r (c:=dc) (m:=d3) (by first|exact g6|exact decide_eq_true g6|exact decide_eq_false g6) (by first|exact g7|exact decide_eq_true g7|exact decide_eq_false g7) (by first|exact g8|exact decide_eq_true g8|exact decide_eq_false g8) (by first|exact g9|exact decide_eq_true g9|exact decide_eq_false g9);exact l8 rfl (by show _=dC3 (dC2 (dC1 d4 dc)) d3;rw[h1,h2,h3.2]) (by show _=dM (dC2 (dC1 d4 dc)) d3;rw[h1,h2,h3.1]) rfl rfl rfl rfl rfl
    refine s7 [.int .i64 _,.int .i64 _,.int .i64 _,.int .i64 _,.int .i64 _,.int .i64 _,.int .i64 _,.str _] rfl ?_;have hq:d0%4=0:=by omega
    rw[hq];have h1:=A2F (dc:=dc) g3;have h2:=A5o (x:=dc) (by simpa using g5);have h3:=B9q (c:=dc) (m:=d3) (by first|exact g6|exact decide_eq_true g6|exact decide_eq_false g6) (by first|exact g7|exact decide_eq_true g7|exact decide_eq_false g7) (by first|exact g8|exact decide_eq_true g8|exact decide_eq_false g8) (by first|exact g9|exact decide_eq_true g9|exact decide_eq_false g9);exact l8 rfl (by show _=dC3 (dC2 (dC1 d4 dc)) d3;rw[h1,h2,h3.2]) (by show _=dM (dC2 (dC1 d4 dc)) d3;rw[h1,h2,h3.1]) rfl rfl rfl rfl rfl
   first|refine s1 (L5 (by omega) (by omega)) rfl rfl rfl ?_|refine s1 (P5 _ _ _ (by omega)) rfl rfl rfl ?_
   first|refine s1 (F6 (C7 (by omega) (by omega))) rfl rfl rfl ?_|refine s1 (G4 _ _ _) rfl rfl rfl ?_
   first|refine s1 (L5 (by omega) (by omega)) rfl rfl rfl ?_|refine s1 (P5 _ _ _ (by omega)) rfl rfl rfl ?_
   refine s1 (B2S (by omega) (by omega)) rfl rfl rfl ?_;first|refine s1 (F6 (C7 (by omega) (by omega))) rfl rfl rfl ?_|refine s1 (G4 _ _ _) rfl rfl rfl ?_
   refine s1 (B2T (by omega) (by omega)) rfl rfl rfl ?_;first|refine s1 (F6 (C7 (by omega) (by omega))) rfl rfl rfl ?_|refine s1 (G4 _ _ _) rfl rfl rfl ?_
   refine s31 (N1 _ _ (by omega)) rfl ?_;first|refine s4 rfl (fun g5=>?_) (fun g5=>?_)|refine s4B rfl (fun g5=>?_) (fun g5=>?_)
   ·refine s7 [.int .i64 _,.int .i64 _,.int .i64 _,.int .i64 _,.int .i64 _,.int .i64 _,.int .i64 _,.str _] rfl ?_;have hq:d0%4=0:=by omega
    rw[hq];have h1:=A2F (dc:=dc) g3;have h2:=A5n g4;have h3:=B9u (c:=dc) (m:=d3) (by first|exact g5|exact decide_eq_true g5|exact decide_eq_false g5);exact l8 rfl (by show _=dC3 (dC2 (dC1 d4 dc)) d3;rw[h1,h2,h3.2]) (by show _=dM (dC2 (dC1 d4 dc)) d3;rw[h1,h2,h3.1]) rfl rfl rfl rfl rfl
   refine s31 (N1 _ _ (by omega)) rfl ?_;first|refine s4 rfl (fun g6=>?_) (fun g6=>?_)|refine s4B rfl (fun g6=>?_) (fun g6=>?_)
   ·refine s7 [.int .i64 _,.int .i64 _,.int .i64 _,.int .i64 _,.int .i64 _,.int .i64 _,.int .i64 _,.str _] rfl ?_;have hq:d0%4=0:=by omega
    rw[hq];have h1:=A2F (dc:=dc) g3;have h2:=A5n g4;have h3:=B9t (c:=dc) (m:=d3) (by first|exact g5|exact decide_eq_true g5|exact decide_eq_false g5) (by first|exact g6|exact decide_eq_true g6|exact decide_eq_false g6);exact l8 rfl (by show _=dC3 (dC2 (dC1 d4 dc)) d3;rw[h1,h2,h3.2]) (by show _=dM (dC2 (dC1 d4 dc)) d3;rw[h1,h2,h3.1]) rfl rfl rfl rfl rfl
   refine s31 (N1 _ _ (by omega)) rfl ?_;first|refine s4 rfl (fun g7=>?_) (fun g7=>?_)|refine s4B rfl (fun g7=>?_) (fun g7=>?_)
   ·refine s7 [.int .i64 _,.int .i64 _,.int .i64 _,.int .i64 _,.int .i64 _,.int .i64 _,.int .i64 _,.str _] rfl ?_;have hq:d0%4=0:=by omega
    rw[hq];have h1:=A2F (dc:=dc) g3;have h2:=A5n g4;have h3:=B9s (c:=dc) (m:=d3) (by first|exact g5|exact decide_eq_true g5|exact decide_eq_false g5) (by first|exact g6|exact decide_eq_true g6|exact decide_eq_false g6) (by first|exact g7|exact decide_eq_true g7|exact decide_eq_false g7);exact l8 rfl (by show _=dC3 (dC2 (dC1 d4 dc)) d3;rw[h1,h2,h3.2]) (by show _=dM (dC2 (dC1 d4 dc)) d3;rw[h1,h2,h3.1]) rfl rfl rfl rfl rfl
   refine s31 (N1 _ _ (by omega)) rfl ?_;first|refine s4 rfl (fun g8=>?_) (fun g8=>?_)|refine s4B rfl (fun g8=>?_) (fun g8=>?_)
   ·refine s7 [.int .i64 _,.int .i64 _,.int .i64 _,.int .i64 _,.int .i64 _,.int .i64 _,.int .i64 _,.str _] rfl ?_;have hq:d0%4=0:=by omega
    rw[hq];have h1:=A2F (dc:=dc) g3;have h2:=A5n g4;have h3:=B9r (c:=dc) (m:=d3) (by first|exact g5|exact decide_eq_true g5|exact decide_eq_false g5) (by first|exact g6|exact decide_eq_true g6|exact decide_eq_false g6) (by first|exact g7|exact decide_eq_true g7|exact decide_eq_false g7) (by first|exact g8|exact decide_eq_true g8|exact decide_eq_false g8);exact l8 rfl (by show _=dC3 (dC2 (dC1 d4 dc)) d3;rw[h1,h2,h3.2]) (by show _=dM (dC2 (dC1 d4 dc)) d3;rw[h1,h2,h3.1]) rfl rfl rfl rfl rfl
   refine s7 [.int .i64 _,.int .i64 _,.int .i64 _,.int .i64 _,.int .i64 _,.int .i64 _,.int .i64 _,.str _] rfl ?_;have hq:d0%4=0:=by omega
   rw[hq];have h1:=A2F (dc:=dc) g3;have h2:=A5n g4;have h3:=B9q (c:=dc) (m:=d3) (by first|exact g5|exact decide_eq_true g5|exact decide_eq_false g5) (by first|exact g6|exact decide_eq_true g6|exact decide_eq_false g6) (by first|exact g7|exact decide_eq_true g7|exact decide_eq_false g7) (by first|exact g8|exact decide_eq_true g8|exact decide_eq_false g8);exact l8 rfl (by show _=dC3 (dC2 (dC1 d4 dc)) d3;rw[h1,h2,h3.2]) (by show _=dM (dC2 (dC1 d4 dc)) d3;rw[h1,h2,h3.1]) rfl rfl rfl rfl rfl
  ·cases hs
 ·cases hs
noncomputable def D2D:List (FuncId×FnC):=(12,E7 Tryz.prog [.a [4,4,4,4,4,4,4,6,9]] C2l [.a [3,3,3,3,3,3,3,9]])::D2K
theorem C5J{G:Nat→Option Obj}(hst:A7 Tryz.prog G gl H0 n0):C5 Tryz.prog G gl D2D:=.cons (D43 hst) (C5R hst)
def rQ:Rw ((List UInt8)×Int×Int×Int×Int×Int×Int×Int×(List UInt8)):=rC C3A (rC (A0B .i64) (rC (A0B .i64) (rC (A0B .i64) (rC (A0B .i64) (rC (A0B .i64) (rC (A0B .i64) (rC (A0B .i64) (r1 C3A))))))))
abbrev Qt:=(List UInt8×Int×Int×Int×Int×Int×Int×Int×List UInt8)
def qq(a b:Qt):Bool:=(a.1 == b.1 && true)
def qR(s:List UInt8)(c m:Int):Qt:=(s,1,c,m,0,0,0,0,[])
def inQ(c:Int):Nat→Int→Option (List Qt)→Option (List Qt)
 | 0,_,x=>x
 | n+1,j,x=>inQ c n (j+1) (A3v qq (A3v qq x (qR (keS false c j) c j)) (qR (keS true c j) c j))
def otQ:Nat→Int→Option (List Qt)→Option (List Qt)
 | 0,_,x=>x
 | n+1,c,x=>otQ n (c+1) (inQ c 8 0 x)
theorem D4k{c j:Int}{x:Option (List Qt)}(h:j<8):inQ c (8-j).toNat j x=inQ c (8-(j+1)).toNat (j+1) (A3v qq (A3v qq x (qR (keS false c j) c j)) (qR (keS true c j) c j)):=by
 rw[show(8-j).toNat=(8-(j+1)).toNat+1 by omega];rfl
theorem D4l{c j:Int}{x:Option (List Qt)}(h:¬j<8):inQ c (8-j).toNat j x=x:=by
 rw[show(8-j).toNat=0 by omega];rfl
theorem D39{c:Int}{x:Option (List Qt)}(h:c≤1114134):otQ (1114135-c).toNat c x=otQ (1114135-(c+1)).toNat (c+1) (inQ c 8 0 x):=by
 rw[show(1114135-c).toNat=(1114135-(c+1)).toNat+1 by omega];rfl
theorem D3_{c:Int}{x:Option (List Qt)}(h:¬c≤1114134):otQ (1114135-c).toNat c x=x:=by
 rw[show(1114135-c).toNat=0 by omega];rfl
theorem nn2{x:Option (List Qt)}{a:Qt}(h:x≠none):A3v qq x a≠none:=by
 cases x with
 | none=>exact absurd rfl h
 | some l=>exact M6 _
theorem C9M{c:Int}:∀ (n:Nat) (j:Int) {x:Option (List Qt)},x≠none→inQ c n j x≠none
 | 0,_,_,h=>h
 | n+1,j,_,h=>C9M n (j+1) (nn2 (nn2 h))
theorem D4X{c m:Int}(h:1114113≤c)(h2:c≤1114134)(h3:0≤m)(h4:m≤7):W9 c m:=.inr (.inl ⟨h,h2,h3,h4⟩)
noncomputable def D0g:List (FuncId×FnC):=(50,E7 Tryz.prog [.a [8,8,8,8,8,8,8,8,8,8,8,3,8],.a [3,3,3,3,3,3,3,9]] t8 [.s 9])::L0
theorem C3e{G:Nat→Option Obj}(hst:A7 Tryz.prog G gl H0 n0):C5 Tryz.prog G gl D0g:=(.cons (A3G hst) .nil)
def A3u:List U→Option (Nat×List U)
 | [.int .i64 c,.int .i64 j,u_x]=>(J9 rQ u_x).bind fun x=>if 1114113≤c∧c≤1114134∧0≤j∧j≤8∧x≠none then some (0,[.int .i64 c,A8 rQ (inQ c (8-j).toNat j x)])else none
 | _=>none
theorem A83(c:Int)(j:Int)(x:(Option (List ((List UInt8)×Int×Int×Int×Int×Int×Int×Int×(List UInt8)))))(hc:1114113≤c∧c≤1114134∧0≤j∧j≤8∧x≠none):A3u [.int .i64 c,.int .i64 j,A8 rQ x]=some (0,[.int .i64 c,A8 rQ (inQ c (8-j).toNat j x)]):=by
 simp only[A3u,G0,D1];exact if_pos hc
def A9k:Q6:=⟨[(1,.map (some 6)),(2,h 0 3),(14,h 1 3)],[(6,.mp 2 19 81)],3,[⟨.exit 2,[(1,.map (some 6)),(2,h 0 3)],[(6,.mp 1 19 81)],2⟩]⟩
noncomputable def C0n:Code:=(Tryz.f72.body).getD .skip
noncomputable def C72:Code:=match H4 [true,true,false,true,false,false,true,false,false,true,false] C0n with|some (.loop x)=>x|_=>.skip
theorem A9j:Tryz.f72.body=some C0n:=rfl
theorem A9i:H4 [true,true,false,true,false,false,true,false,false,true,false] C0n=some (.loop C72):=by kernel_rfl
def C73:Tr:=aL [h3 1,jI 8]<|.br 3 (.fn t8 [.bool false,.bool false,.bool false,.bool false,.bool false,.bool false,.bool false,.bool false,.bool false,.bool false,.bool false,jI 0,.bool false,jI 1,h3 0,h3 1,jI 0,jI 0,jI 0,jI 0,.string ⟨⟨[]⟩⟩] 1<|.dt 19 (.mput 9 1) [h 2 19,h 4 9,jI 1,h3 0,h3 1,jI 0,jI 0,jI 0,jI 0,.string ⟨⟨[]⟩⟩]<|.fn t8 [.bool false,.bool false,.bool true,.bool false,.bool false,.bool false,.bool false,.bool false,.bool false,.bool false,.bool false,jI 0,.bool false,jI 1,h3 0,h3 1,jI 0,jI 0,jI 0,jI 0,.string ⟨⟨[]⟩⟩] 1<|.dt 19 (.mput 9 1) [h 5 19,h 6 9,jI 1,h3 0,h3 1,jI 0,jI 0,jI 0,jI 0,.string ⟨⟨[]⟩⟩]<|aA [h3 1,jI 1]<|.ret [jI (-1),h3 0,h3 8,h 7 19]) (.ret [jI 0,h3 0,h 2 19])
def C0m:List U→Nat
 | [.int .i64 c,.int .i64 j,u_x]=>(match J9 rQ u_x with|some x=>(8-j).toNat|none=>0)
 | _=>0
theorem C0l(c:Int)(j:Int)(x:(Option (List ((List UInt8)×Int×Int×Int×Int×Int×Int×Int×(List UInt8))))):C0m [.int .i64 c,.int .i64 j,A8 rQ x]=(8-j).toNat:=by
 simp only[C0m,G0]
theorem B1m{G:Nat→Option Obj}(hst:A7 Tryz.prog G gl H0 n0):∀ (E:Nat→U) (base:Nat),@W7 ⟨E,G⟩ Tryz.prog base gl Tryz.f72.ntmps C72 (O6 Tryz.prog gl n0 7 A9k A3u):=by
 refine m9 (C:=cx D0g B57) (dep:=60) (f:=72) (n0:=n0) (nB:=7) (H0:=H0) C0m C73 (cxg (C3e hst) (A7R hst)) hst Tryz.func72 A9j A9i (by kernel_rfl) (by kernel_rfl) (by kernel_rfl) ?_;intro us d outs hs;have hs0:=hs;unfold A3u at hs;split at hs
 ·skip;rename_i c j u_x;have hq_x:=A4.1 hs;clear hs;obtain⟨x,hd_x,hs⟩:=hq_x;replace hd_x:=F1 hd_x;subst hd_x;split at hs
  ·rename_i hc;clear hs hs0;refine⟨rfl,?_⟩;unfold C73;refine w0 (.cons 2 _ (.cons 1 _ (.cons 0 _ (.nil)))) ?_;repeat (first|refine w31 t8 (e:=B3p _ _ _ _ _ _ _ _ _ _ _ _ _ _ _ _ _ _ _ _ _ (D4X (by omega) (by omega) (by omega) (by omega))) (k':=?_)|refine A9b ?_|refine A4F ?_|refine A37 ?_|refine w4 (fun g=>?_) fun g=>?_|refine w2 (.mput 9 1) (r:=rQ) (e:=A0P qq (qR (keS false c j) c j) rfl rfl (fun _=>rfl) (by first|exact hc.2.2.2.2|exact nn2 hc.2.2.2.2|exact hc.2.2|exact nn2 hc.2.2)) (k':=?_)|refine w2 (.mput 9 1) (r:=rQ) (e:=A0P qq (qR (keS true c j) c j) rfl rfl (fun _=>rfl) (by first|exact hc.2.2.2.2|exact nn2 hc.2.2.2.2|exact hc.2.2|exact nn2 hc.2.2)) (k':=?_)|(refine w7 [.int .i64 _,.int .i64 _,.int .i64 _,A8 rQ _] ?_;rotate_left)|(refine w7 [.int .i64 _,.int .i64 _,A8 rQ _] ?_;rotate_left))
   all_goals first
    | refine J2 ?_ ?_
      ·rw[A83 c (j+1) _ ⟨by omega,by omega,by omega,by omega,nn2 (nn2 hc.2.2.2.2)⟩,A83 c j x hc,D4k (c:=c) (j:=j) (x:=x) (by omega)]
      ·rw[C0l,C0l];omega
    | refine K0 (d:=0) ?_
      rw[A83 c j x hc,D4l (by omega)]
  ·cases hs
 ·cases hs
noncomputable def D1W:List LpE:=(72,([true,true,false,true,false,false,true,false,false,true,false],O6 Tryz.prog gl n0 7 A9k A3u))::B57
theorem C4Y{G:Nat→Option Obj}(hst:A7 Tryz.prog G gl H0 n0):o7 Tryz.prog G gl D1W:=.cons Tryz.func72 A9j A9i (B1m hst) (A7R hst)
def B9O:List Qt:=[([27,91,90],1,1114136,1,0,0,0,0,[]),([27,91,79],4,0,0,0,0,0,0,[]),([27,91,73],4,0,0,1,0,0,0,[])]
def B4Z:List Qt:=[([27,91,90],1,1114136,1,0,0,0,0,[]),([27,91,79],4,0,0,0,0,0,0,[]),([27,91,73],4,0,0,1,0,0,0,[]),([27,91,65],1,1114113,0,0,0,0,0,[]),([27,79,65],1,1114113,0,0,0,0,0,[]),([27,91,49,59,50,65],1,1114113,1,0,0,0,0,[]),([27,91,49,59,51,65],1,1114113,2,0,0,0,0,[]),([27,91,49,59,52,65],1,1114113,3,0,0,0,0,[]),([27,91,49,59,53,65],1,1114113,4,0,0,0,0,[]),([27,91,49,59,54,65],1,1114113,5,0,0,0,0,[]),([27,91,49,59,55,65],1,1114113,6,0,0,0,0,[]),([27,91,49,59,56,65],1,1114113,7,0,0,0,0,[]),([27,91,66],1,1114114,0,0,0,0,0,[]),([27,79,66],1,1114114,0,0,0,0,0,[]),([27,91,49,59,50,66],1,1114114,1,0,0,0,0,[]),([27,91,49,59,51,66],1,1114114,2,0,0,0,0,[]),([27,91,49,59,52,66],1,1114114,3,0,0,0,0,[]),([27,91,49,59,53,66],1,1114114,4,0,0,0,0,[]),([27,91,49,59,54,66],1,1114114,5,0,0,0,0,[]),([27,91,49,59,55,66],1,1114114,6,0,0,0,0,[]),([27,91,49,59,56,66],1,1114114,7,0,0,0,0,[]),([27,91,67],1,1114115,0,0,0,0,0,[]),([27,79,67],1,1114115,0,0,0,0,0,[]),([27,91,49,59,50,67],1,1114115,1,0,0,0,0,[]),([27,91,49,59,51,67],1,1114115,2,0,0,0,0,[]),([27,91,49,59,52,67],1,1114115,3,0,0,0,0,[]),([27,91,49,59,53,67],1,1114115,4,0,0,0,0,[]),([27,91,49,59,54,67],1,1114115,5,0,0,0,0,[]),([27,91,49,59,55,67],1,1114115,6,0,0,0,0,[]),([27,91,49,59,56,67],1,1114115,7,0,0,0,0,[]),([27,91,68],1,1114116,0,0,0,0,0,[]),([27,79,68],1,1114116,0,0,0,0,0,[]),([27,91,49,59,50,68],1,1114116,1,0,0,0,0,[]),([27,91,49,59,51,68],1,1114116,2,0,0,0,0,[]),([27,91,49,59,52,68],1,1114116,3,0,0,0,0,[]),([27,91,49,59,53,68],1,1114116,4,0,0,0,0,[]),([27,91,49,59,54,68],1,1114116,5,0,0,0,0,[]),([27,91,49,59,55,68],1,1114116,6,0,0,0,0,[]),([27,91,49,59,56,68],1,1114116,7,0,0,0,0,[]),([27,91,70],1,1114117,0,0,0,0,0,[]),([27,79,70],1,1114117,0,0,0,0,0,[]),([27,91,49,59,50,70],1,1114117,1,0,0,0,0,[]),([27,91,49,59,51,70],1,1114117,2,0,0,0,0,[]),([27,91,49,59,52,70],1,1114117,3,0,0,0,0,[]),([27,91,49,59,53,70],1,1114117,4,0,0,0,0,[]),([27,91,49,59,54,70],1,1114117,5,0,0,0,0,[]),([27,91,49,59,55,70],1,1114117,6,0,0,0,0,[]),([27,91,49,59,56,70],1,1114117,7,0,0,0,0,[]),([27,91,72],1,1114118,0,0,0,0,0,[]),([27,79,72],1,1114118,0,0,0,0,0,[]),([27,91,49,59,50,72],1,1114118,1,0,0,0,0,[]),([27,91,49,59,51,72],1,1114118,2,0,0,0,0,[]),([27,91,49,59,52,72],1,1114118,3,0,0,0,0,[]),([27,91,49,59,53,72],1,1114118,4,0,0,0,0,[]),([27,91,49,59,54,72],1,1114118,5,0,0,0,0,[]),([27,91,49,59,55,72],1,1114118,6,0,0,0,0,[]),([27,91,49,59,56,72],1,1114118,7,0,0,0,0,[]),([27,79,80],1,1114119,0,0,0,0,0,[]),([27,91,49,59,50,80],1,1114119,1,0,0,0,0,[]),([27,91,49,59,51,80],1,1114119,2,0,0,0,0,[]),([27,91,49,59,52,80],1,1114119,3,0,0,0,0,[]),([27,91,49,59,53,80],1,1114119,4,0,0,0,0,[]),([27,91,49,59,54,80],1,1114119,5,0,0,0,0,[]),([27,91,49,59,55,80],1,1114119,6,0,0,0,0,[]),([27,91,49,59,56,80],1,1114119,7,0,0,0,0,[]),([27,79,81],1,1114120,0,0,0,0,0,[]),([27,91,49,59,50,81],1,1114120,1,0,0,0,0,[]),([27,91,49,59,51,81],1,1114120,2,0,0,0,0,[]),([27,91,49,59,52,81],1,1114120,3,0,0,0,0,[]),([27,91,49,59,53,81],1,1114120,4,0,0,0,0,[]),([27,91,49,59,54,81],1,1114120,5,0,0,0,0,[]),([27,91,49,59,55,81],1,1114120,6,0,0,0,0,[]),([27,91,49,59,56,81],1,1114120,7,0,0,0,0,[]),([27,79,82],1,1114121,0,0,0,0,0,[]),([27,91,49,59,50,82],1,1114121,1,0,0,0,0,[]),([27,91,49,59,51,82],1,1114121,2,0,0,0,0,[]),([27,91,49,59,52,82],1,1114121,3,0,0,0,0,[]),([27,91,49,59,53,82],1,1114121,4,0,0,0,0,[]),([27,91,49,59,54,82],1,1114121,5,0,0,0,0,[]),([27,91,49,59,55,82],1,1114121,6,0,0,0,0,[]),([27,91,49,59,56,82],1,1114121,7,0,0,0,0,[]),([27,79,83],1,1114122,0,0,0,0,0,[]),([27,91,49,59,50,83],1,1114122,1,0,0,0,0,[]),([27,91,49,59,51,83],1,1114122,2,0,0,0,0,[]),([27,91,49,59,52,83],1,1114122,3,0,0,0,0,[]),([27,91,49,59,53,83],1,1114122,4,0,0,0,0,[]),([27,91,49,59,54,83],1,1114122,5,0,0,0,0,[]),([27,91,49,59,55,83],1,1114122,6,0,0,0,0,[]),([27,91,49,59,56,83],1,1114122,7,0,0,0,0,[]),([27,91,50,126],1,1114123,0,0,0,0,0,[]),([27,91,50,59,50,126],1,1114123,1,0,0,0,0,[]),([27,91,50,59,51,126],1,1114123,2,0,0,0,0,[]),([27,91,50,59,52,126],1,1114123,3,0,0,0,0,[]),([27,91,50,59,53,126],1,1114123,4,0,0,0,0,[]),([27,91,50,59,54,126],1,1114123,5,0,0,0,0,[]),([27,91,50,59,55,126],1,1114123,6,0,0,0,0,[]),([27,91,50,59,56,126],1,1114123,7,0,0,0,0,[]),([27,91,51,126],1,1114124,0,0,0,0,0,[]),([27,91,51,59,50,126],1,1114124,1,0,0,0,0,[]),([27,91,51,59,51,126],1,1114124,2,0,0,0,0,[]),([27,91,51,59,52,126],1,1114124,3,0,0,0,0,[]),([27,91,51,59,53,126],1,1114124,4,0,0,0,0,[]),([27,91,51,59,54,126],1,1114124,5,0,0,0,0,[]),([27,91,51,59,55,126],1,1114124,6,0,0,0,0,[]),([27,91,51,59,56,126],1,1114124,7,0,0,0,0,[]),([27,91,53,126],1,1114125,0,0,0,0,0,[]),([27,91,53,59,50,126],1,1114125,1,0,0,0,0,[]),([27,91,53,59,51,126],1,1114125,2,0,0,0,0,[]),([27,91,53,59,52,126],1,1114125,3,0,0,0,0,[]),([27,91,53,59,53,126],1,1114125,4,0,0,0,0,[]),([27,91,53,59,54,126],1,1114125,5,0,0,0,0,[]),([27,91,53,59,55,126],1,1114125,6,0,0,0,0,[]),([27,91,53,59,56,126],1,1114125,7,0,0,0,0,[]),([27,91,54,126],1,1114126,0,0,0,0,0,[]),([27,91,54,59,50,126],1,1114126,1,0,0,0,0,[]),([27,91,54,59,51,126],1,1114126,2,0,0,0,0,[]),([27,91,54,59,52,126],1,1114126,3,0,0,0,0,[]),([27,91,54,59,53,126],1,1114126,4,0,0,0,0,[]),([27,91,54,59,54,126],1,1114126,5,0,0,0,0,[]),([27,91,54,59,55,126],1,1114126,6,0,0,0,0,[]),([27,91,54,59,56,126],1,1114126,7,0,0,0,0,[]),([27,91,49,53,126],1,1114127,0,0,0,0,0,[]),([27,91,49,53,59,50,126],1,1114127,1,0,0,0,0,[]),([27,91,49,53,59,51,126],1,1114127,2,0,0,0,0,[]),([27,91,49,53,59,52,126],1,1114127,3,0,0,0,0,[]),([27,91,49,53,59,53,126],1,1114127,4,0,0,0,0,[]),([27,91,49,53,59,54,126],1,1114127,5,0,0,0,0,[]),([27,91,49,53,59,55,126],1,1114127,6,0,0,0,0,[]),([27,91,49,53,59,56,126],1,1114127,7,0,0,0,0,[]),([27,91,49,55,126],1,1114128,0,0,0,0,0,[]),([27,91,49,55,59,50,126],1,1114128,1,0,0,0,0,[]),([27,91,49,55,59,51,126],1,1114128,2,0,0,0,0,[]),([27,91,49,55,59,52,126],1,1114128,3,0,0,0,0,[]),([27,91,49,55,59,53,126],1,1114128,4,0,0,0,0,[]),([27,91,49,55,59,54,126],1,1114128,5,0,0,0,0,[]),([27,91,49,55,59,55,126],1,1114128,6,0,0,0,0,[]),([27,91,49,55,59,56,126],1,1114128,7,0,0,0,0,[]),([27,91,49,56,126],1,1114129,0,0,0,0,0,[]),([27,91,49,56,59,50,126],1,1114129,1,0,0,0,0,[]),([27,91,49,56,59,51,126],1,1114129,2,0,0,0,0,[]),([27,91,49,56,59,52,126],1,1114129,3,0,0,0,0,[]),([27,91,49,56,59,53,126],1,1114129,4,0,0,0,0,[]),([27,91,49,56,59,54,126],1,1114129,5,0,0,0,0,[]),([27,91,49,56,59,55,126],1,1114129,6,0,0,0,0,[]),([27,91,49,56,59,56,126],1,1114129,7,0,0,0,0,[]),([27,91,49,57,126],1,1114130,0,0,0,0,0,[]),([27,91,49,57,59,50,126],1,1114130,1,0,0,0,0,[]),([27,91,49,57,59,51,126],1,1114130,2,0,0,0,0,[]),([27,91,49,57,59,52,126],1,1114130,3,0,0,0,0,[]),([27,91,49,57,59,53,126],1,1114130,4,0,0,0,0,[]),([27,91,49,57,59,54,126],1,1114130,5,0,0,0,0,[]),([27,91,49,57,59,55,126],1,1114130,6,0,0,0,0,[]),([27,91,49,57,59,56,126],1,1114130,7,0,0,0,0,[]),([27,91,50,48,126],1,1114131,0,0,0,0,0,[]),([27,91,50,48,59,50,126],1,1114131,1,0,0,0,0,[]),([27,91,50,48,59,51,126],1,1114131,2,0,0,0,0,[]),([27,91,50,48,59,52,126],1,1114131,3,0,0,0,0,[]),([27,91,50,48,59,53,126],1,1114131,4,0,0,0,0,[]),([27,91,50,48,59,54,126],1,1114131,5,0,0,0,0,[]),([27,91,50,48,59,55,126],1,1114131,6,0,0,0,0,[]),([27,91,50,48,59,56,126],1,1114131,7,0,0,0,0,[]),([27,91,50,49,126],1,1114132,0,0,0,0,0,[]),([27,91,50,49,59,50,126],1,1114132,1,0,0,0,0,[]),([27,91,50,49,59,51,126],1,1114132,2,0,0,0,0,[]),([27,91,50,49,59,52,126],1,1114132,3,0,0,0,0,[]),([27,91,50,49,59,53,126],1,1114132,4,0,0,0,0,[]),([27,91,50,49,59,54,126],1,1114132,5,0,0,0,0,[]),([27,91,50,49,59,55,126],1,1114132,6,0,0,0,0,[]),([27,91,50,49,59,56,126],1,1114132,7,0,0,0,0,[]),([27,91,50,51,126],1,1114133,0,0,0,0,0,[]),([27,91,50,51,59,50,126],1,1114133,1,0,0,0,0,[]),([27,91,50,51,59,51,126],1,1114133,2,0,0,0,0,[]),([27,91,50,51,59,52,126],1,1114133,3,0,0,0,0,[]),([27,91,50,51,59,53,126],1,1114133,4,0,0,0,0,[]),([27,91,50,51,59,54,126],1,1114133,5,0,0,0,0,[]),([27,91,50,51,59,55,126],1,1114133,6,0,0,0,0,[]),([27,91,50,51,59,56,126],1,1114133,7,0,0,0,0,[]),([27,91,50,52,126],1,1114134,0,0,0,0,0,[]),([27,91,50,52,59,50,126],1,1114134,1,0,0,0,0,[]),([27,91,50,52,59,51,126],1,1114134,2,0,0,0,0,[]),([27,91,50,52,59,52,126],1,1114134,3,0,0,0,0,[]),([27,91,50,52,59,53,126],1,1114134,4,0,0,0,0,[]),([27,91,50,52,59,54,126],1,1114134,5,0,0,0,0,[]),([27,91,50,52,59,55,126],1,1114134,6,0,0,0,0,[]),([27,91,50,52,59,56,126],1,1114134,7,0,0,0,0,[])]
theorem D2Z:otQ 22 1114113 (some B9O)=some B4Z:=by kernel_rfl
def C6x(a b:Qt):Bool:=a.1 == b.1 && (a.2.1 == b.2.1 && (a.2.2.1 == b.2.2.1 && (a.2.2.2.1 == b.2.2.2.1 && (a.2.2.2.2.1 == b.2.2.2.2.1 && (a.2.2.2.2.2.1 == b.2.2.2.2.2.1 && (a.2.2.2.2.2.2.1 == b.2.2.2.2.2.2.1 && (a.2.2.2.2.2.2.2.1 == b.2.2.2.2.2.2.2.1 && (a.2.2.2.2.2.2.2.2 == b.2.2.2.2.2.2.2.2 && true))))))))
theorem D3A{x y:Qt}(h:C6x x y=true):x=y:=by
 obtain⟨a1,a2,a3,a4,a5,a6,a7,a8,a9⟩:=x;obtain⟨b1,b2,b3,b4,b5,b6,b7,b8,b9⟩:=y;simp[C6x]at h;obtain⟨h1,h2,h3,h4,h5,h6,h7,h8,h9⟩:=h;subst h1 h2 h3 h4 h5 h6 h7 h8 h9;rfl
def C2d:List Qt→List Qt→Bool
 | [],[]=>true
 | a::l,b::r=>C6x a b && C2d l r
 | _,_=>false
theorem C2c:∀ {l r:List Qt},C2d l r=true→l=r
 | [],[],_=>rfl
 | a::l,b::r,h=>by
   have h:(C6x a b && C2d l r)=true:=h;rw[H7]at h;rw[D3A h.1,C2c h.2]
 | [],_::_,h=>by cases h
 | _::_,[],h=>by cases h
def D2z(c:Int)(x:Option (List Qt)):Bool:=match x with
 | some l=>decide (c=1114113) && C2d l B9O
 | none=>false
theorem D2y{c:Int}{x:Option (List Qt)}(h:D2z c x=true):c=1114113∧x=some B9O:=by
 cases x with
 | none=>cases h
 | some l =>
   have h:(decide (c=1114113) && C2d l B9O)=true:=h;rw[H7]at h;exact⟨of_decide_eq_true h.1,by rw[C2c h.2]⟩
def otF(c:Int)(x:Option (List Qt)):Option (List Qt):=if D2z c x=true then some B4Z else otQ (1114135-c).toNat c x
theorem B6h(c:Int)(x:Option (List Qt)):otF c x=otQ (1114135-c).toNat c x:=by
 unfold otF;by_cases h:D2z c x=true
 ·obtain⟨h1,h2⟩:=D2y h;rw[if_pos h,h1,h2];exact D2Z.symm
 ·rw[if_neg h]
noncomputable def D0e:List (FuncId×FnC):=(50,E7 Tryz.prog [.a [8,8,8,8,8,8,8,8,8,8,8,3,8],.a [3,3,3,3,3,3,3,9]] t8 [.s 9])::L0
theorem C3c{G:Nat→Option Obj}(hst:A7 Tryz.prog G gl H0 n0):C5 Tryz.prog G gl D0e:=(.cons (A3G hst) .nil)
def A3t:List U→Option (Nat×List U)
 | [.int .i64 c,u_x]=>(J9 rQ u_x).bind fun x=>if 1114113≤c∧c≤1114135∧x≠none then some (0,[A8 rQ (otF c x)])else none
 | _=>none
theorem A82(c:Int)(x:(Option (List ((List UInt8)×Int×Int×Int×Int×Int×Int×Int×(List UInt8)))))(hc:1114113≤c∧c≤1114135∧x≠none):A3t [.int .i64 c,A8 rQ x]=some (0,[A8 rQ (otF c x)]):=by
 simp only[A3t,G0,D1];exact if_pos hc
def B1k:Q6:=⟨[(1,.map (some 6)),(2,h 0 3)],[(6,.mp 1 19 81)],2,[⟨.exit 0,[(1,.map (some 6))],[(6,.mp 0 19 81)],1⟩]⟩
noncomputable def C0k:Code:=(Tryz.f72.body).getD .skip
noncomputable def C7x:Code:=match H4 [true,true,false,true,false] C0k with|some (.loop x)=>x|_=>.skip
theorem B1j:Tryz.f72.body=some C0k:=rfl
theorem B1i:H4 [true,true,false,true,false] C0k=some (.loop C7x):=by kernel_rfl
def C7y:Tr:=aQ [h3 0,jI 1114134]<|.br 2 (.fn A3u [h3 0,jI 0,h 1 19] 2<|aA [h3 3,jI 1]<|.ret [jI (-1),h3 5,h 4 19]) (.ret [jI 0,h 1 19])
def C0j:List U→Nat
 | [.int .i64 c,u_x]=>(match J9 rQ u_x with|some x=>(1114135-c).toNat|none=>0)
 | _=>0
theorem C0i(c:Int)(x:(Option (List ((List UInt8)×Int×Int×Int×Int×Int×Int×Int×(List UInt8))))):C0j [.int .i64 c,A8 rQ x]=(1114135-c).toNat:=by
 simp only[C0j,G0]
theorem B4T{G:Nat→Option Obj}(hst:A7 Tryz.prog G gl H0 n0):∀ (E:Nat→U) (base:Nat),@W7 ⟨E,G⟩ Tryz.prog base gl Tryz.f72.ntmps C7x (O6 Tryz.prog gl n0 7 B1k A3t):=by
 refine m9 (C:=cx D0e D1W) (dep:=60) (f:=72) (n0:=n0) (nB:=7) (H0:=H0) C0j C7y (cxg (C3c hst) (C4Y hst)) hst Tryz.func72 B1j B1i (by kernel_rfl) (by kernel_rfl) (by kernel_rfl) ?_;intro us d outs hs;have hs0:=hs;unfold A3t at hs;split at hs
 ·skip;rename_i c u_x;have hq_x:=A4.1 hs;clear hs;obtain⟨x,hd_x,hs⟩:=hq_x;replace hd_x:=F1 hd_x;subst hd_x;split at hs
  ·rename_i hc;clear hs hs0;refine⟨rfl,?_⟩;unfold C7y;refine w0 (.cons 1 _ (.cons 0 _ (.nil))) ?_;repeat (first|refine A9b ?_|refine A4F ?_|refine A5b ?_|refine w4 (fun g=>?_) fun g=>?_|refine w32 A3u (e:=A83 _ _ _ ⟨by omega,by omega,by omega,by omega,hc.2.2⟩) (k':=?_)|(refine w7 [.int .i64 _,.int .i64 _,A8 rQ _] ?_;rotate_left)|(refine w7 [.int .i64 _,A8 rQ _] ?_;rotate_left))
   all_goals first
    | refine J2 ?_ ?_
      ·rw[A82 (c+1) _ ⟨by omega,by omega,C9M _ _ hc.2.2⟩,A82 c x hc,B6h,B6h,D39 (c:=c) (x:=x) (by omega)];rfl
      ·rw[C0i,C0i];omega
    | refine K0 (d:=0) ?_
      rw[A82 c x hc,B6h,D3_ (by omega)]
  ·cases hs
 ·cases hs
def S9(b:Int):Int:=if b<128 then 1 else if 194≤b∧b<224 then 2 else if 224≤b∧b<240 then 3 else if 240≤b∧b≤244 then 4 else 0
def loB(b:Int):Int:=if b=224 then 160 else if b=240 then 144 else 128
def hiB(b:Int):Int:=if b=237 then 159 else if b=244 then 143 else 191
def okT:List Int→Int→Int→Bool
 | [],_,_=>true
 | b::r,lo,hi=>decide (lo≤b∧b≤hi) && okT r 128 191
def knd(l:List Int):Int:=if S9 (l.getD 0 0)<(l.length:Int)then 0 else if okT (l.drop 1) (loB (l.getD 0 0)) (hiB (l.getD 0 0))=true then(if(l.length:Int)<S9 (l.getD 0 0)then 1 else 2)else 0
theorem D4D{l:List Int}{i lo hi:Int}(h:¬i<(l.length:Int)):okT (l.drop i.toNat) lo hi=true:=by rw[A0S l (by omega)];rfl
theorem D4C{l:List Int}{i lo hi:Int}(h0:0≤i)(h1:i<(l.length:Int))(h:l.getD i.toNat default<lo∨hi<l.getD i.toNat default):okT (l.drop i.toNat) lo hi=false:=by
 rw[S2 l h0 h1];show(decide _ && _)=false;rw[decide_eq_false (by omega),l7]
theorem D4B{l:List Int}{i lo hi:Int}(h0:0≤i)(h1:i<(l.length:Int))(h:lo≤l.getD i.toNat default)(h2:l.getD i.toNat default≤hi):okT (l.drop i.toNat) lo hi=okT (l.drop (i+1).toNat) 128 191:=by
 rw[S2 l h0 h1];show(decide _ && _)=_;rw[decide_eq_true ⟨h,h2⟩,A2w]
noncomputable def D0Y:List (FuncId×FnC):=L0
theorem C3W{G:Nat→Option Obj}(hst:A7 Tryz.prog G gl H0 n0):C5 Tryz.prog G gl D0Y:=.nil
def A9S:List U→Option (Nat×List U)
 | [.int .u8 b]=>if 0≤b∧b<256 then some (0,[.int .i64 (S9 b)])else none
 | _=>none
theorem C5l(b:Int)(hc:0≤b∧b<256):A9S [.int .u8 b]=some (0,[.int .i64 (S9 b)]):=if_pos hc
def C7d:Tr:=aH [h 0 4,.int .u8 (240)]<|.br 1 (aQ [h 0 4,.int .u8 (244)]<|.br 2 (.ret [jI 4]) (aH [h 0 4,.int .u8 (224)]<|.br 3 (aL [h 0 4,.int .u8 (240)]<|.br 4 (.ret [jI 3]) (aH [h 0 4,.int .u8 (194)]<|.br 5 (aL [h 0 4,.int .u8 (224)]<|.br 6 (.ret [jI 2]) (aL [h 0 4,.int .u8 (128)]<|.br 7 (.ret [jI 1]) (.ret [jI 0]))) (aL [h 0 4,.int .u8 (128)]<|.br 6 (.ret [jI 1]) (.ret [jI 0])))) (aH [h 0 4,.int .u8 (194)]<|.br 4 (aL [h 0 4,.int .u8 (224)]<|.br 5 (.ret [jI 2]) (aL [h 0 4,.int .u8 (128)]<|.br 6 (.ret [jI 1]) (.ret [jI 0]))) (aL [h 0 4,.int .u8 (128)]<|.br 5 (.ret [jI 1]) (.ret [jI 0]))))) (aH [h 0 4,.int .u8 (224)]<|.br 2 (aL [h 0 4,.int .u8 (240)]<|.br 3 (.ret [jI 3]) (aH [h 0 4,.int .u8 (194)]<|.br 4 (aL [h 0 4,.int .u8 (224)]<|.br 5 (.ret [jI 2]) (aL [h 0 4,.int .u8 (128)]<|.br 6 (.ret [jI 1]) (.ret [jI 0]))) (aL [h 0 4,.int .u8 (128)]<|.br 5 (.ret [jI 1]) (.ret [jI 0])))) (aH [h 0 4,.int .u8 (194)]<|.br 3 (aL [h 0 4,.int .u8 (224)]<|.br 4 (.ret [jI 2]) (aL [h 0 4,.int .u8 (128)]<|.br 5 (.ret [jI 1]) (.ret [jI 0]))) (aL [h 0 4,.int .u8 (128)]<|.br 4 (.ret [jI 1]) (.ret [jI 0]))))
theorem C0L{G:Nat→Option Obj}(hst:A7 Tryz.prog G gl H0 n0):H8 Tryz.prog G 152 [.s 4] A9S [.s 3]:=by
 refine C6 (C:=cx D0Y []) (d:=60) C7d (cxg (C3W hst) .nil) hst ⟨Tryz.f152,_,Tryz.func152,rfl⟩ (by kernel_rfl) (by kernel_rfl) ?_;intro us outs hs;unfold A9S at hs;split at hs
 ·skip;rename_i b;split at hs
  ·rename_i hc;cases hs;unfold C7d;refine w0 (.cons 0 _ (.nil)) ?_;repeat (first|(refine w7 [.int .i64 _] ?_;rotate_left)|refine w4 (fun g=>?_) fun g=>?_|refine A37 ?_|refine A4D ?_|refine A5b ?_)
   all_goals
    first
    | (exfalso;omega)
    | (refine l0 ?_;unfold S9;repeat (first|rw[if_neg (by omega)]|rw[if_pos (by omega)]))
  ·cases hs
 ·cases hs
noncomputable def D1e:List (FuncId×FnC):=(152,E7 Tryz.prog [.s 4] A9S [.s 3])::D2D
theorem C4i{G:Nat→Option Obj}(hst:A7 Tryz.prog G gl H0 n0):C5 Tryz.prog G gl D1e:=.cons (C0L hst) (C5J hst)
noncomputable def D0V:List (FuncId×FnC):=L0
theorem C3T{G:Nat→Option Obj}(hst:A7 Tryz.prog G gl H0 n0):C5 Tryz.prog G gl D0V:=.nil
def A9Q:List U→Option (Nat×List U)
 | [.int .u8 b]=>if 0≤b∧b<256 then some (0,[.int .u8 (loB b),.int .u8 (hiB b)])else none
 | _=>none
theorem C5j(b:Int)(hc:0≤b∧b<256):A9Q [.int .u8 b]=some (0,[.int .u8 (loB b),.int .u8 (hiB b)]):=if_pos hc
def C7Z:Tr:=aE [h 0 4,.int .u8 (224)]<|.br 1 (.ret [.int .u8 (160),.int .u8 (191)]) (aE [h 0 4,.int .u8 (237)]<|.br 2 (.ret [.int .u8 (128),.int .u8 (159)]) (aE [h 0 4,.int .u8 (240)]<|.br 3 (.ret [.int .u8 (144),.int .u8 (191)]) (aE [h 0 4,.int .u8 (244)]<|.br 4 (.ret [.int .u8 (128),.int .u8 (143)]) (.ret [.int .u8 (128),.int .u8 (191)]))))
theorem C0I{G:Nat→Option Obj}(hst:A7 Tryz.prog G gl H0 n0):H8 Tryz.prog G 153 [.s 4] A9Q [.s 4,.s 4]:=by
 refine C6 (C:=cx D0V []) (d:=60) C7Z (cxg (C3T hst) .nil) hst ⟨Tryz.f153,_,Tryz.func153,rfl⟩ (by kernel_rfl) (by kernel_rfl) ?_;intro us outs hs;unfold A9Q at hs;split at hs
 ·skip;rename_i b;split at hs
  ·rename_i hc;cases hs;unfold C7Z;refine s0 (.cons 0 _ (.nil)) rfl (by simp[Ev.ok,Ev.len]) ?_;refine s1 (G5 _ _ _) rfl rfl rfl ?_;refine s4 rfl (fun g0=>?_) fun g0=>?_
   ·refine s7 [.int .u8 _,.int .u8 _] rfl ?_;first
    | (subst g0;rfl)
    | (unfold loB hiB;repeat (first|rw[if_neg (by omega)]|rw[if_pos (by omega)]))
   refine s1 (G5 _ _ _) rfl rfl rfl ?_;refine s4 rfl (fun g1=>?_) fun g1=>?_
   ·refine s7 [.int .u8 _,.int .u8 _] rfl ?_;first
    | (subst g0;rfl)
    | (unfold loB hiB;repeat (first|rw[if_neg (by omega)]|rw[if_pos (by omega)]))
   refine s1 (G5 _ _ _) rfl rfl rfl ?_;refine s4 rfl (fun g2=>?_) fun g2=>?_
   ·refine s7 [.int .u8 _,.int .u8 _] rfl ?_;first
    | (subst g0;rfl)
    | (unfold loB hiB;repeat (first|rw[if_neg (by omega)]|rw[if_pos (by omega)]))
   refine s1 (G5 _ _ _) rfl rfl rfl ?_;refine s4 rfl (fun g3=>?_) fun g3=>?_
   ·refine s7 [.int .u8 _,.int .u8 _] rfl ?_;first
    | (subst g0;rfl)
    | (unfold loB hiB;repeat (first|rw[if_neg (by omega)]|rw[if_pos (by omega)]))
   refine s7 [.int .u8 _,.int .u8 _] rfl ?_;first
   | (subst g0;rfl)
   | (unfold loB hiB;repeat (first|rw[if_neg (by omega)]|rw[if_pos (by omega)]))
  ·cases hs
 ·cases hs
noncomputable def D1b:List (FuncId×FnC):=(153,E7 Tryz.prog [.s 4] A9Q [.s 4,.s 4])::D1e
theorem C4f{G:Nat→Option Obj}(hst:A7 Tryz.prog G gl H0 n0):C5 Tryz.prog G gl D1b:=.cons (C0I hst) (C4i hst)
def okO(b:Bool):Option Unit:=if b then none else some ()
theorem C82{b:Bool}(h:okO b=none):b=true:=by cases b<;>first|rfl|cases h
theorem D4E{b:Bool}{u:Unit}(h:okO b=some u):b=false:=by cases b<;>first|rfl|cases h
noncomputable def D0Z:List (FuncId×FnC):=(152,E7 Tryz.prog [.s 4] A9S [.s 3])::(153,E7 Tryz.prog [.s 4] A9Q [.s 4,.s 4])::L0
theorem C3X{G:Nat→Option Obj}(hst:A7 Tryz.prog G gl H0 n0):C5 Tryz.prog G gl D0Z:=(.cons (C0L hst) (.cons (C0I hst) .nil))
def A9T:List U→Option (Nat×List U)
 | [u_p,.int .i64 n,.int .u8 lo,.int .u8 hi,u_q,.int .i64 m,.int .i64 i]=>(J9 rB u_p).bind fun p=>(J9 rB u_q).bind fun q=>if m=((el q).length:Int)∧0≤i∧i≤((el q).length:Int)∧((el q).length:Int)≤1000∧0≤lo∧lo<256∧0≤hi∧hi<256 then A07 (okO (okT ((el q).drop i.toNat) lo hi)) [A8 rB p,.int .i64 n] (fun _=>[])else none
 | _=>none
theorem A6R(p:(Option (List Int)))(n:Int)(lo:Int)(hi:Int)(q:(Option (List Int)))(m:Int)(i:Int)(hc:m=((el q).length:Int)∧0≤i∧i≤((el q).length:Int)∧((el q).length:Int)≤1000∧0≤lo∧lo<256∧0≤hi∧hi<256):A9T [A8 rB p,.int .i64 n,.int .u8 lo,.int .u8 hi,A8 rB q,.int .i64 m,.int .i64 i]=A07 (okO (okT ((el q).drop i.toNat) lo hi)) [A8 rB p,.int .i64 n] (fun _=>[]):=by
 simp only[A9T,G0,D1];exact if_pos hc
def C7i:Q6:=⟨[(0,dat 7 0 11),(3,h 1 3),(4,h 2 4),(5,h 3 4),(24,dat 8 4 11),(25,h 5 3),(26,h 6 3)],[(7,.frz),(8,.frz)],7,[⟨.exit 0,[(0,dat 9 0 11),(3,h 1 3)],[(9,.frz)],2⟩,⟨.ret,[(2,.int .i64 (0))],[],0⟩]⟩
noncomputable def C0O:Code:=(Tryz.f140.body).getD .skip
noncomputable def C7e:Code:=match H4 [true,true,true,true,false,true,false] C0O with|some (.loop x)=>x|_=>.skip
theorem C7h:Tryz.f140.body=some C0O:=rfl
theorem C7g:H4 [true,true,true,true,false,true,false] C0O=some (.loop C7e):=by kernel_rfl
def C7f:Tr:=aL [h3 6,h3 5]<|.br 7 (.lt 8 (.inbs 1) [h3 6,h 4 11]<|.br 8 (.lt 4 (.get 1 0) [h 4 11,h3 6]<|aL [h 9 4,h 2 4]<|.br 10 (.ret [jI 1]) (aG [h 9 4,h 3 4]<|.br 11 (.ret [jI 1]) (aA [h3 6,jI 1]<|.ret [jI (-1),h 0 11,h3 1,.int .u8 (128),.int .u8 (191),h 4 11,h3 5,h3 12]))) (.no)) (.ret [jI 0,h 0 11,h3 1])
def C0N:List U→Nat
 | [u_p,.int .i64 n,.int .u8 lo,.int .u8 hi,u_q,.int .i64 m,.int .i64 i]=>(match J9 rB u_p with|some p=>(match J9 rB u_q with|some q=>(((el q).length:Int)-i).toNat|none=>0)|none=>0)
 | _=>0
theorem C0M(p:(Option (List Int)))(n:Int)(lo:Int)(hi:Int)(q:(Option (List Int)))(m:Int)(i:Int):C0N [A8 rB p,.int .i64 n,.int .u8 lo,.int .u8 hi,A8 rB q,.int .i64 m,.int .i64 i]=(((el q).length:Int)-i).toNat:=by
 simp only[C0N,G0]
theorem D3Y{G:Nat→Option Obj}(hst:A7 Tryz.prog G gl H0 n0):∀ (E:Nat→U) (base:Nat),@W7 ⟨E,G⟩ Tryz.prog base gl Tryz.f140.ntmps C7e (O6 Tryz.prog gl n0 10 C7i A9T):=by
 refine m9 (C:=cx D0Z []) (dep:=60) (f:=140) (n0:=n0) (nB:=10) (H0:=H0) C0N C7f (cxg (C3X hst) .nil) hst Tryz.func140 C7h C7g (by kernel_rfl) (by kernel_rfl) (by kernel_rfl) ?_;intro us d outs hs;have hs0:=hs;unfold A9T at hs;split at hs
 ·skip;rename_i u_p n lo hi u_q m i;have hq_p:=A4.1 hs;clear hs;obtain⟨p,hd_p,hs⟩:=hq_p;replace hd_p:=F1 hd_p;subst hd_p;have hq_q:=A4.1 hs;clear hs;obtain⟨q,hd_q,hs⟩:=hq_q;replace hd_q:=F1 hd_q;subst hd_q;split at hs
  ·rename_i hc;clear hs hs0;refine⟨rfl,?_⟩;unfold C7f;refine w0 (.cons 6 _ (.cons 5 _ (.cons 4 _ (.cons 3 _ (.cons 2 _ (.cons 1 _ (.cons 0 _ (.nil)))))))) ?_;repeat (first|refine w4 (fun g=>?_) fun g=>?_|refine A37 ?_|(refine w7 [.int .i64 _] ?_;rotate_left)|refine A9b ?_|refine A4F ?_|refine B7X ?_|refine w1 (.get 1 0) (u:=.int .u8 _) (e:=I2 rfl (by omega) (by omega) rfl) (k':=?_)|refine A9Y ?_|(refine w7 [.int .i64 _,A8 rB _,.int .i64 _,.int .u8 _,.int .u8 _,A8 rB _,.int .i64 _,.int .i64 _] ?_;rotate_left)|(refine w8 ?_;first|omega)|(refine w7 [.int .i64 _,A8 rB _,.int .i64 _] ?_;rotate_left))
   all_goals first
    | refine J2 ?_ ?_
      ·rw[A6R p n _ _ q m (i+1) ⟨hc.1,by omega,by omega,hc.2.2.2.1,by omega,by omega,by omega,by omega⟩,A6R p n lo hi q m i hc,D4B (l:=el q) (i:=i) (lo:=lo) (hi:=hi) (by omega) (by omega) (by omega) (by omega)]
      ·rw[C0M,C0M];omega
    | refine K0 (d:=0) ?_
      rw[A6R p n lo hi q m i hc,D4D (l:=el q) (i:=i) (by omega)];rfl
    | refine K0 (d:=1) ?_
      rw[A6R p n lo hi q m i hc,D4C (l:=el q) (i:=i) (by omega) (by omega) (by omega)];rfl
  ·cases hs
 ·cases hs
end Go.Proofs.YtdimocjaepnifaaGreatDoor
