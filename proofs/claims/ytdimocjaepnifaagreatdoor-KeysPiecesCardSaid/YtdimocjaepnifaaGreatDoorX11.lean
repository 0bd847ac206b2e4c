/- The law KeysPieces: for every input the call returns true, and the arguments read behind it as they read before. No condition. -/
import Derived.Test.YtdimocjaepnifaaGreatDoorX10
namespace Go.Proofs.YtdimocjaepnifaaGreatDoor
set_option linter.all false
open Go Go.Sx
set_option maxRecDepth 100000
set_option maxHeartbeats 4000000
set_option linter.unusedVariables false
set_option linter.unusedSimpArgs false
def rI:Rw (Int×Int×Int×Int×Int×Int×Int×(List UInt8)):=rC (u6 .i64) (rC (u6 .i64) (rC (u6 .i64) (rC (u6 .i64) (rC (u6 .i64) (rC (u6 .i64) (rC (u6 .i64) (r1 C1A)))))))
theorem D04{α:Type}{l r:List α}(h:l.length=r.length):(l.zip r).length=l.length:=by rw[List.length_zip];omega
def eqX(x y:(Int×Int×Int×Int×Int×Int×Int×List UInt8)):Bool:=(x.1 == y.1) && ((x.2.1 == y.2.1) && ((x.2.2.1 == y.2.2.1) && ((x.2.2.2.1 == y.2.2.2.1) && ((x.2.2.2.2.1 == y.2.2.2.2.1) && ((x.2.2.2.2.2.1 == y.2.2.2.2.2.1) && ((x.2.2.2.2.2.2.1 == y.2.2.2.2.2.2.1) && ((x.2.2.2.2.2.2.2 == y.2.2.2.2.2.2.2) && true)))))))
def neX(p:(Int×Int×Int×Int×Int×Int×Int×List UInt8)×(Int×Int×Int×Int×Int×Int×Int×List UInt8)):Bool:=!eqX p.1 p.2
def B0U(a b:Option (List (Int×Int×Int×Int×Int×Int×Int×List UInt8))):Bool:=decide ((el a).length=(el b).length) && (V7 neX ((el a).zip (el b)) 0).isNone
noncomputable def C6r:List (FuncId×FnC):=L0
theorem C1h{G:Nat→Option Obj}(hst:B9 Tryz.prog G gl H0 n0):G2 Tryz.prog G gl C6r:=.nil
def A7Y:List U→Option (Nat×List U)
 | [u_a,u_b,.int .i64 i]=>(K1 rI u_a).bind fun a=>(K1 rI u_b).bind fun b=>if 0≤i∧i≤((el a).length:Int)∧(el a).length=(el b).length∧(el a).length≤140737488351232 then A2l (V7 neX (((el a).zip (el b)).drop i.toNat) i) [] (fun _=>[])else none
 | _=>none
theorem A6B(a:(Option (List (Int×Int×Int×Int×Int×Int×Int×(List UInt8)))))(b:(Option (List (Int×Int×Int×Int×Int×Int×Int×(List UInt8)))))(i:Int)(hc:0≤i∧i≤((el a).length:Int)∧(el a).length=(el b).length∧(el a).length≤140737488351232):A7Y [A7 rI a,A7 rI b,.int .i64 i]=A2l (V7 neX (((el a).zip (el b)).drop i.toNat) i) [] (fun _=>[]):=by
 simp only[A7Y,F8,D0];exact if_pos hc
def C4t:Q6:=⟨[(0,dat 7 0 18),(1,dat 8 1 18),(5,h 2 3)],[(7,.frz),(8,.frz)],3,[⟨.exit 0,[],[],0⟩,⟨.ret,[(4,.bool false)],[],0⟩]⟩
noncomputable def B8_:Code:=(Tryz.f22.body).getD .skip
noncomputable def C4p:Code:=match H1 [true,true,false,true,false] B8_ with|some (.loop x)=>x|_=>.skip
theorem C4s:Tryz.f22.body=some B8_:=rfl
theorem C4r:H1 [true,true,false,true,false] B8_=some (.loop C4p):=by kernel_rfl
def C4q:Tr:=aD [h 0 18]<|aL [h3 2,h3 3]<|.br 4 (.lt 8 (.inbs 8) [h3 2,h 0 18]<|.br 5 (.lt 3 (.get 8 0) [h 0 18,h3 2]<|.lt 3 (.get 8 1) [h 0 18,h3 2]<|.lt 3 (.get 8 2) [h 0 18,h3 2]<|.lt 3 (.get 8 3) [h 0 18,h3 2]<|.lt 3 (.get 8 4) [h 0 18,h3 2]<|.lt 3 (.get 8 5) [h 0 18,h3 2]<|.lt 3 (.get 8 6) [h 0 18,h3 2]<|.lt 9 (.get 8 7) [h 0 18,h3 2]<|.lt 8 (.inbs 8) [h3 2,h 1 18]<|.br 14 (.lt 3 (.get 8 0) [h 1 18,h3 2]<|.lt 3 (.get 8 1) [h 1 18,h3 2]<|.lt 3 (.get 8 2) [h 1 18,h3 2]<|.lt 3 (.get 8 3) [h 1 18,h3 2]<|.lt 3 (.get 8 4) [h 1 18,h3 2]<|.lt 3 (.get 8 5) [h 1 18,h3 2]<|.lt 3 (.get 8 6) [h 1 18,h3 2]<|.lt 9 (.get 8 7) [h 1 18,h3 2]<|.lt 8 (.eqs) [h3 6,h3 15,h3 7,h3 16,h3 8,h3 17,h3 9,h3 18,h3 10,h3 19,h3 11,h3 20,h3 12,h3 21,h 13 9,h 22 9]<|aX [h 23 8]<|.br 24 (.ret [jI 1]) (aA [h3 2,jI 1]<|.ret [jI (-1),h 0 18,h 1 18,h3 25])) (.no)) (.no)) (.ret [jI 0])
def B89:List U→Nat
 | [u_a,u_b,.int .i64 i]=>(match K1 rI u_a with|some a=>(match K1 rI u_b with|some b=>(((el a).length:Int)-i).toNat|none=>0)|none=>0)
 | _=>0
theorem B88(a:(Option (List (Int×Int×Int×Int×Int×Int×Int×(List UInt8)))))(b:(Option (List (Int×Int×Int×Int×Int×Int×Int×(List UInt8)))))(i:Int):B89 [A7 rI a,A7 rI b,.int .i64 i]=(((el a).length:Int)-i).toNat:=by
 simp only[B89,F8]
theorem C9I{G:Nat→Option Obj}(hst:B9 Tryz.prog G gl H0 n0):∀ (E:Nat→U) (base:Nat),@X8 ⟨E,G⟩ Tryz.prog base gl Tryz.f22.ntmps C4p (Q0 Tryz.prog gl n0 9 C4t A7Y):=by
 refine A0A (C:=cx C6r []) (dep:=60) (f:=22) (n0:=n0) (nB:=9) (H0:=H0) B89 C4q (cxg (C1h hst) .nil) hst Tryz.func22 C4s C4r (by kernel_rfl) (by kernel_rfl) (by kernel_rfl) ?_;intro us d outs hs;have hs0:=hs;unfold A7Y at hs;split at hs
 ·skip;rename_i u_a u_b i;have hq_a:=A6.1 hs;clear hs;obtain⟨a,hd_a,hs⟩:=hq_a;replace hd_a:=F3 hd_a;subst hd_a;have hq_b:=A6.1 hs;clear hs;obtain⟨b,hd_b,hs⟩:=hq_b;replace hd_b:=F3 hd_b;subst hd_b;split at hs
  ·rename_i hc;clear hs hs0;have hz:=D04 hc.2.2.1;refine⟨rfl,?_⟩;unfold C4q;refine w0 (.cons 2 _ (.cons 1 _ (.cons 0 _ (.nil)))) ?_;refine P9 ?_;refine A1L ?_;refine w5 (fun g0=>?_) fun g0=>?_
   ·refine w7 [.int .i64 _] ?_;refine K8 (d:=0) ?_;rw[A6B a b i hc,A7I (by omega)];rfl
   refine Y9 ?_;refine w5 (fun g1=>?_) fun g1=>?_
   ·refine w8 ?_;first|omega
   refine w1 (.get 8 0) (u:=.int .i64 _) (e:=G6 rfl (by omega) (by omega) rfl) (k':=?_);refine w1 (.get 8 1) (u:=.int .i64 _) (e:=G6 rfl (by omega) (by omega) rfl) (k':=?_);refine w1 (.get 8 2) (u:=.int .i64 _) (e:=G6 rfl (by omega) (by omega) rfl) (k':=?_);refine w1 (.get 8 3) (u:=.int .i64 _) (e:=G6 rfl (by omega) (by omega) rfl) (k':=?_);refine w1 (.get 8 4) (u:=.int .i64 _) (e:=G6 rfl (by omega) (by omega) rfl) (k':=?_);refine w1 (.get 8 5) (u:=.int .i64 _) (e:=G6 rfl (by omega) (by omega) rfl) (k':=?_);refine w1 (.get 8 6) (u:=.int .i64 _) (e:=G6 rfl (by omega) (by omega) rfl) (k':=?_);refine w1 (.get 8 7) (u:=.str _) (e:=G6 rfl (by omega) (by omega) rfl) (k':=?_);refine Y9 ?_;refine w5 (fun g2=>?_) fun g2=>?_
   ·refine w8 ?_;first|omega
   refine w1 (.get 8 0) (u:=.int .i64 _) (e:=G6 rfl (by omega) (by omega) rfl) (k':=?_);refine w1 (.get 8 1) (u:=.int .i64 _) (e:=G6 rfl (by omega) (by omega) rfl) (k':=?_);refine w1 (.get 8 2) (u:=.int .i64 _) (e:=G6 rfl (by omega) (by omega) rfl) (k':=?_);refine w1 (.get 8 3) (u:=.int .i64 _) (e:=G6 rfl (by omega) (by omega) rfl) (k':=?_);refine w1 (.get 8 4) (u:=.int .i64 _) (e:=G6 rfl (by omega) (by omega) rfl) (k':=?_);refine w1 (.get 8 5) (u:=.int .i64 _) (e:=G6 rfl (by omega) (by omega) rfl) (k':=?_);refine w1 (.get 8 6) (u:=.int .i64 _) (e:=G6 rfl (by omega) (by omega) rfl) (k':=?_);refine w1 (.get 8 7) (u:=.str _) (e:=G6 rfl (by omega) (by omega) rfl) (k':=?_);refine w1 (.eqs) (e:=rfl) (k':=?_);first|refine Y8 ?_|refine A3F ?_
   first|refine w4 (fun g3=>?_) (fun g3=>?_)|refine w4B (fun g3=>?_) (fun g3=>?_)
   ·refine w7 [.int .i64 _] ?_;refine K8 (d:=1) ?_;rw[A6B a b i hc,A7H (by omega) (by omega) (by rw[B6B (by omega) (by omega) (by omega)];exact g3)];rfl
   first|refine W4 ?_|refine N6 ?_
   refine w7 [.int .i64 _,A7 rI _,A7 rI _,.int .i64 _] ?_;refine J9 ?_ ?_
   ·rw[A6B a b (i+1) ⟨by omega,by omega,hc.2.2⟩,A6B a b i hc,A5i (i:=i) (by omega) (by omega) (by rw[B6B (by omega) (by omega) (by omega)];exact g3)]
   ·rw[B88,B88];omega
  ·cases hs
 ·cases hs
noncomputable def B4v:List LpE:=(22,([true,true,false,true,false],Q0 Tryz.prog gl n0 9 C4t A7Y))::[]
theorem A6s{G:Nat→Option Obj}(hst:B9 Tryz.prog G gl H0 n0):x4 Tryz.prog G gl B4v:=.cons Tryz.func22 C4s C4r (C9I hst) .nil
theorem B5R{a b:Option (List (Int×Int×Int×Int×Int×Int×Int×List UInt8))}(h:¬((el a).length:Int)=(el b).length):B0U a b=false:=by
 unfold B0U;rw[decide_eq_false (by omega),X1]
theorem B5Q{a b:Option (List (Int×Int×Int×Int×Int×Int×Int×List UInt8))}(h:(el a).length=(el b).length)(hf:V7 neX (((el a).zip (el b)).drop (0:Int).toNat) 0=none):B0U a b=true:=by
 unfold B0U;rw[decide_eq_true h];have hf:V7 neX ((el a).zip (el b)) 0=none:=hf;rw[hf];rfl
theorem B5P{a b:Option (List (Int×Int×Int×Int×Int×Int×Int×List UInt8))}{j:Int}(hf:V7 neX (((el a).zip (el b)).drop (0:Int).toNat) 0=some j):B0U a b=false:=by
 unfold B0U;have hf:V7 neX ((el a).zip (el b)) 0=some j:=hf;rw[hf,Bool.and_comm];rfl
noncomputable def C6s:List (FuncId×FnC):=L0
theorem C1i{G:Nat→Option Obj}(hst:B9 Tryz.prog G gl H0 n0):G2 Tryz.prog G gl C6s:=.nil
def A7a:List U→Option (Nat×List U)
 | [u_a,u_b]=>(K1 rI u_a).bind fun a=>(K1 rI u_b).bind fun b=>if(el a).length≤140737488351232∧(el b).length≤140737488351232 then some (0,[.bool (B0U a b)])else none
 | _=>none
theorem C2i(a:(Option (List (Int×Int×Int×Int×Int×Int×Int×(List UInt8)))))(b:(Option (List (Int×Int×Int×Int×Int×Int×Int×(List UInt8)))))(hc:(el a).length≤140737488351232∧(el b).length≤140737488351232):A7a [A7 rI a,A7 rI b]=some (0,[.bool (B0U a b)]):=by
 simp only[A7a,F8,D0];exact if_pos hc
def C4v:Tr:=aD [h 0 18]<|aD [h 1 18]<|aN [h3 2,h3 3]<|.br 4 (.ret [.bool false]) (.lp A7Y [h 0 18,h 1 18,jI 0] 0 0 (.ret [.bool true]) (.lp A7Y [h 0 18,h 1 18,jI 0] 1 0 (.ret [.bool false]) (.no)))
theorem C4w{G:Nat→Option Obj}(hst:B9 Tryz.prog G gl H0 n0):L8 Tryz.prog G 22 [.s 18,.s 18] A7a [.s 8]:=by
 refine E6 (C:=cx C6s B4v) (d:=60) C4v (cxg (C1i hst) (A6s hst)) hst ⟨Tryz.f22,_,Tryz.func22,rfl⟩ (by kernel_rfl) (by kernel_rfl) ?_;intro us outs hs;unfold A7a at hs;split at hs
 ·skip;rename_i u_a u_b;have hq_a:=A6.1 hs;clear hs;obtain⟨a,hd_a,hs⟩:=hq_a;replace hd_a:=F3 hd_a;subst hd_a;have hq_b:=A6.1 hs;clear hs;obtain⟨b,hd_b,hs⟩:=hq_b;replace hd_b:=F3 hd_b;subst hd_b;split at hs
  ·rename_i hc;cases hs;unfold C4v;refine w0 (.cons 1 _ (.cons 0 _ (.nil))) ?_;refine P9 ?_;refine P9 ?_;refine t6 ?_;refine w4 (fun g0=>?_) fun g0=>?_
   ·refine w7 [.bool _] ?_;first|(rw[B5R (by omega)];done)|(rw[B5Q (by omega) g1];done)|(rw[B5P g1];done)
   refine w6 A7Y (A6B _ _ _ ⟨by omega,by omega,by omega,by omega⟩) (h0:=fun g1=>?_) (h1:=fun v1 g1=>?_)
   ·show Wk _ _ _;refine w7 [.bool _] ?_;first|(rw[B5R (by omega)];done)|(rw[B5Q (by omega) g1];done)|(rw[B5P g1];done)
   show Wk _ _ _;refine w7 [.bool _] ?_;first|(rw[B5R (by omega)];done)|(rw[B5Q (by omega) g1];done)|(rw[B5P g1];done)
  ·cases hs
 ·cases hs
noncomputable def C64:List (FuncId×FnC):=(36,I5 Tryz.prog [.s 3,.s 3] B0h [.s 8])::(37,I5 Tryz.prog [.a [3,3,3,3,3,3,3,9]] B0g [.s 8])::(28,I5 Tryz.prog [.s 9,.s 9] B1Y [.s 8])::L0
theorem C1u{G:Nat→Option Obj}(hst:B9 Tryz.prog G gl H0 n0):G2 Tryz.prog G gl C64:=(.cons (C8s hst) (.cons (C8r hst) (.cons (D0h hst) .nil)))
def R7:List U→Option (Nat×List U)
 | [.int .i64 k,.int .i64 c,.int .i64 m,.int .i64 w,.int .i64 b,.int .i64 r,.int .i64 cl,.str t]=>if -9223372036854775808≤m∧m≤9223372036854775807∧(t.length:Int)≤140737488351232 then some (0,[.int .i64 (if A18 k c m w b r cl t then 0 else 430)])else none
 | _=>none
theorem i6(k:Int)(c:Int)(m:Int)(w:Int)(b:Int)(r:Int)(cl:Int)(t:(List UInt8))(hc : -9223372036854775808≤m∧m≤9223372036854775807∧(t.length:Int)≤140737488351232):R7 [.int .i64 k,.int .i64 c,.int .i64 m,.int .i64 w,.int .i64 b,.int .i64 r,.int .i64 cl,.str t]=some (0,[.int .i64 (if A18 k c m w b r cl t then 0 else 430)]):=if_pos hc
def C5b:Tr:=aE [h3 0,jI 1]<|.br 8 (.fn B0h [h3 1,h3 2] 1<|aX [h 9 8]<|.br 10 (.ret [jI 430]) (.lt 8 (.eqs) [h3 0,jI 1,h3 1,h3 1,h3 2,h3 2,h3 3,jI 0,h3 4,jI 0,h3 5,jI 0,h3 6,jI 0,h 7 9,.string ⟨⟨[]⟩⟩]<|aX [h 11 8]<|.br 12 (.ret [jI 430]) (.ret [jI 0]))) (aE [h3 0,jI 2]<|.br 9 (.fn B0g [h3 0,h3 1,h3 2,h3 3,h3 4,h3 5,h3 6,h 7 9] 1<|aX [h 10 8]<|.br 11 (.ret [jI 430]) (.lt 8 (.eqs) [h3 0,h3 0,h3 1,jI 0,h3 2,h3 2,h3 3,h3 3,h3 4,h3 4,h3 5,h3 5,h3 6,h3 6,h 7 9,.string ⟨⟨[]⟩⟩]<|aX [h 12 8]<|.br 13 (.ret [jI 430]) (.ret [jI 0]))) (aE [h3 0,jI 3]<|.br 10 (aD [h 7 9]<|aQ [h3 11,jI 1000]<|.br 12 (.fn B1Y [h 7 9,.string ⟨⟨[27]⟩⟩] 1<|aX [h 13 8]<|aX [h 14 8]<|.br 15 (.ret [jI 430]) (.lt 8 (.eqs) [h3 0,h3 0,h3 1,jI 0,h3 2,jI 0,h3 3,jI 0,h3 4,jI 0,h3 5,jI 0,h3 6,jI 0,h 7 9,h 7 9]<|aX [h 16 8]<|.br 17 (.ret [jI 430]) (.ret [jI 0]))) (.ret [jI 430])) (aE [h3 0,jI 4]<|.br 11 (aH [h3 3,jI 0]<|.br 12 (aQ [h3 3,jI 1]<|aX [h 13 8]<|.br 14 (.ret [jI 430]) (.lt 8 (.eqs) [h3 0,h3 0,h3 1,jI 0,h3 2,jI 0,h3 3,h3 3,h3 4,jI 0,h3 5,jI 0,h3 6,jI 0,h 7 9,.string ⟨⟨[]⟩⟩]<|aX [h 15 8]<|.br 16 (.ret [jI 430]) (.ret [jI 0]))) (.ret [jI 430])) (.ret [jI 430]))))
theorem B6z{G:Nat→Option Obj}(hst:B9 Tryz.prog G gl H0 n0):L8 Tryz.prog G 13 [.a [3,3,3,3,3,3,3,9]] R7 [.s 3]:=by
 refine E6 (C:=cx C64 B4v) (d:=60) C5b (cxg (C1u hst) (A6s hst)) hst ⟨Tryz.f13,_,Tryz.func13,rfl⟩ (by kernel_rfl) (by kernel_rfl) ?_;intro us outs hs;unfold R7 at hs;split at hs
 ·skip;rename_i k c m w b r cl t;split at hs
  ·rename_i hc;cases hs;have zi:=C36 t;unfold C5b;refine w0 (.cons 7 _ (.cons 6 _ (.cons 5 _ (.cons 4 _ (.cons 3 _ (.cons 2 _ (.cons 1 _ (.cons 0 _ (.nil))))))))) ?_;repeat (first|refine w4 (fun g=>?_) fun g=>?_|refine w4B (fun g=>?_) fun g=>?_|refine Y8 ?_|refine A3F ?_|(refine w7 [.int .i64 _] ?_;rotate_left)|refine O7 ?_|refine w1 (.eqs) (e:=rfl) (k':=?_)|refine A5X ?_|refine w31 B0h (e:=C2O _ _ (by omega)) (k':=?_)|refine w31 B0g (e:=C2M _ _ _ _ _ _ _ _) (k':=?_)|refine B7j ?_|refine w31 B1Y (e:=C3q _ _ rfl) (k':=?_)|refine A1M ?_)
   all_goals
    refine l0 ?_;first
    | exact(if_pos (by unfold A18;first|(simp_all;done)|(simp_all;omega))).symm
    | exact(if_neg (fun h=>by
       unfold A18 at h;rcases h with h|h|h|h<;>first|(exfalso;omega)|(simp_all;done)|(simp_all;omega))).symm
  ·cases hs
 ·cases hs
noncomputable def C65:List (FuncId×FnC):=(75,I5 Tryz.prog [.a [8,8,8,8,8,8,8,8,8,8,8,3,8]] B0_ [.s 3])::(13,I5 Tryz.prog [.a [3,3,3,3,3,3,3,9]] R7 [.s 3])::L0
theorem C1v{G:Nat→Option Obj}(hst:B9 Tryz.prog G gl H0 n0):G2 Tryz.prog G gl C65:=(.cons (C9y hst) (.cons (B6z hst) .nil))
def B1H:List U→Option (Nat×List U)
 | [.bool b0,.bool b1,.bool ck,.bool b3,.bool b4,.bool b5,.bool b6,.bool pa,.bool fo,.bool b9,.bool b10,.int .i64 mo,.bool sg,.int .i64 k,.int .i64 c,.int .i64 m,.int .i64 w,.int .i64 b,.int .i64 r,.int .i64 cl,.str t]=>if -9223372036854775808≤m∧m≤9223372036854775807∧(t.length:Int)≤140737488351232 then some (0,[.int .i64 (A3W mo k c m w b r cl t)])else none
 | _=>none
theorem C3K(b0:Bool)(b1:Bool)(ck:Bool)(b3:Bool)(b4:Bool)(b5:Bool)(b6:Bool)(pa:Bool)(fo:Bool)(b9:Bool)(b10:Bool)(mo:Int)(sg:Bool)(k:Int)(c:Int)(m:Int)(w:Int)(b:Int)(r:Int)(cl:Int)(t:(List UInt8))(hc : -9223372036854775808≤m∧m≤9223372036854775807∧(t.length:Int)≤140737488351232):B1H [.bool b0,.bool b1,.bool ck,.bool b3,.bool b4,.bool b5,.bool b6,.bool pa,.bool fo,.bool b9,.bool b10,.int .i64 mo,.bool sg,.int .i64 k,.int .i64 c,.int .i64 m,.int .i64 w,.int .i64 b,.int .i64 r,.int .i64 cl,.str t]=some (0,[.int .i64 (A3W mo k c m w b r cl t)]):=if_pos hc
def C5c:Tr:=.fn B0_ [h 0 8,h 1 8,h 2 8,h 3 8,h 4 8,h 5 8,h 6 8,h 7 8,h 8 8,h 9 8,h 10 8,h3 11,h 12 8] 1<|aN [h3 21,jI 0]<|.br 22 (.ret [h3 21]) (.fn R7 [h3 13,h3 14,h3 15,h3 16,h3 17,h3 18,h3 19,h 20 9] 1<|.ret [h3 23])
theorem D0D{G:Nat→Option Obj}(hst:B9 Tryz.prog G gl H0 n0):L8 Tryz.prog G 48 [.a [8,8,8,8,8,8,8,8,8,8,8,3,8],.a [3,3,3,3,3,3,3,9]] B1H [.s 3]:=by
 refine E6 (C:=cx C65 B4v) (d:=60) C5c (cxg (C1v hst) (A6s hst)) hst ⟨Tryz.f48,_,Tryz.func48,rfl⟩ (by kernel_rfl) (by kernel_rfl) ?_;intro us outs hs;unfold B1H at hs;split at hs
 ·skip;rename_i b0 b1 ck b3 b4 b5 b6 pa fo b9 b10 mo sg k c m w b r cl t;split at hs
  ·rename_i hc;cases hs;unfold C5c;refine s0L ?_;show Tr.sav _ _ (.cons 20 _ (.cons 19 _ (.cons 18 _ (.cons 17 _ (.cons 16 _ (.cons 15 _ (.cons 14 _ (.cons 13 _ (.cons 12 _ (.cons 11 _ (.cons 10 _ (.cons 9 _ (.cons 8 _ (.cons 7 _ (.cons 6 _ (.cons 5 _ (.cons 4 _ (.cons 3 _ (.cons 2 _ (.cons 1 _ (.cons 0 _ (.nil))))))))))))))))))))));refine Wk.s ?_;repeat (first|(refine w7 [.int .i64 _] ?_;rotate_left)|refine w31 B0_ (e:=C3C _ _ _ _ _ _ _ _ _ _ _ _ _) (k':=?_)|refine t6 ?_|refine w4 (fun g=>?_) fun g=>?_|refine w31 R7 (e:=i6 _ _ _ _ _ _ _ _ hc) (k':=?_))
   all_goals
    refine l0 ?_;rw[← D0d];first|(simp_all;done)
  ·cases hs
 ·cases hs
def C3z(e:Int)(z:Bool)(s:List UInt8):Option (List Int):=if e=0 then(if z then none else some (bI s))else none
theorem C8l{e:Int}{z:Bool}{s:List UInt8}(h:e≠0):C3z e z s=none:=if_neg h
theorem A12{z:Bool}{s:List UInt8}(h:z=true):C3z 0 z s=none:=by subst h;rfl
theorem H3{z:Bool}{s t:List UInt8}(h:z=false)(h2:t=s):C3z 0 z s=some (bI t):=by subst h h2;rfl
def B5Z(k:Int)(z:Bool):Bool:=decide (k≠3) && !z
theorem A1q{k:Int}{z:Bool}(h:k≠3)(h2:z=false):B5Z k z=true:=by unfold B5Z;rw[decide_eq_true h,h2];rfl
theorem A1r{k:Int}{z:Bool}(h:k=3):B5Z k z=false:=by unfold B5Z;rw[decide_eq_false (fun q=>q h)];rfl
theorem J1{k:Int}{z:Bool}(h:z=true):B5Z k z=false:=by unfold B5Z;rw[h,O9,T7]
theorem A8C{pa fo:Bool}{mo k w b:Int}(h:k=3):isS pa fo mo k w b=pa:=by unfold isS;rw[if_pos h]
theorem C5_{sg:Bool}{b0 b1 ck b3 b4 b5 b6 pa fo b9 b10:Bool}{mo k c m w b r cl:Int}{t:List UInt8}{z:Bool}(hz:z=true)(h:msP m w b r cl):S2 [.bool b0,.bool b1,.bool ck,.bool b3,.bool b4,.bool b5,.bool b6,.bool pa,.bool fo,.bool b9,.bool b10,.int .i64 mo,.bool sg,.int .i64 (ifI z k),.int .i64 (ifI z c),.int .i64 (ifI z m),.int .i64 (ifI z w),.int .i64 (ifI z b),.int .i64 (ifI z r),.int .i64 (ifI z cl),.str (ifT z t)]=some (0,[.str (moS sg m w b r cl)]):=by
 subst hz;exact s9 b0 b1 ck b3 b4 b5 b6 pa fo b9 b10 mo sg k c m w b r cl t h
theorem A9n{ck pa fo sg:Bool}{mo k c m w b r cl:Int}{t:List UInt8}(h:k=3)(hp:pa=false):enS ck pa fo sg mo k c m w b r cl t=t:=if_pos ⟨h,hp⟩
theorem A9r{ck pa fo sg:Bool}{mo k c m w b r cl:Int}{t:List UInt8}(hz:isS pa fo mo k w b=true)(h:k=1):enS ck pa fo sg mo k c m w b r cl t=keS ck c m:=by
 unfold enS;rw[if_neg (fun g=>by have:=g.1;omega),if_neg (by rw[hz];decide),if_pos h]
theorem A9q{ck pa fo sg:Bool}{mo k c m w b r cl:Int}{t:List UInt8}(hz:isS pa fo mo k w b=true)(h:k=2):enS ck pa fo sg mo k c m w b r cl t=moS sg (B5z mo k m) w (B50 sg k w b) r cl:=by
 unfold enS;rw[if_neg (fun g=>by have:=g.1;omega),if_neg (by rw[hz];decide),if_neg (by omega),if_pos h]
theorem A9p{ck pa fo sg:Bool}{mo k c m w b r cl:Int}{t:List UInt8}(hz:isS pa fo mo k w b=true)(h:k=3):enS ck pa fo sg mo k c m w b r cl t=[27,91,50,48,48,126]++t++[27,91,50,48,49,126]:=by
 have hp:pa=true:=by rw[← A8C (pa:=pa) (fo:=fo) (mo:=mo) (w:=w) (b:=b) h];exact hz
 unfold enS;rw[if_neg (by rw[hp];simp),if_neg (by rw[hz];decide),if_neg (by omega),if_neg (by omega),if_pos h]
theorem A9o{ck pa fo sg:Bool}{mo k c m w b r cl:Int}{t x:List UInt8}(hz:isS pa fo mo k w b=true)(h1:k≠1)(h2:k≠2)(h3:k≠3)(h:x=if w=0 then[79]else[73]):[27,91]++x=enS ck pa fo sg mo k c m w b r cl t:=by
 rw[h];unfold enS;rw[if_neg (c:=k=3∧pa=false) (fun g=>h3 g.1),if_neg (c:=isS pa fo mo k w b=false) (by rw[hz];decide),if_neg h1,if_neg h2,if_neg h3]
theorem B5c{z:Bool}(h:(!z)=true):z=false:=by cases z<;>first|rfl|cases h
theorem A2c{z:Bool}(h:(!z)=false):z=true:=by cases z<;>first|rfl|cases h
theorem A1i{w:Int}(h0:0≤w)(h1:w≤1):(([79,73]:List UInt8).drop w.toNat).take ((w+1).toNat-w.toNat)=if w=0 then[79]else[73]:=by
 have:w=0∨w=1:=by omega
 rcases this with rfl|rfl<;>rfl
noncomputable def C62:List (FuncId×FnC):=(48,I5 Tryz.prog [.a [8,8,8,8,8,8,8,8,8,8,8,3,8],.a [3,3,3,3,3,3,3,9]] B1H [.s 3])::(49,I5 Tryz.prog [.a [8,8,8,8,8,8,8,8,8,8,8,3,8],.a [3,3,3,3,3,3,3,9]] B1f [.a [3,3,3,3,3,3,3,9],.s 8])::(50,I5 Tryz.prog [.a [8,8,8,8,8,8,8,8,8,8,8,3,8],.a [3,3,3,3,3,3,3,9]] j8 [.s 9])::(51,I5 Tryz.prog [.a [8,8,8,8,8,8,8,8,8,8,8,3,8],.a [3,3,3,3,3,3,3,9]] S2 [.s 9])::L0
theorem C1s{G:Nat→Option Obj}(hst:B9 Tryz.prog G gl H0 n0):G2 Tryz.prog G gl C62:=(.cons (D0D hst) (.cons (D0u hst) (.cons (A3n hst) (.cons (C6A hst) .nil))))
def C0B:List U→Option (Nat×List U)
 | [.bool b0,.bool b1,.bool ck,.bool b3,.bool b4,.bool b5,.bool b6,.bool pa,.bool fo,.bool b9,.bool b10,.int .i64 mo,.bool sg,.int .i64 k,.int .i64 c,.int .i64 m,.int .i64 w,.int .i64 b,.int .i64 r,.int .i64 cl,.str t]=>if -9223372036854775808≤m∧m≤9223372036854775807∧(t.length:Int)≤140737488351232 then some (0,[A7 rB (C3z (A3W mo k c m w b r cl t) (B5Z k (isS pa fo mo k w b)) (enS ck pa fo sg mo k c m w b r cl t)),.int .i64 (A3W mo k c m w b r cl t)])else none
 | _=>none
def C5X:Tr:=.fn B1H [h 0 8,h 1 8,h 2 8,h 3 8,h 4 8,h 5 8,h 6 8,h 7 8,h 8 8,h 9 8,h 10 8,h3 11,h 12 8,h3 13,h3 14,h3 15,h3 16,h3 17,h3 18,h3 19,h 20 9] 1<|aN [h3 21,jI 0]<|.br 22 (.dt 11 (.nilw 1) []<|.ret [h 23 11,h3 21]) (.fn B1f [h 0 8,h 1 8,h 2 8,h 3 8,h 4 8,h 5 8,h 6 8,h 7 8,h 8 8,h 9 8,h 10 8,h3 11,h 12 8,h3 13,h3 14,h3 15,h3 16,h3 17,h3 18,h3 19,h 20 9] 9<|aX [h 31 8]<|.br 32 (aE [h3 13,jI 3]<|.br 33 (.dt 11 (.byt) [h 20 9]<|.ret [h 34 11,jI 0]) (aX [h 31 8]<|.br 34 (.dt 11 (.nilw 1) []<|.ret [h 35 11,jI 0]) (aE [h3 13,jI 1]<|.br 35 (.fn j8 [h 0 8,h 1 8,h 2 8,h 3 8,h 4 8,h 5 8,h 6 8,h 7 8,h 8 8,h 9 8,h 10 8,h3 11,h 12 8,h3 13,h3 14,h3 15,h3 16,h3 17,h3 18,h3 19,h 20 9] 1<|.dt 11 (.byt) [h 36 9]<|.ret [h 37 11,jI 0]) (aE [h3 13,jI 2]<|.br 36 (.fn S2 [h 0 8,h 1 8,h 2 8,h 3 8,h 4 8,h 5 8,h 6 8,h 7 8,h 8 8,h 9 8,h 10 8,h3 11,h 12 8,h3 23,h3 24,h3 25,h3 26,h3 27,h3 28,h3 29,h 30 9] 1<|.dt 11 (.byt) [h 37 9]<|.ret [h 38 11,jI 0]) (aE [h3 13,jI 3]<|.br 37 (aC [.string ⟨⟨[27,91,50,48,48,126]⟩⟩,h 20 9]<|aC [h 38 9,.string ⟨⟨[27,91,50,48,49,126]⟩⟩]<|.dt 11 (.byt) [h 39 9]<|.ret [h 40 11,jI 0]) (aA [h3 16,jI 1]<|.lt 9 (.sub) [.string ⟨⟨[79,73]⟩⟩,h3 16,h3 38]<|aC [.string ⟨⟨[27,91]⟩⟩,h 39 9]<|.dt 11 (.byt) [h 40 9]<|.ret [h 41 11,jI 0])))))) (aX [h 31 8]<|.br 33 (.dt 11 (.nilw 1) []<|.ret [h 34 11,jI 0]) (aE [h3 13,jI 1]<|.br 34 (.fn j8 [h 0 8,h 1 8,h 2 8,h 3 8,h 4 8,h 5 8,h 6 8,h 7 8,h 8 8,h 9 8,h 10 8,h3 11,h 12 8,h3 13,h3 14,h3 15,h3 16,h3 17,h3 18,h3 19,h 20 9] 1<|.dt 11 (.byt) [h 35 9]<|.ret [h 36 11,jI 0]) (aE [h3 13,jI 2]<|.br 35 (.fn S2 [h 0 8,h 1 8,h 2 8,h 3 8,h 4 8,h 5 8,h 6 8,h 7 8,h 8 8,h 9 8,h 10 8,h3 11,h 12 8,h3 23,h3 24,h3 25,h3 26,h3 27,h3 28,h3 29,h 30 9] 1<|.dt 11 (.byt) [h 36 9]<|.ret [h 37 11,jI 0]) (aE [h3 13,jI 3]<|.br 36 (aC [.string ⟨⟨[27,91,50,48,48,126]⟩⟩,h 20 9]<|aC [h 37 9,.string ⟨⟨[27,91,50,48,49,126]⟩⟩]<|.dt 11 (.byt) [h 38 9]<|.ret [h 39 11,jI 0]) (aA [h3 16,jI 1]<|.lt 9 (.sub) [.string ⟨⟨[79,73]⟩⟩,h3 16,h3 37]<|aC [.string ⟨⟨[27,91]⟩⟩,h 38 9]<|.dt 11 (.byt) [h 39 9]<|.ret [h 40 11,jI 0]))))))
theorem C9_{G:Nat→Option Obj}(hst:B9 Tryz.prog G gl H0 n0):L8 Tryz.prog G 23 [.a [8,8,8,8,8,8,8,8,8,8,8,3,8],.a [3,3,3,3,3,3,3,9]] C0B [.s 11,.s 3]:=by
 refine E6 (C:=cx C62 B4v) (d:=60) C5X (cxg (C1s hst) (A6s hst)) hst ⟨Tryz.f23,_,Tryz.func23,rfl⟩ (by kernel_rfl) (by kernel_rfl) ?_;intro us outs hs;unfold C0B at hs;split at hs
 ·skip;rename_i b0 b1 ck b3 b4 b5 b6 pa fo b9 b10 mo sg k c m w b r cl t;split at hs
  ·rename_i hc;cases hs;unfold C5X;refine s0L ?_;show Tr.sav _ _ (.cons 20 _ (.cons 19 _ (.cons 18 _ (.cons 17 _ (.cons 16 _ (.cons 15 _ (.cons 14 _ (.cons 13 _ (.cons 12 _ (.cons 11 _ (.cons 10 _ (.cons 9 _ (.cons 8 _ (.cons 7 _ (.cons 6 _ (.cons 5 _ (.cons 4 _ (.cons 3 _ (.cons 2 _ (.cons 1 _ (.cons 0 _ (.nil))))))))))))))))))))));refine Wk.s ?_;refine w31 B1H (e:=C3K _ _ _ _ _ _ _ _ _ _ _ _ _ _ _ _ _ _ _ _ _ hc) (k':=?_);refine t6 ?_;refine w4 (fun g0=>?_) fun g0=>?_
   ·refine w2 (.nilw 1) (r:=rB) (e:=D8 rfl) (k':=?_);refine w7 [A7 rB _,.int .i64 _] ?_;rw[C8l (e:=A3W mo k c m w b r cl t) g0]
   have z2:=(C58 (mo:=mo) (C8.1 g0)).2;have z3:=D0N z2;refine w3 B1f (e:=C3w _ _ _ _ _ _ _ _ _ _ _ _ _ _ _ _ _ _ _ _ _ (fun e=>D1K (A2M (C58 (mo:=mo) (C8.1 g0)).2 e))) (k':=?_);show Wk _ _ (.cons _ _ (.cons _ _ (.cons _ _ (.cons _ _ (.cons _ _ (.cons _ _ (.cons _ _ (.cons _ _ (.cons _ _ _)))))))));first|refine Y8 ?_|refine A3F ?_
   first|refine w4 (fun g1=>?_) (fun g1=>?_)|refine w4B (fun g1=>?_) (fun g1=>?_)
   ·refine O7 ?_;refine w4 (fun g2=>?_) fun g2=>?_
    ·refine w2 (.byt) (r:=rB) (e:=A0p _ rfl) (k':=?_);refine w7 [A7 rB _,.int .i64 _] ?_;have hz:=B5c g1;rw[show A3W mo k c m w b r cl t=0 from C8.1 g0];first
     | (exfalso;simp_all;done)
     | (rw[A12 (A1q (by omega) hz)];done)
     | (rw[H3 (A1r (by omega)) (A9n (by omega) (by rw[← A8C (pa:=pa) (fo:=fo) (mo:=mo) (w:=w) (b:=b) (by omega)];exact hz)).symm];done)
     | (rw[H3 (J1 hz) (A9r hz (by omega)).symm];done)
     | (rw[H3 (J1 hz) (A9q hz (by omega)).symm];done)
     | (rw[H3 (J1 hz) (A9p hz (by omega)).symm];done)
     | (rw[H3 (J1 hz) (A9o hz (by omega) (by omega) (by omega) (A1i (z3.2.2.2 (by omega)).1 (z3.2.2.2 (by omega)).2))];done)
    first|refine Y8 ?_|refine A3F ?_
    first|refine w4 (fun g3=>?_) (fun g3=>?_)|refine w4B (fun g3=>?_) (fun g3=>?_)
    ·refine w2 (.nilw 1) (r:=rB) (e:=D8 rfl) (k':=?_);refine w7 [A7 rB _,.int .i64 _] ?_;have hz:=B5c g1;rw[show A3W mo k c m w b r cl t=0 from C8.1 g0];first
     | (exfalso;simp_all;done)
     | (rw[A12 (A1q (by omega) hz)];done)
     | (rw[H3 (A1r (by omega)) (A9n (by omega) (by rw[← A8C (pa:=pa) (fo:=fo) (mo:=mo) (w:=w) (b:=b) (by omega)];exact hz)).symm];done)
     | (rw[H3 (J1 hz) (A9r hz (by omega)).symm];done)
     | (rw[H3 (J1 hz) (A9q hz (by omega)).symm];done)
     | (rw[H3 (J1 hz) (A9p hz (by omega)).symm];done)
     | (rw[H3 (J1 hz) (A9o hz (by omega) (by omega) (by omega) (A1i (z3.2.2.2 (by omega)).1 (z3.2.2.2 (by omega)).2))];done)
    refine O7 ?_;refine w4 (fun g4=>?_) fun g4=>?_
    ·refine w31 j8 (e:=B2m _ _ _ _ _ _ _ _ _ _ _ _ _ _ _ _ _ _ _ _ _ (C5h z2 ‹_›)) (k':=?_);refine w2 (.byt) (r:=rB) (e:=A0p _ rfl) (k':=?_);refine w7 [A7 rB _,.int .i64 _] ?_;have hz:=B5c g1;rw[show A3W mo k c m w b r cl t=0 from C8.1 g0];first
     | (exfalso;simp_all;done)
     | (rw[A12 (A1q (by omega) hz)];done)
     | (rw[H3 (A1r (by omega)) (A9n (by omega) (by rw[← A8C (pa:=pa) (fo:=fo) (mo:=mo) (w:=w) (b:=b) (by omega)];exact hz)).symm];done)
     | (rw[H3 (J1 hz) (A9r hz (by omega)).symm];done)
     | (rw[H3 (J1 hz) (A9q hz (by omega)).symm];done)
     | (rw[H3 (J1 hz) (A9p hz (by omega)).symm];done)
     | (rw[H3 (J1 hz) (A9o hz (by omega) (by omega) (by omega) (A1i (z3.2.2.2 (by omega)).1 (z3.2.2.2 (by omega)).2))];done)
    refine O7 ?_;refine w4 (fun g5=>?_) fun g5=>?_
    ·refine w31 S2 (e:=C5_ (by first|exact A2c g1|(exfalso;simp_all;done)) (B9x (A2M z2 ‹_›))) (k':=?_);refine w2 (.byt) (r:=rB) (e:=A0p _ rfl) (k':=?_);refine w7 [A7 rB _,.int .i64 _] ?_;have hz:=B5c g1;rw[show A3W mo k c m w b r cl t=0 from C8.1 g0];first
     | (exfalso;simp_all;done)
     | (rw[A12 (A1q (by omega) hz)];done)
     | (rw[H3 (A1r (by omega)) (A9n (by omega) (by rw[← A8C (pa:=pa) (fo:=fo) (mo:=mo) (w:=w) (b:=b) (by omega)];exact hz)).symm];done)
     | (rw[H3 (J1 hz) (A9r hz (by omega)).symm];done)
     | (rw[H3 (J1 hz) (A9q hz (by omega)).symm];done)
     | (rw[H3 (J1 hz) (A9p hz (by omega)).symm];done)
     | (rw[H3 (J1 hz) (A9o hz (by omega) (by omega) (by omega) (A1i (z3.2.2.2 (by omega)).1 (z3.2.2.2 (by omega)).2))];done)
    refine O7 ?_;refine w4 (fun g6=>?_) fun g6=>?_
    ·refine w1 (.bin .add) (e:=V5 _ _ (by simp only[A9,B6,E4,E1,C4];omega)) (k':=?_);refine w1 (.bin .add) (e:=V5 _ _ (by simp only[A9,B6,E4,E1,C4];omega)) (k':=?_);refine w2 (.byt) (r:=rB) (e:=A0p _ rfl) (k':=?_);refine w7 [A7 rB _,.int .i64 _] ?_;have hz:=B5c g1;rw[show A3W mo k c m w b r cl t=0 from C8.1 g0];first
     | (exfalso;simp_all;done)
     | (rw[A12 (A1q (by omega) hz)];done)
     | (rw[H3 (A1r (by omega)) (A9n (by omega) (by rw[← A8C (pa:=pa) (fo:=fo) (mo:=mo) (w:=w) (b:=b) (by omega)];exact hz)).symm];done)
     | (rw[H3 (J1 hz) (A9r hz (by omega)).symm];done)
     | (rw[H3 (J1 hz) (A9q hz (by omega)).symm];done)
     | (rw[H3 (J1 hz) (A9p hz (by omega)).symm];done)
     | (rw[H3 (J1 hz) (A9o hz (by omega) (by omega) (by omega) (A1i (z3.2.2.2 (by omega)).1 (z3.2.2.2 (by omega)).2))];done)
    first|refine W4 ?_|refine N6 ?_
    refine B8n ?_;refine w1 (.bin .add) (e:=V5 _ _ (by simp only[A9,B6,E4,E1,C4];omega)) (k':=?_);refine w2 (.byt) (r:=rB) (e:=A0p _ rfl) (k':=?_);refine w7 [A7 rB _,.int .i64 _] ?_;have hz:=B5c g1;rw[show A3W mo k c m w b r cl t=0 from C8.1 g0];first
    | (exfalso;simp_all;done)
    | (rw[A12 (A1q (by omega) hz)];done)
    | (rw[H3 (A1r (by omega)) (A9n (by omega) (by rw[← A8C (pa:=pa) (fo:=fo) (mo:=mo) (w:=w) (b:=b) (by omega)];exact hz)).symm];done)
    | (rw[H3 (J1 hz) (A9r hz (by omega)).symm];done)
    | (rw[H3 (J1 hz) (A9q hz (by omega)).symm];done)
    | (rw[H3 (J1 hz) (A9p hz (by omega)).symm];done)
    | (rw[H3 (J1 hz) (A9o hz (by omega) (by omega) (by omega) (A1i (z3.2.2.2 (by omega)).1 (z3.2.2.2 (by omega)).2))];done)
   first|refine Y8 ?_|refine A3F ?_
   first|refine w4 (fun g2=>?_) (fun g2=>?_)|refine w4B (fun g2=>?_) (fun g2=>?_)
   ·refine w2 (.nilw 1) (r:=rB) (e:=D8 rfl) (k':=?_);refine w7 [A7 rB _,.int .i64 _] ?_;have hz:=A2c g1;rw[show A3W mo k c m w b r cl t=0 from C8.1 g0];first
    | (exfalso;simp_all;done)
    | (rw[A12 (A1q (by omega) hz)];done)
    | (rw[H3 (A1r (by omega)) (A9n (by omega) (by rw[← A8C (pa:=pa) (fo:=fo) (mo:=mo) (w:=w) (b:=b) (by omega)];exact hz)).symm];done)
    | (rw[H3 (J1 hz) (A9r hz (by omega)).symm];done)
    | (rw[H3 (J1 hz) (A9q hz (by omega)).symm];done)
    | (rw[H3 (J1 hz) (A9p hz (by omega)).symm];done)
    | (rw[H3 (J1 hz) (A9o hz (by omega) (by omega) (by omega) (A1i (z3.2.2.2 (by omega)).1 (z3.2.2.2 (by omega)).2))];done)
   refine O7 ?_;refine w4 (fun g3=>?_) fun g3=>?_
   ·refine w31 j8 (e:=B2m _ _ _ _ _ _ _ _ _ _ _ _ _ _ _ _ _ _ _ _ _ (C5h z2 ‹_›)) (k':=?_);refine w2 (.byt) (r:=rB) (e:=A0p _ rfl) (k':=?_);refine w7 [A7 rB _,.int .i64 _] ?_;have hz:=A2c g1;rw[show A3W mo k c m w b r cl t=0 from C8.1 g0];first
    | (exfalso;simp_all;done)
    | (rw[A12 (A1q (by omega) hz)];done)
    | (rw[H3 (A1r (by omega)) (A9n (by omega) (by rw[← A8C (pa:=pa) (fo:=fo) (mo:=mo) (w:=w) (b:=b) (by omega)];exact hz)).symm];done)
    | (rw[H3 (J1 hz) (A9r hz (by omega)).symm];done)
    | (rw[H3 (J1 hz) (A9q hz (by omega)).symm];done)
    | (rw[H3 (J1 hz) (A9p hz (by omega)).symm];done)
    | (rw[H3 (J1 hz) (A9o hz (by omega) (by omega) (by omega) (A1i (z3.2.2.2 (by omega)).1 (z3.2.2.2 (by omega)).2))];done)
   refine O7 ?_;refine w4 (fun g4=>?_) fun g4=>?_
   ·refine w31 S2 (e:=C5_ (by first|exact A2c g1|(exfalso;simp_all;done)) (B9x (A2M z2 ‹_›))) (k':=?_);refine w2 (.byt) (r:=rB) (e:=A0p _ rfl) (k':=?_);refine w7 [A7 rB _,.int .i64 _] ?_;have hz:=A2c g1;rw[show A3W mo k c m w b r cl t=0 from C8.1 g0];first
    | (exfalso;simp_all;done)
    | (rw[A12 (A1q (by omega) hz)];done)
    | (rw[H3 (A1r (by omega)) (A9n (by omega) (by rw[← A8C (pa:=pa) (fo:=fo) (mo:=mo) (w:=w) (b:=b) (by omega)];exact hz)).symm];done)
    | (rw[H3 (J1 hz) (A9r hz (by omega)).symm];done)
    | (rw[H3 (J1 hz) (A9q hz (by omega)).symm];done)
    | (rw[H3 (J1 hz) (A9p hz (by omega)).symm];done)
    | (rw[H3 (J1 hz) (A9o hz (by omega) (by omega) (by omega) (A1i (z3.2.2.2 (by omega)).1 (z3.2.2.2 (by omega)).2))];done)
   refine O7 ?_;refine w4 (fun g5=>?_) fun g5=>?_
   ·refine w1 (.bin .add) (e:=V5 _ _ (by simp only[A9,B6,E4,E1,C4];omega)) (k':=?_);refine w1 (.bin .add) (e:=V5 _ _ (by simp only[A9,B6,E4,E1,C4];omega)) (k':=?_);refine w2 (.byt) (r:=rB) (e:=A0p _ rfl) (k':=?_);refine w7 [A7 rB _,.int .i64 _] ?_;have hz:=A2c g1;rw[show A3W mo k c m w b r cl t=0 from C8.1 g0];first
    | (exfalso;simp_all;done)
    | (rw[A12 (A1q (by omega) hz)];done)
    | (rw[H3 (A1r (by omega)) (A9n (by omega) (by rw[← A8C (pa:=pa) (fo:=fo) (mo:=mo) (w:=w) (b:=b) (by omega)];exact hz)).symm];done)
    | (rw[H3 (J1 hz) (A9r hz (by omega)).symm];done)
    | (rw[H3 (J1 hz) (A9q hz (by omega)).symm];done)
    | (rw[H3 (J1 hz) (A9p hz (by omega)).symm];done)
    | (rw[H3 (J1 hz) (A9o hz (by omega) (by omega) (by omega) (A1i (z3.2.2.2 (by omega)).1 (z3.2.2.2 (by omega)).2))];done)
   first|refine W4 ?_|refine N6 ?_
   refine B8n ?_;refine w1 (.bin .add) (e:=V5 _ _ (by simp only[A9,B6,E4,E1,C4];omega)) (k':=?_);refine w2 (.byt) (r:=rB) (e:=A0p _ rfl) (k':=?_);refine w7 [A7 rB _,.int .i64 _] ?_;have hz:=A2c g1;rw[show A3W mo k c m w b r cl t=0 from C8.1 g0];first
   | (exfalso;simp_all;done)
   | (rw[A12 (A1q (by omega) hz)];done)
   | (rw[H3 (A1r (by omega)) (A9n (by omega) (by rw[← A8C (pa:=pa) (fo:=fo) (mo:=mo) (w:=w) (b:=b) (by omega)];exact hz)).symm];done)
   | (rw[H3 (J1 hz) (A9r hz (by omega)).symm];done)
   | (rw[H3 (J1 hz) (A9q hz (by omega)).symm];done)
   | (rw[H3 (J1 hz) (A9p hz (by omega)).symm];done)
   | (rw[H3 (J1 hz) (A9o hz (by omega) (by omega) (by omega) (A1i (z3.2.2.2 (by omega)).1 (z3.2.2.2 (by omega)).2))];done)
  ·cases hs
 ·cases hs
theorem el0(l:List UInt8):el (A00 none (some (bI l)))=bI l:=by rw[A0J];rfl
def rQ:Rw ((List UInt8)×Int×Int×Int×Int×Int×Int×Int×(List UInt8)):=rC C1A (rC (u6 .i64) (rC (u6 .i64) (rC (u6 .i64) (rC (u6 .i64) (rC (u6 .i64) (rC (u6 .i64) (rC (u6 .i64) (r1 C1A))))))))
abbrev Qt:=(List UInt8×Int×Int×Int×Int×Int×Int×Int×List UInt8)
def qq(a b:Qt):Bool:=(a.1 == b.1 && true)
def qR(s:List UInt8)(c m:Int):Qt:=(s,1,c,m,0,0,0,0,[])
def inQ(c:Int):Nat→Int→Option (List Qt)→Option (List Qt)
 | 0,_,x=>x
 | n+1,j,x=>inQ c n (j+1) (A3g qq (A3g qq x (qR (keS false c j) c j)) (qR (keS true c j) c j))
def otQ:Nat→Int→Option (List Qt)→Option (List Qt)
 | 0,_,x=>x
 | n+1,c,x=>otQ n (c+1) (inQ c 8 0 x)
theorem D0Q{c j:Int}{x:Option (List Qt)}(h:j<8):inQ c (8-j).toNat j x=inQ c (8-(j+1)).toNat (j+1) (A3g qq (A3g qq x (qR (keS false c j) c j)) (qR (keS true c j) c j)):=by
 rw[show(8-j).toNat=(8-(j+1)).toNat+1 by omega];rfl
theorem D0R{c j:Int}{x:Option (List Qt)}(h:¬j<8):inQ c (8-j).toNat j x=x:=by
 rw[show(8-j).toNat=0 by omega];rfl
theorem C9k{c:Int}{x:Option (List Qt)}(h:c≤1114134):otQ (1114135-c).toNat c x=otQ (1114135-(c+1)).toNat (c+1) (inQ c 8 0 x):=by
 rw[show(1114135-c).toNat=(1114135-(c+1)).toNat+1 by omega];rfl
theorem C9l{c:Int}{x:Option (List Qt)}(h:¬c≤1114134):otQ (1114135-c).toNat c x=x:=by
 rw[show(1114135-c).toNat=0 by omega];rfl
theorem nn2{x:Option (List Qt)}{a:Qt}(h:x≠none):A3g qq x a≠none:=by
 cases x with
 | none=>exact absurd rfl h
 | some l=>exact L9 _
theorem C5i{c:Int}:∀ (n:Nat) (j:Int) {x:Option (List Qt)},x≠none→inQ c n j x≠none
 | 0,_,_,h=>h
 | n+1,j,_,h=>C5i n (j+1) (nn2 (nn2 h))
theorem C99{c m:Int}(h:1114113≤c)(h2:c≤1114134)(h3:0≤m)(h4:m≤7):A2y c m:=.inr (.inl ⟨h,h2,h3,h4⟩)
noncomputable def C6q:List (FuncId×FnC):=(50,I5 Tryz.prog [.a [8,8,8,8,8,8,8,8,8,8,8,3,8],.a [3,3,3,3,3,3,3,9]] j8 [.s 9])::L0
theorem C1g{G:Nat→Option Obj}(hst:B9 Tryz.prog G gl H0 n0):G2 Tryz.prog G gl C6q:=(.cons (A3n hst) .nil)
def A3f:List U→Option (Nat×List U)
 | [.int .i64 c,.int .i64 j,u_x]=>(K1 rQ u_x).bind fun x=>if 1114113≤c∧c≤1114134∧0≤j∧j≤8∧x≠none then some (0,[.int .i64 c,A7 rQ (inQ c (8-j).toNat j x)])else none
 | _=>none
theorem A8O(c:Int)(j:Int)(x:(Option (List ((List UInt8)×Int×Int×Int×Int×Int×Int×Int×(List UInt8)))))(hc:1114113≤c∧c≤1114134∧0≤j∧j≤8∧x≠none):A3f [.int .i64 c,.int .i64 j,A7 rQ x]=some (0,[.int .i64 c,A7 rQ (inQ c (8-j).toNat j x)]):=by
 simp only[A3f,F8,D0];exact if_pos hc
def A8y:Q6:=⟨[(1,.map (some 6)),(2,h 0 3),(14,h 1 3)],[(6,.mp 2 19 81)],3,[⟨.exit 2,[(1,.map (some 6)),(2,h 0 3)],[(6,.mp 1 19 81)],2⟩]⟩
noncomputable def B87:Code:=(Tryz.f72.body).getD .skip
noncomputable def C4n:Code:=match H1 [true,true,false,true,false,false,true,false,false,true,false] B87 with|some (.loop x)=>x|_=>.skip
theorem A8x:Tryz.f72.body=some B87:=rfl
theorem A8w:H1 [true,true,false,true,false,false,true,false,false,true,false] B87=some (.loop C4n):=by kernel_rfl
def C4o:Tr:=aL [h3 1,jI 8]<|.br 3 (.fn j8 [.bool false,.bool false,.bool false,.bool false,.bool false,.bool false,.bool false,.bool false,.bool false,.bool false,.bool false,jI 0,.bool false,jI 1,h3 0,h3 1,jI 0,jI 0,jI 0,jI 0,.string ⟨⟨[]⟩⟩] 1<|.dt 19 (.mput 9 1) [h 2 19,h 4 9,jI 1,h3 0,h3 1,jI 0,jI 0,jI 0,jI 0,.string ⟨⟨[]⟩⟩]<|.fn j8 [.bool false,.bool false,.bool true,.bool false,.bool false,.bool false,.bool false,.bool false,.bool false,.bool false,.bool false,jI 0,.bool false,jI 1,h3 0,h3 1,jI 0,jI 0,jI 0,jI 0,.string ⟨⟨[]⟩⟩] 1<|.dt 19 (.mput 9 1) [h 5 19,h 6 9,jI 1,h3 0,h3 1,jI 0,jI 0,jI 0,jI 0,.string ⟨⟨[]⟩⟩]<|aA [h3 1,jI 1]<|.ret [jI (-1),h3 0,h3 8,h 7 19]) (.ret [jI 0,h3 0,h 2 19])
def B86:List U→Nat
 | [.int .i64 c,.int .i64 j,u_x]=>(match K1 rQ u_x with|some x=>(8-j).toNat|none=>0)
 | _=>0
theorem B85(c:Int)(j:Int)(x:(Option (List ((List UInt8)×Int×Int×Int×Int×Int×Int×Int×(List UInt8))))):B86 [.int .i64 c,.int .i64 j,A7 rQ x]=(8-j).toNat:=by
 simp only[B86,F8]
theorem B0p{G:Nat→Option Obj}(hst:B9 Tryz.prog G gl H0 n0):∀ (E:Nat→U) (base:Nat),@X8 ⟨E,G⟩ Tryz.prog base gl Tryz.f72.ntmps C4n (Q0 Tryz.prog gl n0 7 A8y A3f):=by
 refine A0A (C:=cx C6q []) (dep:=60) (f:=72) (n0:=n0) (nB:=7) (H0:=H0) B86 C4o (cxg (C1g hst) .nil) hst Tryz.func72 A8x A8w (by kernel_rfl) (by kernel_rfl) (by kernel_rfl) ?_;intro us d outs hs;have hs0:=hs;unfold A3f at hs;split at hs
 ·skip;rename_i c j u_x;have hq_x:=A6.1 hs;clear hs;obtain⟨x,hd_x,hs⟩:=hq_x;replace hd_x:=F3 hd_x;subst hd_x;split at hs
  ·rename_i hc;clear hs hs0;refine⟨rfl,?_⟩;unfold C4o;refine w0 (.cons 2 _ (.cons 1 _ (.cons 0 _ (.nil)))) ?_;repeat (first|refine w31 j8 (e:=B2m _ _ _ _ _ _ _ _ _ _ _ _ _ _ _ _ _ _ _ _ _ (C99 (by omega) (by omega) (by omega) (by omega))) (k':=?_)|refine W4 ?_|refine N6 ?_|refine A1L ?_|refine w4 (fun g=>?_) fun g=>?_|refine w2 (.mput 9 1) (r:=rQ) (e:=A0G qq (qR (keS false c j) c j) rfl rfl (fun _=>rfl) (by first|exact hc.2.2.2.2|exact nn2 hc.2.2.2.2|exact hc.2.2|exact nn2 hc.2.2)) (k':=?_)|refine w2 (.mput 9 1) (r:=rQ) (e:=A0G qq (qR (keS true c j) c j) rfl rfl (fun _=>rfl) (by first|exact hc.2.2.2.2|exact nn2 hc.2.2.2.2|exact hc.2.2|exact nn2 hc.2.2)) (k':=?_)|(refine w7 [.int .i64 _,.int .i64 _,.int .i64 _,A7 rQ _] ?_;rotate_left)|(refine w7 [.int .i64 _,.int .i64 _,A7 rQ _] ?_;rotate_left))
   all_goals first
    | refine J9 ?_ ?_
      ·rw[A8O c (j+1) _ ⟨by omega,by omega,by omega,by omega,nn2 (nn2 hc.2.2.2.2)⟩,A8O c j x hc,D0Q (c:=c) (j:=j) (x:=x) (by omega)]
      ·rw[B85,B85];omega
    | refine K8 (d:=0) ?_
      rw[A8O c j x hc,D0R (by omega)]
  ·cases hs
 ·cases hs
noncomputable def C7M:List LpE:=(72,([true,true,false,true,false,false,true,false,false,true,false],Q0 Tryz.prog gl n0 7 A8y A3f))::[]
theorem C2F{G:Nat→Option Obj}(hst:B9 Tryz.prog G gl H0 n0):x4 Tryz.prog G gl C7M:=.cons Tryz.func72 A8x A8w (B0p hst) .nil
def B7u:List Qt:=[([27,91,90],1,1114136,1,0,0,0,0,[]),([27,91,79],4,0,0,0,0,0,0,[]),([27,91,73],4,0,0,1,0,0,0,[])]
def B0T:List Qt:=[([27,91,90],1,1114136,1,0,0,0,0,[]),([27,91,79],4,0,0,0,0,0,0,[]),([27,91,73],4,0,0,1,0,0,0,[]),([27,91,65],1,1114113,0,0,0,0,0,[]),([27,79,65],1,1114113,0,0,0,0,0,[]),([27,91,49,59,50,65],1,1114113,1,0,0,0,0,[]),([27,91,49,59,51,65],1,1114113,2,0,0,0,0,[]),([27,91,49,59,52,65],1,1114113,3,0,0,0,0,[]),([27,91,49,59,53,65],1,1114113,4,0,0,0,0,[]),([27,91,49,59,54,65],1,1114113,5,0,0,0,0,[]),([27,91,49,59,55,65],1,1114113,6,0,0,0,0,[]),([27,91,49,59,56,65],1,1114113,7,0,0,0,0,[]),([27,91,66],1,1114114,0,0,0,0,0,[]),([27,79,66],1,1114114,0,0,0,0,0,[]),([27,91,49,59,50,66],1,1114114,1,0,0,0,0,[]),([27,91,49,59,51,66],1,1114114,2,0,0,0,0,[]),([27,91,49,59,52,66],1,1114114,3,0,0,0,0,[]),([27,91,49,59,53,66],1,1114114,4,0,0,0,0,[]),([27,91,49,59,54,66],1,1114114,5,0,0,0,0,[]),([27,91,49,59,55,66],1,1114114,6,0,0,0,0,[]),([27,91,49,59,56,66],1,1114114,7,0,0,0,0,[]),([27,91,67],1,1114115,0,0,0,0,0,[]),([27,79,67],1,1114115,0,0,0,0,0,[]),([27,91,49,59,50,67],1,1114115,1,0,0,0,0,[]),([27,91,49,59,51,67],1,1114115,2,0,0,0,0,[]),([27,91,49,59,52,67],1,1114115,3,0,0,0,0,[]),([27,91,49,59,53,67],1,1114115,4,0,0,0,0,[]),([27,91,49,59,54,67],1,1114115,5,0,0,0,0,[]),([27,91,49,59,55,67],1,1114115,6,0,0,0,0,[]),([27,91,49,59,56,67],1,1114115,7,0,0,0,0,[]),([27,91,68],1,1114116,0,0,0,0,0,[]),([27,79,68],1,1114116,0,0,0,0,0,[]),([27,91,49,59,50,68],1,1114116,1,0,0,0,0,[]),([27,91,49,59,51,68],1,1114116,2,0,0,0,0,[]),([27,91,49,59,52,68],1,1114116,3,0,0,0,0,[]),([27,91,49,59,53,68],1,1114116,4,0,0,0,0,[]),([27,91,49,59,54,68],1,1114116,5,0,0,0,0,[]),([27,91,49,59,55,68],1,1114116,6,0,0,0,0,[]),([27,91,49,59,56,68],1,1114116,7,0,0,0,0,[]),([27,91,70],1,1114117,0,0,0,0,0,[]),([27,79,70],1,1114117,0,0,0,0,0,[]),([27,91,49,59,50,70],1,1114117,1,0,0,0,0,[]),([27,91,49,59,51,70],1,1114117,2,0,0,0,0,[]),([27,91,49,59,52,70],1,1114117,3,0,0,0,0,[]),([27,91,49,59,53,70],1,1114117,4,0,0,0,0,[]),([27,91,49,59,54,70],1,1114117,5,0,0,0,0,[]),([27,91,49,59,55,70],1,1114117,6,0,0,0,0,[]),([27,91,49,59,56,70],1,1114117,7,0,0,0,0,[]),([27,91,72],1,1114118,0,0,0,0,0,[]),([27,79,72],1,1114118,0,0,0,0,0,[]),([27,91,49,59,50,72],1,1114118,1,0,0,0,0,[]),([27,91,49,59,51,72],1,1114118,2,0,0,0,0,[]),([27,91,49,59,52,72],1,1114118,3,0,0,0,0,[]),([27,91,49,59,53,72],1,1114118,4,0,0,0,0,[]),([27,91,49,59,54,72],1,1114118,5,0,0,0,0,[]),([27,91,49,59,55,72],1,1114118,6,0,0,0,0,[]),([27,91,49,59,56,72],1,1114118,7,0,0,0,0,[]),([27,79,80],1,1114119,0,0,0,0,0,[]),([27,91,49,59,50,80],1,1114119,1,0,0,0,0,[]),([27,91,49,59,51,80],1,1114119,2,0,0,0,0,[]),([27,91,49,59,52,80],1,1114119,3,0,0,0,0,[]),([27,91,49,59,53,80],1,1114119,4,0,0,0,0,[]),([27,91,49,59,54,80],1,1114119,5,0,0,0,0,[]),([27,91,49,59,55,80],1,1114119,6,0,0,0,0,[]),([27,91,49,59,56,80],1,1114119,7,0,0,0,0,[]),([27,79,81],1,1114120,0,0,0,0,0,[]),([27,91,49,59,50,81],1,1114120,1,0,0,0,0,[]),([27,91,49,59,51,81],1,1114120,2,0,0,0,0,[]),([27,91,49,59,52,81],1,1114120,3,0,0,0,0,[]),([27,91,49,59,53,81],1,1114120,4,0,0,0,0,[]),([27,91,49,59,54,81],1,1114120,5,0,0,0,0,[]),([27,91,49,59,55,81],1,1114120,6,0,0,0,0,[]),([27,91,49,59,56,81],1,1114120,7,0,0,0,0,[]),([27,79,82],1,1114121,0,0,0,0,0,[]),([27,91,49,59,50,82],1,1114121,1,0,0,0,0,[]),([27,91,49,59,51,82],1,1114121,2,0,0,0,0,[]),([27,91,49,59,52,82],1,1114121,3,0,0,0,0,[]),([27,91,49,59,53,82],1,1114121,4,0,0,0,0,[]),([27,91,49,59,54,82],1,1114121,5,0,0,0,0,[]),([27,91,49,59,55,82],1,1114121,6,0,0,0,0,[]),([27,91,49,59,56,82],1,1114121,7,0,0,0,0,[]),([27,79,83],1,1114122,0,0,0,0,0,[]),([27,91,49,59,50,83],1,1114122,1,0,0,0,0,[]),([27,91,49,59,51,83],1,1114122,2,0,0,0,0,[]),([27,91,49,59,52,83],1,1114122,3,0,0,0,0,[]),([27,91,49,59,53,83],1,1114122,4,0,0,0,0,[]),([27,91,49,59,54,83],1,1114122,5,0,0,0,0,[]),([27,91,49,59,55,83],1,1114122,6,0,0,0,0,[]),([27,91,49,59,56,83],1,1114122,7,0,0,0,0,[]),([27,91,50,126],1,1114123,0,0,0,0,0,[]),([27,91,50,59,50,126],1,1114123,1,0,0,0,0,[]),([27,91,50,59,51,126],1,1114123,2,0,0,0,0,[]),([27,91,50,59,52,126],1,1114123,3,0,0,0,0,[]),([27,91,50,59,53,126],1,1114123,4,0,0,0,0,[]),([27,91,50,59,54,126],1,1114123,5,0,0,0,0,[]),([27,91,50,59,55,126],1,1114123,6,0,0,0,0,[]),([27,91,50,59,56,126],1,1114123,7,0,0,0,0,[]),([27,91,51,126],1,1114124,0,0,0,0,0,[]),([27,91,51,59,50,126],1,1114124,1,0,0,0,0,[]),([27,91,51,59,51,126],1,1114124,2,0,0,0,0,[]),([27,91,51,59,52,126],1,1114124,3,0,0,0,0,[]),([27,91,51,59,53,126],1,1114124,4,0,0,0,0,[]),([27,91,51,59,54,126],1,1114124,5,0,0,0,0,[]),([27,91,51,59,55,126],1,1114124,6,0,0,0,0,[]),([27,91,51,59,56,126],1,1114124,7,0,0,0,0,[]),([27,91,53,126],1,1114125,0,0,0,0,0,[]),([27,91,53,59,50,126],1,1114125,1,0,0,0,0,[]),([27,91,53,59,51,126],1,1114125,2,0,0,0,0,[]),([27,91,53,59,52,126],1,1114125,3,0,0,0,0,[]),([27,91,53,59,53,126],1,1114125,4,0,0,0,0,[]),([27,91,53,59,54,126],1,1114125,5,0,0,0,0,[]),([27,91,53,59,55,126],1,1114125,6,0,0,0,0,[]),([27,91,53,59,56,126],1,1114125,7,0,0,0,0,[]),([27,91,54,126],1,1114126,0,0,0,0,0,[]),([27,91,54,59,50,126],1,1114126,1,0,0,0,0,[]),([27,91,54,59,51,126],1,1114126,2,0,0,0,0,[]),([27,91,54,59,52,126],1,1114126,3,0,0,0,0,[]),([27,91,54,59,53,126],1,1114126,4,0,0,0,0,[]),([27,91,54,59,54,126],1,1114126,5,0,0,0,0,[]),([27,91,54,59,55,126],1,1114126,6,0,0,0,0,[]),([27,91,54,59,56,126],1,1114126,7,0,0,0,0,[]),([27,91,49,53,126],1,1114127,0,0,0,0,0,[]),([27,91,49,53,59,50,126],1,1114127,1,0,0,0,0,[]),([27,91,49,53,59,51,126],1,1114127,2,0,0,0,0,[]),([27,91,49,53,59,52,126],1,1114127,3,0,0,0,0,[]),([27,91,49,53,59,53,126],1,1114127,4,0,0,0,0,[]),([27,91,49,53,59,54,126],1,1114127,5,0,0,0,0,[]),([27,91,49,53,59,55,126],1,1114127,6,0,0,0,0,[]),([27,91,49,53,59,56,126],1,1114127,7,0,0,0,0,[]),([27,91,49,55,126],1,1114128,0,0,0,0,0,[]),([27,91,49,55,59,50,126],1,1114128,1,0,0,0,0,[]),([27,91,49,55,59,51,126],1,1114128,2,0,0,0,0,[]),([27,91,49,55,59,52,126],1,1114128,3,0,0,0,0,[]),([27,91,49,55,59,53,126],1,1114128,4,0,0,0,0,[]),([27,91,49,55,59,54,126],1,1114128,5,0,0,0,0,[]),([27,91,49,55,59,55,126],1,1114128,6,0,0,0,0,[]),([27,91,49,55,59,56,126],1,1114128,7,0,0,0,0,[]),([27,91,49,56,126],1,1114129,0,0,0,0,0,[]),([27,91,49,56,59,50,126],1,1114129,1,0,0,0,0,[]),([27,91,49,56,59,51,126],1,1114129,2,0,0,0,0,[]),([27,91,49,56,59,52,126],1,1114129,3,0,0,0,0,[]),([27,91,49,56,59,53,126],1,1114129,4,0,0,0,0,[]),([27,91,49,56,59,54,126],1,1114129,5,0,0,0,0,[]),([27,91,49,56,59,55,126],1,1114129,6,0,0,0,0,[]),([27,91,49,56,59,56,126],1,1114129,7,0,0,0,0,[]),([27,91,49,57,126],1,1114130,0,0,0,0,0,[]),([27,91,49,57,59,50,126],1,1114130,1,0,0,0,0,[]),([27,91,49,57,59,51,126],1,1114130,2,0,0,0,0,[]),([27,91,49,57,59,52,126],1,1114130,3,0,0,0,0,[]),([27,91,49,57,59,53,126],1,1114130,4,0,0,0,0,[]),([27,91,49,57,59,54,126],1,1114130,5,0,0,0,0,[]),([27,91,49,57,59,55,126],1,1114130,6,0,0,0,0,[]),([27,91,49,57,59,56,126],1,1114130,7,0,0,0,0,[]),([27,91,50,48,126],1,1114131,0,0,0,0,0,[]),([27,91,50,48,59,50,126],1,1114131,1,0,0,0,0,[]),([27,91,50,48,59,51,126],1,1114131,2,0,0,0,0,[]),([27,91,50,48,59,52,126],1,1114131,3,0,0,0,0,[]),([27,91,50,48,59,53,126],1,1114131,4,0,0,0,0,[]),([27,91,50,48,59,54,126],1,1114131,5,0,0,0,0,[]),([27,91,50,48,59,55,126],1,1114131,6,0,0,0,0,[]),([27,91,50,48,59,56,126],1,1114131,7,0,0,0,0,[]),([27,91,50,49,126],1,1114132,0,0,0,0,0,[]),([27,91,50,49,59,50,126],1,1114132,1,0,0,0,0,[]),([27,91,50,49,59,51,126],1,1114132,2,0,0,0,0,[]),([27,91,50,49,59,52,126],1,1114132,3,0,0,0,0,[]),([27,91,50,49,59,53,126],1,1114132,4,0,0,0,0,[]),([27,91,50,49,59,54,126],1,1114132,5,0,0,0,0,[]),([27,91,50,49,59,55,126],1,1114132,6,0,0,0,0,[]),([27,91,50,49,59,56,126],1,1114132,7,0,0,0,0,[]),([27,91,50,51,126],1,1114133,0,0,0,0,0,[]),([27,91,50,51,59,50,126],1,1114133,1,0,0,0,0,[]),([27,91,50,51,59,51,126],1,1114133,2,0,0,0,0,[]),([27,91,50,51,59,52,126],1,1114133,3,0,0,0,0,[]),([27,91,50,51,59,53,126],1,1114133,4,0,0,0,0,[]),([27,91,50,51,59,54,126],1,1114133,5,0,0,0,0,[]),([27,91,50,51,59,55,126],1,1114133,6,0,0,0,0,[]),([27,91,50,51,59,56,126],1,1114133,7,0,0,0,0,[]),([27,91,50,52,126],1,1114134,0,0,0,0,0,[]),([27,91,50,52,59,50,126],1,1114134,1,0,0,0,0,[]),([27,91,50,52,59,51,126],1,1114134,2,0,0,0,0,[]),([27,91,50,52,59,52,126],1,1114134,3,0,0,0,0,[]),([27,91,50,52,59,53,126],1,1114134,4,0,0,0,0,[]),([27,91,50,52,59,54,126],1,1114134,5,0,0,0,0,[]),([27,91,50,52,59,55,126],1,1114134,6,0,0,0,0,[]),([27,91,50,52,59,56,126],1,1114134,7,0,0,0,0,[])]
theorem C7b:otQ 22 1114113 (some B7u)=some B0T:=by kernel_rfl
def C3h(a b:Qt):Bool:=a.1 == b.1 && (a.2.1 == b.2.1 && (a.2.2.1 == b.2.2.1 && (a.2.2.2.1 == b.2.2.2.1 && (a.2.2.2.2.1 == b.2.2.2.2.1 && (a.2.2.2.2.2.1 == b.2.2.2.2.2.1 && (a.2.2.2.2.2.2.1 == b.2.2.2.2.2.2.1 && (a.2.2.2.2.2.2.2.1 == b.2.2.2.2.2.2.2.1 && (a.2.2.2.2.2.2.2.2 == b.2.2.2.2.2.2.2.2 && true))))))))
theorem C8Y{x y:Qt}(h:C3h x y=true):x=y:=by
 obtain⟨a1,a2,a3,a4,a5,a6,a7,a8,a9⟩:=x;obtain⟨b1,b2,b3,b4,b5,b6,b7,b8,b9⟩:=y;simp[C3h]at h;obtain⟨h1,h2,h3,h4,h5,h6,h7,h8,h9⟩:=h;subst h1 h2 h3 h4 h5 h6 h7 h8 h9;rfl
def C0n:List Qt→List Qt→Bool
 | [],[]=>true
 | a::l,b::r=>C3h a b && C0n l r
 | _,_=>false
theorem C0m:∀ {l r:List Qt},C0n l r=true→l=r
 | [],[],_=>rfl
 | a::l,b::r,h=>by
   have h:(C3h a b && C0n l r)=true:=h;rw[G8]at h;rw[C8Y h.1,C0m h.2]
 | [],_::_,h=>by cases h
 | _::_,[],h=>by cases h
def C7_(c:Int)(x:Option (List Qt)):Bool:=match x with
 | some l=>decide (c=1114113) && C0n l B7u
 | none=>false
theorem C79{c:Int}{x:Option (List Qt)}(h:C7_ c x=true):c=1114113∧x=some B7u:=by
 cases x with
 | none=>cases h
 | some l =>
   have h:(decide (c=1114113) && C0n l B7u)=true:=h;rw[G8]at h;exact⟨of_decide_eq_true h.1,by rw[C0m h.2]⟩
def otF(c:Int)(x:Option (List Qt)):Option (List Qt):=if C7_ c x=true then some B0T else otQ (1114135-c).toNat c x
theorem B5W(c:Int)(x:Option (List Qt)):otF c x=otQ (1114135-c).toNat c x:=by
 unfold otF;by_cases h:C7_ c x=true
 ·obtain⟨h1,h2⟩:=C79 h;rw[if_pos h,h1,h2];exact C7b.symm
 ·rw[if_neg h]
noncomputable def C6o:List (FuncId×FnC):=(50,I5 Tryz.prog [.a [8,8,8,8,8,8,8,8,8,8,8,3,8],.a [3,3,3,3,3,3,3,9]] j8 [.s 9])::L0
theorem C1e{G:Nat→Option Obj}(hst:B9 Tryz.prog G gl H0 n0):G2 Tryz.prog G gl C6o:=(.cons (A3n hst) .nil)
def A2F:List U→Option (Nat×List U)
 | [.int .i64 c,u_x]=>(K1 rQ u_x).bind fun x=>if 1114113≤c∧c≤1114135∧x≠none then some (0,[A7 rQ (otF c x)])else none
 | _=>none
theorem A8N(c:Int)(x:(Option (List ((List UInt8)×Int×Int×Int×Int×Int×Int×Int×(List UInt8)))))(hc:1114113≤c∧c≤1114135∧x≠none):A2F [.int .i64 c,A7 rQ x]=some (0,[A7 rQ (otF c x)]):=by
 simp only[A2F,F8,D0];exact if_pos hc
def B0o:Q6:=⟨[(1,.map (some 6)),(2,h 0 3)],[(6,.mp 1 19 81)],2,[⟨.exit 0,[(1,.map (some 6))],[(6,.mp 0 19 81)],1⟩]⟩
noncomputable def B84:Code:=(Tryz.f72.body).getD .skip
noncomputable def C4i:Code:=match H1 [true,true,false,true,false] B84 with|some (.loop x)=>x|_=>.skip
theorem B0n:Tryz.f72.body=some B84:=rfl
theorem B0m:H1 [true,true,false,true,false] B84=some (.loop C4i):=by kernel_rfl
def C4j:Tr:=aQ [h3 0,jI 1114134]<|.br 2 (.fn A3f [h3 0,jI 0,h 1 19] 2<|aA [h3 3,jI 1]<|.ret [jI (-1),h3 5,h 4 19]) (.ret [jI 0,h 1 19])
def B83:List U→Nat
 | [.int .i64 c,u_x]=>(match K1 rQ u_x with|some x=>(1114135-c).toNat|none=>0)
 | _=>0
theorem B82(c:Int)(x:(Option (List ((List UInt8)×Int×Int×Int×Int×Int×Int×Int×(List UInt8))))):B83 [.int .i64 c,A7 rQ x]=(1114135-c).toNat:=by
 simp only[B83,F8]
theorem B3R{G:Nat→Option Obj}(hst:B9 Tryz.prog G gl H0 n0):∀ (E:Nat→U) (base:Nat),@X8 ⟨E,G⟩ Tryz.prog base gl Tryz.f72.ntmps C4i (Q0 Tryz.prog gl n0 7 B0o A2F):=by
 refine A0A (C:=cx C6o C7M) (dep:=60) (f:=72) (n0:=n0) (nB:=7) (H0:=H0) B83 C4j (cxg (C1e hst) (C2F hst)) hst Tryz.func72 B0n B0m (by kernel_rfl) (by kernel_rfl) (by kernel_rfl) ?_;intro us d outs hs;have hs0:=hs;unfold A2F at hs;split at hs
 ·skip;rename_i c u_x;have hq_x:=A6.1 hs;clear hs;obtain⟨x,hd_x,hs⟩:=hq_x;replace hd_x:=F3 hd_x;subst hd_x;split at hs
  ·rename_i hc;clear hs hs0;refine⟨rfl,?_⟩;unfold C4j;refine w0 (.cons 1 _ (.cons 0 _ (.nil))) ?_;repeat (first|refine W4 ?_|refine N6 ?_|refine A5X ?_|refine w4 (fun g=>?_) fun g=>?_|refine w32 A3f (e:=A8O _ _ _ ⟨by omega,by omega,by omega,by omega,hc.2.2⟩) (k':=?_)|(refine w7 [.int .i64 _,.int .i64 _,A7 rQ _] ?_;rotate_left)|(refine w7 [.int .i64 _,A7 rQ _] ?_;rotate_left))
   all_goals first
    | refine J9 ?_ ?_
      ·rw[A8N (c+1) _ ⟨by omega,by omega,C5i _ _ hc.2.2⟩,A8N c x hc,B5W,B5W,C9k (c:=c) (x:=x) (by omega)];rfl
      ·rw[B82,B82];omega
    | refine K8 (d:=0) ?_
      rw[A8N c x hc,B5W,C9l (by omega)]
  ·cases hs
 ·cases hs
def Q1(b:Int):Int:=if b<128 then 1 else if 194≤b∧b<224 then 2 else if 224≤b∧b<240 then 3 else if 240≤b∧b≤244 then 4 else 0
def loB(b:Int):Int:=if b=224 then 160 else if b=240 then 144 else 128
def hiB(b:Int):Int:=if b=237 then 159 else if b=244 then 143 else 191
def okT:List Int→Int→Int→Bool
 | [],_,_=>true
 | b::r,lo,hi=>decide (lo≤b∧b≤hi) && okT r 128 191
def knd(l:List Int):Int:=if Q1 (l.getD 0 0)<(l.length:Int)then 0 else if okT (l.drop 1) (loB (l.getD 0 0)) (hiB (l.getD 0 0))=true then(if(l.length:Int)<Q1 (l.getD 0 0)then 1 else 2)else 0
theorem C9p{l:List Int}{i lo hi:Int}(h:¬i<(l.length:Int)):okT (l.drop i.toNat) lo hi=true:=by rw[A11 l (by omega)];rfl
theorem C9o{l:List Int}{i lo hi:Int}(h0:0≤i)(h1:i<(l.length:Int))(h:l.getD i.toNat default<lo∨hi<l.getD i.toNat default):okT (l.drop i.toNat) lo hi=false:=by
 rw[Y4 l h0 h1];show(decide _ && _)=false;rw[decide_eq_false (by omega),X1]
theorem C9n{l:List Int}{i lo hi:Int}(h0:0≤i)(h1:i<(l.length:Int))(h:lo≤l.getD i.toNat default)(h2:l.getD i.toNat default≤hi):okT (l.drop i.toNat) lo hi=okT (l.drop (i+1).toNat) 128 191:=by
 rw[Y4 l h0 h1];show(decide _ && _)=_;rw[decide_eq_true ⟨h,h2⟩,q9]
noncomputable def C6i:List (FuncId×FnC):=L0
theorem C1Y{G:Nat→Option Obj}(hst:B9 Tryz.prog G gl H0 n0):G2 Tryz.prog G gl C6i:=.nil
def A8l:List U→Option (Nat×List U)
 | [.int .u8 b]=>if 0≤b∧b<256 then some (0,[.int .i64 (Q1 b)])else none
 | _=>none
theorem C2W(b:Int)(hc:0≤b∧b<256):A8l [.int .u8 b]=some (0,[.int .i64 (Q1 b)]):=if_pos hc
def C4N:Tr:=aH [h 0 4,.int .u8 (240)]<|.br 1 (aQ [h 0 4,.int .u8 (244)]<|.br 2 (.ret [jI 4]) (aH [h 0 4,.int .u8 (224)]<|.br 3 (aL [h 0 4,.int .u8 (240)]<|.br 4 (.ret [jI 3]) (aH [h 0 4,.int .u8 (194)]<|.br 5 (aL [h 0 4,.int .u8 (224)]<|.br 6 (.ret [jI 2]) (aL [h 0 4,.int .u8 (128)]<|.br 7 (.ret [jI 1]) (.ret [jI 0]))) (aL [h 0 4,.int .u8 (128)]<|.br 6 (.ret [jI 1]) (.ret [jI 0])))) (aH [h 0 4,.int .u8 (194)]<|.br 4 (aL [h 0 4,.int .u8 (224)]<|.br 5 (.ret [jI 2]) (aL [h 0 4,.int .u8 (128)]<|.br 6 (.ret [jI 1]) (.ret [jI 0]))) (aL [h 0 4,.int .u8 (128)]<|.br 5 (.ret [jI 1]) (.ret [jI 0]))))) (aH [h 0 4,.int .u8 (224)]<|.br 2 (aL [h 0 4,.int .u8 (240)]<|.br 3 (.ret [jI 3]) (aH [h 0 4,.int .u8 (194)]<|.br 4 (aL [h 0 4,.int .u8 (224)]<|.br 5 (.ret [jI 2]) (aL [h 0 4,.int .u8 (128)]<|.br 6 (.ret [jI 1]) (.ret [jI 0]))) (aL [h 0 4,.int .u8 (128)]<|.br 5 (.ret [jI 1]) (.ret [jI 0])))) (aH [h 0 4,.int .u8 (194)]<|.br 3 (aL [h 0 4,.int .u8 (224)]<|.br 4 (.ret [jI 2]) (aL [h 0 4,.int .u8 (128)]<|.br 5 (.ret [jI 1]) (.ret [jI 0]))) (aL [h 0 4,.int .u8 (128)]<|.br 4 (.ret [jI 1]) (.ret [jI 0]))))
theorem C4O{G:Nat→Option Obj}(hst:B9 Tryz.prog G gl H0 n0):L8 Tryz.prog G 152 [.s 4] A8l [.s 3]:=by
 refine E6 (C:=cx C6i []) (d:=60) C4N (cxg (C1Y hst) .nil) hst ⟨Tryz.f152,_,Tryz.func152,rfl⟩ (by kernel_rfl) (by kernel_rfl) ?_;intro us outs hs;unfold A8l at hs;split at hs
 ·skip;rename_i b;split at hs
  ·rename_i hc;cases hs;unfold C4N;refine w0 (.cons 0 _ (.nil)) ?_;repeat (first|(refine w7 [.int .i64 _] ?_;rotate_left)|refine w4 (fun g=>?_) fun g=>?_|refine A1L ?_|refine A1M ?_|refine A5X ?_)
   all_goals
    first
    | (exfalso;omega)
    | (refine l0 ?_;unfold Q1;repeat (first|rw[if_neg (by omega)]|rw[if_pos (by omega)]))
  ·cases hs
 ·cases hs
noncomputable def C6f:List (FuncId×FnC):=L0
theorem C1V{G:Nat→Option Obj}(hst:B9 Tryz.prog G gl H0 n0):G2 Tryz.prog G gl C6f:=.nil
def A8j:List U→Option (Nat×List U)
 | [.int .u8 b]=>if 0≤b∧b<256 then some (0,[.int .u8 (loB b),.int .u8 (hiB b)])else none
 | _=>none
theorem C2U(b:Int)(hc:0≤b∧b<256):A8j [.int .u8 b]=some (0,[.int .u8 (loB b),.int .u8 (hiB b)]):=if_pos hc
def C4I:Tr:=aE [h 0 4,.int .u8 (224)]<|.br 1 (.ret [.int .u8 (160),.int .u8 (191)]) (aE [h 0 4,.int .u8 (237)]<|.br 2 (.ret [.int .u8 (128),.int .u8 (159)]) (aE [h 0 4,.int .u8 (240)]<|.br 3 (.ret [.int .u8 (144),.int .u8 (191)]) (aE [h 0 4,.int .u8 (244)]<|.br 4 (.ret [.int .u8 (128),.int .u8 (143)]) (.ret [.int .u8 (128),.int .u8 (191)]))))
theorem C4J{G:Nat→Option Obj}(hst:B9 Tryz.prog G gl H0 n0):L8 Tryz.prog G 153 [.s 4] A8j [.s 4,.s 4]:=by
 refine E6 (C:=cx C6f []) (d:=60) C4I (cxg (C1V hst) .nil) hst ⟨Tryz.f153,_,Tryz.func153,rfl⟩ (by kernel_rfl) (by kernel_rfl) ?_;intro us outs hs;unfold A8j at hs;split at hs
 ·skip;rename_i b;split at hs
  ·rename_i hc;cases hs;unfold C4I;refine w0 (.cons 0 _ (.nil)) ?_;refine O7 ?_;refine w4 (fun g0=>?_) fun g0=>?_
   ·refine w7 [.int .u8 _,.int .u8 _] ?_;first
    | (subst g0;rfl)
    | (unfold loB hiB;repeat (first|rw[if_neg (by omega)]|rw[if_pos (by omega)]))
   refine O7 ?_;refine w4 (fun g1=>?_) fun g1=>?_
   ·refine w7 [.int .u8 _,.int .u8 _] ?_;first
    | (subst g0;rfl)
    | (unfold loB hiB;repeat (first|rw[if_neg (by omega)]|rw[if_pos (by omega)]))
   refine O7 ?_;refine w4 (fun g2=>?_) fun g2=>?_
   ·refine w7 [.int .u8 _,.int .u8 _] ?_;first
    | (subst g0;rfl)
    | (unfold loB hiB;repeat (first|rw[if_neg (by omega)]|rw[if_pos (by omega)]))
   refine O7 ?_;refine w4 (fun g3=>?_) fun g3=>?_
   ·refine w7 [.int .u8 _,.int .u8 _] ?_;first
    | (subst g0;rfl)
    | (unfold loB hiB;repeat (first|rw[if_neg (by omega)]|rw[if_pos (by omega)]))
   refine w7 [.int .u8 _,.int .u8 _] ?_;first
   | (subst g0;rfl)
   | (unfold loB hiB;repeat (first|rw[if_neg (by omega)]|rw[if_pos (by omega)]))
  ·cases hs
 ·cases hs
def okO(b:Bool):Option Unit:=if b then none else some ()
theorem C5P{b:Bool}(h:okO b=none):b=true:=by cases b<;>first|rfl|cases h
theorem C9q{b:Bool}{u:Unit}(h:okO b=some u):b=false:=by cases b<;>first|rfl|cases h
noncomputable def C6j:List (FuncId×FnC):=(152,I5 Tryz.prog [.s 4] A8l [.s 3])::(153,I5 Tryz.prog [.s 4] A8j [.s 4,.s 4])::L0
theorem C1Z{G:Nat→Option Obj}(hst:B9 Tryz.prog G gl H0 n0):G2 Tryz.prog G gl C6j:=(.cons (C4O hst) (.cons (C4J hst) .nil))
def A7V:List U→Option (Nat×List U)
 | [u_p,.int .i64 n,.int .u8 lo,.int .u8 hi,u_q,.int .i64 m,.int .i64 i]=>(K1 rB u_p).bind fun p=>(K1 rB u_q).bind fun q=>if m=((el q).length:Int)∧0≤i∧i≤((el q).length:Int)∧((el q).length:Int)≤1000∧0≤lo∧lo<256∧0≤hi∧hi<256 then A2l (okO (okT ((el q).drop i.toNat) lo hi)) [A7 rB p,.int .i64 n] (fun _=>[])else none
 | _=>none
theorem A51(p:(Option (List Int)))(n:Int)(lo:Int)(hi:Int)(q:(Option (List Int)))(m:Int)(i:Int)(hc:m=((el q).length:Int)∧0≤i∧i≤((el q).length:Int)∧((el q).length:Int)≤1000∧0≤lo∧lo<256∧0≤hi∧hi<256):A7V [A7 rB p,.int .i64 n,.int .u8 lo,.int .u8 hi,A7 rB q,.int .i64 m,.int .i64 i]=A2l (okO (okT ((el q).drop i.toNat) lo hi)) [A7 rB p,.int .i64 n] (fun _=>[]):=by
 simp only[A7V,F8,D0];exact if_pos hc
def C4T:Q6:=⟨[(0,dat 7 0 11),(3,h 1 3),(4,h 2 4),(5,h 3 4),(24,dat 8 4 11),(25,h 5 3),(26,h 6 3)],[(7,.frz),(8,.frz)],7,[⟨.exit 0,[(0,dat 9 0 11),(3,h 1 3)],[(9,.frz)],2⟩,⟨.ret,[(2,.int .i64 (0))],[],0⟩]⟩
noncomputable def B8h:Code:=(Tryz.f140.body).getD .skip
noncomputable def C4P:Code:=match H1 [true,true,true,true,false,true,false] B8h with|some (.loop x)=>x|_=>.skip
theorem C4S:Tryz.f140.body=some B8h:=rfl
theorem C4R:H1 [true,true,true,true,false,true,false] B8h=some (.loop C4P):=by kernel_rfl
def C4Q:Tr:=aL [h3 6,h3 5]<|.br 7 (.lt 8 (.inbs 1) [h3 6,h 4 11]<|.br 8 (.lt 4 (.get 1 0) [h 4 11,h3 6]<|aL [h 9 4,h 2 4]<|.br 10 (.ret [jI 1]) (aG [h 9 4,h 3 4]<|.br 11 (.ret [jI 1]) (aA [h3 6,jI 1]<|.ret [jI (-1),h 0 11,h3 1,.int .u8 (128),.int .u8 (191),h 4 11,h3 5,h3 12]))) (.no)) (.ret [jI 0,h 0 11,h3 1])
def B8g:List U→Nat
 | [u_p,.int .i64 n,.int .u8 lo,.int .u8 hi,u_q,.int .i64 m,.int .i64 i]=>(match K1 rB u_p with|some p=>(match K1 rB u_q with|some q=>(((el q).length:Int)-i).toNat|none=>0)|none=>0)
 | _=>0
theorem B8f(p:(Option (List Int)))(n:Int)(lo:Int)(hi:Int)(q:(Option (List Int)))(m:Int)(i:Int):B8g [A7 rB p,.int .i64 n,.int .u8 lo,.int .u8 hi,A7 rB q,.int .i64 m,.int .i64 i]=(((el q).length:Int)-i).toNat:=by
 simp only[B8g,F8]
theorem C83{G:Nat→Option Obj}(hst:B9 Tryz.prog G gl H0 n0):∀ (E:Nat→U) (base:Nat),@X8 ⟨E,G⟩ Tryz.prog base gl Tryz.f140.ntmps C4P (Q0 Tryz.prog gl n0 10 C4T A7V):=by
 refine A0A (C:=cx C6j []) (dep:=60) (f:=140) (n0:=n0) (nB:=10) (H0:=H0) B8g C4Q (cxg (C1Z hst) .nil) hst Tryz.func140 C4S C4R (by kernel_rfl) (by kernel_rfl) (by kernel_rfl) ?_;intro us d outs hs;have hs0:=hs;unfold A7V at hs;split at hs
 ·skip;rename_i u_p n lo hi u_q m i;have hq_p:=A6.1 hs;clear hs;obtain⟨p,hd_p,hs⟩:=hq_p;replace hd_p:=F3 hd_p;subst hd_p;have hq_q:=A6.1 hs;clear hs;obtain⟨q,hd_q,hs⟩:=hq_q;replace hd_q:=F3 hd_q;subst hd_q;split at hs
  ·rename_i hc;clear hs hs0;refine⟨rfl,?_⟩;unfold C4Q;refine w0 (.cons 6 _ (.cons 5 _ (.cons 4 _ (.cons 3 _ (.cons 2 _ (.cons 1 _ (.cons 0 _ (.nil)))))))) ?_;repeat (first|refine w4 (fun g=>?_) fun g=>?_|refine A1L ?_|(refine w7 [.int .i64 _] ?_;rotate_left)|refine W4 ?_|refine N6 ?_|refine Y9 ?_|refine w1 (.get 1 0) (u:=.int .u8 _) (e:=G6 rfl (by omega) (by omega) rfl) (k':=?_)|refine A5E ?_|(refine w7 [.int .i64 _,A7 rB _,.int .i64 _,.int .u8 _,.int .u8 _,A7 rB _,.int .i64 _,.int .i64 _] ?_;rotate_left)|(refine w8 ?_;first|omega)|(refine w7 [.int .i64 _,A7 rB _,.int .i64 _] ?_;rotate_left))
   all_goals first
    | refine J9 ?_ ?_
      ·rw[A51 p n _ _ q m (i+1) ⟨hc.1,by omega,by omega,hc.2.2.2.1,by omega,by omega,by omega,by omega⟩,A51 p n lo hi q m i hc,C9n (l:=el q) (i:=i) (lo:=lo) (hi:=hi) (by omega) (by omega) (by omega) (by omega)]
      ·rw[B8f,B8f];omega
    | refine K8 (d:=0) ?_
      rw[A51 p n lo hi q m i hc,C9p (l:=el q) (i:=i) (by omega)];rfl
    | refine K8 (d:=1) ?_
      rw[A51 p n lo hi q m i hc,C9o (l:=el q) (i:=i) (by omega) (by omega) (by omega)];rfl
  ·cases hs
 ·cases hs
noncomputable def B27:List LpE:=[(140,([true,true,true,true,false,true,false],Q0 Tryz.prog gl n0 10 C4T A7V))]
theorem B0C{G:Nat→Option Obj}(hst:B9 Tryz.prog G gl H0 n0):x4 Tryz.prog G gl B27:=(.cons Tryz.func140 C4S C4R (C83 hst) .nil)
theorem el1{p:Option (List Int)}(h:1≤((el p).length:Int)):el (F4 p (1:Int).toNat ((el p).length:Int).toNat)=(el p).drop 1:=by
 rw[J3];exact J5 (by simp)
theorem gt0{p:Option (List Int)}(hb:∀ x ∈ el p,0≤x∧x<256)(h:1≤((el p).length:Int)):0≤(el p).getD 0 default∧(el p).getD 0 default<256:=by
 have:=A2T (l:=el p) hb (i:=0) (by omega) (by omega);exact this
theorem C5T{b:Int}:0≤loB b∧loB b<256:=by unfold loB;(repeat' split)<;>omega
theorem C5u{b:Int}:0≤hiB b∧hiB b<256:=by unfold hiB;(repeat' split)<;>omega
theorem C96{l:List Int}(h:Q1 (l.getD 0 0)<(l.length:Int)):0=knd l:=(if_pos h).symm
theorem C93{l:List Int}(h:¬Q1 (l.getD 0 0)<(l.length:Int))(h2:okT (l.drop 1) (loB (l.getD 0 0)) (hiB (l.getD 0 0))=false):0=knd l:=by
 unfold knd;rw[if_neg h,if_neg (by rw[h2];decide)]
theorem C95{l:List Int}(h:¬Q1 (l.getD 0 0)<(l.length:Int))(h2:okT (l.drop 1) (loB (l.getD 0 0)) (hiB (l.getD 0 0))=true)(h3:(l.length:Int)<Q1 (l.getD 0 0)):1=knd l:=by
 unfold knd;rw[if_neg h,if_pos h2,if_pos h3]
theorem C94{l:List Int}(h:¬Q1 (l.getD 0 0)<(l.length:Int))(h2:okT (l.drop 1) (loB (l.getD 0 0)) (hiB (l.getD 0 0))=true)(h3:¬(l.length:Int)<Q1 (l.getD 0 0)):2=knd l:=by
 unfold knd;rw[if_neg h,if_pos h2,if_neg h3]
theorem B9r{p:Option (List Int)}{lo hi:Int}{b:Bool}(h:1≤((el p).length:Int))(h2:okT ((el (F4 p (1:Int).toNat ((el p).length:Int).toNat)).drop (0:Int).toNat) lo hi=b):okT ((el p).drop 1) lo hi=b:=by
 rw[el1 h]at h2;exact h2
noncomputable def C6k:List (FuncId×FnC):=(152,I5 Tryz.prog [.s 4] A8l [.s 3])::(153,I5 Tryz.prog [.s 4] A8j [.s 4,.s 4])::L0
theorem C1a{G:Nat→Option Obj}(hst:B9 Tryz.prog G gl H0 n0):G2 Tryz.prog G gl C6k:=(.cons (C4O hst) (.cons (C4J hst) .nil))
def A0s:List U→Option (Nat×List U)
 | [u_p]=>(K1 rB u_p).bind fun p=>if 1≤((el p).length:Int)∧((el p).length:Int)≤1000∧(∀ x ∈ el p,0≤x∧x<256)then some (0,[.int .i64 (knd (el p))])else none
 | _=>none
theorem A52(p:(Option (List Int)))(hc:1≤((el p).length:Int)∧((el p).length:Int)≤1000∧(∀ x ∈ el p,0≤x∧x<256)):A0s [A7 rB p]=some (0,[.int .i64 (knd (el p))]):=by
 simp only[A0s,F8,D0];exact if_pos hc
def C4U:Tr:=.lt 8 (.inbs 1) [jI 0,h 0 11]<|.br 1 (.lt 4 (.get 1 0) [h 0 11,jI 0]<|.fn A8l [h 2 4] 1<|aD [h 0 11]<|aL [h3 3,h3 4]<|.br 5 (.ret [jI 0]) (.lt 8 (.inbs 1) [jI 0,h 0 11]<|.br 6 (.lt 4 (.get 1 0) [h 0 11,jI 0]<|.fn A8j [h 7 4] 2<|.dt 11 (.subs 1) [h 0 11,jI 1,h3 4]<|aD [h 10 11]<|.lp A7V [h 0 11,h3 3,h 8 4,h 9 4,h 10 11,h3 11,jI 0] 0 2 (aD [h 12 11]<|aL [h3 14,h3 13]<|.br 15 (.ret [jI 1]) (.ret [jI 2])) (.lp A7V [h 0 11,h3 3,h 8 4,h 9 4,h 10 11,h3 11,jI 0] 1 0 (.ret [jI 0]) (.no))) (.no))) (.no)
theorem B8i{G:Nat→Option Obj}(hst:B9 Tryz.prog G gl H0 n0):L8 Tryz.prog G 140 [.s 11] A0s [.s 3]:=by
 refine E6 (C:=cx C6k B27) (d:=60) C4U (cxg (C1a hst) (B0C hst)) hst ⟨Tryz.f140,_,Tryz.func140,rfl⟩ (by kernel_rfl) (by kernel_rfl) ?_;intro us outs hs;unfold A0s at hs;split at hs
 ·skip;rename_i u_p;have hq_p:=A6.1 hs;clear hs;obtain⟨p,hd_p,hs⟩:=hq_p;replace hd_p:=F3 hd_p;subst hd_p;split at hs
  ·rename_i hc;cases hs;have zg:=gt0 hc.2.2 hc.1;have zl:((el (F4 p (1:Int).toNat ((el p).length:Int).toNat)).length:Int)=((el p).length:Int)-1:=by
    rw[el1 hc.1,C4];omega
   unfold C4U;refine w0 (.cons 0 _ (.nil)) ?_;refine Y9 ?_;refine w5 (fun g0=>?_) fun g0=>?_
   ·refine w8 ?_;first|omega
   refine w1 (.get 1 0) (u:=.int .u8 _) (e:=G6 rfl (by omega) (by omega) rfl) (k':=?_);refine w31 A8l (e:=C2W _ zg) (k':=?_);refine P9 ?_;refine A1L ?_;refine w4 (fun g1=>?_) fun g1=>?_
   ·refine w7 [.int .i64 _] ?_;refine l0 ?_;exact C96 g1
   refine Y9 ?_;refine w5 (fun g2=>?_) fun g2=>?_
   ·refine w8 ?_;first|omega
   refine w1 (.get 1 0) (u:=.int .u8 _) (e:=G6 rfl (by omega) (by omega) rfl) (k':=?_);refine w32 A8j (e:=C2U _ zg) (k':=?_);refine w2 (.subs 1) (r:=rB) (e:=I4 rfl (by omega) (by omega) (by omega)) (k':=?_);refine P9 ?_;refine w6 A7V (A51 _ _ _ _ _ _ _ ⟨rfl,by omega,by omega,by omega,C5T.1,C5T.2,C5u.1,C5u.2⟩) (h0:=fun g3=>?_) (h1:=fun v3 g3=>?_)
   ·show Wk _ _ (.cons _ _ (.cons _ _ _));refine P9 ?_;refine A1L ?_;refine w4 (fun g4=>?_) fun g4=>?_
    ·refine w7 [.int .i64 _] ?_;refine l0 ?_;exact C95 g1 (B9r hc.1 (C5P g3)) g4
    refine w7 [.int .i64 _] ?_;refine l0 ?_;exact C94 g1 (B9r hc.1 (C5P g3)) g4
   show Wk _ _ _;refine w7 [.int .i64 _] ?_;refine l0 ?_;exact C93 g1 (B9r hc.1 (C9q g3))
  ·cases hs
 ·cases hs
def A9G(n:Int):Int:=if n=3 then 31 else if n=4 then 15 else 7
theorem C3V{n:Int}(h:n=3∨n=4∨n=5):evU (.bin .shr) [.int .i64 255,.int .i64 n]=.int .i64 (A9G n):=by
 rcases h with rfl|rfl|rfl<;>rfl
theorem C3c{a n:Int}(h0:0≤a)(h1:a<256):evU (.bin .and) [.int .i64 a,.int .i64 (A9G n)]=.int .i64 (a%(A9G n+1)):=by
 unfold A9G;split
 ·exact A0I 5 32 (by decide) (by decide) (by decide)
 ·split
  ·exact A0I 4 16 (by decide) (by decide) (by decide)
  ·exact A0I 3 8 (by decide) (by decide) (by decide)
def cdL:List Int→Int→Int
 | [],c=>c
 | b::r,c=>cdL r (c*64+b%64)
def x7(l:List Int):Int:=cdL (l.drop 1) (if(l.length:Int)>1 then l.getD 0 0%(A9G ((l.length:Int)+1)+1)else l.getD 0 0)
theorem D0t{l:List Int}{i c:Int}(h:¬i<(l.length:Int)):cdL (l.drop i.toNat) c=c:=by rw[A11 l (by omega)];rfl
theorem D0s{l:List Int}{i c:Int}(h0:0≤i)(h1:i<(l.length:Int)):cdL (l.drop i.toNat) c=cdL (l.drop (i+1).toNat) (c*64+l.getD i.toNat default%64):=by
 rw[Y4 l h0 h1];rfl
theorem D0m{l:List Int}(h:¬(l.length:Int)>1):x7 l=cdL (l.drop 1) (l.getD 0 0):=by unfold x7;rw[if_neg h]
theorem D0l{l:List Int}(h:(l.length:Int)>1):x7 l=cdL (l.drop 1) (l.getD 0 0%(A9G ((l.length:Int)+1)+1)):=by unfold x7;rw[if_pos h]
theorem C6S{p:Option (List Int)}{c:Int}(h:1≤((el p).length:Int)):cdL ((el (F4 p (1:Int).toNat ((el p).length:Int).toNat)).drop (0:Int).toNat) c=cdL ((el p).drop 1) c:=by rw[el1 h];rfl
theorem C9w(n:Int):7≤A9G n∧A9G n≤31:=by unfold A9G;(repeat' split)<;>omega
noncomputable def C6l:List (FuncId×FnC):=L0
theorem C1b{G:Nat→Option Obj}(hst:B9 Tryz.prog G gl H0 n0):G2 Tryz.prog G gl C6l:=.nil
def A54:List U→Option (Nat×List U)
 | [.int .i64 c,u_q,.int .i64 m,.int .i64 i]=>(K1 rB u_q).bind fun q=>if m=((el q).length:Int)∧0≤i∧i≤m∧m≤3∧0≤c∧((i=0∧c<256)∨(i=1∧c<16384)∨(i=2∧c<1048576)∨(i=3∧c<67108864))∧(∀ x ∈ el q,0≤x∧x<256)then some (0,[.int .i64 (cdL ((el q).drop i.toNat) c)])else none
 | _=>none
theorem A53(c:Int)(q:(Option (List Int)))(m:Int)(i:Int)(hc:m=((el q).length:Int)∧0≤i∧i≤m∧m≤3∧0≤c∧((i=0∧c<256)∨(i=1∧c<16384)∨(i=2∧c<1048576)∨(i=3∧c<67108864))∧(∀ x ∈ el q,0≤x∧x<256)):A54 [.int .i64 c,A7 rB q,.int .i64 m,.int .i64 i]=some (0,[.int .i64 (cdL ((el q).drop i.toNat) c)]):=by
 simp only[A54,F8,D0];exact if_pos hc
def C4Z:Q6:=⟨[(3,h 0 3),(20,dat 7 1 11),(21,h 2 3),(22,h 3 3)],[(7,.frz)],4,[⟨.exit 0,[(3,h 0 3)],[],1⟩]⟩
noncomputable def B8l:Code:=(Tryz.f141.body).getD .skip
noncomputable def C4V:Code:=match H1 [true,true,true,false,true,false] B8l with|some (.loop x)=>x|_=>.skip
theorem C4Y:Tryz.f141.body=some B8l:=rfl
theorem C4X:H1 [true,true,true,false,true,false] B8l=some (.loop C4V):=by kernel_rfl
def C4W:Tr:=aL [h3 3,h3 2]<|.br 4 (.lt 8 (.inbs 1) [h3 3,h 1 11]<|.br 5 (.lt 4 (.get 1 0) [h 1 11,h3 3]<|.lt 3 (.bin .shl) [h3 0,.int .u64 (6)]<|.lt 4 (.bin .and) [h 6 4,.int .u8 (63)]<|.lt 3 (.conv .i64) [h 8 4]<|.lt 3 (.bin .or) [h3 7,h3 9]<|aA [h3 3,jI 1]<|.ret [jI (-1),h3 10,h 1 11,h3 2,h3 11]) (.no)) (.ret [jI 0,h3 0])
def B8k:List U→Nat
 | [.int .i64 c,u_q,.int .i64 m,.int .i64 i]=>(match K1 rB u_q with|some q=>(m-i).toNat|none=>0)
 | _=>0
theorem B8j(c:Int)(q:(Option (List Int)))(m:Int)(i:Int):B8k [.int .i64 c,A7 rB q,.int .i64 m,.int .i64 i]=(m-i).toNat:=by
 simp only[B8k,F8]
theorem C84{G:Nat→Option Obj}(hst:B9 Tryz.prog G gl H0 n0):∀ (E:Nat→U) (base:Nat),@X8 ⟨E,G⟩ Tryz.prog base gl Tryz.f141.ntmps C4V (Q0 Tryz.prog gl n0 8 C4Z A54):=by
 refine A0A (C:=cx C6l B27) (dep:=60) (f:=141) (n0:=n0) (nB:=8) (H0:=H0) B8k C4W (cxg (C1b hst) (B0C hst)) hst Tryz.func141 C4Y C4X (by kernel_rfl) (by kernel_rfl) (by kernel_rfl) ?_;intro us d outs hs;have hs0:=hs;unfold A54 at hs;split at hs
 ·skip;rename_i c u_q m i;have hq_q:=A6.1 hs;clear hs;obtain⟨q,hd_q,hs⟩:=hq_q;replace hd_q:=F3 hd_q;subst hd_q;split at hs
  ·rename_i hc;clear hs hs0;have zb:i<m→0≤((el q).getD i.toNat default)∧((el q).getD i.toNat default)<256:=fun h=>A2T (l:=el q) hc.2.2.2.2.2.2 (by omega) (by omega)
   refine⟨rfl,?_⟩;unfold C4W;refine w0 (.cons 3 _ (.cons 2 _ (.cons 1 _ (.cons 0 _ (.nil))))) ?_;refine A1L ?_;refine w5 (fun g0=>?_) fun g0=>?_
   ·refine w7 [.int .i64 _,.int .i64 _] ?_;refine K8 (d:=0) ?_;rw[A53 c q m i hc,D0t (l:=el q) (i:=i) (by omega)]
   have zb:=zb g0;refine Y9 ?_;refine w5 (fun g1=>?_) fun g1=>?_
   ·refine w8 ?_;first|omega
   refine w1 (.get 1 0) (u:=.int .u8 _) (e:=G6 rfl (by omega) (by omega) rfl) (k':=?_);first|refine w1 (.bin .shl) (e:=A8a 64 (by decide) (by decide) (A3x (by omega) (by omega))) (k':=?_)|refine w1 (.bin .shl) (e:=A6f 64 (by decide) (by decide)) (k':=?_)
   refine w1 (.bin .and) (e:=A0I 6 64 (by decide) (by decide) (by decide)) (k':=?_);first|refine u9 ?_|refine Y5 ?_
   first|refine w1 (.bin .or) (e:=A7J 6 64 9223372036854775808 (by decide) (by decide) (by omega) (by omega) (by omega) (by omega) (by omega)) (k':=?_)|refine w1 (.bin .or) (e:=A9h 6 64 9223372036854775808 (by decide) (by decide) (by omega) (by omega) (by omega) (by omega) (by omega)) (k':=?_)|refine w1 (.bin .or) (e:=A4V _ _ _) (k':=?_)
   first|refine W4 ?_|refine N6 ?_
   refine w7 [.int .i64 _,.int .i64 _,A7 rB _,.int .i64 _,.int .i64 _] ?_;refine J9 ?_ ?_
   ·rw[A53 _ q m (i+1) ⟨hc.1,by omega,by omega,by omega,by omega,by omega,hc.2.2.2.2.2.2⟩,A53 c q m i hc,D0s (l:=el q) (i:=i) (by omega) (by omega)]
   ·rw[B8j,B8j];omega
  ·cases hs
 ·cases hs
noncomputable def B7c:List LpE:=[(141,([true,true,true,false,true,false],Q0 Tryz.prog gl n0 8 C4Z A54))]
theorem B5_{G:Nat→Option Obj}(hst:B9 Tryz.prog G gl H0 n0):x4 Tryz.prog G gl B7c:=(.cons Tryz.func141 C4Y C4X (C84 hst) .nil)
noncomputable def C6m:List (FuncId×FnC):=L0
theorem C1c{G:Nat→Option Obj}(hst:B9 Tryz.prog G gl H0 n0):G2 Tryz.prog G gl C6m:=.nil
def A2E:List U→Option (Nat×List U)
 | [u_p]=>(K1 rB u_p).bind fun p=>if 1≤((el p).length:Int)∧((el p).length:Int)≤4∧(∀ x ∈ el p,0≤x∧x<256)then some (0,[.int .i64 (x7 (el p))])else none
 | _=>none
theorem A8K(p:(Option (List Int)))(hc:1≤((el p).length:Int)∧((el p).length:Int)≤4∧(∀ x ∈ el p,0≤x∧x<256)):A2E [A7 rB p]=some (0,[.int .i64 (x7 (el p))]):=by
 simp only[A2E,F8,D0];exact if_pos hc
def C4a:Tr:=.lt 8 (.inbs 1) [jI 0,h 0 11]<|.br 1 (.lt 4 (.get 1 0) [h 0 11,jI 0]<|.lt 3 (.conv .i64) [h 2 4]<|aD [h 0 11]<|aG [h3 4,jI 1]<|.br 5 (aA [h3 4,jI 1]<|.lt 3 (.bin .shr) [jI 255,h3 6]<|.lt 3 (.bin .and) [h3 3,h3 7]<|.dt 11 (.subs 1) [h 0 11,jI 1,h3 4]<|aD [h 9 11]<|.fn A54 [h3 8,h 9 11,h3 10,jI 0] 1<|.ret [h3 11]) (.dt 11 (.subs 1) [h 0 11,jI 1,h3 4]<|aD [h 6 11]<|.fn A54 [h3 3,h 6 11,h3 7,jI 0] 1<|.ret [h3 8])) (.no)
theorem C4b{G:Nat→Option Obj}(hst:B9 Tryz.prog G gl H0 n0):L8 Tryz.prog G 141 [.s 11] A2E [.s 3]:=by
 refine E6 (C:=cx C6m B7c) (d:=60) C4a (cxg (C1c hst) (B5_ hst)) hst ⟨Tryz.f141,_,Tryz.func141,rfl⟩ (by kernel_rfl) (by kernel_rfl) ?_;intro us outs hs;unfold A2E at hs;split at hs
 ·skip;rename_i u_p;have hq_p:=A6.1 hs;clear hs;obtain⟨p,hd_p,hs⟩:=hq_p;replace hd_p:=F3 hd_p;subst hd_p;split at hs
  ·rename_i hc;cases hs;have zg:0≤(el p).getD (0:Int).toNat default∧(el p).getD (0:Int).toNat default<256:=gt0 hc.2.2 hc.1;have zl:((el (F4 p (1:Int).toNat ((el p).length:Int).toNat)).length:Int)=((el p).length:Int)-1:=by
    rw[el1 hc.1,C4];omega
   have zm:=C9w (((el p).length:Int)+1);unfold C4a;refine w0 (.cons 0 _ (.nil)) ?_;refine Y9 ?_;refine w5 (fun g0=>?_) fun g0=>?_
   ·refine w8 ?_;first|omega
   refine w1 (.get 1 0) (u:=.int .u8 _) (e:=G6 rfl (by omega) (by omega) rfl) (k':=?_);first|refine u9 ?_|refine Y5 ?_
   refine P9 ?_;refine A5E ?_;refine w4 (fun g1=>?_) fun g1=>?_
   ·have zq:0≤(el p).getD (0:Int).toNat default%(A9G (((el p).length:Int)+1)+1)∧(el p).getD (0:Int).toNat default%(A9G (((el p).length:Int)+1)+1)<256:=⟨A1D _ (by omega),Int.lt_of_lt_of_le (A16 _ (by omega)) (by omega)⟩;first|refine W4 ?_|refine N6 ?_
    refine w1 (.bin .shr) (e:=C3V (by omega)) (k':=?_);refine w1 (.bin .and) (e:=C3c (by omega) (by omega)) (k':=?_);refine w2 (.subs 1) (r:=rB) (e:=I4 rfl (by omega) (by omega) (by omega)) (k':=?_);refine P9 ?_;refine w31 A54 (e:=A53 _ _ _ _ ⟨rfl,by omega,by omega,by omega,zq.1,.inl ⟨rfl,zq.2⟩,fun x hx=>hc.2.2 x (by rw[el1 hc.1]at hx;exact J6 hx)⟩) (k':=?_);refine w7 [.int .i64 _] ?_;refine l0 ?_;rw[D0l g1];exact C6S hc.1
   refine w2 (.subs 1) (r:=rB) (e:=I4 rfl (by omega) (by omega) (by omega)) (k':=?_);refine P9 ?_;refine w31 A54 (e:=A53 _ _ _ _ ⟨rfl,by omega,by omega,by omega,zg.1,.inl ⟨rfl,zg.2⟩,fun x hx=>hc.2.2 x (by rw[el1 hc.1]at hx;exact J6 hx)⟩) (k':=?_);refine w7 [.int .i64 _] ?_;refine l0 ?_;rw[D0m g1];exact C6S hc.1
  ·cases hs
 ·cases hs
noncomputable def C6h:List (FuncId×FnC):=(140,I5 Tryz.prog [.s 11] A0s [.s 3])::L0
theorem C1X{G:Nat→Option Obj}(hst:B9 Tryz.prog G gl H0 n0):G2 Tryz.prog G gl C6h:=(.cons (B8i hst) .nil)
def A5K:List U→Option (Nat×List U)
 | [u_p]=>(K1 rB u_p).bind fun p=>if((el p).length:Int)≤1000∧(∀ x ∈ el p,0≤x∧x<256)then some (0,[.bool (decide (((el p).length:Int)=0∨knd (el p)=1))])else none
 | _=>none
theorem B6J(p:(Option (List Int)))(hc:((el p).length:Int)≤1000∧(∀ x ∈ el p,0≤x∧x<256)):A5K [A7 rB p]=some (0,[.bool (decide (((el p).length:Int)=0∨knd (el p)=1))]):=by
 simp only[A5K,F8,D0];exact if_pos hc
def C4L:Tr:=aD [h 0 11]<|aE [h3 1,jI 0]<|.br 2 (.ret [.bool true]) (.fn A0s [h 0 11] 1<|aE [h3 3,jI 1]<|.ret [h 4 8])
theorem C4M{G:Nat→Option Obj}(hst:B9 Tryz.prog G gl H0 n0):L8 Tryz.prog G 139 [.s 11] A5K [.s 8]:=by
 refine E6 (C:=cx C6h []) (d:=60) C4L (cxg (C1X hst) .nil) hst ⟨Tryz.f139,_,Tryz.func139,rfl⟩ (by kernel_rfl) (by kernel_rfl) ?_;intro us outs hs;unfold A5K at hs;split at hs
 ·skip;rename_i u_p;have hq_p:=A6.1 hs;clear hs;obtain⟨p,hd_p,hs⟩:=hq_p;replace hd_p:=F3 hd_p;subst hd_p;split at hs
  ·rename_i hc;cases hs;unfold C4L;refine w0 (.cons 0 _ (.nil)) ?_;repeat (first|refine O7 ?_|(refine w7 [.bool _] ?_;rotate_left)|refine P9 ?_|refine w4 (fun g=>?_) fun g=>?_|refine w31 A0s (e:=A52 _ ⟨by omega,by omega,hc.2⟩) (k':=?_))
   all_goals
    refine l1 ?_;first|exact(decide_eq_true (.inl (by omega))).symm|(exact decide_eq_decide.2 ⟨fun h=>.inr h,fun h=>h.resolve_left (by omega)⟩)
  ·cases hs
 ·cases hs
def B47(b:Int):Option (List Int):=if knd [b]=1 then some [b]else none
def A5W(b:Int):Option (List Int):=if knd [b]=2 then some [x7 [b]]else if knd [b]=1 then none else some [65533]
def utR(l:List Int)(b:Int):Option (List Int):=if knd (l++[b])=2 then none else if knd (l++[b])=1 then some (l++[b])else if l=[]then none else B47 b
def utC(l:List Int)(b:Int):Option (List Int):=if knd (l++[b])=2 then some [x7 (l++[b])]else if knd (l++[b])=1 then none else if l=[]then some [65533]else some (65533::el (A5W b))
theorem C8z{b:Int}:utR [] b=B47 b∧utC [] b=A5W b:=by
 unfold utR utC B47 A5W;constructor
 ·by_cases h:knd ([]++[b])=2
  ·rw[if_pos h,if_neg (by show ¬knd ([]++[b])=1;omega)]
  ·rw[if_neg h];rfl
 ·rfl
theorem D0f{p:Option (List Int)}(h:((el p).length:Int)=0):el p=[]:=D5.1 (by omega)
theorem A1N{p:Option (List Int)}:el (F4 p (0:Int).toNat ((el p).length:Int).toNat)=el p:=by
 rw[J3];show((el p).drop 0).take _=_;rw[A0P];exact J5 (by simp)
theorem ut2{a b c d:Option (List Int)}(h1:a=b)(h2:c=d):[A7 rB a,A7 rN c]=[A7 rB b,A7 rN d]:=by rw[h1,h2]
theorem C8x{l:List Int}{b:Int}(h:knd (l++[b])=2):none=utR l b∧some [x7 (l++[b])]=utC l b:=by unfold utR utC;rw[if_pos h,if_pos h];exact⟨rfl,rfl⟩
theorem C8y{l:List Int}{b:Int}(h:knd (l++[b])=1):some (l++[b])=utR l b∧none=utC l b:=by unfold utR utC;rw[if_neg (by omega),if_pos h,if_neg (by omega),if_pos h];exact⟨rfl,rfl⟩
theorem C8w{l:List Int}{b:Int}(h2:¬knd (l++[b])=2)(h:¬knd (l++[b])=1)(h3:l=[]):none=utR l b∧some [65533]=utC l b:=by unfold utR utC;rw[if_neg h2,if_neg h,if_neg h2,if_neg h,if_pos h3,if_pos h3];exact⟨rfl,rfl⟩
theorem D08{l:List Int}{b:Int}(h2:¬knd (l++[b])=2)(h:¬knd (l++[b])=1)(h3:l≠[]):B47 b=utR l b∧some (65533::el (A5W b))=utC l b:=by unfold utR utC;rw[if_neg h2,if_neg h,if_neg h2,if_neg h,if_neg h3,if_neg h3];exact⟨rfl,rfl⟩
theorem C30{p:Option (List Int)}{b:Int}(hb:∀ x ∈ el p,0≤x∧x<256)(h0:0≤b)(h1:b<256):∀ x ∈ el p++[b],0≤x∧x<256:=fun x hx=>by
 rcases B0.1 hx with h|h
 ·exact hb x h
 ·have:x=b:=by simpa using h
  omega
theorem la(l:List Int)(b:Int):((l++[b]).length:Int)=(l.length:Int)+1:=by simp
theorem B3H(b:Int):(el (A5W b)).length≤1:=by unfold A5W;(repeat' split)<;>simp[el]
theorem C81(b:Int):utC (el (none:Option (List Int))) b=A5W b:=C8z.2
theorem A8i(b:Int):(el (utC (el (none:Option (List Int))) b)).length≤1:=by rw[C81];exact B3H b
theorem B6y{l:List Int}:Q1 (l.getD 0 0)≤4:=by unfold Q1;(repeat' split)<;>omega
theorem B6x{l:List Int}(h:knd l=1∨knd l=2):(l.length:Int)≤4:=by
 have:=B6y (l:=l);unfold knd at h;by_cases h1:Q1 (l.getD 0 0)<(l.length:Int)
 ·rw[if_pos h1]at h;omega
 ·omega
theorem A2x{l:List Int}(h:knd l=1):(l.length:Int)≤3:=by
 have:=B6y (l:=l);unfold knd at h;by_cases h1:Q1 (l.getD 0 0)<(l.length:Int)
 ·rw[if_pos h1]at h;omega
 ·rw[if_neg h1]at h;by_cases h2:okT (l.drop 1) (loB (l.getD 0 0)) (hiB (l.getD 0 0))=true
  ·rw[if_pos h2]at h;by_cases h3:(l.length:Int)<Q1 (l.getD 0 0)
   ·omega
   ·rw[if_neg h3]at h;omega
  ·rw[if_neg h2]at h;omega
theorem C7T(x:Option (List Int)):A00 (some [65533]) x=some (65533::el x):=by
 cases x with
 | none=>rfl
 | some l=>cases l<;>rfl
noncomputable def C6g:List (FuncId×FnC):=(140,I5 Tryz.prog [.s 11] A0s [.s 3])::(141,I5 Tryz.prog [.s 11] A2E [.s 3])::(139,I5 Tryz.prog [.s 11] A5K [.s 8])::L0
theorem C1W{G:Nat→Option Obj}(hst:B9 Tryz.prog G gl H0 n0):G2 Tryz.prog G gl C6g:=(.cons (B8i hst) (.cons (C4b hst) (.cons (C4M hst) .nil)))
def A8k:List U→Option (Nat×List U)
 | [u_p,.int .u8 b]=>(K1 rB u_p).bind fun p=>if((el p).length:Int)=0∧(((el p).length:Int)=0∨knd (el p)=1)∧0≤b∧b<256∧(∀ x ∈ el p,0≤x∧x<256)then some (0,[A7 rB (utR (el p) b),A7 rN (utC (el p) b)])else none
 | _=>none
theorem C2V(p:(Option (List Int)))(b:Int)(hc:((el p).length:Int)=0∧(((el p).length:Int)=0∨knd (el p)=1)∧0≤b∧b<256∧(∀ x ∈ el p,0≤x∧x<256)):A8k [A7 rB p,.int .u8 b]=some (0,[A7 rB (utR (el p) b),A7 rN (utC (el p) b)]):=by
 simp only[A8k,F8,D0];exact if_pos hc
def C4K:Tr:=.fn A5K [h 0 11] 1<|aX [h 2 8]<|.br 3 (.dt 11 (.mk 1) [h 1 4]<|.fn A0s [h 4 11] 1<|aE [h3 5,jI 2]<|.br 6 (.dt 11 (.mk 1) [h 1 4]<|.fn A2E [h 7 11] 1<|.dt 11 (.nilw 1) []<|.dt 11 (.mk 1) [h3 8]<|.ret [h 9 11,h 10 11]) (aE [h3 5,jI 1]<|.br 7 (.dt 11 (.mk 1) [h 1 4]<|.dt 11 (.nilw 1) []<|.ret [h 8 11,h 9 11]) (.dt 11 (.nilw 1) []<|.dt 11 (.mk 1) [jI 65533]<|.ret [h 8 11,h 9 11]))) (aD [h 0 11]<|.dt 11 (.subs 1) [h 0 11,jI 0,h3 4]<|.dt 11 (.snoc 1) [h 5 11,h 1 4]<|.fn A0s [h 6 11] 1<|aE [h3 7,jI 2]<|.br 8 (.fn A2E [h 6 11] 1<|.dt 11 (.nilw 1) []<|.dt 11 (.mk 1) [h3 9]<|.ret [h 10 11,h 11 11]) (aE [h3 7,jI 1]<|.br 9 (.dt 11 (.nilw 1) []<|.ret [h 6 11,h 10 11]) (aE [h3 4,jI 0]<|.br 10 (.dt 11 (.nilw 1) []<|.dt 11 (.mk 1) [jI 65533]<|.ret [h 11 11,h 12 11]) (.no))))
theorem C82{G:Nat→Option Obj}(hst:B9 Tryz.prog G gl H0 n0):L8 Tryz.prog G 127 [.s 11,.s 4] A8k [.s 11,.s 11]:=by
 refine E6 (C:=cx C6g []) (d:=2) C4K (cxg (C1W hst) .nil) hst ⟨Tryz.f127,_,Tryz.func127,rfl⟩ (by kernel_rfl) (by kernel_rfl) ?_;intro us outs hs;unfold A8k at hs;split at hs
 ·skip;rename_i u_p b;have hq_p:=A6.1 hs;clear hs;obtain⟨p,hd_p,hs⟩:=hq_p;replace hd_p:=F3 hd_p;subst hd_p;split at hs
  ·rename_i hc;cases hs;have zs:el (F4 p (0:Int).toNat ((el p).length:Int).toNat)++[b]=el p++[b]:=by rw[A1N]
   have zn:((el (F4 p (0:Int).toNat ((el p).length:Int).toNat)).length:Int)=((el p).length:Int):=by rw[A1N]
   unfold C4K;refine w0 (.cons 1 _ (.cons 0 _ (.nil))) ?_;refine w31 A5K (e:=B6J _ ⟨by omega,hc.2.2.2.2⟩) (k':=?_);first|refine Y8 ?_|refine A3F ?_
   first|refine w4 (fun g0=>?_) (fun g0=>?_)|refine w4B (fun g0=>?_) (fun g0=>?_)
   ·refine w2 (.mk 1) (r:=rB) (e:=L3 [_] rfl (by decide) rfl) (k':=?_);refine w31 A0s (e:=A52 _ (g0 hc.2.1).elim) (k':=?_);refine O7 ?_;refine w4 (fun g1=>?_) fun g1=>?_
    ·refine w2 (.mk 1) (r:=rB) (e:=L3 [_] rfl (by decide) rfl) (k':=?_);refine w31 A2E (e:=A8K _ (g0 hc.2.1).elim) (k':=?_);refine w2 (.nilw 1) (r:=rB) (e:=D8 rfl) (k':=?_);refine w2 (.mk 1) (r:=rN) (e:=L3 [_] rfl (by decide) rfl) (k':=?_);refine w7 [A7 rB _,A7 rN _] ?_;exact(g0 hc.2.1).elim
    refine O7 ?_;refine w4 (fun g2=>?_) fun g2=>?_
    ·refine w2 (.mk 1) (r:=rB) (e:=L3 [_] rfl (by decide) rfl) (k':=?_);refine w2 (.nilw 1) (r:=rN) (e:=D8 rfl) (k':=?_);refine w7 [A7 rB _,A7 rN _] ?_;exact(g0 hc.2.1).elim
    refine w2 (.nilw 1) (r:=rB) (e:=D8 rfl) (k':=?_);refine w2 (.mk 1) (r:=rN) (e:=L3 [_] rfl (by decide) rfl) (k':=?_);refine w7 [A7 rB _,A7 rN _] ?_;exact(g0 hc.2.1).elim
   have zr:=hc.2.1;refine P9 ?_;refine w2 (.subs 1) (r:=rB) (e:=I4 rfl (by omega) (by omega) (by omega)) (k':=?_);refine w2 (.snoc 1) (r:=rB) (e:=K0 rfl rfl (by decide) (by first|omega|(show 1+_≤1000000000;have:=A8i b;omega))) (k':=?_);refine w31 A0s (e:=A52 _ ⟨by rw[F1,la];omega,by rw[F1,la];omega,by rw[F1,A1N];exact C30 hc.2.2.2.2 hc.2.2.1 hc.2.2.2.1⟩) (k':=?_);refine O7 ?_;refine w4 (fun g1=>?_) fun g1=>?_
   ·refine w31 A2E (e:=A8K _ ⟨by rw[F1,la];omega,(by have:=B6x (.inr g1);rw[F1];exact this),by rw[F1,A1N];exact C30 hc.2.2.2.2 hc.2.2.1 hc.2.2.2.1⟩) (k':=?_);refine w2 (.nilw 1) (r:=rB) (e:=D8 rfl) (k':=?_);refine w2 (.mk 1) (r:=rN) (e:=L3 [_] rfl (by decide) rfl) (k':=?_);refine w7 [A7 rB _,A7 rN _] ?_;have z:=C8x (l:=el p) (b:=b) (by rw[← zs];exact g1);exact ut2 z.1 (by rw[zs];exact z.2)
   refine O7 ?_;refine w4 (fun g2=>?_) fun g2=>?_
   ·refine w2 (.nilw 1) (r:=rN) (e:=D8 rfl) (k':=?_);refine w7 [A7 rB _,A7 rN _] ?_;have z:=C8y (l:=el p) (b:=b) (by rw[← zs];exact g2);exact ut2 (by rw[zs];exact z.1) z.2
   refine O7 ?_;refine w5 (fun g3=>?_) fun g3=>?_
   ·refine w8 ?_;first|omega|(exfalso;simp_all;done)|(exfalso;simp_all;omega)
   refine w2 (.nilw 1) (r:=rB) (e:=D8 rfl) (k':=?_);refine w2 (.mk 1) (r:=rN) (e:=L3 [_] rfl (by decide) rfl) (k':=?_);refine w7 [A7 rB _,A7 rN _] ?_;have z:=C8w (l:=el p) (b:=b) (by rw[← zs];exact g1) (by rw[← zs];exact g2) (D0f g3);exact ut2 z.1 z.2
  ·cases hs
 ·cases hs
noncomputable def C6e:List (FuncId×FnC):=(140,I5 Tryz.prog [.s 11] A0s [.s 3])::(141,I5 Tryz.prog [.s 11] A2E [.s 3])::(139,I5 Tryz.prog [.s 11] A5K [.s 8])::(127,I5 Tryz.prog [.s 11,.s 4] A8k [.s 11,.s 11])::L0
theorem C1U{G:Nat→Option Obj}(hst:B9 Tryz.prog G gl H0 n0):G2 Tryz.prog G gl C6e:=(.cons (B8i hst) (.cons (C4b hst) (.cons (C4M hst) (.cons (C82 hst) .nil))))
def A3z:List U→Option (Nat×List U)
 | [u_p,.int .u8 b]=>(K1 rB u_p).bind fun p=>if((el p).length:Int)≤100∧(((el p).length:Int)=0∨knd (el p)=1)∧0≤b∧b<256∧(∀ x ∈ el p,0≤x∧x<256)then some (0,[A7 rB (utR (el p) b),A7 rN (utC (el p) b)])else none
 | _=>none
theorem C2T(p:(Option (List Int)))(b:Int)(hc:((el p).length:Int)≤100∧(((el p).length:Int)=0∨knd (el p)=1)∧0≤b∧b<256∧(∀ x ∈ el p,0≤x∧x<256)):A3z [A7 rB p,.int .u8 b]=some (0,[A7 rB (utR (el p) b),A7 rN (utC (el p) b)]):=by
 simp only[A3z,F8,D0];exact if_pos hc
def C4G:Tr:=.fn A5K [h 0 11] 1<|aX [h 2 8]<|.br 3 (.dt 11 (.mk 1) [h 1 4]<|.fn A0s [h 4 11] 1<|aE [h3 5,jI 2]<|.br 6 (.dt 11 (.mk 1) [h 1 4]<|.fn A2E [h 7 11] 1<|.dt 11 (.nilw 1) []<|.dt 11 (.mk 1) [h3 8]<|.ret [h 9 11,h 10 11]) (aE [h3 5,jI 1]<|.br 7 (.dt 11 (.mk 1) [h 1 4]<|.dt 11 (.nilw 1) []<|.ret [h 8 11,h 9 11]) (.dt 11 (.nilw 1) []<|.dt 11 (.mk 1) [jI 65533]<|.ret [h 8 11,h 9 11]))) (aD [h 0 11]<|.dt 11 (.subs 1) [h 0 11,jI 0,h3 4]<|.dt 11 (.snoc 1) [h 5 11,h 1 4]<|.fn A0s [h 6 11] 1<|aE [h3 7,jI 2]<|.br 8 (.fn A2E [h 6 11] 1<|.dt 11 (.nilw 1) []<|.dt 11 (.mk 1) [h3 9]<|.ret [h 10 11,h 11 11]) (aE [h3 7,jI 1]<|.br 9 (.dt 11 (.nilw 1) []<|.ret [h 6 11,h 10 11]) (aE [h3 4,jI 0]<|.br 10 (.dt 11 (.nilw 1) []<|.dt 11 (.mk 1) [jI 65533]<|.ret [h 11 11,h 12 11]) (.dt 11 (.nilw 1) []<|.fn A8k [h 11 11,h 1 4] 2<|.dt 11 (.mk 1) [jI 65533]<|.dt 11 (.cat 1) [h 14 11,h 13 11]<|.ret [h 12 11,h 15 11]))))
theorem C4H{G:Nat→Option Obj}(hst:B9 Tryz.prog G gl H0 n0):L8 Tryz.prog G 127 [.s 11,.s 4] A3z [.s 11,.s 11]:=by
 refine E6 (C:=cx C6e []) (d:=60) C4G (cxg (C1U hst) .nil) hst ⟨Tryz.f127,_,Tryz.func127,rfl⟩ (by kernel_rfl) (by kernel_rfl) ?_;intro us outs hs;unfold A3z at hs;split at hs
 ·skip;rename_i u_p b;have hq_p:=A6.1 hs;clear hs;obtain⟨p,hd_p,hs⟩:=hq_p;replace hd_p:=F3 hd_p;subst hd_p;split at hs
  ·rename_i hc;cases hs;have zs:el (F4 p (0:Int).toNat ((el p).length:Int).toNat)++[b]=el p++[b]:=by rw[A1N]
   have zn:((el (F4 p (0:Int).toNat ((el p).length:Int).toNat)).length:Int)=((el p).length:Int):=by rw[A1N]
   unfold C4G;refine w0 (.cons 1 _ (.cons 0 _ (.nil))) ?_;refine w31 A5K (e:=B6J _ ⟨by omega,hc.2.2.2.2⟩) (k':=?_);first|refine Y8 ?_|refine A3F ?_
   first|refine w4 (fun g0=>?_) (fun g0=>?_)|refine w4B (fun g0=>?_) (fun g0=>?_)
   ·refine w2 (.mk 1) (r:=rB) (e:=L3 [_] rfl (by decide) rfl) (k':=?_);refine w31 A0s (e:=A52 _ (g0 hc.2.1).elim) (k':=?_);refine O7 ?_;refine w4 (fun g1=>?_) fun g1=>?_
    ·refine w2 (.mk 1) (r:=rB) (e:=L3 [_] rfl (by decide) rfl) (k':=?_);refine w31 A2E (e:=A8K _ (g0 hc.2.1).elim) (k':=?_);refine w2 (.nilw 1) (r:=rB) (e:=D8 rfl) (k':=?_);refine w2 (.mk 1) (r:=rN) (e:=L3 [_] rfl (by decide) rfl) (k':=?_);refine w7 [A7 rB _,A7 rN _] ?_;exact(g0 hc.2.1).elim
    refine O7 ?_;refine w4 (fun g2=>?_) fun g2=>?_
    ·refine w2 (.mk 1) (r:=rB) (e:=L3 [_] rfl (by decide) rfl) (k':=?_);refine w2 (.nilw 1) (r:=rN) (e:=D8 rfl) (k':=?_);refine w7 [A7 rB _,A7 rN _] ?_;exact(g0 hc.2.1).elim
    refine w2 (.nilw 1) (r:=rB) (e:=D8 rfl) (k':=?_);refine w2 (.mk 1) (r:=rN) (e:=L3 [_] rfl (by decide) rfl) (k':=?_);refine w7 [A7 rB _,A7 rN _] ?_;exact(g0 hc.2.1).elim
   have zr:=hc.2.1;refine P9 ?_;refine w2 (.subs 1) (r:=rB) (e:=I4 rfl (by omega) (by omega) (by omega)) (k':=?_);refine w2 (.snoc 1) (r:=rB) (e:=K0 rfl rfl (by decide) (by first|omega|(show 1+_≤1000000000;have:=A8i b;omega))) (k':=?_);refine w31 A0s (e:=A52 _ ⟨by rw[F1,la];omega,by rw[F1,la];omega,by rw[F1,A1N];exact C30 hc.2.2.2.2 hc.2.2.1 hc.2.2.2.1⟩) (k':=?_);refine O7 ?_;refine w4 (fun g1=>?_) fun g1=>?_
   ·refine w31 A2E (e:=A8K _ ⟨by rw[F1,la];omega,(by have:=B6x (.inr g1);rw[F1];exact this),by rw[F1,A1N];exact C30 hc.2.2.2.2 hc.2.2.1 hc.2.2.2.1⟩) (k':=?_);refine w2 (.nilw 1) (r:=rB) (e:=D8 rfl) (k':=?_);refine w2 (.mk 1) (r:=rN) (e:=L3 [_] rfl (by decide) rfl) (k':=?_);refine w7 [A7 rB _,A7 rN _] ?_;have z:=C8x (l:=el p) (b:=b) (by rw[← zs];exact g1);exact ut2 z.1 (by rw[zs];exact z.2)
   refine O7 ?_;refine w4 (fun g2=>?_) fun g2=>?_
   ·refine w2 (.nilw 1) (r:=rN) (e:=D8 rfl) (k':=?_);refine w7 [A7 rB _,A7 rN _] ?_;have z:=C8y (l:=el p) (b:=b) (by rw[← zs];exact g2);exact ut2 (by rw[zs];exact z.1) z.2
   refine O7 ?_;refine w4 (fun g3=>?_) fun g3=>?_
   ·refine w2 (.nilw 1) (r:=rB) (e:=D8 rfl) (k':=?_);refine w2 (.mk 1) (r:=rN) (e:=L3 [_] rfl (by decide) rfl) (k':=?_);refine w7 [A7 rB _,A7 rN _] ?_;have z:=C8w (l:=el p) (b:=b) (by rw[← zs];exact g1) (by rw[← zs];exact g2) (D0f g3);exact ut2 z.1 z.2
   refine w2 (.nilw 1) (r:=rB) (e:=D8 rfl) (k':=?_);refine w32 A8k (e:=C2V _ _ ⟨rfl,.inl rfl,hc.2.2.1,hc.2.2.2.1,fun x hx=>by cases hx⟩) (k':=?_);refine w2 (.mk 1) (r:=rN) (e:=L3 [_] rfl (by decide) rfl) (k':=?_);refine w2 (.cat 1) (r:=rN) (e:=A3U rfl (by first|omega|(show 1+_≤1000000000;have:=A8i b;omega))) (k':=?_);refine w7 [A7 rB _,A7 rN _] ?_;have z:=D08 (l:=el p) (b:=b) (by rw[← zs];exact g1) (by rw[← zs];exact g2) (fun h=>g3 (by rw[h];rfl));exact ut2 (C8z.1.trans z.1) (by rw[← z.2,C81];exact C7T _)
  ·cases hs
 ·cases hs
def fsN(b:Int):Int:=if b<128 then 1 else if 192≤b∧b<224 then 2 else if 224≤b∧b<240 then 3 else if 240≤b∧b<248 then 4 else 0
def fsL(b:Int):Int:=if b<128 then b else if 192≤b∧b<224 then b-192 else if 224≤b∧b<240 then b-224 else if 240≤b∧b<248 then b-240 else 0
def spL(l:List Int):Nat→Int→Int→Int→Option (Int×Int)
 | 0,_,lo,hi=>some (lo,hi)
 | k+1,i,lo,hi=>if i<(l.length:Int)then(if l.getD i.toNat default<128∨191<l.getD i.toNat default then none else spL l k (i+1) (lo*64+(l.getD i.toNat default-128)) (hi*64+63-63+(l.getD i.toNat default-128)))else spL l k (i+1) (lo*64) (hi*64+63)
def spN(l:List Int):Option (Int×Int):=if(l.length:Int)=0 then none else
 if(l.length:Int)>fsN (l.getD 0 0)then none else spL l (fsN (l.getD 0 0)-1).toNat 1 (fsL (l.getD 0 0)) (fsL (l.getD 0 0))
def spI(o:Option (Int×Int))(n:Int):Int:=if o.isSome then n else 0
theorem C9H{l:List Int}(h:(l.length:Int)≠0)(h2:(l.length:Int)>fsN (l.getD 0 0)):spN l=none:=by unfold spN;rw[if_neg h,if_pos h2]
theorem C9G{l:List Int}(h:(l.length:Int)≠0)(h2:¬(l.length:Int)>fsN (l.getD 0 0)):spN l=spL l (fsN (l.getD 0 0)-1).toNat 1 (fsL (l.getD 0 0)) (fsL (l.getD 0 0)):=by unfold spN;rw[if_neg h,if_neg h2]
theorem fsC(a:Int):(a<128∧fsN a=1∧fsL a=a)∨(((128≤a∧a<192)∨248≤a)∧fsN a=0)∨(192≤a∧a<224∧fsN a=2∧fsL a=a-192)∨(224≤a∧a<240∧fsN a=3∧fsL a=a-224)∨(240≤a∧a<248∧fsN a=4∧fsL a=a-240):=by
 unfold fsN fsL
 (repeat' split)<;>omega
theorem lnC(a:Int):(a<128∧Q1 a=1)∨(194≤a∧a<224∧Q1 a=2)∨(224≤a∧a<240∧Q1 a=3)∨(240≤a∧a≤244∧Q1 a=4)∨(((128≤a∧a<194)∨244<a)∧Q1 a=0):=by
 unfold Q1
 (repeat' split)<;>omega
theorem loC(a:Int):(a=224∧loB a=160)∨(a=240∧loB a=144)∨(a≠224∧a≠240∧loB a=128):=by
 unfold loB
 (repeat' split)<;>omega
theorem hiC(a:Int):(a=237∧hiB a=159)∨(a=244∧hiB a=143)∨(a≠237∧a≠244∧hiB a=191):=by
 unfold hiB
 (repeat' split)<;>omega
theorem knC(l:List Int):(knd l=0∧(Q1 (l.getD 0 0)<(l.length:Int)∨¬okT (l.drop 1) (loB (l.getD 0 0)) (hiB (l.getD 0 0))=true))∨(knd l=1∧(l.length:Int)<Q1 (l.getD 0 0)∧okT (l.drop 1) (loB (l.getD 0 0)) (hiB (l.getD 0 0))=true)∨(knd l=2∧(l.length:Int)=Q1 (l.getD 0 0)∧okT (l.drop 1) (loB (l.getD 0 0)) (hiB (l.getD 0 0))=true):=by
 unfold knd;by_cases h1:Q1 (l.getD 0 0)<(l.length:Int)
 ·rw[if_pos h1];exact .inl ⟨rfl,.inl h1⟩
 ·rw[if_neg h1];by_cases h2:okT (l.drop 1) (loB (l.getD 0 0)) (hiB (l.getD 0 0))=true
  ·rw[if_pos h2];by_cases h3:(l.length:Int)<Q1 (l.getD 0 0)
   ·rw[if_pos h3];exact .inr (.inl ⟨rfl,h3,h2⟩)
   ·rw[if_neg h3];exact .inr (.inr ⟨rfl,by omega,h2⟩)
  ·rw[if_neg h2];exact .inl ⟨rfl,.inr h2⟩
theorem ok1(b lo hi:Int):okT [b] lo hi=true↔lo≤b∧b≤hi:=by simp[okT]
theorem ok2(b c lo hi:Int):okT [b,c] lo hi=true↔lo≤b∧b≤hi∧128≤c∧c≤191:=by simp[okT,and_assoc]
theorem ok3(b c d lo hi:Int):okT [b,c,d] lo hi=true↔lo≤b∧b≤hi∧128≤c∧c≤191∧128≤d∧d≤191:=by simp[okT,and_assoc]
theorem kn1(a:Int):(knd [a]=0∧Q1 a<1)∨(knd [a]=1∧1<Q1 a)∨(knd [a]=2∧Q1 a=1):=by
 rcases knC [a]with⟨h,h2|h2⟩|⟨h,h2,h3⟩|⟨h,h2,h3⟩
 ·exact .inl ⟨h,h2⟩
 ·exact absurd rfl h2
 ·exact .inr (.inl ⟨h,h2⟩)
 ·exact .inr (.inr ⟨h,h2.symm⟩)
theorem kn2(a b:Int):(knd [a,b]=0∧(Q1 a<2∨¬(loB a≤b∧b≤hiB a)))∨(knd [a,b]=1∧2<Q1 a∧loB a≤b∧b≤hiB a)∨(knd [a,b]=2∧Q1 a=2∧loB a≤b∧b≤hiB a):=by
 rcases knC [a,b]with⟨h,h2|h2⟩|⟨h,h2,h3⟩|⟨h,h2,h3⟩
 ·exact .inl ⟨h,.inl h2⟩
 ·exact .inl ⟨h,.inr fun k=>h2 ((ok1 _ _ _).2 k)⟩
 ·exact .inr (.inl ⟨h,h2,(ok1 _ _ _).1 h3⟩)
 ·exact .inr (.inr ⟨h,h2.symm,(ok1 _ _ _).1 h3⟩)
theorem kn3(a b c:Int):(knd [a,b,c]=0∧(Q1 a<3∨¬(loB a≤b∧b≤hiB a∧128≤c∧c≤191)))∨(knd [a,b,c]=1∧3<Q1 a∧loB a≤b∧b≤hiB a∧128≤c∧c≤191)∨(knd [a,b,c]=2∧Q1 a=3∧loB a≤b∧b≤hiB a∧128≤c∧c≤191):=by
 rcases knC [a,b,c]with⟨h,h2|h2⟩|⟨h,h2,h3⟩|⟨h,h2,h3⟩
 ·exact .inl ⟨h,.inl h2⟩
 ·exact .inl ⟨h,.inr fun k=>h2 ((ok2 _ _ _ _).2 k)⟩
 ·exact .inr (.inl ⟨h,h2,(ok2 _ _ _ _).1 h3⟩)
 ·exact .inr (.inr ⟨h,h2.symm,(ok2 _ _ _ _).1 h3⟩)
theorem kn4(a b c d:Int):(knd [a,b,c,d]=0∧(Q1 a<4∨¬(loB a≤b∧b≤hiB a∧128≤c∧c≤191∧128≤d∧d≤191)))∨(knd [a,b,c,d]=1∧4<Q1 a∧loB a≤b∧b≤hiB a∧128≤c∧c≤191∧128≤d∧d≤191)∨(knd [a,b,c,d]=2∧Q1 a=4∧loB a≤b∧b≤hiB a∧128≤c∧c≤191∧128≤d∧d≤191):=by
 rcases knC [a,b,c,d]with⟨h,h2|h2⟩|⟨h,h2,h3⟩|⟨h,h2,h3⟩
 ·exact .inl ⟨h,.inl h2⟩
 ·exact .inl ⟨h,.inr fun k=>h2 ((ok3 _ _ _ _ _).2 k)⟩
 ·exact .inr (.inl ⟨h,h2,(ok3 _ _ _ _ _).1 h3⟩)
 ·exact .inr (.inr ⟨h,h2.symm,(ok3 _ _ _ _ _).1 h3⟩)
def leS(n:Int):Int:=([0,0,128,2048,65536]:List Int).getD n.toNat 0
def mxS(n:Int):Int:=([0,127,2047,65535,1114111]:List Int).getD n.toNat 0
def gLo(l:List Int):Int:=((spN l).getD (0,0)).1
def gHi(l:List Int):Int:=((spN l).getD (0,0)).2
def gNn(l:List Int):Int:=spI (spN l) (fsN (l.getD 0 0))
def gIs(l:List Int):Prop:=gNn l≠0∧max (gLo l) (leS (gNn l))≤min (gHi l) (mxS (gNn l))∧¬(55296≤max (gLo l) (leS (gNn l))∧min (gHi l) (mxS (gNn l))≤57343)
theorem C5v{l:List Int}(h:spN l=none):¬gIs l:=fun k=>k.1 (by unfold gNn;rw[h];rfl)
theorem D0W{l:List Int}{lo hi n:Int}(h:spN l=some (lo,hi))(hn:fsN (l.getD 0 0)=n):gNn l=n∧gLo l=lo∧gHi l=hi:=by
 unfold gNn gLo gHi;rw[h,hn];exact⟨rfl,rfl,rfl⟩
def B8I(l:List Int):Prop:=(gIs l↔knd l=1∨knd l=2)∧(gIs l→((l.length:Int)=gNn l↔knd l=2))∧(knd l=2→gLo l=x7 l)
theorem W7{l:List Int}(h:spN l=none)(h2:knd l=0):B8I l :=
 ⟨⟨fun k=>absurd k (C5v h),fun k=>by omega⟩,fun k=>absurd k (C5v h),fun k=>by omega⟩
theorem A2e{l:List Int}{lo hi n e m:Int}(h:spN l=some (lo,hi))(hn:fsN (l.getD 0 0)=n)(he:leS n=e)(hm:mxS n=m)
  (h1:(n≠0∧max lo e≤min hi m∧¬(55296≤max lo e∧min hi m≤57343))↔knd l=1∨knd l=2) (h2:knd l=1∨knd l=2→((l.length:Int)=n↔knd l=2)) (h3:knd l=2→lo=x7 l):B8I l:=by
 obtain⟨a,b,c⟩:=D0W h hn;have hI:gIs l↔knd l=1∨knd l=2:=by
  unfold gIs;rw[a,b,c,he,hm];exact h1
 exact⟨hI,fun k=>by rw[a];exact h2 (hI.1 k),fun k=>by rw[b];exact h3 k⟩
theorem A5L{l:List Int}{n:Nat}(hl:l.length≠0)(hn:fsN (l.getD 0 0)=(n:Int)+1)(hle:l.length≤n+1):spN l=spL l n 1 (fsL (l.getD 0 0)) (fsL (l.getD 0 0)):=by
 rw[C9G (by omega) (by omega),hn,show((n:Int)+1-1).toNat=n by omega]
theorem A5M{l:List Int}(hl:l.length≠0)(h:fsN (l.getD 0 0)<(l.length:Int)):spN l=none:=C9H (by omega) (by omega)
theorem D1Z(a:Int):x7 [a]=a:=rfl
theorem D1Y(a b:Int):x7 [a,b]=a%32*64+b%64:=rfl
theorem D1X(a b c:Int):x7 [a,b,c]=(a%16*64+b%64)*64+c%64:=rfl
theorem D1W(a b c d:Int):x7 [a,b,c,d]=((a%8*64+b%64)*64+c%64)*64+d%64:=rfl
theorem g1(a:Int)(h0:0≤a)(h1:a<256):B8I [a]:=by
 have k:=kn1 a;have l:=lnC a;rcases fsC a with⟨q,n,f⟩|⟨q,n⟩|⟨q,q2,n,f⟩|⟨q,q2,n,f⟩|⟨q,q2,n,f⟩
 ·have s:spN [a]=some (fsL a,fsL a):=(A5L (l:=[a]) (n:=0) (by simp) (show fsN a=((0:Nat):Int)+1 from n) (by simp)).trans rfl;refine A2e s n (show leS 1=0 from rfl) (show mxS 1=127 from rfl) ?_ ?_ ?_
  ·omega
  ·intro _;show(1:Int)=1↔_;omega
  ·intro _;rw[D1Z];exact f
 ·exact W7 (A5M (by simp) (by show fsN a<1;omega)) (by omega)
 ·have s:spN [a]=some (fsL a*64,fsL a*64+63):=(A5L (l:=[a]) (n:=1) (by simp) (show fsN a=((1:Nat):Int)+1 from n) (by simp)).trans rfl;refine A2e s n (show leS 2=128 from rfl) (show mxS 2=2047 from rfl) ?_ ?_ ?_
  ·omega
  ·intro _;show(1:Int)=2↔_;omega
  ·intro _;omega
 ·have s:spN [a]=some (fsL a*64*64,(fsL a*64+63)*64+63):=(A5L (l:=[a]) (n:=2) (by simp) (show fsN a=((2:Nat):Int)+1 from n) (by simp)).trans rfl;refine A2e s n (show leS 3=2048 from rfl) (show mxS 3=65535 from rfl) ?_ ?_ ?_
  ·omega
  ·intro _;show(1:Int)=3↔_;omega
  ·intro _;omega
 ·have s:spN [a]=some (fsL a*64*64*64,((fsL a*64+63)*64+63)*64+63):=(A5L (l:=[a]) (n:=3) (by simp) (show fsN a=((3:Nat):Int)+1 from n) (by simp)).trans rfl;refine A2e s n (show leS 4=65536 from rfl) (show mxS 4=1114111 from rfl) ?_ ?_ ?_
  ·omega
  ·intro _;show(1:Int)=4↔_;omega
  ·intro _;omega
theorem g2(a b:Int)(h0:0≤a)(h1:a<256)(h2:0≤b)(h3:b<256):B8I [a,b]:=by
 have k:=kn2 a b;have l:=lnC a;have u:=loC a;have v:=hiC a;rcases fsC a with⟨q,n,f⟩|⟨q,n⟩|⟨q,q2,n,f⟩|⟨q,q2,n,f⟩|⟨q,q2,n,f⟩
 ·exact W7 (A5M (by simp) (by show fsN a<2;omega)) (by omega)
 ·exact W7 (A5M (by simp) (by show fsN a<2;omega)) (by omega)
 ·have s:spN [a,b]=if b<128∨191<b then none else some (fsL a*64+(b-128),fsL a*64+63-63+(b-128)):=(A5L (l:=[a,b]) (n:=1) (by simp) (show fsN a=((1:Nat):Int)+1 from n) (by simp)).trans rfl
  by_cases hb:b<128∨191<b
  ·rw[if_pos hb]at s;exact W7 s (by omega)
  ·rw[if_neg hb]at s;refine A2e s n (show leS 2=128 from rfl) (show mxS 2=2047 from rfl) ?_ ?_ ?_
   ·omega
   ·intro _;show(2:Int)=2↔_;omega
   ·intro _;rw[D1Y];omega
 ·have s:spN [a,b]=if b<128∨191<b then none else some ((fsL a*64+(b-128))*64,(fsL a*64+63-63+(b-128))*64+63):=(A5L (l:=[a,b]) (n:=2) (by simp) (show fsN a=((2:Nat):Int)+1 from n) (by simp)).trans rfl
  by_cases hb:b<128∨191<b
  ·rw[if_pos hb]at s;exact W7 s (by omega)
  ·rw[if_neg hb]at s;refine A2e s n (show leS 3=2048 from rfl) (show mxS 3=65535 from rfl) ?_ ?_ ?_
   ·omega
   ·intro _;show(2:Int)=3↔_;omega
   ·intro _;omega
 ·have s:spN [a,b]=if b<128∨191<b then none else some ((fsL a*64+(b-128))*64*64,((fsL a*64+63-63+(b-128))*64+63)*64+63):=(A5L (l:=[a,b]) (n:=3) (by simp) (show fsN a=((3:Nat):Int)+1 from n) (by simp)).trans rfl
  by_cases hb:b<128∨191<b
  ·rw[if_pos hb]at s;exact W7 s (by omega)
  ·rw[if_neg hb]at s;refine A2e s n (show leS 4=65536 from rfl) (show mxS 4=1114111 from rfl) ?_ ?_ ?_
   ·omega
   ·intro _;show(2:Int)=4↔_;omega
   ·intro _;omega
theorem g3(a b c:Int)(h0:0≤a)(h1:a<256)(h2:0≤b)(h3:b<256)(h4:0≤c)(h5:c<256):B8I [a,b,c]:=by
 have k:=kn3 a b c;have l:=lnC a;have u:=loC a;have v:=hiC a;rcases fsC a with⟨q,n,f⟩|⟨q,n⟩|⟨q,q2,n,f⟩|⟨q,q2,n,f⟩|⟨q,q2,n,f⟩
 ·exact W7 (A5M (by simp) (by show fsN a<3;omega)) (by omega)
 ·exact W7 (A5M (by simp) (by show fsN a<3;omega)) (by omega)
 ·exact W7 (A5M (by simp) (by show fsN a<3;omega)) (by omega)
 ·have s:spN [a,b,c]=if b<128∨191<b then none else if c<128∨191<c then none else some ((fsL a*64+(b-128))*64+(c-128),(fsL a*64+63-63+(b-128))*64+63-63+(c-128)):=(A5L (l:=[a,b,c]) (n:=2) (by simp) (show fsN a=((2:Nat):Int)+1 from n) (by simp)).trans rfl
  by_cases hb:b<128∨191<b
  ·rw[if_pos hb]at s;exact W7 s (by omega)
  ·rw[if_neg hb]at s;by_cases hc:c<128∨191<c
   ·rw[if_pos hc]at s;exact W7 s (by omega)
   ·rw[if_neg hc]at s;refine A2e s n (show leS 3=2048 from rfl) (show mxS 3=65535 from rfl) ?_ ?_ ?_
    ·omega
    ·intro _;show(3:Int)=3↔_;omega
    ·intro _;rw[D1X];omega
 ·have s:spN [a,b,c]=if b<128∨191<b then none else if c<128∨191<c then none else some (((fsL a*64+(b-128))*64+(c-128))*64,((fsL a*64+63-63+(b-128))*64+63-63+(c-128))*64+63):=(A5L (l:=[a,b,c]) (n:=3) (by simp) (show fsN a=((3:Nat):Int)+1 from n) (by simp)).trans rfl
  by_cases hb:b<128∨191<b
  ·rw[if_pos hb]at s;exact W7 s (by omega)
  ·rw[if_neg hb]at s;by_cases hc:c<128∨191<c
   ·rw[if_pos hc]at s;exact W7 s (by omega)
   ·rw[if_neg hc]at s;refine A2e s n (show leS 4=65536 from rfl) (show mxS 4=1114111 from rfl) ?_ ?_ ?_
    ·omega
    ·intro _;show(3:Int)=4↔_;omega
    ·intro _;omega
theorem g4(a b c d:Int)(h0:0≤a)(h1:a<256)(h2:0≤b)(h3:b<256)(h4:0≤c)(h5:c<256)(h6:0≤d)(h7:d<256):B8I [a,b,c,d]:=by
 have k:=kn4 a b c d;have l:=lnC a;have u:=loC a;have v:=hiC a;rcases fsC a with⟨q,n,f⟩|⟨q,n⟩|⟨q,q2,n,f⟩|⟨q,q2,n,f⟩|⟨q,q2,n,f⟩
 ·exact W7 (A5M (by simp) (by show fsN a<4;omega)) (by omega)
 ·exact W7 (A5M (by simp) (by show fsN a<4;omega)) (by omega)
 ·exact W7 (A5M (by simp) (by show fsN a<4;omega)) (by omega)
 ·exact W7 (A5M (by simp) (by show fsN a<4;omega)) (by omega)
 ·have s:spN [a,b,c,d]=if b<128∨191<b then none else if c<128∨191<c then none else if d<128∨191<d then none else some (((fsL a*64+(b-128))*64+(c-128))*64+(d-128),((fsL a*64+63-63+(b-128))*64+63-63+(c-128))*64+63-63+(d-128)):=(A5L (l:=[a,b,c,d]) (n:=3) (by simp) (show fsN a=((3:Nat):Int)+1 from n) (by simp)).trans rfl
  by_cases hb:b<128∨191<b
  ·rw[if_pos hb]at s;exact W7 s (by omega)
  ·rw[if_neg hb]at s;by_cases hc:c<128∨191<c
   ·rw[if_pos hc]at s;exact W7 s (by omega)
   ·rw[if_neg hc]at s;by_cases hd:d<128∨191<d
    ·rw[if_pos hd]at s;exact W7 s (by omega)
    ·rw[if_neg hd]at s;refine A2e s n (show leS 4=65536 from rfl) (show mxS 4=1114111 from rfl) ?_ ?_ ?_
     ·omega
     ·intro _;show(4:Int)=4↔_;omega
     ·intro _;rw[D1W];omega
end Go.Proofs.YtdimocjaepnifaaGreatDoor
