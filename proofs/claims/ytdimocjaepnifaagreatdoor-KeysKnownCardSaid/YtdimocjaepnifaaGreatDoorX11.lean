/- The law KeysKnown: for every input the call returns true, and the arguments read behind it as they read before. No condition. -/
import Derived.Test.YtdimocjaepnifaaGreatDoorX10
namespace Go.Proofs.YtdimocjaepnifaaGreatDoor
set_option linter.all false
open Go Go.Sx
set_option maxRecDepth 100000
set_option maxHeartbeats 4000000
set_option linter.unusedVariables false
set_option linter.unusedSimpArgs false
def rI:Rw (Int×Int×Int×Int×Int×Int×Int×(List UInt8)):=rC (t7 .i64) (rC (t7 .i64) (rC (t7 .i64) (rC (t7 .i64) (rC (t7 .i64) (rC (t7 .i64) (rC (t7 .i64) (r1 C0k)))))))
theorem C9l{α:Type}{l r:List α}(h:l.length=r.length):(l.zip r).length=l.length:=by rw[List.length_zip];omega
def eqX(x y:(Int×Int×Int×Int×Int×Int×Int×List UInt8)):Bool:=(x.1 == y.1) && ((x.2.1 == y.2.1) && ((x.2.2.1 == y.2.2.1) && ((x.2.2.2.1 == y.2.2.2.1) && ((x.2.2.2.2.1 == y.2.2.2.2.1) && ((x.2.2.2.2.2.1 == y.2.2.2.2.2.1) && ((x.2.2.2.2.2.2.1 == y.2.2.2.2.2.2.1) && ((x.2.2.2.2.2.2.2 == y.2.2.2.2.2.2.2) && true)))))))
def neX(p:(Int×Int×Int×Int×Int×Int×Int×List UInt8)×(Int×Int×Int×Int×Int×Int×Int×List UInt8)):Bool:=!eqX p.1 p.2
def B44(a b:Option (List (Int×Int×Int×Int×Int×Int×Int×List UInt8))):Bool:=decide ((el a).length=(el b).length) && (X6 neX ((el a).zip (el b)) 0).isNone
noncomputable def C5y:List (FuncId×FnC):=L0
theorem C1F{G:Nat→Option Obj}(hst:B7 Tryz.prog G gl H0 n0):F6 Tryz.prog G gl C5y:=.nil
def A7L:List U→Option (Nat×List U)
 | [u_a,u_b,.int .i64 i]=>(J6 rI u_a).bind fun a=>(J6 rI u_b).bind fun b=>if 0≤i∧i≤((el a).length:Int)∧(el a).length=(el b).length∧(el a).length≤140737488351232 then A2R (X6 neX (((el a).zip (el b)).drop i.toNat) i) [] (fun _=>[])else none
 | _=>none
theorem A5u(a:(Option (List (Int×Int×Int×Int×Int×Int×Int×(List UInt8)))))(b:(Option (List (Int×Int×Int×Int×Int×Int×Int×(List UInt8)))))(i:Int)(hc:0≤i∧i≤((el a).length:Int)∧(el a).length=(el b).length∧(el a).length≤140737488351232):A7L [A7 rI a,A7 rI b,.int .i64 i]=A2R (X6 neX (((el a).zip (el b)).drop i.toNat) i) [] (fun _=>[]):=by
 simp only[A7L,G6,D5];exact if_pos hc
def C4F:Q1:=⟨[(0,dat 7 0 18),(1,dat 8 1 18),(5,h 2 3)],[(7,.frz),(8,.frz)],3,[⟨.exit 0,[],[],0⟩,⟨.ret,[(4,.bool false)],[],0⟩]⟩
noncomputable def B8i:Code:=(Tryz.f22.body).getD .skip
noncomputable def C4B:Code:=match H4 [true,true,false,true,false] B8i with|some (.loop x)=>x|_=>.skip
theorem C4E:Tryz.f22.body=some B8i:=rfl
theorem C4D:H4 [true,true,false,true,false] B8i=some (.loop C4B):=by kernel_rfl
def C4C:Tr:=aD [h 0 18]<|aL [h3 2,h3 3]<|.br 4 (.lt 8 (.inbs 8) [h3 2,h 0 18]<|.br 5 (.lt 3 (.get 8 0) [h 0 18,h3 2]<|.lt 3 (.get 8 1) [h 0 18,h3 2]<|.lt 3 (.get 8 2) [h 0 18,h3 2]<|.lt 3 (.get 8 3) [h 0 18,h3 2]<|.lt 3 (.get 8 4) [h 0 18,h3 2]<|.lt 3 (.get 8 5) [h 0 18,h3 2]<|.lt 3 (.get 8 6) [h 0 18,h3 2]<|.lt 9 (.get 8 7) [h 0 18,h3 2]<|.lt 8 (.inbs 8) [h3 2,h 1 18]<|.br 14 (.lt 3 (.get 8 0) [h 1 18,h3 2]<|.lt 3 (.get 8 1) [h 1 18,h3 2]<|.lt 3 (.get 8 2) [h 1 18,h3 2]<|.lt 3 (.get 8 3) [h 1 18,h3 2]<|.lt 3 (.get 8 4) [h 1 18,h3 2]<|.lt 3 (.get 8 5) [h 1 18,h3 2]<|.lt 3 (.get 8 6) [h 1 18,h3 2]<|.lt 9 (.get 8 7) [h 1 18,h3 2]<|.lt 8 (.eqs) [h3 6,h3 15,h3 7,h3 16,h3 8,h3 17,h3 9,h3 18,h3 10,h3 19,h3 11,h3 20,h3 12,h3 21,h 13 9,h 22 9]<|aX [h 23 8]<|.br 24 (.ret [jI 1]) (aA [h3 2,jI 1]<|.ret [jI (-1),h 0 18,h 1 18,h3 25])) (.no)) (.no)) (.ret [jI 0])
def B8h:List U→Nat
 | [u_a,u_b,.int .i64 i]=>(match J6 rI u_a with|some a=>(match J6 rI u_b with|some b=>(((el a).length:Int)-i).toNat|none=>0)|none=>0)
 | _=>0
theorem B8g(a:(Option (List (Int×Int×Int×Int×Int×Int×Int×(List UInt8)))))(b:(Option (List (Int×Int×Int×Int×Int×Int×Int×(List UInt8)))))(i:Int):B8h [A7 rI a,A7 rI b,.int .i64 i]=(((el a).length:Int)-i).toNat:=by
 simp only[B8h,G6]
theorem C79{G:Nat→Option Obj}(hst:B7 Tryz.prog G gl H0 n0):∀ (E:Nat→U) (base:Nat),@Y0 ⟨E,G⟩ Tryz.prog base gl Tryz.f22.ntmps C4B (Q0 Tryz.prog gl n0 9 C4F A7L):=by
 refine A0Z (C:=cx C5y []) (dep:=60) (f:=22) (n0:=n0) (nB:=9) (H0:=H0) B8h C4C (cxg (C1F hst) .nil) hst Tryz.func22 C4E C4D (by kernel_rfl) (by kernel_rfl) (by kernel_rfl) ?_;intro us d outs hs;have hs0:=hs;unfold A7L at hs;split at hs
 ·skip;rename_i u_a u_b i;have hq_a:=A6.1 hs;clear hs;obtain⟨a,hd_a,hs⟩:=hq_a;replace hd_a:=F0 hd_a;subst hd_a;have hq_b:=A6.1 hs;clear hs;obtain⟨b,hd_b,hs⟩:=hq_b;replace hd_b:=F0 hd_b;subst hd_b;split at hs
  ·rename_i hc;clear hs hs0;have hz:=C9l hc.2.2.1;refine⟨rfl,?_⟩;unfold C4C;refine w0 (.cons 2 _ (.cons 1 _ (.cons 0 _ (.nil)))) ?_;refine R1 ?_;refine A1M ?_;refine w5 (fun g0=>?_) fun g0=>?_
   ·refine w7 [.int .i64 _] ?_;refine L2 (d:=0) ?_;rw[A5u a b i hc,A64 (by omega)];rfl
   refine Y6 ?_;refine w5 (fun g1=>?_) fun g1=>?_
   ·refine w8 ?_;first|omega
   refine w1 (.get 8 0) (u:=.int .i64 _) (e:=I0 rfl (by omega) (by omega) rfl) (k':=?_);refine w1 (.get 8 1) (u:=.int .i64 _) (e:=I0 rfl (by omega) (by omega) rfl) (k':=?_);refine w1 (.get 8 2) (u:=.int .i64 _) (e:=I0 rfl (by omega) (by omega) rfl) (k':=?_);refine w1 (.get 8 3) (u:=.int .i64 _) (e:=I0 rfl (by omega) (by omega) rfl) (k':=?_);refine w1 (.get 8 4) (u:=.int .i64 _) (e:=I0 rfl (by omega) (by omega) rfl) (k':=?_);refine w1 (.get 8 5) (u:=.int .i64 _) (e:=I0 rfl (by omega) (by omega) rfl) (k':=?_);refine w1 (.get 8 6) (u:=.int .i64 _) (e:=I0 rfl (by omega) (by omega) rfl) (k':=?_);refine w1 (.get 8 7) (u:=.str _) (e:=I0 rfl (by omega) (by omega) rfl) (k':=?_);refine Y6 ?_;refine w5 (fun g2=>?_) fun g2=>?_
   ·refine w8 ?_;first|omega
   refine w1 (.get 8 0) (u:=.int .i64 _) (e:=I0 rfl (by omega) (by omega) rfl) (k':=?_);refine w1 (.get 8 1) (u:=.int .i64 _) (e:=I0 rfl (by omega) (by omega) rfl) (k':=?_);refine w1 (.get 8 2) (u:=.int .i64 _) (e:=I0 rfl (by omega) (by omega) rfl) (k':=?_);refine w1 (.get 8 3) (u:=.int .i64 _) (e:=I0 rfl (by omega) (by omega) rfl) (k':=?_);refine w1 (.get 8 4) (u:=.int .i64 _) (e:=I0 rfl (by omega) (by omega) rfl) (k':=?_);refine w1 (.get 8 5) (u:=.int .i64 _) (e:=I0 rfl (by omega) (by omega) rfl) (k':=?_);refine w1 (.get 8 6) (u:=.int .i64 _) (e:=I0 rfl (by omega) (by omega) rfl) (k':=?_);refine w1 (.get 8 7) (u:=.str _) (e:=I0 rfl (by omega) (by omega) rfl) (k':=?_);refine w1 (.eqs) (e:=rfl) (k':=?_);first|refine d7 ?_|refine A3e ?_
   first|refine w4 (fun g3=>?_) (fun g3=>?_)|refine w4B (fun g3=>?_) (fun g3=>?_)
   ·refine w7 [.int .i64 _] ?_;refine L2 (d:=1) ?_;rw[A5u a b i hc,A63 (by omega) (by omega) (by rw[B5k (by omega) (by omega) (by omega)];exact g3)];rfl
   first|refine W6 ?_|refine O5 ?_
   refine w7 [.int .i64 _,A7 rI _,A7 rI _,.int .i64 _] ?_;refine J5 ?_ ?_
   ·rw[A5u a b (i+1) ⟨by omega,by omega,hc.2.2⟩,A5u a b i hc,A5Q (i:=i) (by omega) (by omega) (by rw[B5k (by omega) (by omega) (by omega)];exact g3)]
   ·rw[B8g,B8g];omega
  ·cases hs
 ·cases hs
noncomputable def B1W:List LpE:=(22,([true,true,false,true,false],Q0 Tryz.prog gl n0 9 C4F A7L))::[]
theorem A4Q{G:Nat→Option Obj}(hst:B7 Tryz.prog G gl H0 n0):y4 Tryz.prog G gl B1W:=.cons Tryz.func22 C4E C4D (C79 hst) .nil
theorem B43{a b:Option (List (Int×Int×Int×Int×Int×Int×Int×List UInt8))}(h:¬((el a).length:Int)=(el b).length):B44 a b=false:=by
 unfold B44;rw[decide_eq_false (by omega),Z6]
theorem B42{a b:Option (List (Int×Int×Int×Int×Int×Int×Int×List UInt8))}(h:(el a).length=(el b).length)(hf:X6 neX (((el a).zip (el b)).drop (0:Int).toNat) 0=none):B44 a b=true:=by
 unfold B44;rw[decide_eq_true h];have hf:X6 neX ((el a).zip (el b)) 0=none:=hf;rw[hf];rfl
theorem B41{a b:Option (List (Int×Int×Int×Int×Int×Int×Int×List UInt8))}{j:Int}(hf:X6 neX (((el a).zip (el b)).drop (0:Int).toNat) 0=some j):B44 a b=false:=by
 unfold B44;have hf:X6 neX ((el a).zip (el b)) 0=some j:=hf;rw[hf,Bool.and_comm];rfl
noncomputable def C5z:List (FuncId×FnC):=L0
theorem C1G{G:Nat→Option Obj}(hst:B7 Tryz.prog G gl H0 n0):F6 Tryz.prog G gl C5z:=.nil
def B8v:List U→Option (Nat×List U)
 | [u_a,u_b]=>(J6 rI u_a).bind fun a=>(J6 rI u_b).bind fun b=>if(el a).length≤140737488351232∧(el b).length≤140737488351232 then some (0,[.bool (B44 a b)])else none
 | _=>none
def C4G:Tr:=aD [h 0 18]<|aD [h 1 18]<|aN [h3 2,h3 3]<|.br 4 (.ret [.bool false]) (.lp A7L [h 0 18,h 1 18,jI 0] 0 0 (.ret [.bool true]) (.lp A7L [h 0 18,h 1 18,jI 0] 1 0 (.ret [.bool false]) (.no)))
theorem C7_{G:Nat→Option Obj}(hst:B7 Tryz.prog G gl H0 n0):K2 Tryz.prog G 22 [.s 18,.s 18] B8v [.s 8]:=by
 refine E4 (C:=cx C5z B1W) (d:=60) C4G (cxg (C1G hst) (A4Q hst)) hst ⟨Tryz.f22,_,Tryz.func22,rfl⟩ (by kernel_rfl) (by kernel_rfl) ?_;intro us outs hs;unfold B8v at hs;split at hs
 ·skip;rename_i u_a u_b;have hq_a:=A6.1 hs;clear hs;obtain⟨a,hd_a,hs⟩:=hq_a;replace hd_a:=F0 hd_a;subst hd_a;have hq_b:=A6.1 hs;clear hs;obtain⟨b,hd_b,hs⟩:=hq_b;replace hd_b:=F0 hd_b;subst hd_b;split at hs
  ·rename_i hc;cases hs;unfold C4G;refine w0 (.cons 1 _ (.cons 0 _ (.nil))) ?_;refine R1 ?_;refine R1 ?_;refine A0I ?_;refine w4 (fun g0=>?_) fun g0=>?_
   ·refine w7 [.bool _] ?_;first|(rw[B43 (by omega)];done)|(rw[B42 (by omega) g1];done)|(rw[B41 g1];done)
   refine w6 A7L (A5u _ _ _ ⟨by omega,by omega,by omega,by omega⟩) (h0:=fun g1=>?_) (h1:=fun v1 g1=>?_)
   ·show Wk _ _ _;refine w7 [.bool _] ?_;first|(rw[B43 (by omega)];done)|(rw[B42 (by omega) g1];done)|(rw[B41 g1];done)
   show Wk _ _ _;refine w7 [.bool _] ?_;first|(rw[B43 (by omega)];done)|(rw[B42 (by omega) g1];done)|(rw[B41 g1];done)
  ·cases hs
 ·cases hs
noncomputable def C6A:List (FuncId×FnC):=(36,I2 Tryz.prog [.s 3,.s 3] B0M [.s 8])::(37,I2 Tryz.prog [.a [3,3,3,3,3,3,3,9]] B0L [.s 8])::(28,I2 Tryz.prog [.s 9,.s 9] B1D [.s 8])::L0
theorem C1S{G:Nat→Option Obj}(hst:B7 Tryz.prog G gl H0 n0):F6 Tryz.prog G gl C6A:=(.cons (C7o hst) (.cons (C7n hst) (.cons (C9P hst) .nil)))
def U2:List U→Option (Nat×List U)
 | [.int .i64 k,.int .i64 c,.int .i64 m,.int .i64 w,.int .i64 b,.int .i64 r,.int .i64 cl,.str t]=>if -9223372036854775808≤m∧m≤9223372036854775807∧(t.length:Int)≤140737488351232 then some (0,[.int .i64 (if A25 k c m w b r cl t then 0 else 430)])else none
 | _=>none
theorem o8(k:Int)(c:Int)(m:Int)(w:Int)(b:Int)(r:Int)(cl:Int)(t:(List UInt8))(hc : -9223372036854775808≤m∧m≤9223372036854775807∧(t.length:Int)≤140737488351232):U2 [.int .i64 k,.int .i64 c,.int .i64 m,.int .i64 w,.int .i64 b,.int .i64 r,.int .i64 cl,.str t]=some (0,[.int .i64 (if A25 k c m w b r cl t then 0 else 430)]):=if_pos hc
def C4p:Tr:=aE [h3 0,jI 1]<|.br 8 (.fn B0M [h3 1,h3 2] 1<|aX [h 9 8]<|.br 10 (.ret [jI 430]) (.lt 8 (.eqs) [h3 0,jI 1,h3 1,h3 1,h3 2,h3 2,h3 3,jI 0,h3 4,jI 0,h3 5,jI 0,h3 6,jI 0,h 7 9,.string ⟨⟨[]⟩⟩]<|aX [h 11 8]<|.br 12 (.ret [jI 430]) (.ret [jI 0]))) (aE [h3 0,jI 2]<|.br 9 (.fn B0L [h3 0,h3 1,h3 2,h3 3,h3 4,h3 5,h3 6,h 7 9] 1<|aX [h 10 8]<|.br 11 (.ret [jI 430]) (.lt 8 (.eqs) [h3 0,h3 0,h3 1,jI 0,h3 2,h3 2,h3 3,h3 3,h3 4,h3 4,h3 5,h3 5,h3 6,h3 6,h 7 9,.string ⟨⟨[]⟩⟩]<|aX [h 12 8]<|.br 13 (.ret [jI 430]) (.ret [jI 0]))) (aE [h3 0,jI 3]<|.br 10 (aD [h 7 9]<|aQ [h3 11,jI 1000]<|.br 12 (.fn B1D [h 7 9,.string ⟨⟨[27]⟩⟩] 1<|aX [h 13 8]<|aX [h 14 8]<|.br 15 (.ret [jI 430]) (.lt 8 (.eqs) [h3 0,h3 0,h3 1,jI 0,h3 2,jI 0,h3 3,jI 0,h3 4,jI 0,h3 5,jI 0,h3 6,jI 0,h 7 9,h 7 9]<|aX [h 16 8]<|.br 17 (.ret [jI 430]) (.ret [jI 0]))) (.ret [jI 430])) (aE [h3 0,jI 4]<|.br 11 (aH [h3 3,jI 0]<|.br 12 (aQ [h3 3,jI 1]<|aX [h 13 8]<|.br 14 (.ret [jI 430]) (.lt 8 (.eqs) [h3 0,h3 0,h3 1,jI 0,h3 2,jI 0,h3 3,h3 3,h3 4,jI 0,h3 5,jI 0,h3 6,jI 0,h 7 9,.string ⟨⟨[]⟩⟩]<|aX [h 15 8]<|.br 16 (.ret [jI 430]) (.ret [jI 0]))) (.ret [jI 430])) (.ret [jI 430]))))
theorem C4q{G:Nat→Option Obj}(hst:B7 Tryz.prog G gl H0 n0):K2 Tryz.prog G 13 [.a [3,3,3,3,3,3,3,9]] U2 [.s 3]:=by
 refine E4 (C:=cx C6A B1W) (d:=60) C4p (cxg (C1S hst) (A4Q hst)) hst ⟨Tryz.f13,_,Tryz.func13,rfl⟩ (by kernel_rfl) (by kernel_rfl) ?_;intro us outs hs;unfold U2 at hs;split at hs
 ·skip;rename_i k c m w b r cl t;split at hs
  ·rename_i hc;cases hs;have zi:=C3V t;unfold C4p;refine w0 (.cons 7 _ (.cons 6 _ (.cons 5 _ (.cons 4 _ (.cons 3 _ (.cons 2 _ (.cons 1 _ (.cons 0 _ (.nil))))))))) ?_;repeat (first|refine w4 (fun g=>?_) fun g=>?_|refine w4B (fun g=>?_) fun g=>?_|refine d7 ?_|refine A3e ?_|(refine w7 [.int .i64 _] ?_;rotate_left)|refine O1 ?_|refine w1 (.eqs) (e:=rfl) (k':=?_)|refine A5E ?_|refine w31 B0M (e:=C1v _ _ (by omega)) (k':=?_)|refine w31 B0L (e:=C1t _ _ _ _ _ _ _ _) (k':=?_)|refine B7F ?_|refine w31 B1D (e:=C3F _ _ rfl) (k':=?_)|refine A06 ?_)
   all_goals
    refine l0 ?_;first
    | exact(if_pos (by unfold A25;first|(simp_all;done)|(simp_all;omega))).symm
    | exact(if_neg (fun h=>by
       unfold A25 at h;rcases h with h|h|h|h<;>first|(exfalso;omega)|(simp_all;done)|(simp_all;omega))).symm
  ·cases hs
 ·cases hs
noncomputable def C6B:List (FuncId×FnC):=(75,I2 Tryz.prog [.a [8,8,8,8,8,8,8,8,8,8,8,3,8]] B0p [.s 3])::(13,I2 Tryz.prog [.a [3,3,3,3,3,3,3,9]] U2 [.s 3])::L0
theorem C1T{G:Nat→Option Obj}(hst:B7 Tryz.prog G gl H0 n0):F6 Tryz.prog G gl C6B:=(.cons (C8h hst) (.cons (C4q hst) .nil))
def A6A:List U→Option (Nat×List U)
 | [.bool b0,.bool b1,.bool ck,.bool b3,.bool b4,.bool b5,.bool b6,.bool pa,.bool fo,.bool b9,.bool b10,.int .i64 mo,.bool sg,.int .i64 k,.int .i64 c,.int .i64 m,.int .i64 w,.int .i64 b,.int .i64 r,.int .i64 cl,.str t]=>if -9223372036854775808≤m∧m≤9223372036854775807∧(t.length:Int)≤140737488351232 then some (0,[.int .i64 (j9 mo k c m w b r cl t)])else none
 | _=>none
theorem B6W(b0:Bool)(b1:Bool)(ck:Bool)(b3:Bool)(b4:Bool)(b5:Bool)(b6:Bool)(pa:Bool)(fo:Bool)(b9:Bool)(b10:Bool)(mo:Int)(sg:Bool)(k:Int)(c:Int)(m:Int)(w:Int)(b:Int)(r:Int)(cl:Int)(t:(List UInt8))(hc : -9223372036854775808≤m∧m≤9223372036854775807∧(t.length:Int)≤140737488351232):A6A [.bool b0,.bool b1,.bool ck,.bool b3,.bool b4,.bool b5,.bool b6,.bool pa,.bool fo,.bool b9,.bool b10,.int .i64 mo,.bool sg,.int .i64 k,.int .i64 c,.int .i64 m,.int .i64 w,.int .i64 b,.int .i64 r,.int .i64 cl,.str t]=some (0,[.int .i64 (j9 mo k c m w b r cl t)]):=if_pos hc
def C4r:Tr:=.fn B0p [h 0 8,h 1 8,h 2 8,h 3 8,h 4 8,h 5 8,h 6 8,h 7 8,h 8 8,h 9 8,h 10 8,h3 11,h 12 8] 1<|aN [h3 21,jI 0]<|.br 22 (.ret [h3 21]) (.fn U2 [h3 13,h3 14,h3 15,h3 16,h3 17,h3 18,h3 19,h 20 9] 1<|.ret [h3 23])
theorem C4s{G:Nat→Option Obj}(hst:B7 Tryz.prog G gl H0 n0):K2 Tryz.prog G 48 [.a [8,8,8,8,8,8,8,8,8,8,8,3,8],.a [3,3,3,3,3,3,3,9]] A6A [.s 3]:=by
 refine E4 (C:=cx C6B B1W) (d:=60) C4r (cxg (C1T hst) (A4Q hst)) hst ⟨Tryz.f48,_,Tryz.func48,rfl⟩ (by kernel_rfl) (by kernel_rfl) ?_;intro us outs hs;unfold A6A at hs;split at hs
 ·skip;rename_i b0 b1 ck b3 b4 b5 b6 pa fo b9 b10 mo sg k c m w b r cl t;split at hs
  ·rename_i hc;cases hs;unfold C4r;refine s0L ?_;show Tr.sav _ _ (.cons 20 _ (.cons 19 _ (.cons 18 _ (.cons 17 _ (.cons 16 _ (.cons 15 _ (.cons 14 _ (.cons 13 _ (.cons 12 _ (.cons 11 _ (.cons 10 _ (.cons 9 _ (.cons 8 _ (.cons 7 _ (.cons 6 _ (.cons 5 _ (.cons 4 _ (.cons 3 _ (.cons 2 _ (.cons 1 _ (.cons 0 _ (.nil))))))))))))))))))))));refine Wk.s ?_;repeat (first|(refine w7 [.int .i64 _] ?_;rotate_left)|refine w31 B0p (e:=C2d _ _ _ _ _ _ _ _ _ _ _ _ _) (k':=?_)|refine A0I ?_|refine w4 (fun g=>?_) fun g=>?_|refine w31 U2 (e:=o8 _ _ _ _ _ _ _ _ hc) (k':=?_))
   all_goals
    refine l0 ?_;rw[← C9L];first|(simp_all;done)
  ·cases hs
 ·cases hs
noncomputable def C5_:List (FuncId×FnC):=(48,I2 Tryz.prog [.a [8,8,8,8,8,8,8,8,8,8,8,3,8],.a [3,3,3,3,3,3,3,9]] A6A [.s 3])::(49,I2 Tryz.prog [.a [8,8,8,8,8,8,8,8,8,8,8,3,8],.a [3,3,3,3,3,3,3,9]] A5A [.a [3,3,3,3,3,3,3,9],.s 8])::L0
theorem C1R{G:Nat→Option Obj}(hst:B7 Tryz.prog G gl H0 n0):F6 Tryz.prog G gl C5_:=(.cons (C4s hst) (.cons (C0j hst) .nil))
def B9k:List U→Option (Nat×List U)
 | [.bool b0,.bool b1,.bool ck,.bool b3,.bool b4,.bool b5,.bool b6,.bool pa,.bool fo,.bool b9,.bool b10,.int .i64 mo,.bool sg,.int .i64 k,.int .i64 c,.int .i64 m,.int .i64 w,.int .i64 b,.int .i64 r,.int .i64 cl,.str t]=>if -9223372036854775808≤m∧m≤9223372036854775807∧(t.length:Int)≤140737488351232 then some (0,[.int .i64 (ifI (cnS (j9 mo k c m w b r cl t) (isS pa fo mo k w b)) k),.int .i64 (ifI (cnS (j9 mo k c m w b r cl t) (isS pa fo mo k w b)) c),.int .i64 (ifI (cnS (j9 mo k c m w b r cl t) (isS pa fo mo k w b)) (B4N mo k m)),.int .i64 (ifI (cnS (j9 mo k c m w b r cl t) (isS pa fo mo k w b)) w),.int .i64 (ifI (cnS (j9 mo k c m w b r cl t) (isS pa fo mo k w b)) (B4O sg k w b)),.int .i64 (ifI (cnS (j9 mo k c m w b r cl t) (isS pa fo mo k w b)) r),.int .i64 (ifI (cnS (j9 mo k c m w b r cl t) (isS pa fo mo k w b)) cl),.str (ifT (cnS (j9 mo k c m w b r cl t) (isS pa fo mo k w b)) t),.bool (cnS (j9 mo k c m w b r cl t) (isS pa fo mo k w b)),.int .i64 (j9 mo k c m w b r cl t)])else none
 | _=>none
def C4o:Tr:=.fn A6A [h 0 8,h 1 8,h 2 8,h 3 8,h 4 8,h 5 8,h 6 8,h 7 8,h 8 8,h 9 8,h 10 8,h3 11,h 12 8,h3 13,h3 14,h3 15,h3 16,h3 17,h3 18,h3 19,h 20 9] 1<|aN [h3 21,jI 0]<|.br 22 (.ret [jI 0,jI 0,jI 0,jI 0,jI 0,jI 0,jI 0,.string ⟨⟨[]⟩⟩,.bool false,h3 21]) (.fn A5A [h 0 8,h 1 8,h 2 8,h 3 8,h 4 8,h 5 8,h 6 8,h 7 8,h 8 8,h 9 8,h 10 8,h3 11,h 12 8,h3 13,h3 14,h3 15,h3 16,h3 17,h3 18,h3 19,h 20 9] 9<|.ret [h3 23,h3 24,h3 25,h3 26,h3 27,h3 28,h3 29,h 30 9,h 31 8,jI 0])
theorem C8v{G:Nat→Option Obj}(hst:B7 Tryz.prog G gl H0 n0):K2 Tryz.prog G 24 [.a [8,8,8,8,8,8,8,8,8,8,8,3,8],.a [3,3,3,3,3,3,3,9]] B9k [.a [3,3,3,3,3,3,3,9],.s 8,.s 3]:=by
 refine E4 (C:=cx C5_ B1W) (d:=60) C4o (cxg (C1R hst) (A4Q hst)) hst ⟨Tryz.f24,_,Tryz.func24,rfl⟩ (by kernel_rfl) (by kernel_rfl) ?_;intro us outs hs;unfold B9k at hs;split at hs
 ·skip;rename_i b0 b1 ck b3 b4 b5 b6 pa fo b9 b10 mo sg k c m w b r cl t;split at hs
  ·rename_i hc;cases hs;unfold C4o;refine s0L ?_;show Tr.sav _ _ (.cons 20 _ (.cons 19 _ (.cons 18 _ (.cons 17 _ (.cons 16 _ (.cons 15 _ (.cons 14 _ (.cons 13 _ (.cons 12 _ (.cons 11 _ (.cons 10 _ (.cons 9 _ (.cons 8 _ (.cons 7 _ (.cons 6 _ (.cons 5 _ (.cons 4 _ (.cons 3 _ (.cons 2 _ (.cons 1 _ (.cons 0 _ (.nil))))))))))))))))))))));refine Wk.s ?_;refine w31 A6A (e:=B6W _ _ _ _ _ _ _ _ _ _ _ _ _ _ _ _ _ _ _ _ _ hc) (k':=?_);refine A0I ?_;refine w4 (fun g0=>?_) fun g0=>?_
   ·refine w7 [.int .i64 _,.int .i64 _,.int .i64 _,.int .i64 _,.int .i64 _,.int .i64 _,.int .i64 _,.str _,.bool _,.int .i64 _] ?_;first|(rw[C9V (e:=j9 mo k c m w b r cl t) g0];rfl)|(rw[show j9 mo k c m w b r cl t=0 from C6.1 g0];rfl)
   refine w3 A5A (e:=B6y _ _ _ _ _ _ _ _ _ _ _ _ _ _ _ _ _ _ _ _ _ (fun e=>C8f (A1g (C0H (mo:=mo) (C6.1 g0)).2 e))) (k':=?_);show Wk _ _ (.cons _ _ (.cons _ _ (.cons _ _ (.cons _ _ (.cons _ _ (.cons _ _ (.cons _ _ (.cons _ _ (.cons _ _ _)))))))));refine w7 [.int .i64 _,.int .i64 _,.int .i64 _,.int .i64 _,.int .i64 _,.int .i64 _,.int .i64 _,.str _,.bool _,.int .i64 _] ?_;first|(rw[C9V (e:=j9 mo k c m w b r cl t) g0];rfl)|(rw[show j9 mo k c m w b r cl t=0 from C6.1 g0];rfl)
  ·cases hs
 ·cases hs
def C3N(e:Int)(z:Bool)(s:List UInt8):Option (List Int):=if e=0 then(if z then none else some (bI s))else none
theorem C7h{e:Int}{z:Bool}{s:List UInt8}(h:e≠0):C3N e z s=none:=if_neg h
theorem A1m{z:Bool}{s:List UInt8}(h:z=true):C3N 0 z s=none:=by subst h;rfl
theorem G8{z:Bool}{s t:List UInt8}(h:z=false)(h2:t=s):C3N 0 z s=some (bI t):=by subst h h2;rfl
def B5B(k:Int)(z:Bool):Bool:=decide (k≠3) && !z
theorem A1Y{k:Int}{z:Bool}(h:k≠3)(h2:z=false):B5B k z=true:=by unfold B5B;rw[decide_eq_true h,h2];rfl
theorem A1Z{k:Int}{z:Bool}(h:k=3):B5B k z=false:=by unfold B5B;rw[decide_eq_false (fun q=>q h)];rfl
theorem J0{k:Int}{z:Bool}(h:z=true):B5B k z=false:=by unfold B5B;rw[h,O4,S5]
theorem A70{pa fo:Bool}{mo k w b:Int}(h:k=3):isS pa fo mo k w b=pa:=by unfold isS;rw[if_pos h]
theorem C5K{sg:Bool}{b0 b1 ck b3 b4 b5 b6 pa fo b9 b10:Bool}{mo k c m w b r cl:Int}{t:List UInt8}{z:Bool}(hz:z=true)(h:msP m w b r cl):R5 [.bool b0,.bool b1,.bool ck,.bool b3,.bool b4,.bool b5,.bool b6,.bool pa,.bool fo,.bool b9,.bool b10,.int .i64 mo,.bool sg,.int .i64 (ifI z k),.int .i64 (ifI z c),.int .i64 (ifI z m),.int .i64 (ifI z w),.int .i64 (ifI z b),.int .i64 (ifI z r),.int .i64 (ifI z cl),.str (ifT z t)]=some (0,[.str (moS sg m w b r cl)]):=by
 subst hz;exact p0 b0 b1 ck b3 b4 b5 b6 pa fo b9 b10 mo sg k c m w b r cl t h
theorem A9U{ck pa fo sg:Bool}{mo k c m w b r cl:Int}{t:List UInt8}(h:k=3)(hp:pa=false):enS ck pa fo sg mo k c m w b r cl t=t:=if_pos ⟨h,hp⟩
theorem A9Y{ck pa fo sg:Bool}{mo k c m w b r cl:Int}{t:List UInt8}(hz:isS pa fo mo k w b=true)(h:k=1):enS ck pa fo sg mo k c m w b r cl t=keS ck c m:=by
 unfold enS;rw[if_neg (fun g=>by have:=g.1;omega),if_neg (by rw[hz];decide),if_pos h]
theorem A9X{ck pa fo sg:Bool}{mo k c m w b r cl:Int}{t:List UInt8}(hz:isS pa fo mo k w b=true)(h:k=2):enS ck pa fo sg mo k c m w b r cl t=moS sg (B4N mo k m) w (B4O sg k w b) r cl:=by
 unfold enS;rw[if_neg (fun g=>by have:=g.1;omega),if_neg (by rw[hz];decide),if_neg (by omega),if_pos h]
theorem A9W{ck pa fo sg:Bool}{mo k c m w b r cl:Int}{t:List UInt8}(hz:isS pa fo mo k w b=true)(h:k=3):enS ck pa fo sg mo k c m w b r cl t=[27,91,50,48,48,126]++t++[27,91,50,48,49,126]:=by
 have hp:pa=true:=by rw[← A70 (pa:=pa) (fo:=fo) (mo:=mo) (w:=w) (b:=b) h];exact hz
 unfold enS;rw[if_neg (by rw[hp];simp),if_neg (by rw[hz];decide),if_neg (by omega),if_neg (by omega),if_pos h]
theorem A9V{ck pa fo sg:Bool}{mo k c m w b r cl:Int}{t x:List UInt8}(hz:isS pa fo mo k w b=true)(h1:k≠1)(h2:k≠2)(h3:k≠3)(h:x=if w=0 then[79]else[73]):[27,91]++x=enS ck pa fo sg mo k c m w b r cl t:=by
 rw[h];unfold enS;rw[if_neg (c:=k=3∧pa=false) (fun g=>h3 g.1),if_neg (c:=isS pa fo mo k w b=false) (by rw[hz];decide),if_neg h1,if_neg h2,if_neg h3]
theorem B5E{z:Bool}(h:(!z)=true):z=false:=by cases z<;>first|rfl|cases h
theorem A2H{z:Bool}(h:(!z)=false):z=true:=by cases z<;>first|rfl|cases h
theorem A1Q{w:Int}(h0:0≤w)(h1:w≤1):(([79,73]:List UInt8).drop w.toNat).take ((w+1).toNat-w.toNat)=if w=0 then[79]else[73]:=by
 have:w=0∨w=1:=by omega
 rcases this with rfl|rfl<;>rfl
noncomputable def C58:List (FuncId×FnC):=(48,I2 Tryz.prog [.a [8,8,8,8,8,8,8,8,8,8,8,3,8],.a [3,3,3,3,3,3,3,9]] A6A [.s 3])::(49,I2 Tryz.prog [.a [8,8,8,8,8,8,8,8,8,8,8,3,8],.a [3,3,3,3,3,3,3,9]] A5A [.a [3,3,3,3,3,3,3,9],.s 8])::(50,I2 Tryz.prog [.a [8,8,8,8,8,8,8,8,8,8,8,3,8],.a [3,3,3,3,3,3,3,9]] d8 [.s 9])::(51,I2 Tryz.prog [.a [8,8,8,8,8,8,8,8,8,8,8,3,8],.a [3,3,3,3,3,3,3,9]] R5 [.s 9])::L0
theorem C1P{G:Nat→Option Obj}(hst:B7 Tryz.prog G gl H0 n0):F6 Tryz.prog G gl C58:=(.cons (C4s hst) (.cons (C0j hst) (.cons (A3R hst) (.cons (C5L hst) .nil))))
def B6V:List U→Option (Nat×List U)
 | [.bool b0,.bool b1,.bool ck,.bool b3,.bool b4,.bool b5,.bool b6,.bool pa,.bool fo,.bool b9,.bool b10,.int .i64 mo,.bool sg,.int .i64 k,.int .i64 c,.int .i64 m,.int .i64 w,.int .i64 b,.int .i64 r,.int .i64 cl,.str t]=>if -9223372036854775808≤m∧m≤9223372036854775807∧(t.length:Int)≤140737488351232 then some (0,[A7 rB (C3N (j9 mo k c m w b r cl t) (B5B k (isS pa fo mo k w b)) (enS ck pa fo sg mo k c m w b r cl t)),.int .i64 (j9 mo k c m w b r cl t)])else none
 | _=>none
def C4j:Tr:=.fn A6A [h 0 8,h 1 8,h 2 8,h 3 8,h 4 8,h 5 8,h 6 8,h 7 8,h 8 8,h 9 8,h 10 8,h3 11,h 12 8,h3 13,h3 14,h3 15,h3 16,h3 17,h3 18,h3 19,h 20 9] 1<|aN [h3 21,jI 0]<|.br 22 (.dt 11 (.nilw 1) []<|.ret [h 23 11,h3 21]) (.fn A5A [h 0 8,h 1 8,h 2 8,h 3 8,h 4 8,h 5 8,h 6 8,h 7 8,h 8 8,h 9 8,h 10 8,h3 11,h 12 8,h3 13,h3 14,h3 15,h3 16,h3 17,h3 18,h3 19,h 20 9] 9<|aX [h 31 8]<|.br 32 (aE [h3 13,jI 3]<|.br 33 (.dt 11 (.byt) [h 20 9]<|.ret [h 34 11,jI 0]) (aX [h 31 8]<|.br 34 (.dt 11 (.nilw 1) []<|.ret [h 35 11,jI 0]) (aE [h3 13,jI 1]<|.br 35 (.fn d8 [h 0 8,h 1 8,h 2 8,h 3 8,h 4 8,h 5 8,h 6 8,h 7 8,h 8 8,h 9 8,h 10 8,h3 11,h 12 8,h3 13,h3 14,h3 15,h3 16,h3 17,h3 18,h3 19,h 20 9] 1<|.dt 11 (.byt) [h 36 9]<|.ret [h 37 11,jI 0]) (aE [h3 13,jI 2]<|.br 36 (.fn R5 [h 0 8,h 1 8,h 2 8,h 3 8,h 4 8,h 5 8,h 6 8,h 7 8,h 8 8,h 9 8,h 10 8,h3 11,h 12 8,h3 23,h3 24,h3 25,h3 26,h3 27,h3 28,h3 29,h 30 9] 1<|.dt 11 (.byt) [h 37 9]<|.ret [h 38 11,jI 0]) (aE [h3 13,jI 3]<|.br 37 (aC [.string ⟨⟨[27,91,50,48,48,126]⟩⟩,h 20 9]<|aC [h 38 9,.string ⟨⟨[27,91,50,48,49,126]⟩⟩]<|.dt 11 (.byt) [h 39 9]<|.ret [h 40 11,jI 0]) (aA [h3 16,jI 1]<|.lt 9 (.sub) [.string ⟨⟨[79,73]⟩⟩,h3 16,h3 38]<|aC [.string ⟨⟨[27,91]⟩⟩,h 39 9]<|.dt 11 (.byt) [h 40 9]<|.ret [h 41 11,jI 0])))))) (aX [h 31 8]<|.br 33 (.dt 11 (.nilw 1) []<|.ret [h 34 11,jI 0]) (aE [h3 13,jI 1]<|.br 34 (.fn d8 [h 0 8,h 1 8,h 2 8,h 3 8,h 4 8,h 5 8,h 6 8,h 7 8,h 8 8,h 9 8,h 10 8,h3 11,h 12 8,h3 13,h3 14,h3 15,h3 16,h3 17,h3 18,h3 19,h 20 9] 1<|.dt 11 (.byt) [h 35 9]<|.ret [h 36 11,jI 0]) (aE [h3 13,jI 2]<|.br 35 (.fn R5 [h 0 8,h 1 8,h 2 8,h 3 8,h 4 8,h 5 8,h 6 8,h 7 8,h 8 8,h 9 8,h 10 8,h3 11,h 12 8,h3 23,h3 24,h3 25,h3 26,h3 27,h3 28,h3 29,h 30 9] 1<|.dt 11 (.byt) [h 36 9]<|.ret [h 37 11,jI 0]) (aE [h3 13,jI 3]<|.br 36 (aC [.string ⟨⟨[27,91,50,48,48,126]⟩⟩,h 20 9]<|aC [h 37 9,.string ⟨⟨[27,91,50,48,49,126]⟩⟩]<|.dt 11 (.byt) [h 38 9]<|.ret [h 39 11,jI 0]) (aA [h3 16,jI 1]<|.lt 9 (.sub) [.string ⟨⟨[79,73]⟩⟩,h3 16,h3 37]<|aC [.string ⟨⟨[27,91]⟩⟩,h 38 9]<|.dt 11 (.byt) [h 39 9]<|.ret [h 40 11,jI 0]))))))
theorem C4k{G:Nat→Option Obj}(hst:B7 Tryz.prog G gl H0 n0):K2 Tryz.prog G 23 [.a [8,8,8,8,8,8,8,8,8,8,8,3,8],.a [3,3,3,3,3,3,3,9]] B6V [.s 11,.s 3]:=by
 refine E4 (C:=cx C58 B1W) (d:=60) C4j (cxg (C1P hst) (A4Q hst)) hst ⟨Tryz.f23,_,Tryz.func23,rfl⟩ (by kernel_rfl) (by kernel_rfl) ?_;intro us outs hs;unfold B6V at hs;split at hs
 ·skip;rename_i b0 b1 ck b3 b4 b5 b6 pa fo b9 b10 mo sg k c m w b r cl t;split at hs
  ·rename_i hc;cases hs;unfold C4j;refine s0L ?_;show Tr.sav _ _ (.cons 20 _ (.cons 19 _ (.cons 18 _ (.cons 17 _ (.cons 16 _ (.cons 15 _ (.cons 14 _ (.cons 13 _ (.cons 12 _ (.cons 11 _ (.cons 10 _ (.cons 9 _ (.cons 8 _ (.cons 7 _ (.cons 6 _ (.cons 5 _ (.cons 4 _ (.cons 3 _ (.cons 2 _ (.cons 1 _ (.cons 0 _ (.nil))))))))))))))))))))));refine Wk.s ?_;refine w31 A6A (e:=B6W _ _ _ _ _ _ _ _ _ _ _ _ _ _ _ _ _ _ _ _ _ hc) (k':=?_);refine A0I ?_;refine w4 (fun g0=>?_) fun g0=>?_
   ·refine w2 (.nilw 1) (r:=rB) (e:=D9 rfl) (k':=?_);refine w7 [A7 rB _,.int .i64 _] ?_;rw[C7h (e:=j9 mo k c m w b r cl t) g0]
   have z2:=(C0H (mo:=mo) (C6.1 g0)).2;have z3:=C85 z2;refine w3 A5A (e:=B6y _ _ _ _ _ _ _ _ _ _ _ _ _ _ _ _ _ _ _ _ _ (fun e=>C8f (A1g (C0H (mo:=mo) (C6.1 g0)).2 e))) (k':=?_);show Wk _ _ (.cons _ _ (.cons _ _ (.cons _ _ (.cons _ _ (.cons _ _ (.cons _ _ (.cons _ _ (.cons _ _ (.cons _ _ _)))))))));first|refine d7 ?_|refine A3e ?_
   first|refine w4 (fun g1=>?_) (fun g1=>?_)|refine w4B (fun g1=>?_) (fun g1=>?_)
   ·refine O1 ?_;refine w4 (fun g2=>?_) fun g2=>?_
    ·refine w2 (.byt) (r:=rB) (e:=A0c _ rfl) (k':=?_);refine w7 [A7 rB _,.int .i64 _] ?_;have hz:=B5E g1;rw[show j9 mo k c m w b r cl t=0 from C6.1 g0];first
     | (exfalso;simp_all;done)
     | (rw[A1m (A1Y (by omega) hz)];done)
     | (rw[G8 (A1Z (by omega)) (A9U (by omega) (by rw[← A70 (pa:=pa) (fo:=fo) (mo:=mo) (w:=w) (b:=b) (by omega)];exact hz)).symm];done)
     | (rw[G8 (J0 hz) (A9Y hz (by omega)).symm];done)
     | (rw[G8 (J0 hz) (A9X hz (by omega)).symm];done)
     | (rw[G8 (J0 hz) (A9W hz (by omega)).symm];done)
     | (rw[G8 (J0 hz) (A9V hz (by omega) (by omega) (by omega) (A1Q (z3.2.2.2 (by omega)).1 (z3.2.2.2 (by omega)).2))];done)
    first|refine d7 ?_|refine A3e ?_
    first|refine w4 (fun g3=>?_) (fun g3=>?_)|refine w4B (fun g3=>?_) (fun g3=>?_)
    ·refine w2 (.nilw 1) (r:=rB) (e:=D9 rfl) (k':=?_);refine w7 [A7 rB _,.int .i64 _] ?_;have hz:=B5E g1;rw[show j9 mo k c m w b r cl t=0 from C6.1 g0];first
     | (exfalso;simp_all;done)
     | (rw[A1m (A1Y (by omega) hz)];done)
     | (rw[G8 (A1Z (by omega)) (A9U (by omega) (by rw[← A70 (pa:=pa) (fo:=fo) (mo:=mo) (w:=w) (b:=b) (by omega)];exact hz)).symm];done)
     | (rw[G8 (J0 hz) (A9Y hz (by omega)).symm];done)
     | (rw[G8 (J0 hz) (A9X hz (by omega)).symm];done)
     | (rw[G8 (J0 hz) (A9W hz (by omega)).symm];done)
     | (rw[G8 (J0 hz) (A9V hz (by omega) (by omega) (by omega) (A1Q (z3.2.2.2 (by omega)).1 (z3.2.2.2 (by omega)).2))];done)
    refine O1 ?_;refine w4 (fun g4=>?_) fun g4=>?_
    ·refine w31 d8 (e:=B2S _ _ _ _ _ _ _ _ _ _ _ _ _ _ _ _ _ _ _ _ _ (C4x z2 ‹_›)) (k':=?_);refine w2 (.byt) (r:=rB) (e:=A0c _ rfl) (k':=?_);refine w7 [A7 rB _,.int .i64 _] ?_;have hz:=B5E g1;rw[show j9 mo k c m w b r cl t=0 from C6.1 g0];first
     | (exfalso;simp_all;done)
     | (rw[A1m (A1Y (by omega) hz)];done)
     | (rw[G8 (A1Z (by omega)) (A9U (by omega) (by rw[← A70 (pa:=pa) (fo:=fo) (mo:=mo) (w:=w) (b:=b) (by omega)];exact hz)).symm];done)
     | (rw[G8 (J0 hz) (A9Y hz (by omega)).symm];done)
     | (rw[G8 (J0 hz) (A9X hz (by omega)).symm];done)
     | (rw[G8 (J0 hz) (A9W hz (by omega)).symm];done)
     | (rw[G8 (J0 hz) (A9V hz (by omega) (by omega) (by omega) (A1Q (z3.2.2.2 (by omega)).1 (z3.2.2.2 (by omega)).2))];done)
    refine O1 ?_;refine w4 (fun g5=>?_) fun g5=>?_
    ·refine w31 R5 (e:=C5K (by first|exact A2H g1|(exfalso;simp_all;done)) (B9Q (A1g z2 ‹_›))) (k':=?_);refine w2 (.byt) (r:=rB) (e:=A0c _ rfl) (k':=?_);refine w7 [A7 rB _,.int .i64 _] ?_;have hz:=B5E g1;rw[show j9 mo k c m w b r cl t=0 from C6.1 g0];first
     | (exfalso;simp_all;done)
     | (rw[A1m (A1Y (by omega) hz)];done)
     | (rw[G8 (A1Z (by omega)) (A9U (by omega) (by rw[← A70 (pa:=pa) (fo:=fo) (mo:=mo) (w:=w) (b:=b) (by omega)];exact hz)).symm];done)
     | (rw[G8 (J0 hz) (A9Y hz (by omega)).symm];done)
     | (rw[G8 (J0 hz) (A9X hz (by omega)).symm];done)
     | (rw[G8 (J0 hz) (A9W hz (by omega)).symm];done)
     | (rw[G8 (J0 hz) (A9V hz (by omega) (by omega) (by omega) (A1Q (z3.2.2.2 (by omega)).1 (z3.2.2.2 (by omega)).2))];done)
    refine O1 ?_;refine w4 (fun g6=>?_) fun g6=>?_
    ·refine w1 (.bin .add) (e:=U9 _ _ (by simp only[B1,B9,E3,F2,D3];omega)) (k':=?_);refine w1 (.bin .add) (e:=U9 _ _ (by simp only[B1,B9,E3,F2,D3];omega)) (k':=?_);refine w2 (.byt) (r:=rB) (e:=A0c _ rfl) (k':=?_);refine w7 [A7 rB _,.int .i64 _] ?_;have hz:=B5E g1;rw[show j9 mo k c m w b r cl t=0 from C6.1 g0];first
     | (exfalso;simp_all;done)
     | (rw[A1m (A1Y (by omega) hz)];done)
     | (rw[G8 (A1Z (by omega)) (A9U (by omega) (by rw[← A70 (pa:=pa) (fo:=fo) (mo:=mo) (w:=w) (b:=b) (by omega)];exact hz)).symm];done)
     | (rw[G8 (J0 hz) (A9Y hz (by omega)).symm];done)
     | (rw[G8 (J0 hz) (A9X hz (by omega)).symm];done)
     | (rw[G8 (J0 hz) (A9W hz (by omega)).symm];done)
     | (rw[G8 (J0 hz) (A9V hz (by omega) (by omega) (by omega) (A1Q (z3.2.2.2 (by omega)).1 (z3.2.2.2 (by omega)).2))];done)
    first|refine W6 ?_|refine O5 ?_
    refine B8J ?_;refine w1 (.bin .add) (e:=U9 _ _ (by simp only[B1,B9,E3,F2,D3];omega)) (k':=?_);refine w2 (.byt) (r:=rB) (e:=A0c _ rfl) (k':=?_);refine w7 [A7 rB _,.int .i64 _] ?_;have hz:=B5E g1;rw[show j9 mo k c m w b r cl t=0 from C6.1 g0];first
    | (exfalso;simp_all;done)
    | (rw[A1m (A1Y (by omega) hz)];done)
    | (rw[G8 (A1Z (by omega)) (A9U (by omega) (by rw[← A70 (pa:=pa) (fo:=fo) (mo:=mo) (w:=w) (b:=b) (by omega)];exact hz)).symm];done)
    | (rw[G8 (J0 hz) (A9Y hz (by omega)).symm];done)
    | (rw[G8 (J0 hz) (A9X hz (by omega)).symm];done)
    | (rw[G8 (J0 hz) (A9W hz (by omega)).symm];done)
    | (rw[G8 (J0 hz) (A9V hz (by omega) (by omega) (by omega) (A1Q (z3.2.2.2 (by omega)).1 (z3.2.2.2 (by omega)).2))];done)
   first|refine d7 ?_|refine A3e ?_
   first|refine w4 (fun g2=>?_) (fun g2=>?_)|refine w4B (fun g2=>?_) (fun g2=>?_)
   ·refine w2 (.nilw 1) (r:=rB) (e:=D9 rfl) (k':=?_);refine w7 [A7 rB _,.int .i64 _] ?_;have hz:=A2H g1;rw[show j9 mo k c m w b r cl t=0 from C6.1 g0];first
    | (exfalso;simp_all;done)
    | (rw[A1m (A1Y (by omega) hz)];done)
    | (rw[G8 (A1Z (by omega)) (A9U (by omega) (by rw[← A70 (pa:=pa) (fo:=fo) (mo:=mo) (w:=w) (b:=b) (by omega)];exact hz)).symm];done)
    | (rw[G8 (J0 hz) (A9Y hz (by omega)).symm];done)
    | (rw[G8 (J0 hz) (A9X hz (by omega)).symm];done)
    | (rw[G8 (J0 hz) (A9W hz (by omega)).symm];done)
    | (rw[G8 (J0 hz) (A9V hz (by omega) (by omega) (by omega) (A1Q (z3.2.2.2 (by omega)).1 (z3.2.2.2 (by omega)).2))];done)
   refine O1 ?_;refine w4 (fun g3=>?_) fun g3=>?_
   ·refine w31 d8 (e:=B2S _ _ _ _ _ _ _ _ _ _ _ _ _ _ _ _ _ _ _ _ _ (C4x z2 ‹_›)) (k':=?_);refine w2 (.byt) (r:=rB) (e:=A0c _ rfl) (k':=?_);refine w7 [A7 rB _,.int .i64 _] ?_;have hz:=A2H g1;rw[show j9 mo k c m w b r cl t=0 from C6.1 g0];first
    | (exfalso;simp_all;done)
    | (rw[A1m (A1Y (by omega) hz)];done)
    | (rw[G8 (A1Z (by omega)) (A9U (by omega) (by rw[← A70 (pa:=pa) (fo:=fo) (mo:=mo) (w:=w) (b:=b) (by omega)];exact hz)).symm];done)
    | (rw[G8 (J0 hz) (A9Y hz (by omega)).symm];done)
    | (rw[G8 (J0 hz) (A9X hz (by omega)).symm];done)
    | (rw[G8 (J0 hz) (A9W hz (by omega)).symm];done)
    | (rw[G8 (J0 hz) (A9V hz (by omega) (by omega) (by omega) (A1Q (z3.2.2.2 (by omega)).1 (z3.2.2.2 (by omega)).2))];done)
   refine O1 ?_;refine w4 (fun g4=>?_) fun g4=>?_
   ·refine w31 R5 (e:=C5K (by first|exact A2H g1|(exfalso;simp_all;done)) (B9Q (A1g z2 ‹_›))) (k':=?_);refine w2 (.byt) (r:=rB) (e:=A0c _ rfl) (k':=?_);refine w7 [A7 rB _,.int .i64 _] ?_;have hz:=A2H g1;rw[show j9 mo k c m w b r cl t=0 from C6.1 g0];first
    | (exfalso;simp_all;done)
    | (rw[A1m (A1Y (by omega) hz)];done)
    | (rw[G8 (A1Z (by omega)) (A9U (by omega) (by rw[← A70 (pa:=pa) (fo:=fo) (mo:=mo) (w:=w) (b:=b) (by omega)];exact hz)).symm];done)
    | (rw[G8 (J0 hz) (A9Y hz (by omega)).symm];done)
    | (rw[G8 (J0 hz) (A9X hz (by omega)).symm];done)
    | (rw[G8 (J0 hz) (A9W hz (by omega)).symm];done)
    | (rw[G8 (J0 hz) (A9V hz (by omega) (by omega) (by omega) (A1Q (z3.2.2.2 (by omega)).1 (z3.2.2.2 (by omega)).2))];done)
   refine O1 ?_;refine w4 (fun g5=>?_) fun g5=>?_
   ·refine w1 (.bin .add) (e:=U9 _ _ (by simp only[B1,B9,E3,F2,D3];omega)) (k':=?_);refine w1 (.bin .add) (e:=U9 _ _ (by simp only[B1,B9,E3,F2,D3];omega)) (k':=?_);refine w2 (.byt) (r:=rB) (e:=A0c _ rfl) (k':=?_);refine w7 [A7 rB _,.int .i64 _] ?_;have hz:=A2H g1;rw[show j9 mo k c m w b r cl t=0 from C6.1 g0];first
    | (exfalso;simp_all;done)
    | (rw[A1m (A1Y (by omega) hz)];done)
    | (rw[G8 (A1Z (by omega)) (A9U (by omega) (by rw[← A70 (pa:=pa) (fo:=fo) (mo:=mo) (w:=w) (b:=b) (by omega)];exact hz)).symm];done)
    | (rw[G8 (J0 hz) (A9Y hz (by omega)).symm];done)
    | (rw[G8 (J0 hz) (A9X hz (by omega)).symm];done)
    | (rw[G8 (J0 hz) (A9W hz (by omega)).symm];done)
    | (rw[G8 (J0 hz) (A9V hz (by omega) (by omega) (by omega) (A1Q (z3.2.2.2 (by omega)).1 (z3.2.2.2 (by omega)).2))];done)
   first|refine W6 ?_|refine O5 ?_
   refine B8J ?_;refine w1 (.bin .add) (e:=U9 _ _ (by simp only[B1,B9,E3,F2,D3];omega)) (k':=?_);refine w2 (.byt) (r:=rB) (e:=A0c _ rfl) (k':=?_);refine w7 [A7 rB _,.int .i64 _] ?_;have hz:=A2H g1;rw[show j9 mo k c m w b r cl t=0 from C6.1 g0];first
   | (exfalso;simp_all;done)
   | (rw[A1m (A1Y (by omega) hz)];done)
   | (rw[G8 (A1Z (by omega)) (A9U (by omega) (by rw[← A70 (pa:=pa) (fo:=fo) (mo:=mo) (w:=w) (b:=b) (by omega)];exact hz)).symm];done)
   | (rw[G8 (J0 hz) (A9Y hz (by omega)).symm];done)
   | (rw[G8 (J0 hz) (A9X hz (by omega)).symm];done)
   | (rw[G8 (J0 hz) (A9W hz (by omega)).symm];done)
   | (rw[G8 (J0 hz) (A9V hz (by omega) (by omega) (by omega) (A1Q (z3.2.2.2 (by omega)).1 (z3.2.2.2 (by omega)).2))];done)
  ·cases hs
 ·cases hs
def rQ:Rw ((List UInt8)×Int×Int×Int×Int×Int×Int×Int×(List UInt8)):=rC C0k (rC (t7 .i64) (rC (t7 .i64) (rC (t7 .i64) (rC (t7 .i64) (rC (t7 .i64) (rC (t7 .i64) (rC (t7 .i64) (r1 C0k))))))))
abbrev Qt:=(List UInt8×Int×Int×Int×Int×Int×Int×Int×List UInt8)
def qq(a b:Qt):Bool:=(a.1 == b.1 && true)
def qR(s:List UInt8)(c m:Int):Qt:=(s,1,c,m,0,0,0,0,[])
def inQ(c:Int):Nat→Int→Option (List Qt)→Option (List Qt)
 | 0,_,x=>x
 | n+1,j,x=>inQ c n (j+1) (A3K qq (A3K qq x (qR (keS false c j) c j)) (qR (keS true c j) c j))
def otQ:Nat→Int→Option (List Qt)→Option (List Qt)
 | 0,_,x=>x
 | n+1,c,x=>otQ n (c+1) (inQ c 8 0 x)
theorem C88{c j:Int}{x:Option (List Qt)}(h:j<8):inQ c (8-j).toNat j x=inQ c (8-(j+1)).toNat (j+1) (A3K qq (A3K qq x (qR (keS false c j) c j)) (qR (keS true c j) c j)):=by
 rw[show(8-j).toNat=(8-(j+1)).toNat+1 by omega];rfl
theorem C89{c j:Int}{x:Option (List Qt)}(h:¬j<8):inQ c (8-j).toNat j x=x:=by
 rw[show(8-j).toNat=0 by omega];rfl
theorem C8S{c:Int}{x:Option (List Qt)}(h:c≤1114134):otQ (1114135-c).toNat c x=otQ (1114135-(c+1)).toNat (c+1) (inQ c 8 0 x):=by
 rw[show(1114135-c).toNat=(1114135-(c+1)).toNat+1 by omega];rfl
theorem C8T{c:Int}{x:Option (List Qt)}(h:¬c≤1114134):otQ (1114135-c).toNat c x=x:=by
 rw[show(1114135-c).toNat=0 by omega];rfl
theorem nn2{x:Option (List Qt)}{a:Qt}(h:x≠none):A3K qq x a≠none:=by
 cases x with
 | none=>exact absurd rfl h
 | some l=>exact L4 _
theorem C4y{c:Int}:∀ (n:Nat) (j:Int) {x:Option (List Qt)},x≠none→inQ c n j x≠none
 | 0,_,_,h=>h
 | n+1,j,_,h=>C4y n (j+1) (nn2 (nn2 h))
theorem C8s{c m:Int}(h:1114113≤c)(h2:c≤1114134)(h3:0≤m)(h4:m≤7):A6r c m:=.inr (.inl ⟨h,h2,h3,h4⟩)
noncomputable def C5x:List (FuncId×FnC):=(50,I2 Tryz.prog [.a [8,8,8,8,8,8,8,8,8,8,8,3,8],.a [3,3,3,3,3,3,3,9]] d8 [.s 9])::L0
theorem C1E{G:Nat→Option Obj}(hst:B7 Tryz.prog G gl H0 n0):F6 Tryz.prog G gl C5x:=(.cons (A3R hst) .nil)
def A3J:List U→Option (Nat×List U)
 | [.int .i64 c,.int .i64 j,u_x]=>(J6 rQ u_x).bind fun x=>if 1114113≤c∧c≤1114134∧0≤j∧j≤8∧x≠none then some (0,[.int .i64 c,A7 rQ (inQ c (8-j).toNat j x)])else none
 | _=>none
theorem A8B(c:Int)(j:Int)(x:(Option (List ((List UInt8)×Int×Int×Int×Int×Int×Int×Int×(List UInt8)))))(hc:1114113≤c∧c≤1114134∧0≤j∧j≤8∧x≠none):A3J [.int .i64 c,.int .i64 j,A7 rQ x]=some (0,[.int .i64 c,A7 rQ (inQ c (8-j).toNat j x)]):=by
 simp only[A3J,G6,D5];exact if_pos hc
def A8j:Q1:=⟨[(1,.map (some 6)),(2,h 0 3),(14,h 1 3)],[(6,.mp 2 19 81)],3,[⟨.exit 2,[(1,.map (some 6)),(2,h 0 3)],[(6,.mp 1 19 81)],2⟩]⟩
noncomputable def B8f:Code:=(Tryz.f72.body).getD .skip
noncomputable def C3_:Code:=match H4 [true,true,false,true,false,false,true,false,false,true,false] B8f with|some (.loop x)=>x|_=>.skip
theorem A8i:Tryz.f72.body=some B8f:=rfl
theorem A8h:H4 [true,true,false,true,false,false,true,false,false,true,false] B8f=some (.loop C3_):=by kernel_rfl
def C4A:Tr:=aL [h3 1,jI 8]<|.br 3 (.fn d8 [.bool false,.bool false,.bool false,.bool false,.bool false,.bool false,.bool false,.bool false,.bool false,.bool false,.bool false,jI 0,.bool false,jI 1,h3 0,h3 1,jI 0,jI 0,jI 0,jI 0,.string ⟨⟨[]⟩⟩] 1<|.dt 19 (.mput 9 1) [h 2 19,h 4 9,jI 1,h3 0,h3 1,jI 0,jI 0,jI 0,jI 0,.string ⟨⟨[]⟩⟩]<|.fn d8 [.bool false,.bool false,.bool true,.bool false,.bool false,.bool false,.bool false,.bool false,.bool false,.bool false,.bool false,jI 0,.bool false,jI 1,h3 0,h3 1,jI 0,jI 0,jI 0,jI 0,.string ⟨⟨[]⟩⟩] 1<|.dt 19 (.mput 9 1) [h 5 19,h 6 9,jI 1,h3 0,h3 1,jI 0,jI 0,jI 0,jI 0,.string ⟨⟨[]⟩⟩]<|aA [h3 1,jI 1]<|.ret [jI (-1),h3 0,h3 8,h 7 19]) (.ret [jI 0,h3 0,h 2 19])
def B8e:List U→Nat
 | [.int .i64 c,.int .i64 j,u_x]=>(match J6 rQ u_x with|some x=>(8-j).toNat|none=>0)
 | _=>0
theorem B8d(c:Int)(j:Int)(x:(Option (List ((List UInt8)×Int×Int×Int×Int×Int×Int×Int×(List UInt8))))):B8e [.int .i64 c,.int .i64 j,A7 rQ x]=(8-j).toNat:=by
 simp only[B8e,G6]
theorem B0U{G:Nat→Option Obj}(hst:B7 Tryz.prog G gl H0 n0):∀ (E:Nat→U) (base:Nat),@Y0 ⟨E,G⟩ Tryz.prog base gl Tryz.f72.ntmps C3_ (Q0 Tryz.prog gl n0 7 A8j A3J):=by
 refine A0Z (C:=cx C5x []) (dep:=60) (f:=72) (n0:=n0) (nB:=7) (H0:=H0) B8e C4A (cxg (C1E hst) .nil) hst Tryz.func72 A8i A8h (by kernel_rfl) (by kernel_rfl) (by kernel_rfl) ?_;intro us d outs hs;have hs0:=hs;unfold A3J at hs;split at hs
 ·skip;rename_i c j u_x;have hq_x:=A6.1 hs;clear hs;obtain⟨x,hd_x,hs⟩:=hq_x;replace hd_x:=F0 hd_x;subst hd_x;split at hs
  ·rename_i hc;clear hs hs0;refine⟨rfl,?_⟩;unfold C4A;refine w0 (.cons 2 _ (.cons 1 _ (.cons 0 _ (.nil)))) ?_;repeat (first|refine w31 d8 (e:=B2S _ _ _ _ _ _ _ _ _ _ _ _ _ _ _ _ _ _ _ _ _ (C8s (by omega) (by omega) (by omega) (by omega))) (k':=?_)|refine W6 ?_|refine O5 ?_|refine A1M ?_|refine w4 (fun g=>?_) fun g=>?_|refine w2 (.mput 9 1) (r:=rQ) (e:=x6 qq (qR (keS false c j) c j) rfl rfl (fun _=>rfl) (by first|exact hc.2.2.2.2|exact nn2 hc.2.2.2.2|exact hc.2.2|exact nn2 hc.2.2)) (k':=?_)|refine w2 (.mput 9 1) (r:=rQ) (e:=x6 qq (qR (keS true c j) c j) rfl rfl (fun _=>rfl) (by first|exact hc.2.2.2.2|exact nn2 hc.2.2.2.2|exact hc.2.2|exact nn2 hc.2.2)) (k':=?_)|(refine w7 [.int .i64 _,.int .i64 _,.int .i64 _,A7 rQ _] ?_;rotate_left)|(refine w7 [.int .i64 _,.int .i64 _,A7 rQ _] ?_;rotate_left))
   all_goals first
    | refine J5 ?_ ?_
      ·rw[A8B c (j+1) _ ⟨by omega,by omega,by omega,by omega,nn2 (nn2 hc.2.2.2.2)⟩,A8B c j x hc,C88 (c:=c) (j:=j) (x:=x) (by omega)]
      ·rw[B8d,B8d];omega
    | refine L2 (d:=0) ?_
      rw[A8B c j x hc,C89 (by omega)]
  ·cases hs
 ·cases hs
noncomputable def C6T:List LpE:=(72,([true,true,false,true,false,false,true,false,false,true,false],Q0 Tryz.prog gl n0 7 A8j A3J))::[]
theorem C1o{G:Nat→Option Obj}(hst:B7 Tryz.prog G gl H0 n0):y4 Tryz.prog G gl C6T:=.cons Tryz.func72 A8i A8h (B0U hst) .nil
def B7Q:List Qt:=[([27,91,90],1,1114136,1,0,0,0,0,[]),([27,91,79],4,0,0,0,0,0,0,[]),([27,91,73],4,0,0,1,0,0,0,[])]
def B3B:List Qt:=[([27,91,90],1,1114136,1,0,0,0,0,[]),([27,91,79],4,0,0,0,0,0,0,[]),([27,91,73],4,0,0,1,0,0,0,[]),([27,91,65],1,1114113,0,0,0,0,0,[]),([27,79,65],1,1114113,0,0,0,0,0,[]),([27,91,49,59,50,65],1,1114113,1,0,0,0,0,[]),([27,91,49,59,51,65],1,1114113,2,0,0,0,0,[]),([27,91,49,59,52,65],1,1114113,3,0,0,0,0,[]),([27,91,49,59,53,65],1,1114113,4,0,0,0,0,[]),([27,91,49,59,54,65],1,1114113,5,0,0,0,0,[]),([27,91,49,59,55,65],1,1114113,6,0,0,0,0,[]),([27,91,49,59,56,65],1,1114113,7,0,0,0,0,[]),([27,91,66],1,1114114,0,0,0,0,0,[]),([27,79,66],1,1114114,0,0,0,0,0,[]),([27,91,49,59,50,66],1,1114114,1,0,0,0,0,[]),([27,91,49,59,51,66],1,1114114,2,0,0,0,0,[]),([27,91,49,59,52,66],1,1114114,3,0,0,0,0,[]),([27,91,49,59,53,66],1,1114114,4,0,0,0,0,[]),([27,91,49,59,54,66],1,1114114,5,0,0,0,0,[]),([27,91,49,59,55,66],1,1114114,6,0,0,0,0,[]),([27,91,49,59,56,66],1,1114114,7,0,0,0,0,[]),([27,91,67],1,1114115,0,0,0,0,0,[]),([27,79,67],1,1114115,0,0,0,0,0,[]),([27,91,49,59,50,67],1,1114115,1,0,0,0,0,[]),([27,91,49,59,51,67],1,1114115,2,0,0,0,0,[]),([27,91,49,59,52,67],1,1114115,3,0,0,0,0,[]),([27,91,49,59,53,67],1,1114115,4,0,0,0,0,[]),([27,91,49,59,54,67],1,1114115,5,0,0,0,0,[]),([27,91,49,59,55,67],1,1114115,6,0,0,0,0,[]),([27,91,49,59,56,67],1,1114115,7,0,0,0,0,[]),([27,91,68],1,1114116,0,0,0,0,0,[]),([27,79,68],1,1114116,0,0,0,0,0,[]),([27,91,49,59,50,68],1,1114116,1,0,0,0,0,[]),([27,91,49,59,51,68],1,1114116,2,0,0,0,0,[]),([27,91,49,59,52,68],1,1114116,3,0,0,0,0,[]),([27,91,49,59,53,68],1,1114116,4,0,0,0,0,[]),([27,91,49,59,54,68],1,1114116,5,0,0,0,0,[]),([27,91,49,59,55,68],1,1114116,6,0,0,0,0,[]),([27,91,49,59,56,68],1,1114116,7,0,0,0,0,[]),([27,91,70],1,1114117,0,0,0,0,0,[]),([27,79,70],1,1114117,0,0,0,0,0,[]),([27,91,49,59,50,70],1,1114117,1,0,0,0,0,[]),([27,91,49,59,51,70],1,1114117,2,0,0,0,0,[]),([27,91,49,59,52,70],1,1114117,3,0,0,0,0,[]),([27,91,49,59,53,70],1,1114117,4,0,0,0,0,[]),([27,91,49,59,54,70],1,1114117,5,0,0,0,0,[]),([27,91,49,59,55,70],1,1114117,6,0,0,0,0,[]),([27,91,49,59,56,70],1,1114117,7,0,0,0,0,[]),([27,91,72],1,1114118,0,0,0,0,0,[]),([27,79,72],1,1114118,0,0,0,0,0,[]),([27,91,49,59,50,72],1,1114118,1,0,0,0,0,[]),([27,91,49,59,51,72],1,1114118,2,0,0,0,0,[]),([27,91,49,59,52,72],1,1114118,3,0,0,0,0,[]),([27,91,49,59,53,72],1,1114118,4,0,0,0,0,[]),([27,91,49,59,54,72],1,1114118,5,0,0,0,0,[]),([27,91,49,59,55,72],1,1114118,6,0,0,0,0,[]),([27,91,49,59,56,72],1,1114118,7,0,0,0,0,[]),([27,79,80],1,1114119,0,0,0,0,0,[]),([27,91,49,59,50,80],1,1114119,1,0,0,0,0,[]),([27,91,49,59,51,80],1,1114119,2,0,0,0,0,[]),([27,91,49,59,52,80],1,1114119,3,0,0,0,0,[]),([27,91,49,59,53,80],1,1114119,4,0,0,0,0,[]),([27,91,49,59,54,80],1,1114119,5,0,0,0,0,[]),([27,91,49,59,55,80],1,1114119,6,0,0,0,0,[]),([27,91,49,59,56,80],1,1114119,7,0,0,0,0,[]),([27,79,81],1,1114120,0,0,0,0,0,[]),([27,91,49,59,50,81],1,1114120,1,0,0,0,0,[]),([27,91,49,59,51,81],1,1114120,2,0,0,0,0,[]),([27,91,49,59,52,81],1,1114120,3,0,0,0,0,[]),([27,91,49,59,53,81],1,1114120,4,0,0,0,0,[]),([27,91,49,59,54,81],1,1114120,5,0,0,0,0,[]),([27,91,49,59,55,81],1,1114120,6,0,0,0,0,[]),([27,91,49,59,56,81],1,1114120,7,0,0,0,0,[]),([27,79,82],1,1114121,0,0,0,0,0,[]),([27,91,49,59,50,82],1,1114121,1,0,0,0,0,[]),([27,91,49,59,51,82],1,1114121,2,0,0,0,0,[]),([27,91,49,59,52,82],1,1114121,3,0,0,0,0,[]),([27,91,49,59,53,82],1,1114121,4,0,0,0,0,[]),([27,91,49,59,54,82],1,1114121,5,0,0,0,0,[]),([27,91,49,59,55,82],1,1114121,6,0,0,0,0,[]),([27,91,49,59,56,82],1,1114121,7,0,0,0,0,[]),([27,79,83],1,1114122,0,0,0,0,0,[]),([27,91,49,59,50,83],1,1114122,1,0,0,0,0,[]),([27,91,49,59,51,83],1,1114122,2,0,0,0,0,[]),([27,91,49,59,52,83],1,1114122,3,0,0,0,0,[]),([27,91,49,59,53,83],1,1114122,4,0,0,0,0,[]),([27,91,49,59,54,83],1,1114122,5,0,0,0,0,[]),([27,91,49,59,55,83],1,1114122,6,0,0,0,0,[]),([27,91,49,59,56,83],1,1114122,7,0,0,0,0,[]),([27,91,50,126],1,1114123,0,0,0,0,0,[]),([27,91,50,59,50,126],1,1114123,1,0,0,0,0,[]),([27,91,50,59,51,126],1,1114123,2,0,0,0,0,[]),([27,91,50,59,52,126],1,1114123,3,0,0,0,0,[]),([27,91,50,59,53,126],1,1114123,4,0,0,0,0,[]),([27,91,50,59,54,126],1,1114123,5,0,0,0,0,[]),([27,91,50,59,55,126],1,1114123,6,0,0,0,0,[]),([27,91,50,59,56,126],1,1114123,7,0,0,0,0,[]),([27,91,51,126],1,1114124,0,0,0,0,0,[]),([27,91,51,59,50,126],1,1114124,1,0,0,0,0,[]),([27,91,51,59,51,126],1,1114124,2,0,0,0,0,[]),([27,91,51,59,52,126],1,1114124,3,0,0,0,0,[]),([27,91,51,59,53,126],1,1114124,4,0,0,0,0,[]),([27,91,51,59,54,126],1,1114124,5,0,0,0,0,[]),([27,91,51,59,55,126],1,1114124,6,0,0,0,0,[]),([27,91,51,59,56,126],1,1114124,7,0,0,0,0,[]),([27,91,53,126],1,1114125,0,0,0,0,0,[]),([27,91,53,59,50,126],1,1114125,1,0,0,0,0,[]),([27,91,53,59,51,126],1,1114125,2,0,0,0,0,[]),([27,91,53,59,52,126],1,1114125,3,0,0,0,0,[]),([27,91,53,59,53,126],1,1114125,4,0,0,0,0,[]),([27,91,53,59,54,126],1,1114125,5,0,0,0,0,[]),([27,91,53,59,55,126],1,1114125,6,0,0,0,0,[]),([27,91,53,59,56,126],1,1114125,7,0,0,0,0,[]),([27,91,54,126],1,1114126,0,0,0,0,0,[]),([27,91,54,59,50,126],1,1114126,1,0,0,0,0,[]),([27,91,54,59,51,126],1,1114126,2,0,0,0,0,[]),([27,91,54,59,52,126],1,1114126,3,0,0,0,0,[]),([27,91,54,59,53,126],1,1114126,4,0,0,0,0,[]),([27,91,54,59,54,126],1,1114126,5,0,0,0,0,[]),([27,91,54,59,55,126],1,1114126,6,0,0,0,0,[]),([27,91,54,59,56,126],1,1114126,7,0,0,0,0,[]),([27,91,49,53,126],1,1114127,0,0,0,0,0,[]),([27,91,49,53,59,50,126],1,1114127,1,0,0,0,0,[]),([27,91,49,53,59,51,126],1,1114127,2,0,0,0,0,[]),([27,91,49,53,59,52,126],1,1114127,3,0,0,0,0,[]),([27,91,49,53,59,53,126],1,1114127,4,0,0,0,0,[]),([27,91,49,53,59,54,126],1,1114127,5,0,0,0,0,[]),([27,91,49,53,59,55,126],1,1114127,6,0,0,0,0,[]),([27,91,49,53,59,56,126],1,1114127,7,0,0,0,0,[]),([27,91,49,55,126],1,1114128,0,0,0,0,0,[]),([27,91,49,55,59,50,126],1,1114128,1,0,0,0,0,[]),([27,91,49,55,59,51,126],1,1114128,2,0,0,0,0,[]),([27,91,49,55,59,52,126],1,1114128,3,0,0,0,0,[]),([27,91,49,55,59,53,126],1,1114128,4,0,0,0,0,[]),([27,91,49,55,59,54,126],1,1114128,5,0,0,0,0,[]),([27,91,49,55,59,55,126],1,1114128,6,0,0,0,0,[]),([27,91,49,55,59,56,126],1,1114128,7,0,0,0,0,[]),([27,91,49,56,126],1,1114129,0,0,0,0,0,[]),([27,91,49,56,59,50,126],1,1114129,1,0,0,0,0,[]),([27,91,49,56,59,51,126],1,1114129,2,0,0,0,0,[]),([27,91,49,56,59,52,126],1,1114129,3,0,0,0,0,[]),([27,91,49,56,59,53,126],1,1114129,4,0,0,0,0,[]),([27,91,49,56,59,54,126],1,1114129,5,0,0,0,0,[]),([27,91,49,56,59,55,126],1,1114129,6,0,0,0,0,[]),([27,91,49,56,59,56,126],1,1114129,7,0,0,0,0,[]),([27,91,49,57,126],1,1114130,0,0,0,0,0,[]),([27,91,49,57,59,50,126],1,1114130,1,0,0,0,0,[]),([27,91,49,57,59,51,126],1,1114130,2,0,0,0,0,[]),([27,91,49,57,59,52,126],1,1114130,3,0,0,0,0,[]),([27,91,49,57,59,53,126],1,1114130,4,0,0,0,0,[]),([27,91,49,57,59,54,126],1,1114130,5,0,0,0,0,[]),([27,91,49,57,59,55,126],1,1114130,6,0,0,0,0,[]),([27,91,49,57,59,56,126],1,1114130,7,0,0,0,0,[]),([27,91,50,48,126],1,1114131,0,0,0,0,0,[]),([27,91,50,48,59,50,126],1,1114131,1,0,0,0,0,[]),([27,91,50,48,59,51,126],1,1114131,2,0,0,0,0,[]),([27,91,50,48,59,52,126],1,1114131,3,0,0,0,0,[]),([27,91,50,48,59,53,126],1,1114131,4,0,0,0,0,[]),([27,91,50,48,59,54,126],1,1114131,5,0,0,0,0,[]),([27,91,50,48,59,55,126],1,1114131,6,0,0,0,0,[]),([27,91,50,48,59,56,126],1,1114131,7,0,0,0,0,[]),([27,91,50,49,126],1,1114132,0,0,0,0,0,[]),([27,91,50,49,59,50,126],1,1114132,1,0,0,0,0,[]),([27,91,50,49,59,51,126],1,1114132,2,0,0,0,0,[]),([27,91,50,49,59,52,126],1,1114132,3,0,0,0,0,[]),([27,91,50,49,59,53,126],1,1114132,4,0,0,0,0,[]),([27,91,50,49,59,54,126],1,1114132,5,0,0,0,0,[]),([27,91,50,49,59,55,126],1,1114132,6,0,0,0,0,[]),([27,91,50,49,59,56,126],1,1114132,7,0,0,0,0,[]),([27,91,50,51,126],1,1114133,0,0,0,0,0,[]),([27,91,50,51,59,50,126],1,1114133,1,0,0,0,0,[]),([27,91,50,51,59,51,126],1,1114133,2,0,0,0,0,[]),([27,91,50,51,59,52,126],1,1114133,3,0,0,0,0,[]),([27,91,50,51,59,53,126],1,1114133,4,0,0,0,0,[]),([27,91,50,51,59,54,126],1,1114133,5,0,0,0,0,[]),([27,91,50,51,59,55,126],1,1114133,6,0,0,0,0,[]),([27,91,50,51,59,56,126],1,1114133,7,0,0,0,0,[]),([27,91,50,52,126],1,1114134,0,0,0,0,0,[]),([27,91,50,52,59,50,126],1,1114134,1,0,0,0,0,[]),([27,91,50,52,59,51,126],1,1114134,2,0,0,0,0,[]),([27,91,50,52,59,52,126],1,1114134,3,0,0,0,0,[]),([27,91,50,52,59,53,126],1,1114134,4,0,0,0,0,[]),([27,91,50,52,59,54,126],1,1114134,5,0,0,0,0,[]),([27,91,50,52,59,55,126],1,1114134,6,0,0,0,0,[]),([27,91,50,52,59,56,126],1,1114134,7,0,0,0,0,[])]
theorem C6g:otQ 22 1114113 (some B7Q)=some B3B:=by kernel_rfl
def C26(a b:Qt):Bool:=a.1 == b.1 && (a.2.1 == b.2.1 && (a.2.2.1 == b.2.2.1 && (a.2.2.2.1 == b.2.2.2.1 && (a.2.2.2.2.1 == b.2.2.2.2.1 && (a.2.2.2.2.2.1 == b.2.2.2.2.2.1 && (a.2.2.2.2.2.2.1 == b.2.2.2.2.2.2.1 && (a.2.2.2.2.2.2.2.1 == b.2.2.2.2.2.2.2.1 && (a.2.2.2.2.2.2.2.2 == b.2.2.2.2.2.2.2.2 && true))))))))
theorem C7V{x y:Qt}(h:C26 x y=true):x=y:=by
 obtain⟨a1,a2,a3,a4,a5,a6,a7,a8,a9⟩:=x;obtain⟨b1,b2,b3,b4,b5,b6,b7,b8,b9⟩:=y;simp[C26]at h;obtain⟨h1,h2,h3,h4,h5,h6,h7,h8,h9⟩:=h;subst h1 h2 h3 h4 h5 h6 h7 h8 h9;rfl
def C0K:List Qt→List Qt→Bool
 | [],[]=>true
 | a::l,b::r=>C26 a b && C0K l r
 | _,_=>false
theorem C0J:∀ {l r:List Qt},C0K l r=true→l=r
 | [],[],_=>rfl
 | a::l,b::r,h=>by
   have h:(C26 a b && C0K l r)=true:=h;rw[G4]at h;rw[C7V h.1,C0J h.2]
 | [],_::_,h=>by cases h
 | _::_,[],h=>by cases h
def C67(c:Int)(x:Option (List Qt)):Bool:=match x with
 | some l=>decide (c=1114113) && C0K l B7Q
 | none=>false
theorem C66{c:Int}{x:Option (List Qt)}(h:C67 c x=true):c=1114113∧x=some B7Q:=by
 cases x with
 | none=>cases h
 | some l =>
   have h:(decide (c=1114113) && C0K l B7Q)=true:=h;rw[G4]at h;exact⟨of_decide_eq_true h.1,by rw[C0J h.2]⟩
def otF(c:Int)(x:Option (List Qt)):Option (List Qt):=if C67 c x=true then some B3B else otQ (1114135-c).toNat c x
theorem B49(c:Int)(x:Option (List Qt)):otF c x=otQ (1114135-c).toNat c x:=by
 unfold otF;by_cases h:C67 c x=true
 ·obtain⟨h1,h2⟩:=C66 h;rw[if_pos h,h1,h2];exact C6g.symm
 ·rw[if_neg h]
noncomputable def C5v:List (FuncId×FnC):=(50,I2 Tryz.prog [.a [8,8,8,8,8,8,8,8,8,8,8,3,8],.a [3,3,3,3,3,3,3,9]] d8 [.s 9])::L0
theorem C1C{G:Nat→Option Obj}(hst:B7 Tryz.prog G gl H0 n0):F6 Tryz.prog G gl C5v:=(.cons (A3R hst) .nil)
def A1y:List U→Option (Nat×List U)
 | [.int .i64 c,u_x]=>(J6 rQ u_x).bind fun x=>if 1114113≤c∧c≤1114135∧x≠none then some (0,[A7 rQ (otF c x)])else none
 | _=>none
theorem A8A(c:Int)(x:(Option (List ((List UInt8)×Int×Int×Int×Int×Int×Int×Int×(List UInt8)))))(hc:1114113≤c∧c≤1114135∧x≠none):A1y [.int .i64 c,A7 rQ x]=some (0,[A7 rQ (otF c x)]):=by
 simp only[A1y,G6,D5];exact if_pos hc
def B0T:Q1:=⟨[(1,.map (some 6)),(2,h 0 3)],[(6,.mp 1 19 81)],2,[⟨.exit 0,[(1,.map (some 6))],[(6,.mp 0 19 81)],1⟩]⟩
noncomputable def B8c:Code:=(Tryz.f72.body).getD .skip
noncomputable def C35:Code:=match H4 [true,true,false,true,false] B8c with|some (.loop x)=>x|_=>.skip
theorem B0S:Tryz.f72.body=some B8c:=rfl
theorem B0R:H4 [true,true,false,true,false] B8c=some (.loop C35):=by kernel_rfl
def C36:Tr:=aQ [h3 0,jI 1114134]<|.br 2 (.fn A3J [h3 0,jI 0,h 1 19] 2<|aA [h3 3,jI 1]<|.ret [jI (-1),h3 5,h 4 19]) (.ret [jI 0,h 1 19])
def B8b:List U→Nat
 | [.int .i64 c,u_x]=>(match J6 rQ u_x with|some x=>(1114135-c).toNat|none=>0)
 | _=>0
theorem B8a(c:Int)(x:(Option (List ((List UInt8)×Int×Int×Int×Int×Int×Int×Int×(List UInt8))))):B8b [.int .i64 c,A7 rQ x]=(1114135-c).toNat:=by
 simp only[B8b,G6]
theorem B26{G:Nat→Option Obj}(hst:B7 Tryz.prog G gl H0 n0):∀ (E:Nat→U) (base:Nat),@Y0 ⟨E,G⟩ Tryz.prog base gl Tryz.f72.ntmps C35 (Q0 Tryz.prog gl n0 7 B0T A1y):=by
 refine A0Z (C:=cx C5v C6T) (dep:=60) (f:=72) (n0:=n0) (nB:=7) (H0:=H0) B8b C36 (cxg (C1C hst) (C1o hst)) hst Tryz.func72 B0S B0R (by kernel_rfl) (by kernel_rfl) (by kernel_rfl) ?_;intro us d outs hs;have hs0:=hs;unfold A1y at hs;split at hs
 ·skip;rename_i c u_x;have hq_x:=A6.1 hs;clear hs;obtain⟨x,hd_x,hs⟩:=hq_x;replace hd_x:=F0 hd_x;subst hd_x;split at hs
  ·rename_i hc;clear hs hs0;refine⟨rfl,?_⟩;unfold C36;refine w0 (.cons 1 _ (.cons 0 _ (.nil))) ?_;repeat (first|refine W6 ?_|refine O5 ?_|refine A5E ?_|refine w4 (fun g=>?_) fun g=>?_|refine w32 A3J (e:=A8B _ _ _ ⟨by omega,by omega,by omega,by omega,hc.2.2⟩) (k':=?_)|(refine w7 [.int .i64 _,.int .i64 _,A7 rQ _] ?_;rotate_left)|(refine w7 [.int .i64 _,A7 rQ _] ?_;rotate_left))
   all_goals first
    | refine J5 ?_ ?_
      ·rw[A8A (c+1) _ ⟨by omega,by omega,C4y _ _ hc.2.2⟩,A8A c x hc,B49,B49,C8S (c:=c) (x:=x) (by omega)];rfl
      ·rw[B8a,B8a];omega
    | refine L2 (d:=0) ?_
      rw[A8A c x hc,B49,C8T (by omega)]
  ·cases hs
 ·cases hs
def R8(b:Int):Int:=if b<128 then 1 else if 194≤b∧b<224 then 2 else if 224≤b∧b<240 then 3 else if 240≤b∧b≤244 then 4 else 0
def loB(b:Int):Int:=if b=224 then 160 else if b=240 then 144 else 128
def hiB(b:Int):Int:=if b=237 then 159 else if b=244 then 143 else 191
def okT:List Int→Int→Int→Bool
 | [],_,_=>true
 | b::r,lo,hi=>decide (lo≤b∧b≤hi) && okT r 128 191
def knd(l:List Int):Int:=if R8 (l.getD 0 0)<(l.length:Int)then 0 else if okT (l.drop 1) (loB (l.getD 0 0)) (hiB (l.getD 0 0))=true then(if(l.length:Int)<R8 (l.getD 0 0)then 1 else 2)else 0
theorem C8X{l:List Int}{i lo hi:Int}(h:¬i<(l.length:Int)):okT (l.drop i.toNat) lo hi=true:=by rw[A1k l (by omega)];rfl
theorem C8W{l:List Int}{i lo hi:Int}(h0:0≤i)(h1:i<(l.length:Int))(h:l.getD i.toNat default<lo∨hi<l.getD i.toNat default):okT (l.drop i.toNat) lo hi=false:=by
 rw[X8 l h0 h1];show(decide _ && _)=false;rw[decide_eq_false (by omega),Z6]
theorem C8V{l:List Int}{i lo hi:Int}(h0:0≤i)(h1:i<(l.length:Int))(h:lo≤l.getD i.toNat default)(h2:l.getD i.toNat default≤hi):okT (l.drop i.toNat) lo hi=okT (l.drop (i+1).toNat) 128 191:=by
 rw[X8 l h0 h1];show(decide _ && _)=_;rw[decide_eq_true ⟨h,h2⟩,A2N]
noncomputable def C5p:List (FuncId×FnC):=L0
theorem C07{G:Nat→Option Obj}(hst:B7 Tryz.prog G gl H0 n0):F6 Tryz.prog G gl C5p:=.nil
def A8X:List U→Option (Nat×List U)
 | [.int .u8 b]=>if 0≤b∧b<256 then some (0,[.int .i64 (R8 b)])else none
 | _=>none
theorem C12(b:Int)(hc:0≤b∧b<256):A8X [.int .u8 b]=some (0,[.int .i64 (R8 b)]):=if_pos hc
def C3l:Tr:=aH [h 0 4,.int .u8 (240)]<|.br 1 (aQ [h 0 4,.int .u8 (244)]<|.br 2 (.ret [jI 4]) (aH [h 0 4,.int .u8 (224)]<|.br 3 (aL [h 0 4,.int .u8 (240)]<|.br 4 (.ret [jI 3]) (aH [h 0 4,.int .u8 (194)]<|.br 5 (aL [h 0 4,.int .u8 (224)]<|.br 6 (.ret [jI 2]) (aL [h 0 4,.int .u8 (128)]<|.br 7 (.ret [jI 1]) (.ret [jI 0]))) (aL [h 0 4,.int .u8 (128)]<|.br 6 (.ret [jI 1]) (.ret [jI 0])))) (aH [h 0 4,.int .u8 (194)]<|.br 4 (aL [h 0 4,.int .u8 (224)]<|.br 5 (.ret [jI 2]) (aL [h 0 4,.int .u8 (128)]<|.br 6 (.ret [jI 1]) (.ret [jI 0]))) (aL [h 0 4,.int .u8 (128)]<|.br 5 (.ret [jI 1]) (.ret [jI 0]))))) (aH [h 0 4,.int .u8 (224)]<|.br 2 (aL [h 0 4,.int .u8 (240)]<|.br 3 (.ret [jI 3]) (aH [h 0 4,.int .u8 (194)]<|.br 4 (aL [h 0 4,.int .u8 (224)]<|.br 5 (.ret [jI 2]) (aL [h 0 4,.int .u8 (128)]<|.br 6 (.ret [jI 1]) (.ret [jI 0]))) (aL [h 0 4,.int .u8 (128)]<|.br 5 (.ret [jI 1]) (.ret [jI 0])))) (aH [h 0 4,.int .u8 (194)]<|.br 3 (aL [h 0 4,.int .u8 (224)]<|.br 4 (.ret [jI 2]) (aL [h 0 4,.int .u8 (128)]<|.br 5 (.ret [jI 1]) (.ret [jI 0]))) (aL [h 0 4,.int .u8 (128)]<|.br 4 (.ret [jI 1]) (.ret [jI 0]))))
theorem C3m{G:Nat→Option Obj}(hst:B7 Tryz.prog G gl H0 n0):K2 Tryz.prog G 152 [.s 4] A8X [.s 3]:=by
 refine E4 (C:=cx C5p []) (d:=60) C3l (cxg (C07 hst) .nil) hst ⟨Tryz.f152,_,Tryz.func152,rfl⟩ (by kernel_rfl) (by kernel_rfl) ?_;intro us outs hs;unfold A8X at hs;split at hs
 ·skip;rename_i b;split at hs
  ·rename_i hc;cases hs;unfold C3l;refine w0 (.cons 0 _ (.nil)) ?_;repeat (first|(refine w7 [.int .i64 _] ?_;rotate_left)|refine w4 (fun g=>?_) fun g=>?_|refine A1M ?_|refine A06 ?_|refine A5E ?_)
   all_goals
    first
    | (exfalso;omega)
    | (refine l0 ?_;unfold R8;repeat (first|rw[if_neg (by omega)]|rw[if_pos (by omega)]))
  ·cases hs
 ·cases hs
noncomputable def C5m:List (FuncId×FnC):=L0
theorem C04{G:Nat→Option Obj}(hst:B7 Tryz.prog G gl H0 n0):F6 Tryz.prog G gl C5m:=.nil
def A8V:List U→Option (Nat×List U)
 | [.int .u8 b]=>if 0≤b∧b<256 then some (0,[.int .u8 (loB b),.int .u8 (hiB b)])else none
 | _=>none
theorem C10(b:Int)(hc:0≤b∧b<256):A8V [.int .u8 b]=some (0,[.int .u8 (loB b),.int .u8 (hiB b)]):=if_pos hc
def C3g:Tr:=aE [h 0 4,.int .u8 (224)]<|.br 1 (.ret [.int .u8 (160),.int .u8 (191)]) (aE [h 0 4,.int .u8 (237)]<|.br 2 (.ret [.int .u8 (128),.int .u8 (159)]) (aE [h 0 4,.int .u8 (240)]<|.br 3 (.ret [.int .u8 (144),.int .u8 (191)]) (aE [h 0 4,.int .u8 (244)]<|.br 4 (.ret [.int .u8 (128),.int .u8 (143)]) (.ret [.int .u8 (128),.int .u8 (191)]))))
theorem C3h{G:Nat→Option Obj}(hst:B7 Tryz.prog G gl H0 n0):K2 Tryz.prog G 153 [.s 4] A8V [.s 4,.s 4]:=by
 refine E4 (C:=cx C5m []) (d:=60) C3g (cxg (C04 hst) .nil) hst ⟨Tryz.f153,_,Tryz.func153,rfl⟩ (by kernel_rfl) (by kernel_rfl) ?_;intro us outs hs;unfold A8V at hs;split at hs
 ·skip;rename_i b;split at hs
  ·rename_i hc;cases hs;unfold C3g;refine w0 (.cons 0 _ (.nil)) ?_;refine O1 ?_;refine w4 (fun g0=>?_) fun g0=>?_
   ·refine w7 [.int .u8 _,.int .u8 _] ?_;first
    | (subst g0;rfl)
    | (unfold loB hiB;repeat (first|rw[if_neg (by omega)]|rw[if_pos (by omega)]))
   refine O1 ?_;refine w4 (fun g1=>?_) fun g1=>?_
   ·refine w7 [.int .u8 _,.int .u8 _] ?_;first
    | (subst g0;rfl)
    | (unfold loB hiB;repeat (first|rw[if_neg (by omega)]|rw[if_pos (by omega)]))
   refine O1 ?_;refine w4 (fun g2=>?_) fun g2=>?_
   ·refine w7 [.int .u8 _,.int .u8 _] ?_;first
    | (subst g0;rfl)
    | (unfold loB hiB;repeat (first|rw[if_neg (by omega)]|rw[if_pos (by omega)]))
   refine O1 ?_;refine w4 (fun g3=>?_) fun g3=>?_
   ·refine w7 [.int .u8 _,.int .u8 _] ?_;first
    | (subst g0;rfl)
    | (unfold loB hiB;repeat (first|rw[if_neg (by omega)]|rw[if_pos (by omega)]))
   refine w7 [.int .u8 _,.int .u8 _] ?_;first
   | (subst g0;rfl)
   | (unfold loB hiB;repeat (first|rw[if_neg (by omega)]|rw[if_pos (by omega)]))
  ·cases hs
 ·cases hs
def okO(b:Bool):Option Unit:=if b then none else some ()
theorem C4c{b:Bool}(h:okO b=none):b=true:=by cases b<;>first|rfl|cases h
theorem C8Y{b:Bool}{u:Unit}(h:okO b=some u):b=false:=by cases b<;>first|rfl|cases h
noncomputable def C5q:List (FuncId×FnC):=(152,I2 Tryz.prog [.s 4] A8X [.s 3])::(153,I2 Tryz.prog [.s 4] A8V [.s 4,.s 4])::L0
theorem C08{G:Nat→Option Obj}(hst:B7 Tryz.prog G gl H0 n0):F6 Tryz.prog G gl C5q:=(.cons (C3m hst) (.cons (C3h hst) .nil))
def A7H:List U→Option (Nat×List U)
 | [u_p,.int .i64 n,.int .u8 lo,.int .u8 hi,u_q,.int .i64 m,.int .i64 i]=>(J6 rB u_p).bind fun p=>(J6 rB u_q).bind fun q=>if m=((el q).length:Int)∧0≤i∧i≤((el q).length:Int)∧((el q).length:Int)≤1000∧0≤lo∧lo<256∧0≤hi∧hi<256 then A2R (okO (okT ((el q).drop i.toNat) lo hi)) [A7 rB p,.int .i64 n] (fun _=>[])else none
 | _=>none
theorem A5j(p:(Option (List Int)))(n:Int)(lo:Int)(hi:Int)(q:(Option (List Int)))(m:Int)(i:Int)(hc:m=((el q).length:Int)∧0≤i∧i≤((el q).length:Int)∧((el q).length:Int)≤1000∧0≤lo∧lo<256∧0≤hi∧hi<256):A7H [A7 rB p,.int .i64 n,.int .u8 lo,.int .u8 hi,A7 rB q,.int .i64 m,.int .i64 i]=A2R (okO (okT ((el q).drop i.toNat) lo hi)) [A7 rB p,.int .i64 n] (fun _=>[]):=by
 simp only[A7H,G6,D5];exact if_pos hc
def C3r:Q1:=⟨[(0,dat 7 0 11),(3,h 1 3),(4,h 2 4),(5,h 3 4),(24,dat 8 4 11),(25,h 5 3),(26,h 6 3)],[(7,.frz),(8,.frz)],7,[⟨.exit 0,[(0,dat 9 0 11),(3,h 1 3)],[(9,.frz)],2⟩,⟨.ret,[(2,.int .i64 (0))],[],0⟩]⟩
noncomputable def B8E:Code:=(Tryz.f140.body).getD .skip
noncomputable def C3n:Code:=match H4 [true,true,true,true,false,true,false] B8E with|some (.loop x)=>x|_=>.skip
theorem C3q:Tryz.f140.body=some B8E:=rfl
theorem C3p:H4 [true,true,true,true,false,true,false] B8E=some (.loop C3n):=by kernel_rfl
def C3o:Tr:=aL [h3 6,h3 5]<|.br 7 (.lt 8 (.inbs 1) [h3 6,h 4 11]<|.br 8 (.lt 4 (.get 1 0) [h 4 11,h3 6]<|aL [h 9 4,h 2 4]<|.br 10 (.ret [jI 1]) (aG [h 9 4,h 3 4]<|.br 11 (.ret [jI 1]) (aA [h3 6,jI 1]<|.ret [jI (-1),h 0 11,h3 1,.int .u8 (128),.int .u8 (191),h 4 11,h3 5,h3 12]))) (.no)) (.ret [jI 0,h 0 11,h3 1])
def B8D:List U→Nat
 | [u_p,.int .i64 n,.int .u8 lo,.int .u8 hi,u_q,.int .i64 m,.int .i64 i]=>(match J6 rB u_p with|some p=>(match J6 rB u_q with|some q=>(((el q).length:Int)-i).toNat|none=>0)|none=>0)
 | _=>0
theorem B8C(p:(Option (List Int)))(n:Int)(lo:Int)(hi:Int)(q:(Option (List Int)))(m:Int)(i:Int):B8D [A7 rB p,.int .i64 n,.int .u8 lo,.int .u8 hi,A7 rB q,.int .i64 m,.int .i64 i]=(((el q).length:Int)-i).toNat:=by
 simp only[B8D,G6]
theorem C7z{G:Nat→Option Obj}(hst:B7 Tryz.prog G gl H0 n0):∀ (E:Nat→U) (base:Nat),@Y0 ⟨E,G⟩ Tryz.prog base gl Tryz.f140.ntmps C3n (Q0 Tryz.prog gl n0 10 C3r A7H):=by
 refine A0Z (C:=cx C5q []) (dep:=60) (f:=140) (n0:=n0) (nB:=10) (H0:=H0) B8D C3o (cxg (C08 hst) .nil) hst Tryz.func140 C3q C3p (by kernel_rfl) (by kernel_rfl) (by kernel_rfl) ?_;intro us d outs hs;have hs0:=hs;unfold A7H at hs;split at hs
 ·skip;rename_i u_p n lo hi u_q m i;have hq_p:=A6.1 hs;clear hs;obtain⟨p,hd_p,hs⟩:=hq_p;replace hd_p:=F0 hd_p;subst hd_p;have hq_q:=A6.1 hs;clear hs;obtain⟨q,hd_q,hs⟩:=hq_q;replace hd_q:=F0 hd_q;subst hd_q;split at hs
  ·rename_i hc;clear hs hs0;refine⟨rfl,?_⟩;unfold C3o;refine w0 (.cons 6 _ (.cons 5 _ (.cons 4 _ (.cons 3 _ (.cons 2 _ (.cons 1 _ (.cons 0 _ (.nil)))))))) ?_;repeat (first|refine w4 (fun g=>?_) fun g=>?_|refine A1M ?_|(refine w7 [.int .i64 _] ?_;rotate_left)|refine W6 ?_|refine O5 ?_|refine Y6 ?_|refine w1 (.get 1 0) (u:=.int .u8 _) (e:=I0 rfl (by omega) (by omega) rfl) (k':=?_)|refine A5F ?_|(refine w7 [.int .i64 _,A7 rB _,.int .i64 _,.int .u8 _,.int .u8 _,A7 rB _,.int .i64 _,.int .i64 _] ?_;rotate_left)|(refine w8 ?_;first|omega)|(refine w7 [.int .i64 _,A7 rB _,.int .i64 _] ?_;rotate_left))
   all_goals first
    | refine J5 ?_ ?_
      ·rw[A5j p n _ _ q m (i+1) ⟨hc.1,by omega,by omega,hc.2.2.2.1,by omega,by omega,by omega,by omega⟩,A5j p n lo hi q m i hc,C8V (l:=el q) (i:=i) (lo:=lo) (hi:=hi) (by omega) (by omega) (by omega) (by omega)]
      ·rw[B8C,B8C];omega
    | refine L2 (d:=0) ?_
      rw[A5j p n lo hi q m i hc,C8X (l:=el q) (i:=i) (by omega)];rfl
    | refine L2 (d:=1) ?_
      rw[A5j p n lo hi q m i hc,C8W (l:=el q) (i:=i) (by omega) (by omega) (by omega)];rfl
  ·cases hs
 ·cases hs
noncomputable def B2l:List LpE:=[(140,([true,true,true,true,false,true,false],Q0 Tryz.prog gl n0 10 C3r A7H))]
theorem A9u{G:Nat→Option Obj}(hst:B7 Tryz.prog G gl H0 n0):y4 Tryz.prog G gl B2l:=(.cons Tryz.func140 C3q C3p (C7z hst) .nil)
theorem el1{p:Option (List Int)}(h:1≤((el p).length:Int)):el (Q2 p (1:Int).toNat ((el p).length:Int).toNat)=(el p).drop 1:=by
 rw[P5];exact W9 (by simp)
theorem gt0{p:Option (List Int)}(hb:∀ x ∈ el p,0≤x∧x<256)(h:1≤((el p).length:Int)):0≤(el p).getD 0 default∧(el p).getD 0 default<256:=by
 have:=A2A (l:=el p) hb (i:=0) (by omega) (by omega);exact this
theorem C4g{b:Int}:0≤loB b∧loB b<256:=by unfold loB;(repeat' split)<;>omega
theorem C49{b:Int}:0≤hiB b∧hiB b<256:=by unfold hiB;(repeat' split)<;>omega
theorem C8o{l:List Int}(h:R8 (l.getD 0 0)<(l.length:Int)):0=knd l:=(if_pos h).symm
theorem C8l{l:List Int}(h:¬R8 (l.getD 0 0)<(l.length:Int))(h2:okT (l.drop 1) (loB (l.getD 0 0)) (hiB (l.getD 0 0))=false):0=knd l:=by
 unfold knd;rw[if_neg h,if_neg (by rw[h2];decide)]
theorem C8n{l:List Int}(h:¬R8 (l.getD 0 0)<(l.length:Int))(h2:okT (l.drop 1) (loB (l.getD 0 0)) (hiB (l.getD 0 0))=true)(h3:(l.length:Int)<R8 (l.getD 0 0)):1=knd l:=by
 unfold knd;rw[if_neg h,if_pos h2,if_pos h3]
theorem C8m{l:List Int}(h:¬R8 (l.getD 0 0)<(l.length:Int))(h2:okT (l.drop 1) (loB (l.getD 0 0)) (hiB (l.getD 0 0))=true)(h3:¬(l.length:Int)<R8 (l.getD 0 0)):2=knd l:=by
 unfold knd;rw[if_neg h,if_pos h2,if_neg h3]
theorem B9L{p:Option (List Int)}{lo hi:Int}{b:Bool}(h:1≤((el p).length:Int))(h2:okT ((el (Q2 p (1:Int).toNat ((el p).length:Int).toNat)).drop (0:Int).toNat) lo hi=b):okT ((el p).drop 1) lo hi=b:=by
 rw[el1 h]at h2;exact h2
noncomputable def C5r:List (FuncId×FnC):=(152,I2 Tryz.prog [.s 4] A8X [.s 3])::(153,I2 Tryz.prog [.s 4] A8V [.s 4,.s 4])::L0
theorem C09{G:Nat→Option Obj}(hst:B7 Tryz.prog G gl H0 n0):F6 Tryz.prog G gl C5r:=(.cons (C3m hst) (.cons (C3h hst) .nil))
def A0f:List U→Option (Nat×List U)
 | [u_p]=>(J6 rB u_p).bind fun p=>if 1≤((el p).length:Int)∧((el p).length:Int)≤1000∧(∀ x ∈ el p,0≤x∧x<256)then some (0,[.int .i64 (knd (el p))])else none
 | _=>none
theorem A5k(p:(Option (List Int)))(hc:1≤((el p).length:Int)∧((el p).length:Int)≤1000∧(∀ x ∈ el p,0≤x∧x<256)):A0f [A7 rB p]=some (0,[.int .i64 (knd (el p))]):=by
 simp only[A0f,G6,D5];exact if_pos hc
def C3s:Tr:=.lt 8 (.inbs 1) [jI 0,h 0 11]<|.br 1 (.lt 4 (.get 1 0) [h 0 11,jI 0]<|.fn A8X [h 2 4] 1<|aD [h 0 11]<|aL [h3 3,h3 4]<|.br 5 (.ret [jI 0]) (.lt 8 (.inbs 1) [jI 0,h 0 11]<|.br 6 (.lt 4 (.get 1 0) [h 0 11,jI 0]<|.fn A8V [h 7 4] 2<|.dt 11 (.subs 1) [h 0 11,jI 1,h3 4]<|aD [h 10 11]<|.lp A7H [h 0 11,h3 3,h 8 4,h 9 4,h 10 11,h3 11,jI 0] 0 2 (aD [h 12 11]<|aL [h3 14,h3 13]<|.br 15 (.ret [jI 1]) (.ret [jI 2])) (.lp A7H [h 0 11,h3 3,h 8 4,h 9 4,h 10 11,h3 11,jI 0] 1 0 (.ret [jI 0]) (.no))) (.no))) (.no)
theorem B8F{G:Nat→Option Obj}(hst:B7 Tryz.prog G gl H0 n0):K2 Tryz.prog G 140 [.s 11] A0f [.s 3]:=by
 refine E4 (C:=cx C5r B2l) (d:=60) C3s (cxg (C09 hst) (A9u hst)) hst ⟨Tryz.f140,_,Tryz.func140,rfl⟩ (by kernel_rfl) (by kernel_rfl) ?_;intro us outs hs;unfold A0f at hs;split at hs
 ·skip;rename_i u_p;have hq_p:=A6.1 hs;clear hs;obtain⟨p,hd_p,hs⟩:=hq_p;replace hd_p:=F0 hd_p;subst hd_p;split at hs
  ·rename_i hc;cases hs;have zg:=gt0 hc.2.2 hc.1;have zl:((el (Q2 p (1:Int).toNat ((el p).length:Int).toNat)).length:Int)=((el p).length:Int)-1:=by
    rw[el1 hc.1,D3];omega
   unfold C3s;refine w0 (.cons 0 _ (.nil)) ?_;refine Y6 ?_;refine w5 (fun g0=>?_) fun g0=>?_
   ·refine w8 ?_;first|omega
   refine w1 (.get 1 0) (u:=.int .u8 _) (e:=I0 rfl (by omega) (by omega) rfl) (k':=?_);refine w31 A8X (e:=C12 _ zg) (k':=?_);refine R1 ?_;refine A1M ?_;refine w4 (fun g1=>?_) fun g1=>?_
   ·refine w7 [.int .i64 _] ?_;refine l0 ?_;exact C8o g1
   refine Y6 ?_;refine w5 (fun g2=>?_) fun g2=>?_
   ·refine w8 ?_;first|omega
   refine w1 (.get 1 0) (u:=.int .u8 _) (e:=I0 rfl (by omega) (by omega) rfl) (k':=?_);refine w32 A8V (e:=C10 _ zg) (k':=?_);refine w2 (.subs 1) (r:=rB) (e:=I7 rfl (by omega) (by omega) (by omega)) (k':=?_);refine R1 ?_;refine w6 A7H (A5j _ _ _ _ _ _ _ ⟨rfl,by omega,by omega,by omega,C4g.1,C4g.2,C49.1,C49.2⟩) (h0:=fun g3=>?_) (h1:=fun v3 g3=>?_)
   ·show Wk _ _ (.cons _ _ (.cons _ _ _));refine R1 ?_;refine A1M ?_;refine w4 (fun g4=>?_) fun g4=>?_
    ·refine w7 [.int .i64 _] ?_;refine l0 ?_;exact C8n g1 (B9L hc.1 (C4c g3)) g4
    refine w7 [.int .i64 _] ?_;refine l0 ?_;exact C8m g1 (B9L hc.1 (C4c g3)) g4
   show Wk _ _ _;refine w7 [.int .i64 _] ?_;refine l0 ?_;exact C8l g1 (B9L hc.1 (C8Y g3))
  ·cases hs
 ·cases hs
def A80(n:Int):Int:=if n=3 then 31 else if n=4 then 15 else 7
theorem C2t{n:Int}(h:n=3∨n=4∨n=5):evU (.bin .shr) [.int .i64 255,.int .i64 n]=.int .i64 (A80 n):=by
 rcases h with rfl|rfl|rfl<;>rfl
theorem C2z{a n:Int}(h0:0≤a)(h1:a<256):evU (.bin .and) [.int .i64 a,.int .i64 (A80 n)]=.int .i64 (a%(A80 n+1)):=by
 unfold A80;split
 ·exact x8 5 32 (by decide) (by decide) (by decide)
 ·split
  ·exact x8 4 16 (by decide) (by decide) (by decide)
  ·exact x8 3 8 (by decide) (by decide) (by decide)
def cdL:List Int→Int→Int
 | [],c=>c
 | b::r,c=>cdL r (c*64+b%64)
def A1l(l:List Int):Int:=cdL (l.drop 1) (if(l.length:Int)>1 then l.getD 0 0%(A80 ((l.length:Int)+1)+1)else l.getD 0 0)
theorem C9c{l:List Int}{i c:Int}(h:¬i<(l.length:Int)):cdL (l.drop i.toNat) c=c:=by rw[A1k l (by omega)];rfl
theorem C9b{l:List Int}{i c:Int}(h0:0≤i)(h1:i<(l.length:Int)):cdL (l.drop i.toNat) c=cdL (l.drop (i+1).toNat) (c*64+l.getD i.toNat default%64):=by
 rw[X8 l h0 h1];rfl
theorem C9U{l:List Int}(h:¬(l.length:Int)>1):A1l l=cdL (l.drop 1) (l.getD 0 0):=by unfold A1l;rw[if_neg h]
theorem C9T{l:List Int}(h:(l.length:Int)>1):A1l l=cdL (l.drop 1) (l.getD 0 0%(A80 ((l.length:Int)+1)+1)):=by unfold A1l;rw[if_pos h]
theorem C5a{p:Option (List Int)}{c:Int}(h:1≤((el p).length:Int)):cdL ((el (Q2 p (1:Int).toNat ((el p).length:Int).toNat)).drop (0:Int).toNat) c=cdL ((el p).drop 1) c:=by rw[el1 h];rfl
theorem C8e(n:Int):7≤A80 n∧A80 n≤31:=by unfold A80;(repeat' split)<;>omega
noncomputable def C5s:List (FuncId×FnC):=L0
theorem C0_{G:Nat→Option Obj}(hst:B7 Tryz.prog G gl H0 n0):F6 Tryz.prog G gl C5s:=.nil
def A5m:List U→Option (Nat×List U)
 | [.int .i64 c,u_q,.int .i64 m,.int .i64 i]=>(J6 rB u_q).bind fun q=>if m=((el q).length:Int)∧0≤i∧i≤m∧m≤3∧0≤c∧((i=0∧c<256)∨(i=1∧c<16384)∨(i=2∧c<1048576)∨(i=3∧c<67108864))∧(∀ x ∈ el q,0≤x∧x<256)then some (0,[.int .i64 (cdL ((el q).drop i.toNat) c)])else none
 | _=>none
theorem A5l(c:Int)(q:(Option (List Int)))(m:Int)(i:Int)(hc:m=((el q).length:Int)∧0≤i∧i≤m∧m≤3∧0≤c∧((i=0∧c<256)∨(i=1∧c<16384)∨(i=2∧c<1048576)∨(i=3∧c<67108864))∧(∀ x ∈ el q,0≤x∧x<256)):A5m [.int .i64 c,A7 rB q,.int .i64 m,.int .i64 i]=some (0,[.int .i64 (cdL ((el q).drop i.toNat) c)]):=by
 simp only[A5m,G6,D5];exact if_pos hc
def C3x:Q1:=⟨[(3,h 0 3),(20,dat 7 1 11),(21,h 2 3),(22,h 3 3)],[(7,.frz)],4,[⟨.exit 0,[(3,h 0 3)],[],1⟩]⟩
noncomputable def B8I:Code:=(Tryz.f141.body).getD .skip
noncomputable def C3t:Code:=match H4 [true,true,true,false,true,false] B8I with|some (.loop x)=>x|_=>.skip
theorem C3w:Tryz.f141.body=some B8I:=rfl
theorem C3v:H4 [true,true,true,false,true,false] B8I=some (.loop C3t):=by kernel_rfl
def C3u:Tr:=aL [h3 3,h3 2]<|.br 4 (.lt 8 (.inbs 1) [h3 3,h 1 11]<|.br 5 (.lt 4 (.get 1 0) [h 1 11,h3 3]<|.lt 3 (.bin .shl) [h3 0,.int .u64 (6)]<|.lt 4 (.bin .and) [h 6 4,.int .u8 (63)]<|.lt 3 (.conv .i64) [h 8 4]<|.lt 3 (.bin .or) [h3 7,h3 9]<|aA [h3 3,jI 1]<|.ret [jI (-1),h3 10,h 1 11,h3 2,h3 11]) (.no)) (.ret [jI 0,h3 0])
def B8H:List U→Nat
 | [.int .i64 c,u_q,.int .i64 m,.int .i64 i]=>(match J6 rB u_q with|some q=>(m-i).toNat|none=>0)
 | _=>0
theorem B8G(c:Int)(q:(Option (List Int)))(m:Int)(i:Int):B8H [.int .i64 c,A7 rB q,.int .i64 m,.int .i64 i]=(m-i).toNat:=by
 simp only[B8H,G6]
theorem C70{G:Nat→Option Obj}(hst:B7 Tryz.prog G gl H0 n0):∀ (E:Nat→U) (base:Nat),@Y0 ⟨E,G⟩ Tryz.prog base gl Tryz.f141.ntmps C3t (Q0 Tryz.prog gl n0 8 C3x A5m):=by
 refine A0Z (C:=cx C5s B2l) (dep:=60) (f:=141) (n0:=n0) (nB:=8) (H0:=H0) B8H C3u (cxg (C0_ hst) (A9u hst)) hst Tryz.func141 C3w C3v (by kernel_rfl) (by kernel_rfl) (by kernel_rfl) ?_;intro us d outs hs;have hs0:=hs;unfold A5m at hs;split at hs
 ·skip;rename_i c u_q m i;have hq_q:=A6.1 hs;clear hs;obtain⟨q,hd_q,hs⟩:=hq_q;replace hd_q:=F0 hd_q;subst hd_q;split at hs
  ·rename_i hc;clear hs hs0;have zb:i<m→0≤((el q).getD i.toNat default)∧((el q).getD i.toNat default)<256:=fun h=>A2A (l:=el q) hc.2.2.2.2.2.2 (by omega) (by omega)
   refine⟨rfl,?_⟩;unfold C3u;refine w0 (.cons 3 _ (.cons 2 _ (.cons 1 _ (.cons 0 _ (.nil))))) ?_;refine A1M ?_;refine w5 (fun g0=>?_) fun g0=>?_
   ·refine w7 [.int .i64 _,.int .i64 _] ?_;refine L2 (d:=0) ?_;rw[A5l c q m i hc,C9c (l:=el q) (i:=i) (by omega)]
   have zb:=zb g0;refine Y6 ?_;refine w5 (fun g1=>?_) fun g1=>?_
   ·refine w8 ?_;first|omega
   refine w1 (.get 1 0) (u:=.int .u8 _) (e:=I0 rfl (by omega) (by omega) rfl) (k':=?_);first|refine w1 (.bin .shl) (e:=A8N 64 (by decide) (by decide) (A3b (by omega) (by omega))) (k':=?_)|refine w1 (.bin .shl) (e:=A6P 64 (by decide) (by decide)) (k':=?_)
   refine w1 (.bin .and) (e:=x8 6 64 (by decide) (by decide) (by decide)) (k':=?_);first|refine u5 ?_|refine Y7 ?_
   first|refine w1 (.bin .or) (e:=A65 6 64 9223372036854775808 (by decide) (by decide) (by omega) (by omega) (by omega) (by omega) (by omega)) (k':=?_)|refine w1 (.bin .or) (e:=A9N 6 64 9223372036854775808 (by decide) (by decide) (by omega) (by omega) (by omega) (by omega) (by omega)) (k':=?_)|refine w1 (.bin .or) (e:=A4A _ _ _) (k':=?_)
   first|refine W6 ?_|refine O5 ?_
   refine w7 [.int .i64 _,.int .i64 _,A7 rB _,.int .i64 _,.int .i64 _] ?_;refine J5 ?_ ?_
   ·rw[A5l _ q m (i+1) ⟨hc.1,by omega,by omega,by omega,by omega,by omega,hc.2.2.2.2.2.2⟩,A5l c q m i hc,C9b (l:=el q) (i:=i) (by omega) (by omega)]
   ·rw[B8G,B8G];omega
  ·cases hs
 ·cases hs
noncomputable def B69:List LpE:=[(141,([true,true,true,false,true,false],Q0 Tryz.prog gl n0 8 C3x A5m))]
theorem B5i{G:Nat→Option Obj}(hst:B7 Tryz.prog G gl H0 n0):y4 Tryz.prog G gl B69:=(.cons Tryz.func141 C3w C3v (C70 hst) .nil)
noncomputable def C5t:List (FuncId×FnC):=L0
theorem C1A{G:Nat→Option Obj}(hst:B7 Tryz.prog G gl H0 n0):F6 Tryz.prog G gl C5t:=.nil
def A1x:List U→Option (Nat×List U)
 | [u_p]=>(J6 rB u_p).bind fun p=>if 1≤((el p).length:Int)∧((el p).length:Int)≤4∧(∀ x ∈ el p,0≤x∧x<256)then some (0,[.int .i64 (A1l (el p))])else none
 | _=>none
theorem A78(p:(Option (List Int)))(hc:1≤((el p).length:Int)∧((el p).length:Int)≤4∧(∀ x ∈ el p,0≤x∧x<256)):A1x [A7 rB p]=some (0,[.int .i64 (A1l (el p))]):=by
 simp only[A1x,G6,D5];exact if_pos hc
def C3y:Tr:=.lt 8 (.inbs 1) [jI 0,h 0 11]<|.br 1 (.lt 4 (.get 1 0) [h 0 11,jI 0]<|.lt 3 (.conv .i64) [h 2 4]<|aD [h 0 11]<|aG [h3 4,jI 1]<|.br 5 (aA [h3 4,jI 1]<|.lt 3 (.bin .shr) [jI 255,h3 6]<|.lt 3 (.bin .and) [h3 3,h3 7]<|.dt 11 (.subs 1) [h 0 11,jI 1,h3 4]<|aD [h 9 11]<|.fn A5m [h3 8,h 9 11,h3 10,jI 0] 1<|.ret [h3 11]) (.dt 11 (.subs 1) [h 0 11,jI 1,h3 4]<|aD [h 6 11]<|.fn A5m [h3 3,h 6 11,h3 7,jI 0] 1<|.ret [h3 8])) (.no)
theorem C3z{G:Nat→Option Obj}(hst:B7 Tryz.prog G gl H0 n0):K2 Tryz.prog G 141 [.s 11] A1x [.s 3]:=by
 refine E4 (C:=cx C5t B69) (d:=60) C3y (cxg (C1A hst) (B5i hst)) hst ⟨Tryz.f141,_,Tryz.func141,rfl⟩ (by kernel_rfl) (by kernel_rfl) ?_;intro us outs hs;unfold A1x at hs;split at hs
 ·skip;rename_i u_p;have hq_p:=A6.1 hs;clear hs;obtain⟨p,hd_p,hs⟩:=hq_p;replace hd_p:=F0 hd_p;subst hd_p;split at hs
  ·rename_i hc;cases hs;have zg:0≤(el p).getD (0:Int).toNat default∧(el p).getD (0:Int).toNat default<256:=gt0 hc.2.2 hc.1;have zl:((el (Q2 p (1:Int).toNat ((el p).length:Int).toNat)).length:Int)=((el p).length:Int)-1:=by
    rw[el1 hc.1,D3];omega
   have zm:=C8e (((el p).length:Int)+1);unfold C3y;refine w0 (.cons 0 _ (.nil)) ?_;refine Y6 ?_;refine w5 (fun g0=>?_) fun g0=>?_
   ·refine w8 ?_;first|omega
   refine w1 (.get 1 0) (u:=.int .u8 _) (e:=I0 rfl (by omega) (by omega) rfl) (k':=?_);first|refine u5 ?_|refine Y7 ?_
   refine R1 ?_;refine A5F ?_;refine w4 (fun g1=>?_) fun g1=>?_
   ·have zq:0≤(el p).getD (0:Int).toNat default%(A80 (((el p).length:Int)+1)+1)∧(el p).getD (0:Int).toNat default%(A80 (((el p).length:Int)+1)+1)<256:=⟨A3W _ (by omega),Int.lt_of_lt_of_le (Int.emod_lt_of_pos _ (by omega)) (by omega)⟩;first|refine W6 ?_|refine O5 ?_
    refine w1 (.bin .shr) (e:=C2t (by omega)) (k':=?_);refine w1 (.bin .and) (e:=C2z (by omega) (by omega)) (k':=?_);refine w2 (.subs 1) (r:=rB) (e:=I7 rfl (by omega) (by omega) (by omega)) (k':=?_);refine R1 ?_;refine w31 A5m (e:=A5l _ _ _ _ ⟨rfl,by omega,by omega,by omega,zq.1,.inl ⟨rfl,zq.2⟩,fun x hx=>hc.2.2 x (by rw[el1 hc.1]at hx;exact J8 hx)⟩) (k':=?_);refine w7 [.int .i64 _] ?_;refine l0 ?_;rw[C9T g1];exact C5a hc.1
   refine w2 (.subs 1) (r:=rB) (e:=I7 rfl (by omega) (by omega) (by omega)) (k':=?_);refine R1 ?_;refine w31 A5m (e:=A5l _ _ _ _ ⟨rfl,by omega,by omega,by omega,zg.1,.inl ⟨rfl,zg.2⟩,fun x hx=>hc.2.2 x (by rw[el1 hc.1]at hx;exact J8 hx)⟩) (k':=?_);refine w7 [.int .i64 _] ?_;refine l0 ?_;rw[C9U g1];exact C5a hc.1
  ·cases hs
 ·cases hs
noncomputable def C5o:List (FuncId×FnC):=(140,I2 Tryz.prog [.s 11] A0f [.s 3])::L0
theorem C06{G:Nat→Option Obj}(hst:B7 Tryz.prog G gl H0 n0):F6 Tryz.prog G gl C5o:=(.cons (B8F hst) .nil)
def A42:List U→Option (Nat×List U)
 | [u_p]=>(J6 rB u_p).bind fun p=>if((el p).length:Int)≤1000∧(∀ x ∈ el p,0≤x∧x<256)then some (0,[.bool (decide (((el p).length:Int)=0∨knd (el p)=1))])else none
 | _=>none
theorem B5u(p:(Option (List Int)))(hc:((el p).length:Int)≤1000∧(∀ x ∈ el p,0≤x∧x<256)):A42 [A7 rB p]=some (0,[.bool (decide (((el p).length:Int)=0∨knd (el p)=1))]):=by
 simp only[A42,G6,D5];exact if_pos hc
def C3j:Tr:=aD [h 0 11]<|aE [h3 1,jI 0]<|.br 2 (.ret [.bool true]) (.fn A0f [h 0 11] 1<|aE [h3 3,jI 1]<|.ret [h 4 8])
theorem C3k{G:Nat→Option Obj}(hst:B7 Tryz.prog G gl H0 n0):K2 Tryz.prog G 139 [.s 11] A42 [.s 8]:=by
 refine E4 (C:=cx C5o []) (d:=60) C3j (cxg (C06 hst) .nil) hst ⟨Tryz.f139,_,Tryz.func139,rfl⟩ (by kernel_rfl) (by kernel_rfl) ?_;intro us outs hs;unfold A42 at hs;split at hs
 ·skip;rename_i u_p;have hq_p:=A6.1 hs;clear hs;obtain⟨p,hd_p,hs⟩:=hq_p;replace hd_p:=F0 hd_p;subst hd_p;split at hs
  ·rename_i hc;cases hs;unfold C3j;refine w0 (.cons 0 _ (.nil)) ?_;repeat (first|refine O1 ?_|(refine w7 [.bool _] ?_;rotate_left)|refine R1 ?_|refine w4 (fun g=>?_) fun g=>?_|refine w31 A0f (e:=A5k _ ⟨by omega,by omega,hc.2⟩) (k':=?_))
   all_goals
    refine l1 ?_;first|exact(decide_eq_true (.inl (by omega))).symm|(exact decide_eq_decide.2 ⟨fun h=>.inr h,fun h=>h.resolve_left (by omega)⟩)
  ·cases hs
 ·cases hs
def B7C(b:Int):Option (List Int):=if knd [b]=1 then some [b]else none
def A7s(b:Int):Option (List Int):=if knd [b]=2 then some [A1l [b]]else if knd [b]=1 then none else some [65533]
def utR(l:List Int)(b:Int):Option (List Int):=if knd (l++[b])=2 then none else if knd (l++[b])=1 then some (l++[b])else if l=[]then none else B7C b
def utC(l:List Int)(b:Int):Option (List Int):=if knd (l++[b])=2 then some [A1l (l++[b])]else if knd (l++[b])=1 then none else if l=[]then some [65533]else some (65533::el (A7s b))
theorem C7v{b:Int}:utR [] b=B7C b∧utC [] b=A7s b:=by
 unfold utR utC B7C A7s;constructor
 ·by_cases h:knd ([]++[b])=2
  ·rw[if_pos h,if_neg (by show ¬knd ([]++[b])=1;omega)]
  ·rw[if_neg h];rfl
 ·rfl
theorem C9M{p:Option (List Int)}(h:((el p).length:Int)=0):el p=[]:=D6.1 (by omega)
theorem A07{p:Option (List Int)}:el (Q2 p (0:Int).toNat ((el p).length:Int).toNat)=el p:=by
 rw[P5];show((el p).drop 0).take _=_;rw[y9];exact W9 (by simp)
theorem ut2{a b c d:Option (List Int)}(h1:a=b)(h2:c=d):[A7 rB a,A7 rN c]=[A7 rB b,A7 rN d]:=by rw[h1,h2]
theorem C7t{l:List Int}{b:Int}(h:knd (l++[b])=2):none=utR l b∧some [A1l (l++[b])]=utC l b:=by unfold utR utC;rw[if_pos h,if_pos h];exact⟨rfl,rfl⟩
theorem C7u{l:List Int}{b:Int}(h:knd (l++[b])=1):some (l++[b])=utR l b∧none=utC l b:=by unfold utR utC;rw[if_neg (by omega),if_pos h,if_neg (by omega),if_pos h];exact⟨rfl,rfl⟩
theorem C7s{l:List Int}{b:Int}(h2:¬knd (l++[b])=2)(h:¬knd (l++[b])=1)(h3:l=[]):none=utR l b∧some [65533]=utC l b:=by unfold utR utC;rw[if_neg h2,if_neg h,if_neg h2,if_neg h,if_pos h3,if_pos h3];exact⟨rfl,rfl⟩
theorem C9p{l:List Int}{b:Int}(h2:¬knd (l++[b])=2)(h:¬knd (l++[b])=1)(h3:l≠[]):B7C b=utR l b∧some (65533::el (A7s b))=utC l b:=by unfold utR utC;rw[if_neg h2,if_neg h,if_neg h2,if_neg h,if_neg h3,if_neg h3];exact⟨rfl,rfl⟩
theorem C3O{p:Option (List Int)}{b:Int}(hb:∀ x ∈ el p,0≤x∧x<256)(h0:0≤b)(h1:b<256):∀ x ∈ el p++[b],0≤x∧x<256:=fun x hx=>by
 rcases B0.1 hx with h|h
 ·exact hb x h
 ·have:x=b:=by simpa using h
  omega
theorem la(l:List Int)(b:Int):((l++[b]).length:Int)=(l.length:Int)+1:=by simp
theorem B2v(b:Int):(el (A7s b)).length≤1:=by unfold A7s;(repeat' split)<;>simp[el]
theorem C7x(b:Int):utC (el (none:Option (List Int))) b=A7s b:=C7v.2
theorem A8U(b:Int):(el (utC (el (none:Option (List Int))) b)).length≤1:=by rw[C7x];exact B2v b
theorem B9g{l:List Int}:R8 (l.getD 0 0)≤4:=by unfold R8;(repeat' split)<;>omega
theorem B6U{l:List Int}(h:knd l=1∨knd l=2):(l.length:Int)≤4:=by
 have:=B9g (l:=l);unfold knd at h;by_cases h1:R8 (l.getD 0 0)<(l.length:Int)
 ·rw[if_pos h1]at h;omega
 ·omega
theorem A32{l:List Int}(h:knd l=1):(l.length:Int)≤3:=by
 have:=B9g (l:=l);unfold knd at h;by_cases h1:R8 (l.getD 0 0)<(l.length:Int)
 ·rw[if_pos h1]at h;omega
 ·rw[if_neg h1]at h;by_cases h2:okT (l.drop 1) (loB (l.getD 0 0)) (hiB (l.getD 0 0))=true
  ·rw[if_pos h2]at h;by_cases h3:(l.length:Int)<R8 (l.getD 0 0)
   ·omega
   ·rw[if_neg h3]at h;omega
  ·rw[if_neg h2]at h;omega
theorem C6a(x:Option (List Int)):A6S (some [65533]) x=some (65533::el x):=by
 cases x with
 | none=>rfl
 | some l=>cases l<;>rfl
noncomputable def C5n:List (FuncId×FnC):=(140,I2 Tryz.prog [.s 11] A0f [.s 3])::(141,I2 Tryz.prog [.s 11] A1x [.s 3])::(139,I2 Tryz.prog [.s 11] A42 [.s 8])::L0
theorem C05{G:Nat→Option Obj}(hst:B7 Tryz.prog G gl H0 n0):F6 Tryz.prog G gl C5n:=(.cons (B8F hst) (.cons (C3z hst) (.cons (C3k hst) .nil)))
def A8W:List U→Option (Nat×List U)
 | [u_p,.int .u8 b]=>(J6 rB u_p).bind fun p=>if((el p).length:Int)=0∧(((el p).length:Int)=0∨knd (el p)=1)∧0≤b∧b<256∧(∀ x ∈ el p,0≤x∧x<256)then some (0,[A7 rB (utR (el p) b),A7 rN (utC (el p) b)])else none
 | _=>none
theorem C11(p:(Option (List Int)))(b:Int)(hc:((el p).length:Int)=0∧(((el p).length:Int)=0∨knd (el p)=1)∧0≤b∧b<256∧(∀ x ∈ el p,0≤x∧x<256)):A8W [A7 rB p,.int .u8 b]=some (0,[A7 rB (utR (el p) b),A7 rN (utC (el p) b)]):=by
 simp only[A8W,G6,D5];exact if_pos hc
def C3i:Tr:=.fn A42 [h 0 11] 1<|aX [h 2 8]<|.br 3 (.dt 11 (.mk 1) [h 1 4]<|.fn A0f [h 4 11] 1<|aE [h3 5,jI 2]<|.br 6 (.dt 11 (.mk 1) [h 1 4]<|.fn A1x [h 7 11] 1<|.dt 11 (.nilw 1) []<|.dt 11 (.mk 1) [h3 8]<|.ret [h 9 11,h 10 11]) (aE [h3 5,jI 1]<|.br 7 (.dt 11 (.mk 1) [h 1 4]<|.dt 11 (.nilw 1) []<|.ret [h 8 11,h 9 11]) (.dt 11 (.nilw 1) []<|.dt 11 (.mk 1) [jI 65533]<|.ret [h 8 11,h 9 11]))) (aD [h 0 11]<|.dt 11 (.subs 1) [h 0 11,jI 0,h3 4]<|.dt 11 (.snoc 1) [h 5 11,h 1 4]<|.fn A0f [h 6 11] 1<|aE [h3 7,jI 2]<|.br 8 (.fn A1x [h 6 11] 1<|.dt 11 (.nilw 1) []<|.dt 11 (.mk 1) [h3 9]<|.ret [h 10 11,h 11 11]) (aE [h3 7,jI 1]<|.br 9 (.dt 11 (.nilw 1) []<|.ret [h 6 11,h 10 11]) (aE [h3 4,jI 0]<|.br 10 (.dt 11 (.nilw 1) []<|.dt 11 (.mk 1) [jI 65533]<|.ret [h 11 11,h 12 11]) (.no))))
theorem C7y{G:Nat→Option Obj}(hst:B7 Tryz.prog G gl H0 n0):K2 Tryz.prog G 127 [.s 11,.s 4] A8W [.s 11,.s 11]:=by
 refine E4 (C:=cx C5n []) (d:=2) C3i (cxg (C05 hst) .nil) hst ⟨Tryz.f127,_,Tryz.func127,rfl⟩ (by kernel_rfl) (by kernel_rfl) ?_;intro us outs hs;unfold A8W at hs;split at hs
 ·skip;rename_i u_p b;have hq_p:=A6.1 hs;clear hs;obtain⟨p,hd_p,hs⟩:=hq_p;replace hd_p:=F0 hd_p;subst hd_p;split at hs
  ·rename_i hc;cases hs;have zs:el (Q2 p (0:Int).toNat ((el p).length:Int).toNat)++[b]=el p++[b]:=by rw[A07]
   have zn:((el (Q2 p (0:Int).toNat ((el p).length:Int).toNat)).length:Int)=((el p).length:Int):=by rw[A07]
   unfold C3i;refine w0 (.cons 1 _ (.cons 0 _ (.nil))) ?_;refine w31 A42 (e:=B5u _ ⟨by omega,hc.2.2.2.2⟩) (k':=?_);first|refine d7 ?_|refine A3e ?_
   first|refine w4 (fun g0=>?_) (fun g0=>?_)|refine w4B (fun g0=>?_) (fun g0=>?_)
   ·refine w2 (.mk 1) (r:=rB) (e:=L3 [_] rfl (by decide) rfl) (k':=?_);refine w31 A0f (e:=A5k _ (g0 hc.2.1).elim) (k':=?_);refine O1 ?_;refine w4 (fun g1=>?_) fun g1=>?_
    ·refine w2 (.mk 1) (r:=rB) (e:=L3 [_] rfl (by decide) rfl) (k':=?_);refine w31 A1x (e:=A78 _ (g0 hc.2.1).elim) (k':=?_);refine w2 (.nilw 1) (r:=rB) (e:=D9 rfl) (k':=?_);refine w2 (.mk 1) (r:=rN) (e:=L3 [_] rfl (by decide) rfl) (k':=?_);refine w7 [A7 rB _,A7 rN _] ?_;exact(g0 hc.2.1).elim
    refine O1 ?_;refine w4 (fun g2=>?_) fun g2=>?_
    ·refine w2 (.mk 1) (r:=rB) (e:=L3 [_] rfl (by decide) rfl) (k':=?_);refine w2 (.nilw 1) (r:=rN) (e:=D9 rfl) (k':=?_);refine w7 [A7 rB _,A7 rN _] ?_;exact(g0 hc.2.1).elim
    refine w2 (.nilw 1) (r:=rB) (e:=D9 rfl) (k':=?_);refine w2 (.mk 1) (r:=rN) (e:=L3 [_] rfl (by decide) rfl) (k':=?_);refine w7 [A7 rB _,A7 rN _] ?_;exact(g0 hc.2.1).elim
   have zr:=hc.2.1;refine R1 ?_;refine w2 (.subs 1) (r:=rB) (e:=I7 rfl (by omega) (by omega) (by omega)) (k':=?_);refine w2 (.snoc 1) (r:=rB) (e:=J4 rfl rfl (by decide) (by first|omega|(show 1+_≤1000000000;have:=A8U b;omega))) (k':=?_);refine w31 A0f (e:=A5k _ ⟨by rw[I1,la];omega,by rw[I1,la];omega,by rw[I1,A07];exact C3O hc.2.2.2.2 hc.2.2.1 hc.2.2.2.1⟩) (k':=?_);refine O1 ?_;refine w4 (fun g1=>?_) fun g1=>?_
   ·refine w31 A1x (e:=A78 _ ⟨by rw[I1,la];omega,(by have:=B6U (.inr g1);rw[I1];exact this),by rw[I1,A07];exact C3O hc.2.2.2.2 hc.2.2.1 hc.2.2.2.1⟩) (k':=?_);refine w2 (.nilw 1) (r:=rB) (e:=D9 rfl) (k':=?_);refine w2 (.mk 1) (r:=rN) (e:=L3 [_] rfl (by decide) rfl) (k':=?_);refine w7 [A7 rB _,A7 rN _] ?_;have z:=C7t (l:=el p) (b:=b) (by rw[← zs];exact g1);exact ut2 z.1 (by rw[zs];exact z.2)
   refine O1 ?_;refine w4 (fun g2=>?_) fun g2=>?_
   ·refine w2 (.nilw 1) (r:=rN) (e:=D9 rfl) (k':=?_);refine w7 [A7 rB _,A7 rN _] ?_;have z:=C7u (l:=el p) (b:=b) (by rw[← zs];exact g2);exact ut2 (by rw[zs];exact z.1) z.2
   refine O1 ?_;refine w5 (fun g3=>?_) fun g3=>?_
   ·refine w8 ?_;first|omega|(exfalso;simp_all;done)|(exfalso;simp_all;omega)
   refine w2 (.nilw 1) (r:=rB) (e:=D9 rfl) (k':=?_);refine w2 (.mk 1) (r:=rN) (e:=L3 [_] rfl (by decide) rfl) (k':=?_);refine w7 [A7 rB _,A7 rN _] ?_;have z:=C7s (l:=el p) (b:=b) (by rw[← zs];exact g1) (by rw[← zs];exact g2) (C9M g3);exact ut2 z.1 z.2
  ·cases hs
 ·cases hs
noncomputable def C5l:List (FuncId×FnC):=(140,I2 Tryz.prog [.s 11] A0f [.s 3])::(141,I2 Tryz.prog [.s 11] A1x [.s 3])::(139,I2 Tryz.prog [.s 11] A42 [.s 8])::(127,I2 Tryz.prog [.s 11,.s 4] A8W [.s 11,.s 11])::L0
theorem C03{G:Nat→Option Obj}(hst:B7 Tryz.prog G gl H0 n0):F6 Tryz.prog G gl C5l:=(.cons (B8F hst) (.cons (C3z hst) (.cons (C3k hst) (.cons (C7y hst) .nil))))
def A3d:List U→Option (Nat×List U)
 | [u_p,.int .u8 b]=>(J6 rB u_p).bind fun p=>if((el p).length:Int)≤100∧(((el p).length:Int)=0∨knd (el p)=1)∧0≤b∧b<256∧(∀ x ∈ el p,0≤x∧x<256)then some (0,[A7 rB (utR (el p) b),A7 rN (utC (el p) b)])else none
 | _=>none
theorem C1z(p:(Option (List Int)))(b:Int)(hc:((el p).length:Int)≤100∧(((el p).length:Int)=0∨knd (el p)=1)∧0≤b∧b<256∧(∀ x ∈ el p,0≤x∧x<256)):A3d [A7 rB p,.int .u8 b]=some (0,[A7 rB (utR (el p) b),A7 rN (utC (el p) b)]):=by
 simp only[A3d,G6,D5];exact if_pos hc
def C3e:Tr:=.fn A42 [h 0 11] 1<|aX [h 2 8]<|.br 3 (.dt 11 (.mk 1) [h 1 4]<|.fn A0f [h 4 11] 1<|aE [h3 5,jI 2]<|.br 6 (.dt 11 (.mk 1) [h 1 4]<|.fn A1x [h 7 11] 1<|.dt 11 (.nilw 1) []<|.dt 11 (.mk 1) [h3 8]<|.ret [h 9 11,h 10 11]) (aE [h3 5,jI 1]<|.br 7 (.dt 11 (.mk 1) [h 1 4]<|.dt 11 (.nilw 1) []<|.ret [h 8 11,h 9 11]) (.dt 11 (.nilw 1) []<|.dt 11 (.mk 1) [jI 65533]<|.ret [h 8 11,h 9 11]))) (aD [h 0 11]<|.dt 11 (.subs 1) [h 0 11,jI 0,h3 4]<|.dt 11 (.snoc 1) [h 5 11,h 1 4]<|.fn A0f [h 6 11] 1<|aE [h3 7,jI 2]<|.br 8 (.fn A1x [h 6 11] 1<|.dt 11 (.nilw 1) []<|.dt 11 (.mk 1) [h3 9]<|.ret [h 10 11,h 11 11]) (aE [h3 7,jI 1]<|.br 9 (.dt 11 (.nilw 1) []<|.ret [h 6 11,h 10 11]) (aE [h3 4,jI 0]<|.br 10 (.dt 11 (.nilw 1) []<|.dt 11 (.mk 1) [jI 65533]<|.ret [h 11 11,h 12 11]) (.dt 11 (.nilw 1) []<|.fn A8W [h 11 11,h 1 4] 2<|.dt 11 (.mk 1) [jI 65533]<|.dt 11 (.cat 1) [h 14 11,h 13 11]<|.ret [h 12 11,h 15 11]))))
theorem C3f{G:Nat→Option Obj}(hst:B7 Tryz.prog G gl H0 n0):K2 Tryz.prog G 127 [.s 11,.s 4] A3d [.s 11,.s 11]:=by
 refine E4 (C:=cx C5l []) (d:=60) C3e (cxg (C03 hst) .nil) hst ⟨Tryz.f127,_,Tryz.func127,rfl⟩ (by kernel_rfl) (by kernel_rfl) ?_;intro us outs hs;unfold A3d at hs;split at hs
 ·skip;rename_i u_p b;have hq_p:=A6.1 hs;clear hs;obtain⟨p,hd_p,hs⟩:=hq_p;replace hd_p:=F0 hd_p;subst hd_p;split at hs
  ·rename_i hc;cases hs;have zs:el (Q2 p (0:Int).toNat ((el p).length:Int).toNat)++[b]=el p++[b]:=by rw[A07]
   have zn:((el (Q2 p (0:Int).toNat ((el p).length:Int).toNat)).length:Int)=((el p).length:Int):=by rw[A07]
   unfold C3e;refine w0 (.cons 1 _ (.cons 0 _ (.nil))) ?_;refine w31 A42 (e:=B5u _ ⟨by omega,hc.2.2.2.2⟩) (k':=?_);first|refine d7 ?_|refine A3e ?_
   first|refine w4 (fun g0=>?_) (fun g0=>?_)|refine w4B (fun g0=>?_) (fun g0=>?_)
   ·refine w2 (.mk 1) (r:=rB) (e:=L3 [_] rfl (by decide) rfl) (k':=?_);refine w31 A0f (e:=A5k _ (g0 hc.2.1).elim) (k':=?_);refine O1 ?_;refine w4 (fun g1=>?_) fun g1=>?_
    ·refine w2 (.mk 1) (r:=rB) (e:=L3 [_] rfl (by decide) rfl) (k':=?_);refine w31 A1x (e:=A78 _ (g0 hc.2.1).elim) (k':=?_);refine w2 (.nilw 1) (r:=rB) (e:=D9 rfl) (k':=?_);refine w2 (.mk 1) (r:=rN) (e:=L3 [_] rfl (by decide) rfl) (k':=?_);refine w7 [A7 rB _,A7 rN _] ?_;exact(g0 hc.2.1).elim
    refine O1 ?_;refine w4 (fun g2=>?_) fun g2=>?_
    ·refine w2 (.mk 1) (r:=rB) (e:=L3 [_] rfl (by decide) rfl) (k':=?_);refine w2 (.nilw 1) (r:=rN) (e:=D9 rfl) (k':=?_);refine w7 [A7 rB _,A7 rN _] ?_;exact(g0 hc.2.1).elim
    refine w2 (.nilw 1) (r:=rB) (e:=D9 rfl) (k':=?_);refine w2 (.mk 1) (r:=rN) (e:=L3 [_] rfl (by decide) rfl) (k':=?_);refine w7 [A7 rB _,A7 rN _] ?_;exact(g0 hc.2.1).elim
   have zr:=hc.2.1;refine R1 ?_;refine w2 (.subs 1) (r:=rB) (e:=I7 rfl (by omega) (by omega) (by omega)) (k':=?_);refine w2 (.snoc 1) (r:=rB) (e:=J4 rfl rfl (by decide) (by first|omega|(show 1+_≤1000000000;have:=A8U b;omega))) (k':=?_);refine w31 A0f (e:=A5k _ ⟨by rw[I1,la];omega,by rw[I1,la];omega,by rw[I1,A07];exact C3O hc.2.2.2.2 hc.2.2.1 hc.2.2.2.1⟩) (k':=?_);refine O1 ?_;refine w4 (fun g1=>?_) fun g1=>?_
   ·refine w31 A1x (e:=A78 _ ⟨by rw[I1,la];omega,(by have:=B6U (.inr g1);rw[I1];exact this),by rw[I1,A07];exact C3O hc.2.2.2.2 hc.2.2.1 hc.2.2.2.1⟩) (k':=?_);refine w2 (.nilw 1) (r:=rB) (e:=D9 rfl) (k':=?_);refine w2 (.mk 1) (r:=rN) (e:=L3 [_] rfl (by decide) rfl) (k':=?_);refine w7 [A7 rB _,A7 rN _] ?_;have z:=C7t (l:=el p) (b:=b) (by rw[← zs];exact g1);exact ut2 z.1 (by rw[zs];exact z.2)
   refine O1 ?_;refine w4 (fun g2=>?_) fun g2=>?_
   ·refine w2 (.nilw 1) (r:=rN) (e:=D9 rfl) (k':=?_);refine w7 [A7 rB _,A7 rN _] ?_;have z:=C7u (l:=el p) (b:=b) (by rw[← zs];exact g2);exact ut2 (by rw[zs];exact z.1) z.2
   refine O1 ?_;refine w4 (fun g3=>?_) fun g3=>?_
   ·refine w2 (.nilw 1) (r:=rB) (e:=D9 rfl) (k':=?_);refine w2 (.mk 1) (r:=rN) (e:=L3 [_] rfl (by decide) rfl) (k':=?_);refine w7 [A7 rB _,A7 rN _] ?_;have z:=C7s (l:=el p) (b:=b) (by rw[← zs];exact g1) (by rw[← zs];exact g2) (C9M g3);exact ut2 z.1 z.2
   refine w2 (.nilw 1) (r:=rB) (e:=D9 rfl) (k':=?_);refine w32 A8W (e:=C11 _ _ ⟨rfl,.inl rfl,hc.2.2.1,hc.2.2.2.1,fun x hx=>by cases hx⟩) (k':=?_);refine w2 (.mk 1) (r:=rN) (e:=L3 [_] rfl (by decide) rfl) (k':=?_);refine w2 (.cat 1) (r:=rN) (e:=B2O rfl (by first|omega|(show 1+_≤1000000000;have:=A8U b;omega))) (k':=?_);refine w7 [A7 rB _,A7 rN _] ?_;have z:=C9p (l:=el p) (b:=b) (by rw[← zs];exact g1) (by rw[← zs];exact g2) (fun h=>g3 (by rw[h];rfl));exact ut2 (C7v.1.trans z.1) (by rw[← z.2,C7x];exact C6a _)
  ·cases hs
 ·cases hs
def fsN(b:Int):Int:=if b<128 then 1 else if 192≤b∧b<224 then 2 else if 224≤b∧b<240 then 3 else if 240≤b∧b<248 then 4 else 0
def fsL(b:Int):Int:=if b<128 then b else if 192≤b∧b<224 then b-192 else if 224≤b∧b<240 then b-224 else if 240≤b∧b<248 then b-240 else 0
def spL(l:List Int):Nat→Int→Int→Int→Option (Int×Int)
 | 0,_,lo,hi=>some (lo,hi)
 | k+1,i,lo,hi=>if i<(l.length:Int)then(if l.getD i.toNat default<128∨191<l.getD i.toNat default then none else spL l k (i+1) (lo*64+(l.getD i.toNat default-128)) (hi*64+63-63+(l.getD i.toNat default-128)))else spL l k (i+1) (lo*64) (hi*64+63)
def spN(l:List Int):Option (Int×Int):=if(l.length:Int)=0 then none else
 if(l.length:Int)>fsN (l.getD 0 0)then none else spL l (fsN (l.getD 0 0)-1).toNat 1 (fsL (l.getD 0 0)) (fsL (l.getD 0 0))
def spI(o:Option (Int×Int))(n:Int):Int:=if o.isSome then n else 0
theorem C78{l:List Int}(h:(l.length:Int)≠0)(h2:(l.length:Int)>fsN (l.getD 0 0)):spN l=none:=by unfold spN;rw[if_neg h,if_pos h2]
theorem C77{l:List Int}(h:(l.length:Int)≠0)(h2:¬(l.length:Int)>fsN (l.getD 0 0)):spN l=spL l (fsN (l.getD 0 0)-1).toNat 1 (fsL (l.getD 0 0)) (fsL (l.getD 0 0)):=by unfold spN;rw[if_neg h,if_neg h2]
theorem fsC(a:Int):(a<128∧fsN a=1∧fsL a=a)∨(((128≤a∧a<192)∨248≤a)∧fsN a=0)∨(192≤a∧a<224∧fsN a=2∧fsL a=a-192)∨(224≤a∧a<240∧fsN a=3∧fsL a=a-224)∨(240≤a∧a<248∧fsN a=4∧fsL a=a-240):=by
 unfold fsN fsL
 (repeat' split)<;>omega
theorem lnC(a:Int):(a<128∧R8 a=1)∨(194≤a∧a<224∧R8 a=2)∨(224≤a∧a<240∧R8 a=3)∨(240≤a∧a≤244∧R8 a=4)∨(((128≤a∧a<194)∨244<a)∧R8 a=0):=by
 unfold R8
 (repeat' split)<;>omega
theorem loC(a:Int):(a=224∧loB a=160)∨(a=240∧loB a=144)∨(a≠224∧a≠240∧loB a=128):=by
 unfold loB
 (repeat' split)<;>omega
theorem hiC(a:Int):(a=237∧hiB a=159)∨(a=244∧hiB a=143)∨(a≠237∧a≠244∧hiB a=191):=by
 unfold hiB
 (repeat' split)<;>omega
theorem knC(l:List Int):(knd l=0∧(R8 (l.getD 0 0)<(l.length:Int)∨¬okT (l.drop 1) (loB (l.getD 0 0)) (hiB (l.getD 0 0))=true))∨(knd l=1∧(l.length:Int)<R8 (l.getD 0 0)∧okT (l.drop 1) (loB (l.getD 0 0)) (hiB (l.getD 0 0))=true)∨(knd l=2∧(l.length:Int)=R8 (l.getD 0 0)∧okT (l.drop 1) (loB (l.getD 0 0)) (hiB (l.getD 0 0))=true):=by
 unfold knd;by_cases h1:R8 (l.getD 0 0)<(l.length:Int)
 ·rw[if_pos h1];exact .inl ⟨rfl,.inl h1⟩
 ·rw[if_neg h1];by_cases h2:okT (l.drop 1) (loB (l.getD 0 0)) (hiB (l.getD 0 0))=true
  ·rw[if_pos h2];by_cases h3:(l.length:Int)<R8 (l.getD 0 0)
   ·rw[if_pos h3];exact .inr (.inl ⟨rfl,h3,h2⟩)
   ·rw[if_neg h3];exact .inr (.inr ⟨rfl,by omega,h2⟩)
  ·rw[if_neg h2];exact .inl ⟨rfl,.inr h2⟩
theorem ok1(b lo hi:Int):okT [b] lo hi=true↔lo≤b∧b≤hi:=by simp[okT]
theorem ok2(b c lo hi:Int):okT [b,c] lo hi=true↔lo≤b∧b≤hi∧128≤c∧c≤191:=by simp[okT,and_assoc]
theorem ok3(b c d lo hi:Int):okT [b,c,d] lo hi=true↔lo≤b∧b≤hi∧128≤c∧c≤191∧128≤d∧d≤191:=by simp[okT,and_assoc]
theorem kn1(a:Int):(knd [a]=0∧R8 a<1)∨(knd [a]=1∧1<R8 a)∨(knd [a]=2∧R8 a=1):=by
 rcases knC [a]with⟨h,h2|h2⟩|⟨h,h2,h3⟩|⟨h,h2,h3⟩
 ·exact .inl ⟨h,h2⟩
 ·exact absurd rfl h2
 ·exact .inr (.inl ⟨h,h2⟩)
 ·exact .inr (.inr ⟨h,h2.symm⟩)
theorem kn2(a b:Int):(knd [a,b]=0∧(R8 a<2∨¬(loB a≤b∧b≤hiB a)))∨(knd [a,b]=1∧2<R8 a∧loB a≤b∧b≤hiB a)∨(knd [a,b]=2∧R8 a=2∧loB a≤b∧b≤hiB a):=by
 rcases knC [a,b]with⟨h,h2|h2⟩|⟨h,h2,h3⟩|⟨h,h2,h3⟩
 ·exact .inl ⟨h,.inl h2⟩
 ·exact .inl ⟨h,.inr fun k=>h2 ((ok1 _ _ _).2 k)⟩
 ·exact .inr (.inl ⟨h,h2,(ok1 _ _ _).1 h3⟩)
 ·exact .inr (.inr ⟨h,h2.symm,(ok1 _ _ _).1 h3⟩)
theorem kn3(a b c:Int):(knd [a,b,c]=0∧(R8 a<3∨¬(loB a≤b∧b≤hiB a∧128≤c∧c≤191)))∨(knd [a,b,c]=1∧3<R8 a∧loB a≤b∧b≤hiB a∧128≤c∧c≤191)∨(knd [a,b,c]=2∧R8 a=3∧loB a≤b∧b≤hiB a∧128≤c∧c≤191):=by
 rcases knC [a,b,c]with⟨h,h2|h2⟩|⟨h,h2,h3⟩|⟨h,h2,h3⟩
 ·exact .inl ⟨h,.inl h2⟩
 ·exact .inl ⟨h,.inr fun k=>h2 ((ok2 _ _ _ _).2 k)⟩
 ·exact .inr (.inl ⟨h,h2,(ok2 _ _ _ _).1 h3⟩)
 ·exact .inr (.inr ⟨h,h2.symm,(ok2 _ _ _ _).1 h3⟩)
theorem kn4(a b c d:Int):(knd [a,b,c,d]=0∧(R8 a<4∨¬(loB a≤b∧b≤hiB a∧128≤c∧c≤191∧128≤d∧d≤191)))∨(knd [a,b,c,d]=1∧4<R8 a∧loB a≤b∧b≤hiB a∧128≤c∧c≤191∧128≤d∧d≤191)∨(knd [a,b,c,d]=2∧R8 a=4∧loB a≤b∧b≤hiB a∧128≤c∧c≤191∧128≤d∧d≤191):=by
 rcases knC [a,b,c,d]with⟨h,h2|h2⟩|⟨h,h2,h3⟩|⟨h,h2,h3⟩
 ·exact .inl ⟨h,.inl h2⟩
 ·exact .inl ⟨h,.inr fun k=>h2 ((ok3 _ _ _ _ _).2 k)⟩
 ·exact .inr (.inl ⟨h,h2,(ok3 _ _ _ _ _).1 h3⟩)
 ·exact .inr (.inr ⟨h,h2.symm,(ok3 _ _ _ _ _).1 h3⟩)
def leS(n:Int):Int:=([0,0,128,2048,65536]:List Int).getD n.toNat 0
def mxS(n:Int):Int:=([0,127,2047,65535,1114111]:List Int).getD n.toNat 0
def gLo(l:List Int):Int:=((spN l).getD (0,0)).1
def gHi(l:List Int):Int:=((spN l).getD (0,0)).2
def gNn(l:List Int):Int:=spI (spN l) (fsN (l.getD 0 0))
def gIs(l:List Int):Prop:=gNn l≠0∧max (gLo l) (leS (gNn l))≤min (gHi l) (mxS (gNn l))∧¬(55296≤max (gLo l) (leS (gNn l))∧min (gHi l) (mxS (gNn l))≤57343)
theorem C4_{l:List Int}(h:spN l=none):¬gIs l:=fun k=>k.1 (by unfold gNn;rw[h];rfl)
theorem C9E{l:List Int}{lo hi n:Int}(h:spN l=some (lo,hi))(hn:fsN (l.getD 0 0)=n):gNn l=n∧gLo l=lo∧gHi l=hi:=by
 unfold gNn gLo gHi;rw[h,hn];exact⟨rfl,rfl,rfl⟩
def B7p(l:List Int):Prop:=(gIs l↔knd l=1∨knd l=2)∧(gIs l→((l.length:Int)=gNn l↔knd l=2))∧(knd l=2→gLo l=A1l l)
theorem V8{l:List Int}(h:spN l=none)(h2:knd l=0):B7p l :=
 ⟨⟨fun k=>absurd k (C4_ h),fun k=>by omega⟩,fun k=>absurd k (C4_ h),fun k=>by omega⟩
theorem A2J{l:List Int}{lo hi n e m:Int}(h:spN l=some (lo,hi))(hn:fsN (l.getD 0 0)=n)(he:leS n=e)(hm:mxS n=m)
  (h1:(n≠0∧max lo e≤min hi m∧¬(55296≤max lo e∧min hi m≤57343))↔knd l=1∨knd l=2) (h2:knd l=1∨knd l=2→((l.length:Int)=n↔knd l=2)) (h3:knd l=2→lo=A1l l):B7p l:=by
 obtain⟨a,b,c⟩:=C9E h hn;have hI:gIs l↔knd l=1∨knd l=2:=by
  unfold gIs;rw[a,b,c,he,hm];exact h1
 exact⟨hI,fun k=>by rw[a];exact h2 (hI.1 k),fun k=>by rw[b];exact h3 k⟩
theorem A43{l:List Int}{n:Nat}(hl:l.length≠0)(hn:fsN (l.getD 0 0)=(n:Int)+1)(hle:l.length≤n+1):spN l=spL l n 1 (fsL (l.getD 0 0)) (fsL (l.getD 0 0)):=by
 rw[C77 (by omega) (by omega),hn,show((n:Int)+1-1).toNat=n by omega]
theorem A44{l:List Int}(hl:l.length≠0)(h:fsN (l.getD 0 0)<(l.length:Int)):spN l=none:=C78 (by omega) (by omega)
theorem D0K(a:Int):A1l [a]=a:=rfl
theorem D0J(a b:Int):A1l [a,b]=a%32*64+b%64:=rfl
theorem D0I(a b c:Int):A1l [a,b,c]=(a%16*64+b%64)*64+c%64:=rfl
theorem D0H(a b c d:Int):A1l [a,b,c,d]=((a%8*64+b%64)*64+c%64)*64+d%64:=rfl
theorem g1(a:Int)(h0:0≤a)(h1:a<256):B7p [a]:=by
 have k:=kn1 a;have l:=lnC a;rcases fsC a with⟨q,n,f⟩|⟨q,n⟩|⟨q,q2,n,f⟩|⟨q,q2,n,f⟩|⟨q,q2,n,f⟩
 ·have s:spN [a]=some (fsL a,fsL a):=(A43 (l:=[a]) (n:=0) (by simp) (show fsN a=((0:Nat):Int)+1 from n) (by simp)).trans rfl;refine A2J s n (show leS 1=0 from rfl) (show mxS 1=127 from rfl) ?_ ?_ ?_
  ·omega
  ·intro _;show(1:Int)=1↔_;omega
  ·intro _;rw[D0K];exact f
 ·exact V8 (A44 (by simp) (by show fsN a<1;omega)) (by omega)
 ·have s:spN [a]=some (fsL a*64,fsL a*64+63):=(A43 (l:=[a]) (n:=1) (by simp) (show fsN a=((1:Nat):Int)+1 from n) (by simp)).trans rfl;refine A2J s n (show leS 2=128 from rfl) (show mxS 2=2047 from rfl) ?_ ?_ ?_
  ·omega
  ·intro _;show(1:Int)=2↔_;omega
  ·intro _;omega
 ·have s:spN [a]=some (fsL a*64*64,(fsL a*64+63)*64+63):=(A43 (l:=[a]) (n:=2) (by simp) (show fsN a=((2:Nat):Int)+1 from n) (by simp)).trans rfl;refine A2J s n (show leS 3=2048 from rfl) (show mxS 3=65535 from rfl) ?_ ?_ ?_
  ·omega
  ·intro _;show(1:Int)=3↔_;omega
  ·intro _;omega
 ·have s:spN [a]=some (fsL a*64*64*64,((fsL a*64+63)*64+63)*64+63):=(A43 (l:=[a]) (n:=3) (by simp) (show fsN a=((3:Nat):Int)+1 from n) (by simp)).trans rfl;refine A2J s n (show leS 4=65536 from rfl) (show mxS 4=1114111 from rfl) ?_ ?_ ?_
  ·omega
  ·intro _;show(1:Int)=4↔_;omega
  ·intro _;omega
theorem g2(a b:Int)(h0:0≤a)(h1:a<256)(h2:0≤b)(h3:b<256):B7p [a,b]:=by
 have k:=kn2 a b;have l:=lnC a;have u:=loC a;have v:=hiC a;rcases fsC a with⟨q,n,f⟩|⟨q,n⟩|⟨q,q2,n,f⟩|⟨q,q2,n,f⟩|⟨q,q2,n,f⟩
 ·exact V8 (A44 (by simp) (by show fsN a<2;omega)) (by omega)
 ·exact V8 (A44 (by simp) (by show fsN a<2;omega)) (by omega)
 ·have s:spN [a,b]=if b<128∨191<b then none else some (fsL a*64+(b-128),fsL a*64+63-63+(b-128)):=(A43 (l:=[a,b]) (n:=1) (by simp) (show fsN a=((1:Nat):Int)+1 from n) (by simp)).trans rfl
  by_cases hb:b<128∨191<b
  ·rw[if_pos hb]at s;exact V8 s (by omega)
  ·rw[if_neg hb]at s;refine A2J s n (show leS 2=128 from rfl) (show mxS 2=2047 from rfl) ?_ ?_ ?_
   ·omega
   ·intro _;show(2:Int)=2↔_;omega
   ·intro _;rw[D0J];omega
 ·have s:spN [a,b]=if b<128∨191<b then none else some ((fsL a*64+(b-128))*64,(fsL a*64+63-63+(b-128))*64+63):=(A43 (l:=[a,b]) (n:=2) (by simp) (show fsN a=((2:Nat):Int)+1 from n) (by simp)).trans rfl
  by_cases hb:b<128∨191<b
  ·rw[if_pos hb]at s;exact V8 s (by omega)
  ·rw[if_neg hb]at s;refine A2J s n (show leS 3=2048 from rfl) (show mxS 3=65535 from rfl) ?_ ?_ ?_
   ·omega
   ·intro _;show(2:Int)=3↔_;omega
   ·intro _;omega
 ·have s:spN [a,b]=if b<128∨191<b then none else some ((fsL a*64+(b-128))*64*64,((fsL a*64+63-63+(b-128))*64+63)*64+63):=(A43 (l:=[a,b]) (n:=3) (by simp) (show fsN a=((3:Nat):Int)+1 from n) (by simp)).trans rfl
  by_cases hb:b<128∨191<b
  ·rw[if_pos hb]at s;exact V8 s (by omega)
  ·rw[if_neg hb]at s;refine A2J s n (show leS 4=65536 from rfl) (show mxS 4=1114111 from rfl) ?_ ?_ ?_
   ·omega
   ·intro _;show(2:Int)=4↔_;omega
   ·intro _;omega
theorem g3(a b c:Int)(h0:0≤a)(h1:a<256)(h2:0≤b)(h3:b<256)(h4:0≤c)(h5:c<256):B7p [a,b,c]:=by
 have k:=kn3 a b c;have l:=lnC a;have u:=loC a;have v:=hiC a;rcases fsC a with⟨q,n,f⟩|⟨q,n⟩|⟨q,q2,n,f⟩|⟨q,q2,n,f⟩|⟨q,q2,n,f⟩
 ·exact V8 (A44 (by simp) (by show fsN a<3;omega)) (by omega)
 ·exact V8 (A44 (by simp) (by show fsN a<3;omega)) (by omega)
 ·exact V8 (A44 (by simp) (by show fsN a<3;omega)) (by omega)
 ·have s:spN [a,b,c]=if b<128∨191<b then none else if c<128∨191<c then none else some ((fsL a*64+(b-128))*64+(c-128),(fsL a*64+63-63+(b-128))*64+63-63+(c-128)):=(A43 (l:=[a,b,c]) (n:=2) (by simp) (show fsN a=((2:Nat):Int)+1 from n) (by simp)).trans rfl
  by_cases hb:b<128∨191<b
  ·rw[if_pos hb]at s;exact V8 s (by omega)
  ·rw[if_neg hb]at s;by_cases hc:c<128∨191<c
   ·rw[if_pos hc]at s;exact V8 s (by omega)
   ·rw[if_neg hc]at s;refine A2J s n (show leS 3=2048 from rfl) (show mxS 3=65535 from rfl) ?_ ?_ ?_
    ·omega
    ·intro _;show(3:Int)=3↔_;omega
    ·intro _;rw[D0I];omega
 ·have s:spN [a,b,c]=if b<128∨191<b then none else if c<128∨191<c then none else some (((fsL a*64+(b-128))*64+(c-128))*64,((fsL a*64+63-63+(b-128))*64+63-63+(c-128))*64+63):=(A43 (l:=[a,b,c]) (n:=3) (by simp) (show fsN a=((3:Nat):Int)+1 from n) (by simp)).trans rfl
  by_cases hb:b<128∨191<b
  ·rw[if_pos hb]at s;exact V8 s (by omega)
  ·rw[if_neg hb]at s;by_cases hc:c<128∨191<c
   ·rw[if_pos hc]at s;exact V8 s (by omega)
   ·rw[if_neg hc]at s;refine A2J s n (show leS 4=65536 from rfl) (show mxS 4=1114111 from rfl) ?_ ?_ ?_
    ·omega
    ·intro _;show(3:Int)=4↔_;omega
    ·intro _;omega
theorem g4(a b c d:Int)(h0:0≤a)(h1:a<256)(h2:0≤b)(h3:b<256)(h4:0≤c)(h5:c<256)(h6:0≤d)(h7:d<256):B7p [a,b,c,d]:=by
 have k:=kn4 a b c d;have l:=lnC a;have u:=loC a;have v:=hiC a;rcases fsC a with⟨q,n,f⟩|⟨q,n⟩|⟨q,q2,n,f⟩|⟨q,q2,n,f⟩|⟨q,q2,n,f⟩
 ·exact V8 (A44 (by simp) (by show fsN a<4;omega)) (by omega)
 ·exact V8 (A44 (by simp) (by show fsN a<4;omega)) (by omega)
 ·exact V8 (A44 (by simp) (by show fsN a<4;omega)) (by omega)
 ·exact V8 (A44 (by simp) (by show fsN a<4;omega)) (by omega)
 ·have s:spN [a,b,c,d]=if b<128∨191<b then none else if c<128∨191<c then none else if d<128∨191<d then none else some (((fsL a*64+(b-128))*64+(c-128))*64+(d-128),((fsL a*64+63-63+(b-128))*64+63-63+(c-128))*64+63-63+(d-128)):=(A43 (l:=[a,b,c,d]) (n:=3) (by simp) (show fsN a=((3:Nat):Int)+1 from n) (by simp)).trans rfl
  by_cases hb:b<128∨191<b
  ·rw[if_pos hb]at s;exact V8 s (by omega)
  ·rw[if_neg hb]at s;by_cases hc:c<128∨191<c
   ·rw[if_pos hc]at s;exact V8 s (by omega)
   ·rw[if_neg hc]at s;by_cases hd:d<128∨191<d
    ·rw[if_pos hd]at s;exact V8 s (by omega)
    ·rw[if_neg hd]at s;refine A2J s n (show leS 4=65536 from rfl) (show mxS 4=1114111 from rfl) ?_ ?_ ?_
     ·omega
     ·intro _;show(4:Int)=4↔_;omega
     ·intro _;rw[D0H];omega
end Go.Proofs.YtdimocjaepnifaaGreatDoor
