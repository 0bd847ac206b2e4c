/- The law KeysPastes: for every input the call returns true, and the arguments read behind it as they read before. No condition. -/
import Derived.Test.YtdimocjaepnifaaGreatDoorX10
namespace Go.Proofs.YtdimocjaepnifaaGreatDoor
set_option linter.all false
open Go Go.Sx
set_option maxRecDepth 100000
set_option maxHeartbeats 4000000
set_option linter.unusedVariables false
set_option linter.unusedSimpArgs false
def rI:Rw (Int×Int×Int×Int×Int×Int×Int×(List UInt8)):=rC (t6 .i64) (rC (t6 .i64) (rC (t6 .i64) (rC (t6 .i64) (rC (t6 .i64) (rC (t6 .i64) (rC (t6 .i64) (r1 B5n)))))))
theorem D0M{α:Type}{l r:List α}(h:l.length=r.length):(l.zip r).length=l.length:=by rw[List.length_zip];omega
def eqX(x y:(Int×Int×Int×Int×Int×Int×Int×List UInt8)):Bool:=(x.1 == y.1) && ((x.2.1 == y.2.1) && ((x.2.2.1 == y.2.2.1) && ((x.2.2.2.1 == y.2.2.2.1) && ((x.2.2.2.2.1 == y.2.2.2.2.1) && ((x.2.2.2.2.2.1 == y.2.2.2.2.2.1) && ((x.2.2.2.2.2.2.1 == y.2.2.2.2.2.2.1) && ((x.2.2.2.2.2.2.2 == y.2.2.2.2.2.2.2) && true)))))))
def neX(p:(Int×Int×Int×Int×Int×Int×Int×List UInt8)×(Int×Int×Int×Int×Int×Int×Int×List UInt8)):Bool:=!eqX p.1 p.2
def B0L(a b:Option (List (Int×Int×Int×Int×Int×Int×Int×List UInt8))):Bool:=decide ((el a).length=(el b).length) && (V7 neX ((el a).zip (el b)) 0).isNone
noncomputable def C6I:List (FuncId×FnC):=L0
theorem C1N{G:Nat→Option Obj}(hst:B9 Tryz.prog G gl H0 n0):G4 Tryz.prog G gl C6I:=.nil
def A7P:List U→Option (Nat×List U)
 | [u_a,u_b,.int .i64 i]=>(J9 rI u_a).bind fun a=>(J9 rI u_b).bind fun b=>if 0≤i∧i≤((el a).length:Int)∧(el a).length=(el b).length∧(el a).length≤140737488351232 then A2Z (V7 neX (((el a).zip (el b)).drop i.toNat) i) [] (fun _=>[])else none
 | _=>none
theorem A5x(a:(Option (List (Int×Int×Int×Int×Int×Int×Int×(List UInt8)))))(b:(Option (List (Int×Int×Int×Int×Int×Int×Int×(List UInt8)))))(i:Int)(hc:0≤i∧i≤((el a).length:Int)∧(el a).length=(el b).length∧(el a).length≤140737488351232):A7P [A8 rI a,A8 rI b,.int .i64 i]=A2Z (V7 neX (((el a).zip (el b)).drop i.toNat) i) [] (fun _=>[]):=by
 simp only[A7P,G1,D4];exact if_pos hc
def C4V:Q9:=⟨[(0,dat 7 0 18),(1,dat 8 1 18),(5,h 2 3)],[(7,.frz),(8,.frz)],3,[⟨.exit 0,[],[],0⟩,⟨.ret,[(4,.bool false)],[],0⟩]⟩
noncomputable def B8v:Code:=(Tryz.f22.body).getD .skip
noncomputable def C4R:Code:=match H8 [true,true,false,true,false] B8v with|some (.loop x)=>x|_=>.skip
theorem C4U:Tryz.f22.body=some B8v:=rfl
theorem C4T:H8 [true,true,false,true,false] B8v=some (.loop C4R):=by kernel_rfl
def C4S:Tr:=aD [h 0 18]<|aL [h3 2,h3 3]<|.br 4 (.lt 8 (.inbs 8) [h3 2,h 0 18]<|.br 5 (.lt 3 (.get 8 0) [h 0 18,h3 2]<|.lt 3 (.get 8 1) [h 0 18,h3 2]<|.lt 3 (.get 8 2) [h 0 18,h3 2]<|.lt 3 (.get 8 3) [h 0 18,h3 2]<|.lt 3 (.get 8 4) [h 0 18,h3 2]<|.lt 3 (.get 8 5) [h 0 18,h3 2]<|.lt 3 (.get 8 6) [h 0 18,h3 2]<|.lt 9 (.get 8 7) [h 0 18,h3 2]<|.lt 8 (.inbs 8) [h3 2,h 1 18]<|.br 14 (.lt 3 (.get 8 0) [h 1 18,h3 2]<|.lt 3 (.get 8 1) [h 1 18,h3 2]<|.lt 3 (.get 8 2) [h 1 18,h3 2]<|.lt 3 (.get 8 3) [h 1 18,h3 2]<|.lt 3 (.get 8 4) [h 1 18,h3 2]<|.lt 3 (.get 8 5) [h 1 18,h3 2]<|.lt 3 (.get 8 6) [h 1 18,h3 2]<|.lt 9 (.get 8 7) [h 1 18,h3 2]<|.lt 8 (.eqs) [h3 6,h3 15,h3 7,h3 16,h3 8,h3 17,h3 9,h3 18,h3 10,h3 19,h3 11,h3 20,h3 12,h3 21,h 13 9,h 22 9]<|aX [h 23 8]<|.br 24 (.ret [jI 1]) (aA [h3 2,jI 1]<|.ret [jI (-1),h 0 18,h 1 18,h3 25])) (.no)) (.no)) (.ret [jI 0])
def B8u:List U→Nat
 | [u_a,u_b,.int .i64 i]=>(match J9 rI u_a with|some a=>(match J9 rI u_b with|some b=>(((el a).length:Int)-i).toNat|none=>0)|none=>0)
 | _=>0
theorem B8t(a:(Option (List (Int×Int×Int×Int×Int×Int×Int×(List UInt8)))))(b:(Option (List (Int×Int×Int×Int×Int×Int×Int×(List UInt8)))))(i:Int):B8u [A8 rI a,A8 rI b,.int .i64 i]=(((el a).length:Int)-i).toNat:=by
 simp only[B8u,G1]
theorem C8c{G:Nat→Option Obj}(hst:B9 Tryz.prog G gl H0 n0):∀ (E:Nat→U) (base:Nat),@Y8 ⟨E,G⟩ Tryz.prog base gl Tryz.f22.ntmps C4R (Q8 Tryz.prog gl n0 9 C4V A7P):=by
 refine A0f (C:=cx C6I []) (dep:=60) (f:=22) (n0:=n0) (nB:=9) (H0:=H0) B8u C4S (cxg (C1N hst) .nil) hst Tryz.func22 C4U C4T (by kernel_rfl) (by kernel_rfl) (by kernel_rfl) ?_;intro us d outs hs;have hs0:=hs;unfold A7P at hs;split at hs
 ·skip;rename_i u_a u_b i;have hq_a:=A6.1 hs;clear hs;obtain⟨a,hd_a,hs⟩:=hq_a;replace hd_a:=F2 hd_a;subst hd_a;have hq_b:=A6.1 hs;clear hs;obtain⟨b,hd_b,hs⟩:=hq_b;replace hd_b:=F2 hd_b;subst hd_b;split at hs
  ·rename_i hc;clear hs hs0;have hz:=D0M hc.2.2.1;refine⟨rfl,?_⟩;unfold C4S;refine w0 (.cons 2 _ (.cons 1 _ (.cons 0 _ (.nil)))) ?_;refine R2 ?_;refine A1U ?_;refine w5 (fun g0=>?_) fun g0=>?_
   ·refine w7 [.int .i64 _] ?_;refine L6 (d:=0) ?_;rw[A5x a b i hc,A69 (by omega)];rfl
   refine n7 ?_;refine w5 (fun g1=>?_) fun g1=>?_
   ·refine w8 ?_;first|omega
   refine w1 (.get 8 0) (u:=.int .i64 _) (e:=G9 rfl (by omega) (by omega) rfl) (k':=?_);refine w1 (.get 8 1) (u:=.int .i64 _) (e:=G9 rfl (by omega) (by omega) rfl) (k':=?_);refine w1 (.get 8 2) (u:=.int .i64 _) (e:=G9 rfl (by omega) (by omega) rfl) (k':=?_);refine w1 (.get 8 3) (u:=.int .i64 _) (e:=G9 rfl (by omega) (by omega) rfl) (k':=?_);refine w1 (.get 8 4) (u:=.int .i64 _) (e:=G9 rfl (by omega) (by omega) rfl) (k':=?_);refine w1 (.get 8 5) (u:=.int .i64 _) (e:=G9 rfl (by omega) (by omega) rfl) (k':=?_);refine w1 (.get 8 6) (u:=.int .i64 _) (e:=G9 rfl (by omega) (by omega) rfl) (k':=?_);refine w1 (.get 8 7) (u:=.str _) (e:=G9 rfl (by omega) (by omega) rfl) (k':=?_);refine n7 ?_;refine w5 (fun g2=>?_) fun g2=>?_
   ·refine w8 ?_;first|omega
   refine w1 (.get 8 0) (u:=.int .i64 _) (e:=G9 rfl (by omega) (by omega) rfl) (k':=?_);refine w1 (.get 8 1) (u:=.int .i64 _) (e:=G9 rfl (by omega) (by omega) rfl) (k':=?_);refine w1 (.get 8 2) (u:=.int .i64 _) (e:=G9 rfl (by omega) (by omega) rfl) (k':=?_);refine w1 (.get 8 3) (u:=.int .i64 _) (e:=G9 rfl (by omega) (by omega) rfl) (k':=?_);refine w1 (.get 8 4) (u:=.int .i64 _) (e:=G9 rfl (by omega) (by omega) rfl) (k':=?_);refine w1 (.get 8 5) (u:=.int .i64 _) (e:=G9 rfl (by omega) (by omega) rfl) (k':=?_);refine w1 (.get 8 6) (u:=.int .i64 _) (e:=G9 rfl (by omega) (by omega) rfl) (k':=?_);refine w1 (.get 8 7) (u:=.str _) (e:=G9 rfl (by omega) (by omega) rfl) (k':=?_);refine w1 (.eqs) (e:=rfl) (k':=?_);first|refine m9 ?_|refine A3o ?_
   first|refine w4 (fun g3=>?_) (fun g3=>?_)|refine w4B (fun g3=>?_) (fun g3=>?_)
   ·refine w7 [.int .i64 _] ?_;refine L6 (d:=1) ?_;rw[A5x a b i hc,A68 (by omega) (by omega) (by rw[B5z (by omega) (by omega) (by omega)];exact g3)];rfl
   first|refine W5 ?_|refine N7 ?_
   refine w7 [.int .i64 _,A8 rI _,A8 rI _,.int .i64 _] ?_;refine J8 ?_ ?_
   ·rw[A5x a b (i+1) ⟨by omega,by omega,hc.2.2⟩,A5x a b i hc,A5U (i:=i) (by omega) (by omega) (by rw[B5z (by omega) (by omega) (by omega)];exact g3)]
   ·rw[B8t,B8t];omega
  ·cases hs
 ·cases hs
noncomputable def B4l:List LpE:=(22,([true,true,false,true,false],Q8 Tryz.prog gl n0 9 C4V A7P))::[]
theorem A6h{G:Nat→Option Obj}(hst:B9 Tryz.prog G gl H0 n0):A0D Tryz.prog G gl B4l:=.cons Tryz.func22 C4U C4T (C8c hst) .nil
theorem B5D{a b:Option (List (Int×Int×Int×Int×Int×Int×Int×List UInt8))}(h:¬((el a).length:Int)=(el b).length):B0L a b=false:=by
 unfold B0L;rw[decide_eq_false (by omega),X1]
theorem B5C{a b:Option (List (Int×Int×Int×Int×Int×Int×Int×List UInt8))}(h:(el a).length=(el b).length)(hf:V7 neX (((el a).zip (el b)).drop (0:Int).toNat) 0=none):B0L a b=true:=by
 unfold B0L;rw[decide_eq_true h];have hf:V7 neX ((el a).zip (el b)) 0=none:=hf;rw[hf];rfl
theorem B5B{a b:Option (List (Int×Int×Int×Int×Int×Int×Int×List UInt8))}{j:Int}(hf:V7 neX (((el a).zip (el b)).drop (0:Int).toNat) 0=some j):B0L a b=false:=by
 unfold B0L;have hf:V7 neX ((el a).zip (el b)) 0=some j:=hf;rw[hf,Bool.and_comm];rfl
noncomputable def C6J:List (FuncId×FnC):=L0
theorem C1O{G:Nat→Option Obj}(hst:B9 Tryz.prog G gl H0 n0):G4 Tryz.prog G gl C6J:=.nil
def A80:List U→Option (Nat×List U)
 | [u_a,u_b]=>(J9 rI u_a).bind fun a=>(J9 rI u_b).bind fun b=>if(el a).length≤140737488351232∧(el b).length≤140737488351232 then some (0,[.bool (B0L a b)])else none
 | _=>none
theorem C2M(a:(Option (List (Int×Int×Int×Int×Int×Int×Int×(List UInt8)))))(b:(Option (List (Int×Int×Int×Int×Int×Int×Int×(List UInt8)))))(hc:(el a).length≤140737488351232∧(el b).length≤140737488351232):A80 [A8 rI a,A8 rI b]=some (0,[.bool (B0L a b)]):=by
 simp only[A80,G1,D4];exact if_pos hc
def C4X:Tr:=aD [h 0 18]<|aD [h 1 18]<|aN [h3 2,h3 3]<|.br 4 (.ret [.bool false]) (.lp A7P [h 0 18,h 1 18,jI 0] 0 0 (.ret [.bool true]) (.lp A7P [h 0 18,h 1 18,jI 0] 1 0 (.ret [.bool false]) (.no)))
theorem C8d{G:Nat→Option Obj}(hst:B9 Tryz.prog G gl H0 n0):L2 Tryz.prog G 22 [.s 18,.s 18] A80 [.s 8]:=by
 refine E7 (C:=cx C6J B4l) (d:=60) C4X (cxg (C1O hst) (A6h hst)) hst ⟨Tryz.f22,_,Tryz.func22,rfl⟩ (by kernel_rfl) (by kernel_rfl) ?_;intro us outs hs;unfold A80 at hs;split at hs
 ·skip;rename_i u_a u_b;have hq_a:=A6.1 hs;clear hs;obtain⟨a,hd_a,hs⟩:=hq_a;replace hd_a:=F2 hd_a;subst hd_a;have hq_b:=A6.1 hs;clear hs;obtain⟨b,hd_b,hs⟩:=hq_b;replace hd_b:=F2 hd_b;subst hd_b;split at hs
  ·rename_i hc;cases hs;unfold C4X;refine w0 (.cons 1 _ (.cons 0 _ (.nil))) ?_;refine R2 ?_;refine R2 ?_;refine A0k ?_;refine w4 (fun g0=>?_) fun g0=>?_
   ·refine w7 [.bool _] ?_;first|(rw[B5D (by omega)];done)|(rw[B5C (by omega) g1];done)|(rw[B5B g1];done)
   refine w6 A7P (A5x _ _ _ ⟨by omega,by omega,by omega,by omega⟩) (h0:=fun g1=>?_) (h1:=fun v1 g1=>?_)
   ·show Wk _ _ _;refine w7 [.bool _] ?_;first|(rw[B5D (by omega)];done)|(rw[B5C (by omega) g1];done)|(rw[B5B g1];done)
   show Wk _ _ _;refine w7 [.bool _] ?_;first|(rw[B5D (by omega)];done)|(rw[B5C (by omega) g1];done)|(rw[B5B g1];done)
  ·cases hs
 ·cases hs
noncomputable def C6U:List (FuncId×FnC):=(36,I9 Tryz.prog [.s 3,.s 3] B0Y [.s 8])::(37,I9 Tryz.prog [.a [3,3,3,3,3,3,3,9]] B0X [.s 8])::(28,I9 Tryz.prog [.s 9,.s 9] B1R [.s 8])::L0
theorem C1Z{G:Nat→Option Obj}(hst:B9 Tryz.prog G gl H0 n0):G4 Tryz.prog G gl C6U:=(.cons (C8F hst) (.cons (C8D hst) (.cons (C90 hst) .nil)))
def V0:List U→Option (Nat×List U)
 | [.int .i64 k,.int .i64 c,.int .i64 m,.int .i64 w,.int .i64 b,.int .i64 r,.int .i64 cl,.str t]=>if -9223372036854775808≤m∧m≤9223372036854775807∧(t.length:Int)≤140737488351232 then some (0,[.int .i64 (if A3F k c m w b r cl t then 0 else 430)])else none
 | _=>none
theorem r7(k:Int)(c:Int)(m:Int)(w:Int)(b:Int)(r:Int)(cl:Int)(t:(List UInt8))(hc : -9223372036854775808≤m∧m≤9223372036854775807∧(t.length:Int)≤140737488351232):V0 [.int .i64 k,.int .i64 c,.int .i64 m,.int .i64 w,.int .i64 b,.int .i64 r,.int .i64 cl,.str t]=some (0,[.int .i64 (if A3F k c m w b r cl t then 0 else 430)]):=if_pos hc
def C46:Tr:=aE [h3 0,jI 1]<|.br 8 (.fn B0Y [h3 1,h3 2] 1<|aX [h 9 8]<|.br 10 (.ret [jI 430]) (.lt 8 (.eqs) [h3 0,jI 1,h3 1,h3 1,h3 2,h3 2,h3 3,jI 0,h3 4,jI 0,h3 5,jI 0,h3 6,jI 0,h 7 9,.string ⟨⟨[]⟩⟩]<|aX [h 11 8]<|.br 12 (.ret [jI 430]) (.ret [jI 0]))) (aE [h3 0,jI 2]<|.br 9 (.fn B0X [h3 0,h3 1,h3 2,h3 3,h3 4,h3 5,h3 6,h 7 9] 1<|aX [h 10 8]<|.br 11 (.ret [jI 430]) (.lt 8 (.eqs) [h3 0,h3 0,h3 1,jI 0,h3 2,h3 2,h3 3,h3 3,h3 4,h3 4,h3 5,h3 5,h3 6,h3 6,h 7 9,.string ⟨⟨[]⟩⟩]<|aX [h 12 8]<|.br 13 (.ret [jI 430]) (.ret [jI 0]))) (aE [h3 0,jI 3]<|.br 10 (aD [h 7 9]<|aQ [h3 11,jI 1000]<|.br 12 (.fn B1R [h 7 9,.string ⟨⟨[27]⟩⟩] 1<|aX [h 13 8]<|aX [h 14 8]<|.br 15 (.ret [jI 430]) (.lt 8 (.eqs) [h3 0,h3 0,h3 1,jI 0,h3 2,jI 0,h3 3,jI 0,h3 4,jI 0,h3 5,jI 0,h3 6,jI 0,h 7 9,h 7 9]<|aX [h 16 8]<|.br 17 (.ret [jI 430]) (.ret [jI 0]))) (.ret [jI 430])) (aE [h3 0,jI 4]<|.br 11 (aH [h3 3,jI 0]<|.br 12 (aQ [h3 3,jI 1]<|aX [h 13 8]<|.br 14 (.ret [jI 430]) (.lt 8 (.eqs) [h3 0,h3 0,h3 1,jI 0,h3 2,jI 0,h3 3,h3 3,h3 4,jI 0,h3 5,jI 0,h3 6,jI 0,h 7 9,.string ⟨⟨[]⟩⟩]<|aX [h 15 8]<|.br 16 (.ret [jI 430]) (.ret [jI 0]))) (.ret [jI 430])) (.ret [jI 430]))))
theorem C47{G:Nat→Option Obj}(hst:B9 Tryz.prog G gl H0 n0):L2 Tryz.prog G 13 [.a [3,3,3,3,3,3,3,9]] V0 [.s 3]:=by
 refine E7 (C:=cx C6U B4l) (d:=60) C46 (cxg (C1Z hst) (A6h hst)) hst ⟨Tryz.f13,_,Tryz.func13,rfl⟩ (by kernel_rfl) (by kernel_rfl) ?_;intro us outs hs;unfold V0 at hs;split at hs
 ·skip;rename_i k c m w b r cl t;split at hs
  ·rename_i hc;cases hs;have zi:=C3l t;unfold C46;refine w0 (.cons 7 _ (.cons 6 _ (.cons 5 _ (.cons 4 _ (.cons 3 _ (.cons 2 _ (.cons 1 _ (.cons 0 _ (.nil))))))))) ?_;repeat (first|refine w4 (fun g=>?_) fun g=>?_|refine w4B (fun g=>?_) fun g=>?_|refine m9 ?_|refine A3o ?_|(refine w7 [.int .i64 _] ?_;rotate_left)|refine N6 ?_|refine w1 (.eqs) (e:=rfl) (k':=?_)|refine A5K ?_|refine w31 B0Y (e:=C13 _ _ (by omega)) (k':=?_)|refine w31 B0X (e:=C10 _ _ _ _ _ _ _ _) (k':=?_)|refine B3C ?_|refine w31 B1R (e:=C3T _ _ rfl) (k':=?_)|refine A2d ?_)
   all_goals
    refine l0 ?_;first
    | exact(if_pos (by unfold A3F;first|(simp_all;done)|(simp_all;omega))).symm
    | exact(if_neg (fun h=>by
       unfold A3F at h;rcases h with h|h|h|h<;>first|(exfalso;omega)|(simp_all;done)|(simp_all;omega))).symm
  ·cases hs
 ·cases hs
noncomputable def C6V:List (FuncId×FnC):=(75,I9 Tryz.prog [.a [8,8,8,8,8,8,8,8,8,8,8,3,8]] B02 [.s 3])::(13,I9 Tryz.prog [.a [3,3,3,3,3,3,3,9]] V0 [.s 3])::L0
theorem C1a{G:Nat→Option Obj}(hst:B9 Tryz.prog G gl H0 n0):G4 Tryz.prog G gl C6V:=(.cons (C9E hst) (.cons (C47 hst) .nil))
def B1A:List U→Option (Nat×List U)
 | [.bool b0,.bool b1,.bool ck,.bool b3,.bool b4,.bool b5,.bool b6,.bool pa,.bool fo,.bool b9,.bool b10,.int .i64 mo,.bool sg,.int .i64 k,.int .i64 c,.int .i64 m,.int .i64 w,.int .i64 b,.int .i64 r,.int .i64 cl,.str t]=>if -9223372036854775808≤m∧m≤9223372036854775807∧(t.length:Int)≤140737488351232 then some (0,[.int .i64 (A3I mo k c m w b r cl t)])else none
 | _=>none
theorem C2y(b0:Bool)(b1:Bool)(ck:Bool)(b3:Bool)(b4:Bool)(b5:Bool)(b6:Bool)(pa:Bool)(fo:Bool)(b9:Bool)(b10:Bool)(mo:Int)(sg:Bool)(k:Int)(c:Int)(m:Int)(w:Int)(b:Int)(r:Int)(cl:Int)(t:(List UInt8))(hc : -9223372036854775808≤m∧m≤9223372036854775807∧(t.length:Int)≤140737488351232):B1A [.bool b0,.bool b1,.bool ck,.bool b3,.bool b4,.bool b5,.bool b6,.bool pa,.bool fo,.bool b9,.bool b10,.int .i64 mo,.bool sg,.int .i64 k,.int .i64 c,.int .i64 m,.int .i64 w,.int .i64 b,.int .i64 r,.int .i64 cl,.str t]=some (0,[.int .i64 (A3I mo k c m w b r cl t)]):=if_pos hc
def C48:Tr:=.fn B02 [h 0 8,h 1 8,h 2 8,h 3 8,h 4 8,h 5 8,h 6 8,h 7 8,h 8 8,h 9 8,h 10 8,h3 11,h 12 8] 1<|aN [h3 21,jI 0]<|.br 22 (.ret [h3 21]) (.fn V0 [h3 13,h3 14,h3 15,h3 16,h3 17,h3 18,h3 19,h 20 9] 1<|.ret [h3 23])
theorem C9T{G:Nat→Option Obj}(hst:B9 Tryz.prog G gl H0 n0):L2 Tryz.prog G 48 [.a [8,8,8,8,8,8,8,8,8,8,8,3,8],.a [3,3,3,3,3,3,3,9]] B1A [.s 3]:=by
 refine E7 (C:=cx C6V B4l) (d:=60) C48 (cxg (C1a hst) (A6h hst)) hst ⟨Tryz.f48,_,Tryz.func48,rfl⟩ (by kernel_rfl) (by kernel_rfl) ?_;intro us outs hs;unfold B1A at hs;split at hs
 ·skip;rename_i b0 b1 ck b3 b4 b5 b6 pa fo b9 b10 mo sg k c m w b r cl t;split at hs
  ·rename_i hc;cases hs;unfold C48;refine s0L ?_;show Tr.sav _ _ (.cons 20 _ (.cons 19 _ (.cons 18 _ (.cons 17 _ (.cons 16 _ (.cons 15 _ (.cons 14 _ (.cons 13 _ (.cons 12 _ (.cons 11 _ (.cons 10 _ (.cons 9 _ (.cons 8 _ (.cons 7 _ (.cons 6 _ (.cons 5 _ (.cons 4 _ (.cons 3 _ (.cons 2 _ (.cons 1 _ (.cons 0 _ (.nil))))))))))))))))))))));refine Wk.s ?_;repeat (first|(refine w7 [.int .i64 _] ?_;rotate_left)|refine w31 B02 (e:=C2q _ _ _ _ _ _ _ _ _ _ _ _ _) (k':=?_)|refine A0k ?_|refine w4 (fun g=>?_) fun g=>?_|refine w31 V0 (e:=r7 _ _ _ _ _ _ _ _ hc) (k':=?_))
   all_goals
    refine l0 ?_;rw[← C9t];first|(simp_all;done)
  ·cases hs
 ·cases hs
def C3d(e:Int)(z:Bool)(s:List UInt8):Option (List Int):=if e=0 then(if z then none else some (bI s))else none
theorem C77{e:Int}{z:Bool}{s:List UInt8}(h:e≠0):C3d e z s=none:=if_neg h
theorem A1t{z:Bool}{s:List UInt8}(h:z=true):C3d 0 z s=none:=by subst h;rfl
theorem H3{z:Bool}{s t:List UInt8}(h:z=false)(h2:t=s):C3d 0 z s=some (bI t):=by subst h h2;rfl
def B5L(k:Int)(z:Bool):Bool:=decide (k≠3) && !z
theorem A1g{k:Int}{z:Bool}(h:k≠3)(h2:z=false):B5L k z=true:=by unfold B5L;rw[decide_eq_true h,h2];rfl
theorem A1h{k:Int}{z:Bool}(h:k=3):B5L k z=false:=by unfold B5L;rw[decide_eq_false (fun q=>q h)];rfl
theorem J2{k:Int}{z:Bool}(h:z=true):B5L k z=false:=by unfold B5L;rw[h,P0,T9]
theorem A75{pa fo:Bool}{mo k w b:Int}(h:k=3):isS pa fo mo k w b=pa:=by unfold isS;rw[if_pos h]
theorem C5d{sg:Bool}{b0 b1 ck b3 b4 b5 b6 pa fo b9 b10:Bool}{mo k c m w b r cl:Int}{t:List UInt8}{z:Bool}(hz:z=true)(h:msP m w b r cl):S6 [.bool b0,.bool b1,.bool ck,.bool b3,.bool b4,.bool b5,.bool b6,.bool pa,.bool fo,.bool b9,.bool b10,.int .i64 mo,.bool sg,.int .i64 (ifI z k),.int .i64 (ifI z c),.int .i64 (ifI z m),.int .i64 (ifI z w),.int .i64 (ifI z b),.int .i64 (ifI z r),.int .i64 (ifI z cl),.str (ifT z t)]=some (0,[.str (moS sg m w b r cl)]):=by
 subst hz;exact r9 b0 b1 ck b3 b4 b5 b6 pa fo b9 b10 mo sg k c m w b r cl t h
theorem A9e{ck pa fo sg:Bool}{mo k c m w b r cl:Int}{t:List UInt8}(h:k=3)(hp:pa=false):enS ck pa fo sg mo k c m w b r cl t=t:=if_pos ⟨h,hp⟩
theorem A9i{ck pa fo sg:Bool}{mo k c m w b r cl:Int}{t:List UInt8}(hz:isS pa fo mo k w b=true)(h:k=1):enS ck pa fo sg mo k c m w b r cl t=keS ck c m:=by
 unfold enS;rw[if_neg (fun g=>by have:=g.1;omega),if_neg (by rw[hz];decide),if_pos h]
theorem A9h{ck pa fo sg:Bool}{mo k c m w b r cl:Int}{t:List UInt8}(hz:isS pa fo mo k w b=true)(h:k=2):enS ck pa fo sg mo k c m w b r cl t=moS sg (B5k mo k m) w (B5l sg k w b) r cl:=by
 unfold enS;rw[if_neg (fun g=>by have:=g.1;omega),if_neg (by rw[hz];decide),if_neg (by omega),if_pos h]
theorem A9g{ck pa fo sg:Bool}{mo k c m w b r cl:Int}{t:List UInt8}(hz:isS pa fo mo k w b=true)(h:k=3):enS ck pa fo sg mo k c m w b r cl t=[27,91,50,48,48,126]++t++[27,91,50,48,49,126]:=by
 have hp:pa=true:=by rw[← A75 (pa:=pa) (fo:=fo) (mo:=mo) (w:=w) (b:=b) h];exact hz
 unfold enS;rw[if_neg (by rw[hp];simp),if_neg (by rw[hz];decide),if_neg (by omega),if_neg (by omega),if_pos h]
theorem A9f{ck pa fo sg:Bool}{mo k c m w b r cl:Int}{t x:List UInt8}(hz:isS pa fo mo k w b=true)(h1:k≠1)(h2:k≠2)(h3:k≠3)(h:x=if w=0 then[79]else[73]):[27,91]++x=enS ck pa fo sg mo k c m w b r cl t:=by
 rw[h];unfold enS;rw[if_neg (c:=k=3∧pa=false) (fun g=>h3 g.1),if_neg (c:=isS pa fo mo k w b=false) (by rw[hz];decide),if_neg h1,if_neg h2,if_neg h3]
theorem B5O{z:Bool}(h:(!z)=true):z=false:=by cases z<;>first|rfl|cases h
theorem A2P{z:Bool}(h:(!z)=false):z=true:=by cases z<;>first|rfl|cases h
theorem A1Y{w:Int}(h0:0≤w)(h1:w≤1):(([79,73]:List UInt8).drop w.toNat).take ((w+1).toNat-w.toNat)=if w=0 then[79]else[73]:=by
 have:w=0∨w=1:=by omega
 rcases this with rfl|rfl<;>rfl
noncomputable def C6S:List (FuncId×FnC):=(48,I9 Tryz.prog [.a [8,8,8,8,8,8,8,8,8,8,8,3,8],.a [3,3,3,3,3,3,3,9]] B1A [.s 3])::(49,I9 Tryz.prog [.a [8,8,8,8,8,8,8,8,8,8,8,3,8],.a [3,3,3,3,3,3,3,9]] B1Y [.a [3,3,3,3,3,3,3,9],.s 8])::(50,I9 Tryz.prog [.a [8,8,8,8,8,8,8,8,8,8,8,3,8],.a [3,3,3,3,3,3,3,9]] j8 [.s 9])::(51,I9 Tryz.prog [.a [8,8,8,8,8,8,8,8,8,8,8,3,8],.a [3,3,3,3,3,3,3,9]] S6 [.s 9])::L0
theorem C1X{G:Nat→Option Obj}(hst:B9 Tryz.prog G gl H0 n0):G4 Tryz.prog G gl C6S:=(.cons (C9T hst) (.cons (D0C hst) (.cons (A3b hst) (.cons (C5e hst) .nil))))
def B9s:List U→Option (Nat×List U)
 | [.bool b0,.bool b1,.bool ck,.bool b3,.bool b4,.bool b5,.bool b6,.bool pa,.bool fo,.bool b9,.bool b10,.int .i64 mo,.bool sg,.int .i64 k,.int .i64 c,.int .i64 m,.int .i64 w,.int .i64 b,.int .i64 r,.int .i64 cl,.str t]=>if -9223372036854775808≤m∧m≤9223372036854775807∧(t.length:Int)≤140737488351232 then some (0,[A8 rB (C3d (A3I mo k c m w b r cl t) (B5L k (isS pa fo mo k w b)) (enS ck pa fo sg mo k c m w b r cl t)),.int .i64 (A3I mo k c m w b r cl t)])else none
 | _=>none
def C42:Tr:=.fn B1A [h 0 8,h 1 8,h 2 8,h 3 8,h 4 8,h 5 8,h 6 8,h 7 8,h 8 8,h 9 8,h 10 8,h3 11,h 12 8,h3 13,h3 14,h3 15,h3 16,h3 17,h3 18,h3 19,h 20 9] 1<|aN [h3 21,jI 0]<|.br 22 (.dt 11 (.nilw 1) []<|.ret [h 23 11,h3 21]) (.fn B1Y [h 0 8,h 1 8,h 2 8,h 3 8,h 4 8,h 5 8,h 6 8,h 7 8,h 8 8,h 9 8,h 10 8,h3 11,h 12 8,h3 13,h3 14,h3 15,h3 16,h3 17,h3 18,h3 19,h 20 9] 9<|aX [h 31 8]<|.br 32 (aE [h3 13,jI 3]<|.br 33 (.dt 11 (.byt) [h 20 9]<|.ret [h 34 11,jI 0]) (aX [h 31 8]<|.br 34 (.dt 11 (.nilw 1) []<|.ret [h 35 11,jI 0]) (aE [h3 13,jI 1]<|.br 35 (.fn j8 [h 0 8,h 1 8,h 2 8,h 3 8,h 4 8,h 5 8,h 6 8,h 7 8,h 8 8,h 9 8,h 10 8,h3 11,h 12 8,h3 13,h3 14,h3 15,h3 16,h3 17,h3 18,h3 19,h 20 9] 1<|.dt 11 (.byt) [h 36 9]<|.ret [h 37 11,jI 0]) (aE [h3 13,jI 2]<|.br 36 (.fn S6 [h 0 8,h 1 8,h 2 8,h 3 8,h 4 8,h 5 8,h 6 8,h 7 8,h 8 8,h 9 8,h 10 8,h3 11,h 12 8,h3 23,h3 24,h3 25,h3 26,h3 27,h3 28,h3 29,h 30 9] 1<|.dt 11 (.byt) [h 37 9]<|.ret [h 38 11,jI 0]) (aE [h3 13,jI 3]<|.br 37 (aC [.string ⟨⟨[27,91,50,48,48,126]⟩⟩,h 20 9]<|aC [h 38 9,.string ⟨⟨[27,91,50,48,49,126]⟩⟩]<|.dt 11 (.byt) [h 39 9]<|.ret [h 40 11,jI 0]) (aA [h3 16,jI 1]<|.lt 9 (.sub) [.string ⟨⟨[79,73]⟩⟩,h3 16,h3 38]<|aC [.string ⟨⟨[27,91]⟩⟩,h 39 9]<|.dt 11 (.byt) [h 40 9]<|.ret [h 41 11,jI 0])))))) (aX [h 31 8]<|.br 33 (.dt 11 (.nilw 1) []<|.ret [h 34 11,jI 0]) (aE [h3 13,jI 1]<|.br 34 (.fn j8 [h 0 8,h 1 8,h 2 8,h 3 8,h 4 8,h 5 8,h 6 8,h 7 8,h 8 8,h 9 8,h 10 8,h3 11,h 12 8,h3 13,h3 14,h3 15,h3 16,h3 17,h3 18,h3 19,h 20 9] 1<|.dt 11 (.byt) [h 35 9]<|.ret [h 36 11,jI 0]) (aE [h3 13,jI 2]<|.br 35 (.fn S6 [h 0 8,h 1 8,h 2 8,h 3 8,h 4 8,h 5 8,h 6 8,h 7 8,h 8 8,h 9 8,h 10 8,h3 11,h 12 8,h3 23,h3 24,h3 25,h3 26,h3 27,h3 28,h3 29,h 30 9] 1<|.dt 11 (.byt) [h 36 9]<|.ret [h 37 11,jI 0]) (aE [h3 13,jI 3]<|.br 36 (aC [.string ⟨⟨[27,91,50,48,48,126]⟩⟩,h 20 9]<|aC [h 37 9,.string ⟨⟨[27,91,50,48,49,126]⟩⟩]<|.dt 11 (.byt) [h 38 9]<|.ret [h 39 11,jI 0]) (aA [h3 16,jI 1]<|.lt 9 (.sub) [.string ⟨⟨[79,73]⟩⟩,h3 16,h3 37]<|aC [.string ⟨⟨[27,91]⟩⟩,h 38 9]<|.dt 11 (.byt) [h 39 9]<|.ret [h 40 11,jI 0]))))))
theorem C9Q{G:Nat→Option Obj}(hst:B9 Tryz.prog G gl H0 n0):L2 Tryz.prog G 23 [.a [8,8,8,8,8,8,8,8,8,8,8,3,8],.a [3,3,3,3,3,3,3,9]] B9s [.s 11,.s 3]:=by
 refine E7 (C:=cx C6S B4l) (d:=60) C42 (cxg (C1X hst) (A6h hst)) hst ⟨Tryz.f23,_,Tryz.func23,rfl⟩ (by kernel_rfl) (by kernel_rfl) ?_;intro us outs hs;unfold B9s at hs;split at hs
 ·skip;rename_i b0 b1 ck b3 b4 b5 b6 pa fo b9 b10 mo sg k c m w b r cl t;split at hs
  ·rename_i hc;cases hs;unfold C42;refine s0L ?_;show Tr.sav _ _ (.cons 20 _ (.cons 19 _ (.cons 18 _ (.cons 17 _ (.cons 16 _ (.cons 15 _ (.cons 14 _ (.cons 13 _ (.cons 12 _ (.cons 11 _ (.cons 10 _ (.cons 9 _ (.cons 8 _ (.cons 7 _ (.cons 6 _ (.cons 5 _ (.cons 4 _ (.cons 3 _ (.cons 2 _ (.cons 1 _ (.cons 0 _ (.nil))))))))))))))))))))));refine Wk.s ?_;refine w31 B1A (e:=C2y _ _ _ _ _ _ _ _ _ _ _ _ _ _ _ _ _ _ _ _ _ hc) (k':=?_);refine A0k ?_;refine w4 (fun g0=>?_) fun g0=>?_
   ·refine w2 (.nilw 1) (r:=rB) (e:=E5 rfl) (k':=?_);refine w7 [A8 rB _,.int .i64 _] ?_;rw[C77 (e:=A3I mo k c m w b r cl t) g0]
   have z2:=(C5b (mo:=mo) (D6.1 g0)).2;have z3:=C9d z2;refine w3 B1Y (e:=C3Z _ _ _ _ _ _ _ _ _ _ _ _ _ _ _ _ _ _ _ _ _ (fun e=>D0f (A2A (C5b (mo:=mo) (D6.1 g0)).2 e))) (k':=?_);show Wk _ _ (.cons _ _ (.cons _ _ (.cons _ _ (.cons _ _ (.cons _ _ (.cons _ _ (.cons _ _ (.cons _ _ (.cons _ _ _)))))))));first|refine m9 ?_|refine A3o ?_
   first|refine w4 (fun g1=>?_) (fun g1=>?_)|refine w4B (fun g1=>?_) (fun g1=>?_)
   ·refine N6 ?_;refine w4 (fun g2=>?_) fun g2=>?_
    ·refine w2 (.byt) (r:=rB) (e:=y9 _ rfl) (k':=?_);refine w7 [A8 rB _,.int .i64 _] ?_;have hz:=B5O g1;rw[show A3I mo k c m w b r cl t=0 from D6.1 g0];first
     | (exfalso;simp_all;done)
     | (rw[A1t (A1g (by omega) hz)];done)
     | (rw[H3 (A1h (by omega)) (A9e (by omega) (by rw[← A75 (pa:=pa) (fo:=fo) (mo:=mo) (w:=w) (b:=b) (by omega)];exact hz)).symm];done)
     | (rw[H3 (J2 hz) (A9i hz (by omega)).symm];done)
     | (rw[H3 (J2 hz) (A9h hz (by omega)).symm];done)
     | (rw[H3 (J2 hz) (A9g hz (by omega)).symm];done)
     | (rw[H3 (J2 hz) (A9f hz (by omega) (by omega) (by omega) (A1Y (z3.2.2.2 (by omega)).1 (z3.2.2.2 (by omega)).2))];done)
    first|refine m9 ?_|refine A3o ?_
    first|refine w4 (fun g3=>?_) (fun g3=>?_)|refine w4B (fun g3=>?_) (fun g3=>?_)
    ·refine w2 (.nilw 1) (r:=rB) (e:=E5 rfl) (k':=?_);refine w7 [A8 rB _,.int .i64 _] ?_;have hz:=B5O g1;rw[show A3I mo k c m w b r cl t=0 from D6.1 g0];first
     | (exfalso;simp_all;done)
     | (rw[A1t (A1g (by omega) hz)];done)
     | (rw[H3 (A1h (by omega)) (A9e (by omega) (by rw[← A75 (pa:=pa) (fo:=fo) (mo:=mo) (w:=w) (b:=b) (by omega)];exact hz)).symm];done)
     | (rw[H3 (J2 hz) (A9i hz (by omega)).symm];done)
     | (rw[H3 (J2 hz) (A9h hz (by omega)).symm];done)
     | (rw[H3 (J2 hz) (A9g hz (by omega)).symm];done)
     | (rw[H3 (J2 hz) (A9f hz (by omega) (by omega) (by omega) (A1Y (z3.2.2.2 (by omega)).1 (z3.2.2.2 (by omega)).2))];done)
    refine N6 ?_;refine w4 (fun g4=>?_) fun g4=>?_
    ·refine w31 j8 (e:=B2g _ _ _ _ _ _ _ _ _ _ _ _ _ _ _ _ _ _ _ _ _ (C5C z2 ‹_›)) (k':=?_);refine w2 (.byt) (r:=rB) (e:=y9 _ rfl) (k':=?_);refine w7 [A8 rB _,.int .i64 _] ?_;have hz:=B5O g1;rw[show A3I mo k c m w b r cl t=0 from D6.1 g0];first
     | (exfalso;simp_all;done)
     | (rw[A1t (A1g (by omega) hz)];done)
     | (rw[H3 (A1h (by omega)) (A9e (by omega) (by rw[← A75 (pa:=pa) (fo:=fo) (mo:=mo) (w:=w) (b:=b) (by omega)];exact hz)).symm];done)
     | (rw[H3 (J2 hz) (A9i hz (by omega)).symm];done)
     | (rw[H3 (J2 hz) (A9h hz (by omega)).symm];done)
     | (rw[H3 (J2 hz) (A9g hz (by omega)).symm];done)
     | (rw[H3 (J2 hz) (A9f hz (by omega) (by omega) (by omega) (A1Y (z3.2.2.2 (by omega)).1 (z3.2.2.2 (by omega)).2))];done)
    refine N6 ?_;refine w4 (fun g5=>?_) fun g5=>?_
    ·refine w31 S6 (e:=C5d (by first|exact A2P g1|(exfalso;simp_all;done)) (B9c (A2A z2 ‹_›))) (k':=?_);refine w2 (.byt) (r:=rB) (e:=y9 _ rfl) (k':=?_);refine w7 [A8 rB _,.int .i64 _] ?_;have hz:=B5O g1;rw[show A3I mo k c m w b r cl t=0 from D6.1 g0];first
     | (exfalso;simp_all;done)
     | (rw[A1t (A1g (by omega) hz)];done)
     | (rw[H3 (A1h (by omega)) (A9e (by omega) (by rw[← A75 (pa:=pa) (fo:=fo) (mo:=mo) (w:=w) (b:=b) (by omega)];exact hz)).symm];done)
     | (rw[H3 (J2 hz) (A9i hz (by omega)).symm];done)
     | (rw[H3 (J2 hz) (A9h hz (by omega)).symm];done)
     | (rw[H3 (J2 hz) (A9g hz (by omega)).symm];done)
     | (rw[H3 (J2 hz) (A9f hz (by omega) (by omega) (by omega) (A1Y (z3.2.2.2 (by omega)).1 (z3.2.2.2 (by omega)).2))];done)
    refine N6 ?_;refine w4 (fun g6=>?_) fun g6=>?_
    ·refine w1 (.bin .add) (e:=S3 _ _ (by simp only[A7,B6,D9,D5,C8];omega)) (k':=?_);refine w1 (.bin .add) (e:=S3 _ _ (by simp only[A7,B6,D9,D5,C8];omega)) (k':=?_);refine w2 (.byt) (r:=rB) (e:=y9 _ rfl) (k':=?_);refine w7 [A8 rB _,.int .i64 _] ?_;have hz:=B5O g1;rw[show A3I mo k c m w b r cl t=0 from D6.1 g0];first
     | (exfalso;simp_all;done)
     | (rw[A1t (A1g (by omega) hz)];done)
     | (rw[H3 (A1h (by omega)) (A9e (by omega) (by rw[← A75 (pa:=pa) (fo:=fo) (mo:=mo) (w:=w) (b:=b) (by omega)];exact hz)).symm];done)
     | (rw[H3 (J2 hz) (A9i hz (by omega)).symm];done)
     | (rw[H3 (J2 hz) (A9h hz (by omega)).symm];done)
     | (rw[H3 (J2 hz) (A9g hz (by omega)).symm];done)
     | (rw[H3 (J2 hz) (A9f hz (by omega) (by omega) (by omega) (A1Y (z3.2.2.2 (by omega)).1 (z3.2.2.2 (by omega)).2))];done)
    first|refine W5 ?_|refine N7 ?_
    refine B8W ?_;refine w1 (.bin .add) (e:=S3 _ _ (by simp only[A7,B6,D9,D5,C8];omega)) (k':=?_);refine w2 (.byt) (r:=rB) (e:=y9 _ rfl) (k':=?_);refine w7 [A8 rB _,.int .i64 _] ?_;have hz:=B5O g1;rw[show A3I mo k c m w b r cl t=0 from D6.1 g0];first
    | (exfalso;simp_all;done)
    | (rw[A1t (A1g (by omega) hz)];done)
    | (rw[H3 (A1h (by omega)) (A9e (by omega) (by rw[← A75 (pa:=pa) (fo:=fo) (mo:=mo) (w:=w) (b:=b) (by omega)];exact hz)).symm];done)
    | (rw[H3 (J2 hz) (A9i hz (by omega)).symm];done)
    | (rw[H3 (J2 hz) (A9h hz (by omega)).symm];done)
    | (rw[H3 (J2 hz) (A9g hz (by omega)).symm];done)
    | (rw[H3 (J2 hz) (A9f hz (by omega) (by omega) (by omega) (A1Y (z3.2.2.2 (by omega)).1 (z3.2.2.2 (by omega)).2))];done)
   first|refine m9 ?_|refine A3o ?_
   first|refine w4 (fun g2=>?_) (fun g2=>?_)|refine w4B (fun g2=>?_) (fun g2=>?_)
   ·refine w2 (.nilw 1) (r:=rB) (e:=E5 rfl) (k':=?_);refine w7 [A8 rB _,.int .i64 _] ?_;have hz:=A2P g1;rw[show A3I mo k c m w b r cl t=0 from D6.1 g0];first
    | (exfalso;simp_all;done)
    | (rw[A1t (A1g (by omega) hz)];done)
    | (rw[H3 (A1h (by omega)) (A9e (by omega) (by rw[← A75 (pa:=pa) (fo:=fo) (mo:=mo) (w:=w) (b:=b) (by omega)];exact hz)).symm];done)
    | (rw[H3 (J2 hz) (A9i hz (by omega)).symm];done)
    | (rw[H3 (J2 hz) (A9h hz (by omega)).symm];done)
    | (rw[H3 (J2 hz) (A9g hz (by omega)).symm];done)
    | (rw[H3 (J2 hz) (A9f hz (by omega) (by omega) (by omega) (A1Y (z3.2.2.2 (by omega)).1 (z3.2.2.2 (by omega)).2))];done)
   refine N6 ?_;refine w4 (fun g3=>?_) fun g3=>?_
   ·refine w31 j8 (e:=B2g _ _ _ _ _ _ _ _ _ _ _ _ _ _ _ _ _ _ _ _ _ (C5C z2 ‹_›)) (k':=?_);refine w2 (.byt) (r:=rB) (e:=y9 _ rfl) (k':=?_);refine w7 [A8 rB _,.int .i64 _] ?_;have hz:=A2P g1;rw[show A3I mo k c m w b r cl t=0 from D6.1 g0];first
    | (exfalso;simp_all;done)
    | (rw[A1t (A1g (by omega) hz)];done)
    | (rw[H3 (A1h (by omega)) (A9e (by omega) (by rw[← A75 (pa:=pa) (fo:=fo) (mo:=mo) (w:=w) (b:=b) (by omega)];exact hz)).symm];done)
    | (rw[H3 (J2 hz) (A9i hz (by omega)).symm];done)
    | (rw[H3 (J2 hz) (A9h hz (by omega)).symm];done)
    | (rw[H3 (J2 hz) (A9g hz (by omega)).symm];done)
    | (rw[H3 (J2 hz) (A9f hz (by omega) (by omega) (by omega) (A1Y (z3.2.2.2 (by omega)).1 (z3.2.2.2 (by omega)).2))];done)
   refine N6 ?_;refine w4 (fun g4=>?_) fun g4=>?_
   ·refine w31 S6 (e:=C5d (by first|exact A2P g1|(exfalso;simp_all;done)) (B9c (A2A z2 ‹_›))) (k':=?_);refine w2 (.byt) (r:=rB) (e:=y9 _ rfl) (k':=?_);refine w7 [A8 rB _,.int .i64 _] ?_;have hz:=A2P g1;rw[show A3I mo k c m w b r cl t=0 from D6.1 g0];first
    | (exfalso;simp_all;done)
    | (rw[A1t (A1g (by omega) hz)];done)
    | (rw[H3 (A1h (by omega)) (A9e (by omega) (by rw[← A75 (pa:=pa) (fo:=fo) (mo:=mo) (w:=w) (b:=b) (by omega)];exact hz)).symm];done)
    | (rw[H3 (J2 hz) (A9i hz (by omega)).symm];done)
    | (rw[H3 (J2 hz) (A9h hz (by omega)).symm];done)
    | (rw[H3 (J2 hz) (A9g hz (by omega)).symm];done)
    | (rw[H3 (J2 hz) (A9f hz (by omega) (by omega) (by omega) (A1Y (z3.2.2.2 (by omega)).1 (z3.2.2.2 (by omega)).2))];done)
   refine N6 ?_;refine w4 (fun g5=>?_) fun g5=>?_
   ·refine w1 (.bin .add) (e:=S3 _ _ (by simp only[A7,B6,D9,D5,C8];omega)) (k':=?_);refine w1 (.bin .add) (e:=S3 _ _ (by simp only[A7,B6,D9,D5,C8];omega)) (k':=?_);refine w2 (.byt) (r:=rB) (e:=y9 _ rfl) (k':=?_);refine w7 [A8 rB _,.int .i64 _] ?_;have hz:=A2P g1;rw[show A3I mo k c m w b r cl t=0 from D6.1 g0];first
    | (exfalso;simp_all;done)
    | (rw[A1t (A1g (by omega) hz)];done)
    | (rw[H3 (A1h (by omega)) (A9e (by omega) (by rw[← A75 (pa:=pa) (fo:=fo) (mo:=mo) (w:=w) (b:=b) (by omega)];exact hz)).symm];done)
    | (rw[H3 (J2 hz) (A9i hz (by omega)).symm];done)
    | (rw[H3 (J2 hz) (A9h hz (by omega)).symm];done)
    | (rw[H3 (J2 hz) (A9g hz (by omega)).symm];done)
    | (rw[H3 (J2 hz) (A9f hz (by omega) (by omega) (by omega) (A1Y (z3.2.2.2 (by omega)).1 (z3.2.2.2 (by omega)).2))];done)
   first|refine W5 ?_|refine N7 ?_
   refine B8W ?_;refine w1 (.bin .add) (e:=S3 _ _ (by simp only[A7,B6,D9,D5,C8];omega)) (k':=?_);refine w2 (.byt) (r:=rB) (e:=y9 _ rfl) (k':=?_);refine w7 [A8 rB _,.int .i64 _] ?_;have hz:=A2P g1;rw[show A3I mo k c m w b r cl t=0 from D6.1 g0];first
   | (exfalso;simp_all;done)
   | (rw[A1t (A1g (by omega) hz)];done)
   | (rw[H3 (A1h (by omega)) (A9e (by omega) (by rw[← A75 (pa:=pa) (fo:=fo) (mo:=mo) (w:=w) (b:=b) (by omega)];exact hz)).symm];done)
   | (rw[H3 (J2 hz) (A9i hz (by omega)).symm];done)
   | (rw[H3 (J2 hz) (A9h hz (by omega)).symm];done)
   | (rw[H3 (J2 hz) (A9g hz (by omega)).symm];done)
   | (rw[H3 (J2 hz) (A9f hz (by omega) (by omega) (by omega) (A1Y (z3.2.2.2 (by omega)).1 (z3.2.2.2 (by omega)).2))];done)
  ·cases hs
 ·cases hs
def rQ:Rw ((List UInt8)×Int×Int×Int×Int×Int×Int×Int×(List UInt8)):=rC B5n (rC (t6 .i64) (rC (t6 .i64) (rC (t6 .i64) (rC (t6 .i64) (rC (t6 .i64) (rC (t6 .i64) (rC (t6 .i64) (r1 B5n))))))))
abbrev Qt:=(List UInt8×Int×Int×Int×Int×Int×Int×Int×List UInt8)
def qq(a b:Qt):Bool:=(a.1 == b.1 && true)
def qR(s:List UInt8)(c m:Int):Qt:=(s,1,c,m,0,0,0,0,[])
def inQ(c:Int):Nat→Int→Option (List Qt)→Option (List Qt)
 | 0,_,x=>x
 | n+1,j,x=>inQ c n (j+1) (A3U qq (A3U qq x (qR (keS false c j) c j)) (qR (keS true c j) c j))
def otQ:Nat→Int→Option (List Qt)→Option (List Qt)
 | 0,_,x=>x
 | n+1,c,x=>otQ n (c+1) (inQ c 8 0 x)
theorem C9g{c j:Int}{x:Option (List Qt)}(h:j<8):inQ c (8-j).toNat j x=inQ c (8-(j+1)).toNat (j+1) (A3U qq (A3U qq x (qR (keS false c j) c j)) (qR (keS true c j) c j)):=by
 rw[show(8-j).toNat=(8-(j+1)).toNat+1 by omega];rfl
theorem C9h{c j:Int}{x:Option (List Qt)}(h:¬j<8):inQ c (8-j).toNat j x=x:=by
 rw[show(8-j).toNat=0 by omega];rfl
theorem C81{c:Int}{x:Option (List Qt)}(h:c≤1114134):otQ (1114135-c).toNat c x=otQ (1114135-(c+1)).toNat (c+1) (inQ c 8 0 x):=by
 rw[show(1114135-c).toNat=(1114135-(c+1)).toNat+1 by omega];rfl
theorem C82{c:Int}{x:Option (List Qt)}(h:¬c≤1114134):otQ (1114135-c).toNat c x=x:=by
 rw[show(1114135-c).toNat=0 by omega];rfl
theorem nn2{x:Option (List Qt)}{a:Qt}(h:x≠none):A3U qq x a≠none:=by
 cases x with
 | none=>exact absurd rfl h
 | some l=>exact L8 _
theorem C5D{c:Int}:∀ (n:Nat) (j:Int) {x:Option (List Qt)},x≠none→inQ c n j x≠none
 | 0,_,_,h=>h
 | n+1,j,_,h=>C5D n (j+1) (nn2 (nn2 h))
theorem C9P{c m:Int}(h:1114113≤c)(h2:c≤1114134)(h3:0≤m)(h4:m≤7):A6y c m:=.inr (.inl ⟨h,h2,h3,h4⟩)
noncomputable def C6H:List (FuncId×FnC):=(50,I9 Tryz.prog [.a [8,8,8,8,8,8,8,8,8,8,8,3,8],.a [3,3,3,3,3,3,3,9]] j8 [.s 9])::L0
theorem C1M{G:Nat→Option Obj}(hst:B9 Tryz.prog G gl H0 n0):G4 Tryz.prog G gl C6H:=(.cons (A3b hst) .nil)
def A3S:List U→Option (Nat×List U)
 | [.int .i64 c,.int .i64 j,u_x]=>(J9 rQ u_x).bind fun x=>if 1114113≤c∧c≤1114134∧0≤j∧j≤8∧x≠none then some (0,[.int .i64 c,A8 rQ (inQ c (8-j).toNat j x)])else none
 | _=>none
theorem A8G(c:Int)(j:Int)(x:(Option (List ((List UInt8)×Int×Int×Int×Int×Int×Int×Int×(List UInt8)))))(hc:1114113≤c∧c≤1114134∧0≤j∧j≤8∧x≠none):A3S [.int .i64 c,.int .i64 j,A8 rQ x]=some (0,[.int .i64 c,A8 rQ (inQ c (8-j).toNat j x)]):=by
 simp only[A3S,G1,D4];exact if_pos hc
def A8r:Q9:=⟨[(1,.map (some 6)),(2,h 0 3),(14,h 1 3)],[(6,.mp 2 19 81)],3,[⟨.exit 2,[(1,.map (some 6)),(2,h 0 3)],[(6,.mp 1 19 81)],2⟩]⟩
noncomputable def B8s:Code:=(Tryz.f72.body).getD .skip
noncomputable def C4P:Code:=match H8 [true,true,false,true,false,false,true,false,false,true,false] B8s with|some (.loop x)=>x|_=>.skip
theorem A8q:Tryz.f72.body=some B8s:=rfl
theorem A8p:H8 [true,true,false,true,false,false,true,false,false,true,false] B8s=some (.loop C4P):=by kernel_rfl
def C4Q:Tr:=aL [h3 1,jI 8]<|.br 3 (.fn j8 [.bool false,.bool false,.bool false,.bool false,.bool false,.bool false,.bool false,.bool false,.bool false,.bool false,.bool false,jI 0,.bool false,jI 1,h3 0,h3 1,jI 0,jI 0,jI 0,jI 0,.string ⟨⟨[]⟩⟩] 1<|.dt 19 (.mput 9 1) [h 2 19,h 4 9,jI 1,h3 0,h3 1,jI 0,jI 0,jI 0,jI 0,.string ⟨⟨[]⟩⟩]<|.fn j8 [.bool false,.bool false,.bool true,.bool false,.bool false,.bool false,.bool false,.bool false,.bool false,.bool false,.bool false,jI 0,.bool false,jI 1,h3 0,h3 1,jI 0,jI 0,jI 0,jI 0,.string ⟨⟨[]⟩⟩] 1<|.dt 19 (.mput 9 1) [h 5 19,h 6 9,jI 1,h3 0,h3 1,jI 0,jI 0,jI 0,jI 0,.string ⟨⟨[]⟩⟩]<|aA [h3 1,jI 1]<|.ret [jI (-1),h3 0,h3 8,h 7 19]) (.ret [jI 0,h3 0,h 2 19])
def B8r:List U→Nat
 | [.int .i64 c,.int .i64 j,u_x]=>(match J9 rQ u_x with|some x=>(8-j).toNat|none=>0)
 | _=>0
theorem B8q(c:Int)(j:Int)(x:(Option (List ((List UInt8)×Int×Int×Int×Int×Int×Int×Int×(List UInt8))))):B8r [.int .i64 c,.int .i64 j,A8 rQ x]=(8-j).toNat:=by
 simp only[B8r,G1]
theorem B0g{G:Nat→Option Obj}(hst:B9 Tryz.prog G gl H0 n0):∀ (E:Nat→U) (base:Nat),@Y8 ⟨E,G⟩ Tryz.prog base gl Tryz.f72.ntmps C4P (Q8 Tryz.prog gl n0 7 A8r A3S):=by
 refine A0f (C:=cx C6H []) (dep:=60) (f:=72) (n0:=n0) (nB:=7) (H0:=H0) B8r C4Q (cxg (C1M hst) .nil) hst Tryz.func72 A8q A8p (by kernel_rfl) (by kernel_rfl) (by kernel_rfl) ?_;intro us d outs hs;have hs0:=hs;unfold A3S at hs;split at hs
 ·skip;rename_i c j u_x;have hq_x:=A6.1 hs;clear hs;obtain⟨x,hd_x,hs⟩:=hq_x;replace hd_x:=F2 hd_x;subst hd_x;split at hs
  ·rename_i hc;clear hs hs0;refine⟨rfl,?_⟩;unfold C4Q;refine w0 (.cons 2 _ (.cons 1 _ (.cons 0 _ (.nil)))) ?_;repeat (first|refine w31 j8 (e:=B2g _ _ _ _ _ _ _ _ _ _ _ _ _ _ _ _ _ _ _ _ _ (C9P (by omega) (by omega) (by omega) (by omega))) (k':=?_)|refine W5 ?_|refine N7 ?_|refine A1U ?_|refine w4 (fun g=>?_) fun g=>?_|refine w2 (.mput 9 1) (r:=rQ) (e:=y7 qq (qR (keS false c j) c j) rfl rfl (fun _=>rfl) (by first|exact hc.2.2.2.2|exact nn2 hc.2.2.2.2|exact hc.2.2|exact nn2 hc.2.2)) (k':=?_)|refine w2 (.mput 9 1) (r:=rQ) (e:=y7 qq (qR (keS true c j) c j) rfl rfl (fun _=>rfl) (by first|exact hc.2.2.2.2|exact nn2 hc.2.2.2.2|exact hc.2.2|exact nn2 hc.2.2)) (k':=?_)|(refine w7 [.int .i64 _,.int .i64 _,.int .i64 _,A8 rQ _] ?_;rotate_left)|(refine w7 [.int .i64 _,.int .i64 _,A8 rQ _] ?_;rotate_left))
   all_goals first
    | refine J8 ?_ ?_
      ·rw[A8G c (j+1) _ ⟨by omega,by omega,by omega,by omega,nn2 (nn2 hc.2.2.2.2)⟩,A8G c j x hc,C9g (c:=c) (j:=j) (x:=x) (by omega)]
      ·rw[B8q,B8q];omega
    | refine L6 (d:=0) ?_
      rw[A8G c j x hc,C9h (by omega)]
  ·cases hs
 ·cases hs
noncomputable def C6m:List LpE:=(72,([true,true,false,true,false,false,true,false,false,true,false],Q8 Tryz.prog gl n0 7 A8r A3S))::[]
theorem C1u{G:Nat→Option Obj}(hst:B9 Tryz.prog G gl H0 n0):A0D Tryz.prog G gl C6m:=.cons Tryz.func72 A8q A8p (B0g hst) .nil
def B7d:List Qt:=[([27,91,90],1,1114136,1,0,0,0,0,[]),([27,91,79],4,0,0,0,0,0,0,[]),([27,91,73],4,0,0,1,0,0,0,[])]
def B1y:List Qt:=[([27,91,90],1,1114136,1,0,0,0,0,[]),([27,91,79],4,0,0,0,0,0,0,[]),([27,91,73],4,0,0,1,0,0,0,[]),([27,91,65],1,1114113,0,0,0,0,0,[]),([27,79,65],1,1114113,0,0,0,0,0,[]),([27,91,49,59,50,65],1,1114113,1,0,0,0,0,[]),([27,91,49,59,51,65],1,1114113,2,0,0,0,0,[]),([27,91,49,59,52,65],1,1114113,3,0,0,0,0,[]),([27,91,49,59,53,65],1,1114113,4,0,0,0,0,[]),([27,91,49,59,54,65],1,1114113,5,0,0,0,0,[]),([27,91,49,59,55,65],1,1114113,6,0,0,0,0,[]),([27,91,49,59,56,65],1,1114113,7,0,0,0,0,[]),([27,91,66],1,1114114,0,0,0,0,0,[]),([27,79,66],1,1114114,0,0,0,0,0,[]),([27,91,49,59,50,66],1,1114114,1,0,0,0,0,[]),([27,91,49,59,51,66],1,1114114,2,0,0,0,0,[]),([27,91,49,59,52,66],1,1114114,3,0,0,0,0,[]),([27,91,49,59,53,66],1,1114114,4,0,0,0,0,[]),([27,91,49,59,54,66],1,1114114,5,0,0,0,0,[]),([27,91,49,59,55,66],1,1114114,6,0,0,0,0,[]),([27,91,49,59,56,66],1,1114114,7,0,0,0,0,[]),([27,91,67],1,1114115,0,0,0,0,0,[]),([27,79,67],1,1114115,0,0,0,0,0,[]),([27,91,49,59,50,67],1,1114115,1,0,0,0,0,[]),([27,91,49,59,51,67],1,1114115,2,0,0,0,0,[]),([27,91,49,59,52,67],1,1114115,3,0,0,0,0,[]),([27,91,49,59,53,67],1,1114115,4,0,0,0,0,[]),([27,91,49,59,54,67],1,1114115,5,0,0,0,0,[]),([27,91,49,59,55,67],1,1114115,6,0,0,0,0,[]),([27,91,49,59,56,67],1,1114115,7,0,0,0,0,[]),([27,91,68],1,1114116,0,0,0,0,0,[]),([27,79,68],1,1114116,0,0,0,0,0,[]),([27,91,49,59,50,68],1,1114116,1,0,0,0,0,[]),([27,91,49,59,51,68],1,1114116,2,0,0,0,0,[]),([27,91,49,59,52,68],1,1114116,3,0,0,0,0,[]),([27,91,49,59,53,68],1,1114116,4,0,0,0,0,[]),([27,91,49,59,54,68],1,1114116,5,0,0,0,0,[]),([27,91,49,59,55,68],1,1114116,6,0,0,0,0,[]),([27,91,49,59,56,68],1,1114116,7,0,0,0,0,[]),([27,91,70],1,1114117,0,0,0,0,0,[]),([27,79,70],1,1114117,0,0,0,0,0,[]),([27,91,49,59,50,70],1,1114117,1,0,0,0,0,[]),([27,91,49,59,51,70],1,1114117,2,0,0,0,0,[]),([27,91,49,59,52,70],1,1114117,3,0,0,0,0,[]),([27,91,49,59,53,70],1,1114117,4,0,0,0,0,[]),([27,91,49,59,54,70],1,1114117,5,0,0,0,0,[]),([27,91,49,59,55,70],1,1114117,6,0,0,0,0,[]),([27,91,49,59,56,70],1,1114117,7,0,0,0,0,[]),([27,91,72],1,1114118,0,0,0,0,0,[]),([27,79,72],1,1114118,0,0,0,0,0,[]),([27,91,49,59,50,72],1,1114118,1,0,0,0,0,[]),([27,91,49,59,51,72],1,1114118,2,0,0,0,0,[]),([27,91,49,59,52,72],1,1114118,3,0,0,0,0,[]),([27,91,49,59,53,72],1,1114118,4,0,0,0,0,[]),([27,91,49,59,54,72],1,1114118,5,0,0,0,0,[]),([27,91,49,59,55,72],1,1114118,6,0,0,0,0,[]),([27,91,49,59,56,72],1,1114118,7,0,0,0,0,[]),([27,79,80],1,1114119,0,0,0,0,0,[]),([27,91,49,59,50,80],1,1114119,1,0,0,0,0,[]),([27,91,49,59,51,80],1,1114119,2,0,0,0,0,[]),([27,91,49,59,52,80],1,1114119,3,0,0,0,0,[]),([27,91,49,59,53,80],1,1114119,4,0,0,0,0,[]),([27,91,49,59,54,80],1,1114119,5,0,0,0,0,[]),([27,91,49,59,55,80],1,1114119,6,0,0,0,0,[]),([27,91,49,59,56,80],1,1114119,7,0,0,0,0,[]),([27,79,81],1,1114120,0,0,0,0,0,[]),([27,91,49,59,50,81],1,1114120,1,0,0,0,0,[]),([27,91,49,59,51,81],1,1114120,2,0,0,0,0,[]),([27,91,49,59,52,81],1,1114120,3,0,0,0,0,[]),([27,91,49,59,53,81],1,1114120,4,0,0,0,0,[]),([27,91,49,59,54,81],1,1114120,5,0,0,0,0,[]),([27,91,49,59,55,81],1,1114120,6,0,0,0,0,[]),([27,91,49,59,56,81],1,1114120,7,0,0,0,0,[]),([27,79,82],1,1114121,0,0,0,0,0,[]),([27,91,49,59,50,82],1,1114121,1,0,0,0,0,[]),([27,91,49,59,51,82],1,1114121,2,0,0,0,0,[]),([27,91,49,59,52,82],1,1114121,3,0,0,0,0,[]),([27,91,49,59,53,82],1,1114121,4,0,0,0,0,[]),([27,91,49,59,54,82],1,1114121,5,0,0,0,0,[]),([27,91,49,59,55,82],1,1114121,6,0,0,0,0,[]),([27,91,49,59,56,82],1,1114121,7,0,0,0,0,[]),([27,79,83],1,1114122,0,0,0,0,0,[]),([27,91,49,59,50,83],1,1114122,1,0,0,0,0,[]),([27,91,49,59,51,83],1,1114122,2,0,0,0,0,[]),([27,91,49,59,52,83],1,1114122,3,0,0,0,0,[]),([27,91,49,59,53,83],1,1114122,4,0,0,0,0,[]),([27,91,49,59,54,83],1,1114122,5,0,0,0,0,[]),([27,91,49,59,55,83],1,1114122,6,0,0,0,0,[]),([27,91,49,59,56,83],1,1114122,7,0,0,0,0,[]),([27,91,50,126],1,1114123,0,0,0,0,0,[]),([27,91,50,59,50,126],1,1114123,1,0,0,0,0,[]),([27,91,50,59,51,126],1,1114123,2,0,0,0,0,[]),([27,91,50,59,52,126],1,1114123,3,0,0,0,0,[]),([27,91,50,59,53,126],1,1114123,4,0,0,0,0,[]),([27,91,50,59,54,126],1,1114123,5,0,0,0,0,[]),([27,91,50,59,55,126],1,1114123,6,0,0,0,0,[]),([27,91,50,59,56,126],1,1114123,7,0,0,0,0,[]),([27,91,51,126],1,1114124,0,0,0,0,0,[]),([27,91,51,59,50,126],1,1114124,1,0,0,0,0,[]),([27,91,51,59,51,126],1,1114124,2,0,0,0,0,[]),([27,91,51,59,52,126],1,1114124,3,0,0,0,0,[]),([27,91,51,59,53,126],1,1114124,4,0,0,0,0,[]),([27,91,51,59,54,126],1,1114124,5,0,0,0,0,[]),([27,91,51,59,55,126],1,1114124,6,0,0,0,0,[]),([27,91,51,59,56,126],1,1114124,7,0,0,0,0,[]),([27,91,53,126],1,1114125,0,0,0,0,0,[]),([27,91,53,59,50,126],1,1114125,1,0,0,0,0,[]),([27,91,53,59,51,126],1,1114125,2,0,0,0,0,[]),([27,91,53,59,52,126],1,1114125,3,0,0,0,0,[]),([27,91,53,59,53,126],1,1114125,4,0,0,0,0,[]),([27,91,53,59,54,126],1,1114125,5,0,0,0,0,[]),([27,91,53,59,55,126],1,1114125,6,0,0,0,0,[]),([27,91,53,59,56,126],1,1114125,7,0,0,0,0,[]),([27,91,54,126],1,1114126,0,0,0,0,0,[]),([27,91,54,59,50,126],1,1114126,1,0,0,0,0,[]),([27,91,54,59,51,126],1,1114126,2,0,0,0,0,[]),([27,91,54,59,52,126],1,1114126,3,0,0,0,0,[]),([27,91,54,59,53,126],1,1114126,4,0,0,0,0,[]),([27,91,54,59,54,126],1,1114126,5,0,0,0,0,[]),([27,91,54,59,55,126],1,1114126,6,0,0,0,0,[]),([27,91,54,59,56,126],1,1114126,7,0,0,0,0,[]),([27,91,49,53,126],1,1114127,0,0,0,0,0,[]),([27,91,49,53,59,50,126],1,1114127,1,0,0,0,0,[]),([27,91,49,53,59,51,126],1,1114127,2,0,0,0,0,[]),([27,91,49,53,59,52,126],1,1114127,3,0,0,0,0,[]),([27,91,49,53,59,53,126],1,1114127,4,0,0,0,0,[]),([27,91,49,53,59,54,126],1,1114127,5,0,0,0,0,[]),([27,91,49,53,59,55,126],1,1114127,6,0,0,0,0,[]),([27,91,49,53,59,56,126],1,1114127,7,0,0,0,0,[]),([27,91,49,55,126],1,1114128,0,0,0,0,0,[]),([27,91,49,55,59,50,126],1,1114128,1,0,0,0,0,[]),([27,91,49,55,59,51,126],1,1114128,2,0,0,0,0,[]),([27,91,49,55,59,52,126],1,1114128,3,0,0,0,0,[]),([27,91,49,55,59,53,126],1,1114128,4,0,0,0,0,[]),([27,91,49,55,59,54,126],1,1114128,5,0,0,0,0,[]),([27,91,49,55,59,55,126],1,1114128,6,0,0,0,0,[]),([27,91,49,55,59,56,126],1,1114128,7,0,0,0,0,[]),([27,91,49,56,126],1,1114129,0,0,0,0,0,[]),([27,91,49,56,59,50,126],1,1114129,1,0,0,0,0,[]),([27,91,49,56,59,51,126],1,1114129,2,0,0,0,0,[]),([27,91,49,56,59,52,126],1,1114129,3,0,0,0,0,[]),([27,91,49,56,59,53,126],1,1114129,4,0,0,0,0,[]),([27,91,49,56,59,54,126],1,1114129,5,0,0,0,0,[]),([27,91,49,56,59,55,126],1,1114129,6,0,0,0,0,[]),([27,91,49,56,59,56,126],1,1114129,7,0,0,0,0,[]),([27,91,49,57,126],1,1114130,0,0,0,0,0,[]),([27,91,49,57,59,50,126],1,1114130,1,0,0,0,0,[]),([27,91,49,57,59,51,126],1,1114130,2,0,0,0,0,[]),([27,91,49,57,59,52,126],1,1114130,3,0,0,0,0,[]),([27,91,49,57,59,53,126],1,1114130,4,0,0,0,0,[]),([27,91,49,57,59,54,126],1,1114130,5,0,0,0,0,[]),([27,91,49,57,59,55,126],1,1114130,6,0,0,0,0,[]),([27,91,49,57,59,56,126],1,1114130,7,0,0,0,0,[]),([27,91,50,48,126],1,1114131,0,0,0,0,0,[]),([27,91,50,48,59,50,126],1,1114131,1,0,0,0,0,[]),([27,91,50,48,59,51,126],1,1114131,2,0,0,0,0,[]),([27,91,50,48,59,52,126],1,1114131,3,0,0,0,0,[]),([27,91,50,48,59,53,126],1,1114131,4,0,0,0,0,[]),([27,91,50,48,59,54,126],1,1114131,5,0,0,0,0,[]),([27,91,50,48,59,55,126],1,1114131,6,0,0,0,0,[]),([27,91,50,48,59,56,126],1,1114131,7,0,0,0,0,[]),([27,91,50,49,126],1,1114132,0,0,0,0,0,[]),([27,91,50,49,59,50,126],1,1114132,1,0,0,0,0,[]),([27,91,50,49,59,51,126],1,1114132,2,0,0,0,0,[]),([27,91,50,49,59,52,126],1,1114132,3,0,0,0,0,[]),([27,91,50,49,59,53,126],1,1114132,4,0,0,0,0,[]),([27,91,50,49,59,54,126],1,1114132,5,0,0,0,0,[]),([27,91,50,49,59,55,126],1,1114132,6,0,0,0,0,[]),([27,91,50,49,59,56,126],1,1114132,7,0,0,0,0,[]),([27,91,50,51,126],1,1114133,0,0,0,0,0,[]),([27,91,50,51,59,50,126],1,1114133,1,0,0,0,0,[]),([27,91,50,51,59,51,126],1,1114133,2,0,0,0,0,[]),([27,91,50,51,59,52,126],1,1114133,3,0,0,0,0,[]),([27,91,50,51,59,53,126],1,1114133,4,0,0,0,0,[]),([27,91,50,51,59,54,126],1,1114133,5,0,0,0,0,[]),([27,91,50,51,59,55,126],1,1114133,6,0,0,0,0,[]),([27,91,50,51,59,56,126],1,1114133,7,0,0,0,0,[]),([27,91,50,52,126],1,1114134,0,0,0,0,0,[]),([27,91,50,52,59,50,126],1,1114134,1,0,0,0,0,[]),([27,91,50,52,59,51,126],1,1114134,2,0,0,0,0,[]),([27,91,50,52,59,52,126],1,1114134,3,0,0,0,0,[]),([27,91,50,52,59,53,126],1,1114134,4,0,0,0,0,[]),([27,91,50,52,59,54,126],1,1114134,5,0,0,0,0,[]),([27,91,50,52,59,55,126],1,1114134,6,0,0,0,0,[]),([27,91,50,52,59,56,126],1,1114134,7,0,0,0,0,[])]
theorem C62:otQ 22 1114113 (some B7d)=some B1y:=by kernel_rfl
def C3J(a b:Qt):Bool:=a.1 == b.1 && (a.2.1 == b.2.1 && (a.2.2.1 == b.2.2.1 && (a.2.2.2.1 == b.2.2.2.1 && (a.2.2.2.2.1 == b.2.2.2.2.1 && (a.2.2.2.2.2.1 == b.2.2.2.2.2.1 && (a.2.2.2.2.2.2.1 == b.2.2.2.2.2.2.1 && (a.2.2.2.2.2.2.2.1 == b.2.2.2.2.2.2.2.1 && (a.2.2.2.2.2.2.2.2 == b.2.2.2.2.2.2.2.2 && true))))))))
theorem C7u{x y:Qt}(h:C3J x y=true):x=y:=by
 obtain⟨a1,a2,a3,a4,a5,a6,a7,a8,a9⟩:=x;obtain⟨b1,b2,b3,b4,b5,b6,b7,b8,b9⟩:=y;simp[C3J]at h;obtain⟨h1,h2,h3,h4,h5,h6,h7,h8,h9⟩:=h;subst h1 h2 h3 h4 h5 h6 h7 h8 h9;rfl
def C0T:List Qt→List Qt→Bool
 | [],[]=>true
 | a::l,b::r=>C3J a b && C0T l r
 | _,_=>false
theorem C0S:∀ {l r:List Qt},C0T l r=true→l=r
 | [],[],_=>rfl
 | a::l,b::r,h=>by
   have h:(C3J a b && C0T l r)=true:=h;rw[G7]at h;rw[C7u h.1,C0S h.2]
 | [],_::_,h=>by cases h
 | _::_,[],h=>by cases h
def C7W(c:Int)(x:Option (List Qt)):Bool:=match x with
 | some l=>decide (c=1114113) && C0T l B7d
 | none=>false
theorem C7V{c:Int}{x:Option (List Qt)}(h:C7W c x=true):c=1114113∧x=some B7d:=by
 cases x with
 | none=>cases h
 | some l =>
   have h:(decide (c=1114113) && C0T l B7d)=true:=h;rw[G7]at h;exact⟨of_decide_eq_true h.1,by rw[C0S h.2]⟩
def otF(c:Int)(x:Option (List Qt)):Option (List Qt):=if C7W c x=true then some B1y else otQ (1114135-c).toNat c x
theorem B5I(c:Int)(x:Option (List Qt)):otF c x=otQ (1114135-c).toNat c x:=by
 unfold otF;by_cases h:C7W c x=true
 ·obtain⟨h1,h2⟩:=C7V h;rw[if_pos h,h1,h2];exact C62.symm
 ·rw[if_neg h]
noncomputable def C6F:List (FuncId×FnC):=(50,I9 Tryz.prog [.a [8,8,8,8,8,8,8,8,8,8,8,3,8],.a [3,3,3,3,3,3,3,9]] j8 [.s 9])::L0
theorem C1K{G:Nat→Option Obj}(hst:B9 Tryz.prog G gl H0 n0):G4 Tryz.prog G gl C6F:=(.cons (A3b hst) .nil)
def A15:List U→Option (Nat×List U)
 | [.int .i64 c,u_x]=>(J9 rQ u_x).bind fun x=>if 1114113≤c∧c≤1114135∧x≠none then some (0,[A8 rQ (otF c x)])else none
 | _=>none
theorem A8F(c:Int)(x:(Option (List ((List UInt8)×Int×Int×Int×Int×Int×Int×Int×(List UInt8)))))(hc:1114113≤c∧c≤1114135∧x≠none):A15 [.int .i64 c,A8 rQ x]=some (0,[A8 rQ (otF c x)]):=by
 simp only[A15,G1,D4];exact if_pos hc
def B0f:Q9:=⟨[(1,.map (some 6)),(2,h 0 3)],[(6,.mp 1 19 81)],2,[⟨.exit 0,[(1,.map (some 6))],[(6,.mp 0 19 81)],1⟩]⟩
noncomputable def B8p:Code:=(Tryz.f72.body).getD .skip
noncomputable def C4K:Code:=match H8 [true,true,false,true,false] B8p with|some (.loop x)=>x|_=>.skip
theorem B0e:Tryz.f72.body=some B8p:=rfl
theorem B0d:H8 [true,true,false,true,false] B8p=some (.loop C4K):=by kernel_rfl
def C4L:Tr:=aQ [h3 0,jI 1114134]<|.br 2 (.fn A3S [h3 0,jI 0,h 1 19] 2<|aA [h3 3,jI 1]<|.ret [jI (-1),h3 5,h 4 19]) (.ret [jI 0,h 1 19])
def B8o:List U→Nat
 | [.int .i64 c,u_x]=>(match J9 rQ u_x with|some x=>(1114135-c).toNat|none=>0)
 | _=>0
theorem B8n(c:Int)(x:(Option (List ((List UInt8)×Int×Int×Int×Int×Int×Int×Int×(List UInt8))))):B8o [.int .i64 c,A8 rQ x]=(1114135-c).toNat:=by
 simp only[B8o,G1]
theorem B3K{G:Nat→Option Obj}(hst:B9 Tryz.prog G gl H0 n0):∀ (E:Nat→U) (base:Nat),@Y8 ⟨E,G⟩ Tryz.prog base gl Tryz.f72.ntmps C4K (Q8 Tryz.prog gl n0 7 B0f A15):=by
 refine A0f (C:=cx C6F C6m) (dep:=60) (f:=72) (n0:=n0) (nB:=7) (H0:=H0) B8o C4L (cxg (C1K hst) (C1u hst)) hst Tryz.func72 B0e B0d (by kernel_rfl) (by kernel_rfl) (by kernel_rfl) ?_;intro us d outs hs;have hs0:=hs;unfold A15 at hs;split at hs
 ·skip;rename_i c u_x;have hq_x:=A6.1 hs;clear hs;obtain⟨x,hd_x,hs⟩:=hq_x;replace hd_x:=F2 hd_x;subst hd_x;split at hs
  ·rename_i hc;clear hs hs0;refine⟨rfl,?_⟩;unfold C4L;refine w0 (.cons 1 _ (.cons 0 _ (.nil))) ?_;repeat (first|refine W5 ?_|refine N7 ?_|refine A5K ?_|refine w4 (fun g=>?_) fun g=>?_|refine w32 A3S (e:=A8G _ _ _ ⟨by omega,by omega,by omega,by omega,hc.2.2⟩) (k':=?_)|(refine w7 [.int .i64 _,.int .i64 _,A8 rQ _] ?_;rotate_left)|(refine w7 [.int .i64 _,A8 rQ _] ?_;rotate_left))
   all_goals first
    | refine J8 ?_ ?_
      ·rw[A8F (c+1) _ ⟨by omega,by omega,C5D _ _ hc.2.2⟩,A8F c x hc,B5I,B5I,C81 (c:=c) (x:=x) (by omega)];rfl
      ·rw[B8n,B8n];omega
    | refine L6 (d:=0) ?_
      rw[A8F c x hc,B5I,C82 (by omega)]
  ·cases hs
 ·cases hs
def S9(b:Int):Int:=if b<128 then 1 else if 194≤b∧b<224 then 2 else if 224≤b∧b<240 then 3 else if 240≤b∧b≤244 then 4 else 0
def loB(b:Int):Int:=if b=224 then 160 else if b=240 then 144 else 128
def hiB(b:Int):Int:=if b=237 then 159 else if b=244 then 143 else 191
def okT:List Int→Int→Int→Bool
 | [],_,_=>true
 | b::r,lo,hi=>decide (lo≤b∧b≤hi) && okT r 128 191
def knd(l:List Int):Int:=if S9 (l.getD 0 0)<(l.length:Int)then 0 else if okT (l.drop 1) (loB (l.getD 0 0)) (hiB (l.getD 0 0))=true then(if(l.length:Int)<S9 (l.getD 0 0)then 1 else 2)else 0
theorem C86{l:List Int}{i lo hi:Int}(h:¬i<(l.length:Int)):okT (l.drop i.toNat) lo hi=true:=by rw[A1r l (by omega)];rfl
theorem C85{l:List Int}{i lo hi:Int}(h0:0≤i)(h1:i<(l.length:Int))(h:l.getD i.toNat default<lo∨hi<l.getD i.toNat default):okT (l.drop i.toNat) lo hi=false:=by
 rw[Y5 l h0 h1];show(decide _ && _)=false;rw[decide_eq_false (by omega),X1]
theorem C84{l:List Int}{i lo hi:Int}(h0:0≤i)(h1:i<(l.length:Int))(h:lo≤l.getD i.toNat default)(h2:l.getD i.toNat default≤hi):okT (l.drop i.toNat) lo hi=okT (l.drop (i+1).toNat) 128 191:=by
 rw[Y5 l h0 h1];show(decide _ && _)=_;rw[decide_eq_true ⟨h,h2⟩,p9]
noncomputable def C5_:List (FuncId×FnC):=L0
theorem C1E{G:Nat→Option Obj}(hst:B9 Tryz.prog G gl H0 n0):G4 Tryz.prog G gl C5_:=.nil
def A8d:List U→Option (Nat×List U)
 | [.int .u8 b]=>if 0≤b∧b<256 then some (0,[.int .i64 (S9 b)])else none
 | _=>none
theorem C2A(b:Int)(hc:0≤b∧b<256):A8d [.int .u8 b]=some (0,[.int .i64 (S9 b)]):=if_pos hc
def C30:Tr:=aH [h 0 4,.int .u8 (240)]<|.br 1 (aQ [h 0 4,.int .u8 (244)]<|.br 2 (.ret [jI 4]) (aH [h 0 4,.int .u8 (224)]<|.br 3 (aL [h 0 4,.int .u8 (240)]<|.br 4 (.ret [jI 3]) (aH [h 0 4,.int .u8 (194)]<|.br 5 (aL [h 0 4,.int .u8 (224)]<|.br 6 (.ret [jI 2]) (aL [h 0 4,.int .u8 (128)]<|.br 7 (.ret [jI 1]) (.ret [jI 0]))) (aL [h 0 4,.int .u8 (128)]<|.br 6 (.ret [jI 1]) (.ret [jI 0])))) (aH [h 0 4,.int .u8 (194)]<|.br 4 (aL [h 0 4,.int .u8 (224)]<|.br 5 (.ret [jI 2]) (aL [h 0 4,.int .u8 (128)]<|.br 6 (.ret [jI 1]) (.ret [jI 0]))) (aL [h 0 4,.int .u8 (128)]<|.br 5 (.ret [jI 1]) (.ret [jI 0]))))) (aH [h 0 4,.int .u8 (224)]<|.br 2 (aL [h 0 4,.int .u8 (240)]<|.br 3 (.ret [jI 3]) (aH [h 0 4,.int .u8 (194)]<|.br 4 (aL [h 0 4,.int .u8 (224)]<|.br 5 (.ret [jI 2]) (aL [h 0 4,.int .u8 (128)]<|.br 6 (.ret [jI 1]) (.ret [jI 0]))) (aL [h 0 4,.int .u8 (128)]<|.br 5 (.ret [jI 1]) (.ret [jI 0])))) (aH [h 0 4,.int .u8 (194)]<|.br 3 (aL [h 0 4,.int .u8 (224)]<|.br 4 (.ret [jI 2]) (aL [h 0 4,.int .u8 (128)]<|.br 5 (.ret [jI 1]) (.ret [jI 0]))) (aL [h 0 4,.int .u8 (128)]<|.br 4 (.ret [jI 1]) (.ret [jI 0]))))
theorem C31{G:Nat→Option Obj}(hst:B9 Tryz.prog G gl H0 n0):L2 Tryz.prog G 152 [.s 4] A8d [.s 3]:=by
 refine E7 (C:=cx C5_ []) (d:=60) C30 (cxg (C1E hst) .nil) hst ⟨Tryz.f152,_,Tryz.func152,rfl⟩ (by kernel_rfl) (by kernel_rfl) ?_;intro us outs hs;unfold A8d at hs;split at hs
 ·skip;rename_i b;split at hs
  ·rename_i hc;cases hs;unfold C30;refine w0 (.cons 0 _ (.nil)) ?_;repeat (first|(refine w7 [.int .i64 _] ?_;rotate_left)|refine w4 (fun g=>?_) fun g=>?_|refine A1U ?_|refine A2d ?_|refine A5K ?_)
   all_goals
    first
    | (exfalso;omega)
    | (refine l0 ?_;unfold S9;repeat (first|rw[if_neg (by omega)]|rw[if_pos (by omega)]))
  ·cases hs
 ·cases hs
noncomputable def C57:List (FuncId×FnC):=L0
theorem C1B{G:Nat→Option Obj}(hst:B9 Tryz.prog G gl H0 n0):G4 Tryz.prog G gl C57:=.nil
def A8b:List U→Option (Nat×List U)
 | [.int .u8 b]=>if 0≤b∧b<256 then some (0,[.int .u8 (loB b),.int .u8 (hiB b)])else none
 | _=>none
theorem C19(b:Int)(hc:0≤b∧b<256):A8b [.int .u8 b]=some (0,[.int .u8 (loB b),.int .u8 (hiB b)]):=if_pos hc
def C3v:Tr:=aE [h 0 4,.int .u8 (224)]<|.br 1 (.ret [.int .u8 (160),.int .u8 (191)]) (aE [h 0 4,.int .u8 (237)]<|.br 2 (.ret [.int .u8 (128),.int .u8 (159)]) (aE [h 0 4,.int .u8 (240)]<|.br 3 (.ret [.int .u8 (144),.int .u8 (191)]) (aE [h 0 4,.int .u8 (244)]<|.br 4 (.ret [.int .u8 (128),.int .u8 (143)]) (.ret [.int .u8 (128),.int .u8 (191)]))))
theorem C3w{G:Nat→Option Obj}(hst:B9 Tryz.prog G gl H0 n0):L2 Tryz.prog G 153 [.s 4] A8b [.s 4,.s 4]:=by
 refine E7 (C:=cx C57 []) (d:=60) C3v (cxg (C1B hst) .nil) hst ⟨Tryz.f153,_,Tryz.func153,rfl⟩ (by kernel_rfl) (by kernel_rfl) ?_;intro us outs hs;unfold A8b at hs;split at hs
 ·skip;rename_i b;split at hs
  ·rename_i hc;cases hs;unfold C3v;refine w0 (.cons 0 _ (.nil)) ?_;refine N6 ?_;refine w4 (fun g0=>?_) fun g0=>?_
   ·refine w7 [.int .u8 _,.int .u8 _] ?_;first
    | (subst g0;rfl)
    | (unfold loB hiB;repeat (first|rw[if_neg (by omega)]|rw[if_pos (by omega)]))
   refine N6 ?_;refine w4 (fun g1=>?_) fun g1=>?_
   ·refine w7 [.int .u8 _,.int .u8 _] ?_;first
    | (subst g0;rfl)
    | (unfold loB hiB;repeat (first|rw[if_neg (by omega)]|rw[if_pos (by omega)]))
   refine N6 ?_;refine w4 (fun g2=>?_) fun g2=>?_
   ·refine w7 [.int .u8 _,.int .u8 _] ?_;first
    | (subst g0;rfl)
    | (unfold loB hiB;repeat (first|rw[if_neg (by omega)]|rw[if_pos (by omega)]))
   refine N6 ?_;refine w4 (fun g3=>?_) fun g3=>?_
   ·refine w7 [.int .u8 _,.int .u8 _] ?_;first
    | (subst g0;rfl)
    | (unfold loB hiB;repeat (first|rw[if_neg (by omega)]|rw[if_pos (by omega)]))
   refine w7 [.int .u8 _,.int .u8 _] ?_;first
   | (subst g0;rfl)
   | (unfold loB hiB;repeat (first|rw[if_neg (by omega)]|rw[if_pos (by omega)]))
  ·cases hs
 ·cases hs
def okO(b:Bool):Option Unit:=if b then none else some ()
theorem C4u{b:Bool}(h:okO b=none):b=true:=by cases b<;>first|rfl|cases h
theorem C87{b:Bool}{u:Unit}(h:okO b=some u):b=false:=by cases b<;>first|rfl|cases h
noncomputable def C6A:List (FuncId×FnC):=(152,I9 Tryz.prog [.s 4] A8d [.s 3])::(153,I9 Tryz.prog [.s 4] A8b [.s 4,.s 4])::L0
theorem C1F{G:Nat→Option Obj}(hst:B9 Tryz.prog G gl H0 n0):G4 Tryz.prog G gl C6A:=(.cons (C31 hst) (.cons (C3w hst) .nil))
def A7M:List U→Option (Nat×List U)
 | [u_p,.int .i64 n,.int .u8 lo,.int .u8 hi,u_q,.int .i64 m,.int .i64 i]=>(J9 rB u_p).bind fun p=>(J9 rB u_q).bind fun q=>if m=((el q).length:Int)∧0≤i∧i≤((el q).length:Int)∧((el q).length:Int)≤1000∧0≤lo∧lo<256∧0≤hi∧hi<256 then A2Z (okO (okT ((el q).drop i.toNat) lo hi)) [A8 rB p,.int .i64 n] (fun _=>[])else none
 | _=>none
theorem A5n(p:(Option (List Int)))(n:Int)(lo:Int)(hi:Int)(q:(Option (List Int)))(m:Int)(i:Int)(hc:m=((el q).length:Int)∧0≤i∧i≤((el q).length:Int)∧((el q).length:Int)≤1000∧0≤lo∧lo<256∧0≤hi∧hi<256):A7M [A8 rB p,.int .i64 n,.int .u8 lo,.int .u8 hi,A8 rB q,.int .i64 m,.int .i64 i]=A2Z (okO (okT ((el q).drop i.toNat) lo hi)) [A8 rB p,.int .i64 n] (fun _=>[]):=by
 simp only[A7M,G1,D4];exact if_pos hc
def C36:Q9:=⟨[(0,dat 7 0 11),(3,h 1 3),(4,h 2 4),(5,h 3 4),(24,dat 8 4 11),(25,h 5 3),(26,h 6 3)],[(7,.frz),(8,.frz)],7,[⟨.exit 0,[(0,dat 9 0 11),(3,h 1 3)],[(9,.frz)],2⟩,⟨.ret,[(2,.int .i64 (0))],[],0⟩]⟩
noncomputable def B8Q:Code:=(Tryz.f140.body).getD .skip
noncomputable def C32:Code:=match H8 [true,true,true,true,false,true,false] B8Q with|some (.loop x)=>x|_=>.skip
theorem C35:Tryz.f140.body=some B8Q:=rfl
theorem C34:H8 [true,true,true,true,false,true,false] B8Q=some (.loop C32):=by kernel_rfl
def C33:Tr:=aL [h3 6,h3 5]<|.br 7 (.lt 8 (.inbs 1) [h3 6,h 4 11]<|.br 8 (.lt 4 (.get 1 0) [h 4 11,h3 6]<|aL [h 9 4,h 2 4]<|.br 10 (.ret [jI 1]) (aG [h 9 4,h 3 4]<|.br 11 (.ret [jI 1]) (aA [h3 6,jI 1]<|.ret [jI (-1),h 0 11,h3 1,.int .u8 (128),.int .u8 (191),h 4 11,h3 5,h3 12]))) (.no)) (.ret [jI 0,h 0 11,h3 1])
def B8P:List U→Nat
 | [u_p,.int .i64 n,.int .u8 lo,.int .u8 hi,u_q,.int .i64 m,.int .i64 i]=>(match J9 rB u_p with|some p=>(match J9 rB u_q with|some q=>(((el q).length:Int)-i).toNat|none=>0)|none=>0)
 | _=>0
theorem B8O(p:(Option (List Int)))(n:Int)(lo:Int)(hi:Int)(q:(Option (List Int)))(m:Int)(i:Int):B8P [A8 rB p,.int .i64 n,.int .u8 lo,.int .u8 hi,A8 rB q,.int .i64 m,.int .i64 i]=(((el q).length:Int)-i).toNat:=by
 simp only[B8P,G1]
theorem C8Q{G:Nat→Option Obj}(hst:B9 Tryz.prog G gl H0 n0):∀ (E:Nat→U) (base:Nat),@Y8 ⟨E,G⟩ Tryz.prog base gl Tryz.f140.ntmps C32 (Q8 Tryz.prog gl n0 10 C36 A7M):=by
 refine A0f (C:=cx C6A []) (dep:=60) (f:=140) (n0:=n0) (nB:=10) (H0:=H0) B8P C33 (cxg (C1F hst) .nil) hst Tryz.func140 C35 C34 (by kernel_rfl) (by kernel_rfl) (by kernel_rfl) ?_;intro us d outs hs;have hs0:=hs;unfold A7M at hs;split at hs
 ·skip;rename_i u_p n lo hi u_q m i;have hq_p:=A6.1 hs;clear hs;obtain⟨p,hd_p,hs⟩:=hq_p;replace hd_p:=F2 hd_p;subst hd_p;have hq_q:=A6.1 hs;clear hs;obtain⟨q,hd_q,hs⟩:=hq_q;replace hd_q:=F2 hd_q;subst hd_q;split at hs
  ·rename_i hc;clear hs hs0;refine⟨rfl,?_⟩;unfold C33;refine w0 (.cons 6 _ (.cons 5 _ (.cons 4 _ (.cons 3 _ (.cons 2 _ (.cons 1 _ (.cons 0 _ (.nil)))))))) ?_;repeat (first|refine w4 (fun g=>?_) fun g=>?_|refine A1U ?_|(refine w7 [.int .i64 _] ?_;rotate_left)|refine W5 ?_|refine N7 ?_|refine n7 ?_|refine w1 (.get 1 0) (u:=.int .u8 _) (e:=G9 rfl (by omega) (by omega) rfl) (k':=?_)|refine A7y ?_|(refine w7 [.int .i64 _,A8 rB _,.int .i64 _,.int .u8 _,.int .u8 _,A8 rB _,.int .i64 _,.int .i64 _] ?_;rotate_left)|(refine w8 ?_;first|omega)|(refine w7 [.int .i64 _,A8 rB _,.int .i64 _] ?_;rotate_left))
   all_goals first
    | refine J8 ?_ ?_
      ·rw[A5n p n _ _ q m (i+1) ⟨hc.1,by omega,by omega,hc.2.2.2.1,by omega,by omega,by omega,by omega⟩,A5n p n lo hi q m i hc,C84 (l:=el q) (i:=i) (lo:=lo) (hi:=hi) (by omega) (by omega) (by omega) (by omega)]
      ·rw[B8O,B8O];omega
    | refine L6 (d:=0) ?_
      rw[A5n p n lo hi q m i hc,C86 (l:=el q) (i:=i) (by omega)];rfl
    | refine L6 (d:=1) ?_
      rw[A5n p n lo hi q m i hc,C85 (l:=el q) (i:=i) (by omega) (by omega) (by omega)];rfl
  ·cases hs
 ·cases hs
noncomputable def B2z:List LpE:=[(140,([true,true,true,true,false,true,false],Q8 Tryz.prog gl n0 10 C36 A7M))]
theorem A94{G:Nat→Option Obj}(hst:B9 Tryz.prog G gl H0 n0):A0D Tryz.prog G gl B2z:=(.cons Tryz.func140 C35 C34 (C8Q hst) .nil)
theorem el1{p:Option (List Int)}(h:1≤((el p).length:Int)):el (K4 p (1:Int).toNat ((el p).length:Int).toNat)=(el p).drop 1:=by
 rw[K0];exact F8 (by simp)
theorem gt0{p:Option (List Int)}(hb:∀ x ∈ el p,0≤x∧x<256)(h:1≤((el p).length:Int)):0≤(el p).getD 0 default∧(el p).getD 0 default<256:=by
 have:=A2H (l:=el p) hb (i:=0) (by omega) (by omega);exact this
theorem C4y{b:Int}:0≤loB b∧loB b<256:=by unfold loB;(repeat' split)<;>omega
theorem C5P{b:Int}:0≤hiB b∧hiB b<256:=by unfold hiB;(repeat' split)<;>omega
theorem C9M{l:List Int}(h:S9 (l.getD 0 0)<(l.length:Int)):0=knd l:=(if_pos h).symm
theorem C9J{l:List Int}(h:¬S9 (l.getD 0 0)<(l.length:Int))(h2:okT (l.drop 1) (loB (l.getD 0 0)) (hiB (l.getD 0 0))=false):0=knd l:=by
 unfold knd;rw[if_neg h,if_neg (by rw[h2];decide)]
theorem C9L{l:List Int}(h:¬S9 (l.getD 0 0)<(l.length:Int))(h2:okT (l.drop 1) (loB (l.getD 0 0)) (hiB (l.getD 0 0))=true)(h3:(l.length:Int)<S9 (l.getD 0 0)):1=knd l:=by
 unfold knd;rw[if_neg h,if_pos h2,if_pos h3]
theorem C9K{l:List Int}(h:¬S9 (l.getD 0 0)<(l.length:Int))(h2:okT (l.drop 1) (loB (l.getD 0 0)) (hiB (l.getD 0 0))=true)(h3:¬(l.length:Int)<S9 (l.getD 0 0)):2=knd l:=by
 unfold knd;rw[if_neg h,if_pos h2,if_neg h3]
theorem B9X{p:Option (List Int)}{lo hi:Int}{b:Bool}(h:1≤((el p).length:Int))(h2:okT ((el (K4 p (1:Int).toNat ((el p).length:Int).toNat)).drop (0:Int).toNat) lo hi=b):okT ((el p).drop 1) lo hi=b:=by
 rw[el1 h]at h2;exact h2
noncomputable def C6B:List (FuncId×FnC):=(152,I9 Tryz.prog [.s 4] A8d [.s 3])::(153,I9 Tryz.prog [.s 4] A8b [.s 4,.s 4])::L0
theorem C1G{G:Nat→Option Obj}(hst:B9 Tryz.prog G gl H0 n0):G4 Tryz.prog G gl C6B:=(.cons (C31 hst) (.cons (C3w hst) .nil))
def A0j:List U→Option (Nat×List U)
 | [u_p]=>(J9 rB u_p).bind fun p=>if 1≤((el p).length:Int)∧((el p).length:Int)≤1000∧(∀ x ∈ el p,0≤x∧x<256)then some (0,[.int .i64 (knd (el p))])else none
 | _=>none
theorem A5o(p:(Option (List Int)))(hc:1≤((el p).length:Int)∧((el p).length:Int)≤1000∧(∀ x ∈ el p,0≤x∧x<256)):A0j [A8 rB p]=some (0,[.int .i64 (knd (el p))]):=by
 simp only[A0j,G1,D4];exact if_pos hc
def C37:Tr:=.lt 8 (.inbs 1) [jI 0,h 0 11]<|.br 1 (.lt 4 (.get 1 0) [h 0 11,jI 0]<|.fn A8d [h 2 4] 1<|aD [h 0 11]<|aL [h3 3,h3 4]<|.br 5 (.ret [jI 0]) (.lt 8 (.inbs 1) [jI 0,h 0 11]<|.br 6 (.lt 4 (.get 1 0) [h 0 11,jI 0]<|.fn A8b [h 7 4] 2<|.dt 11 (.subs 1) [h 0 11,jI 1,h3 4]<|aD [h 10 11]<|.lp A7M [h 0 11,h3 3,h 8 4,h 9 4,h 10 11,h3 11,jI 0] 0 2 (aD [h 12 11]<|aL [h3 14,h3 13]<|.br 15 (.ret [jI 1]) (.ret [jI 2])) (.lp A7M [h 0 11,h3 3,h 8 4,h 9 4,h 10 11,h3 11,jI 0] 1 0 (.ret [jI 0]) (.no))) (.no))) (.no)
theorem B8R{G:Nat→Option Obj}(hst:B9 Tryz.prog G gl H0 n0):L2 Tryz.prog G 140 [.s 11] A0j [.s 3]:=by
 refine E7 (C:=cx C6B B2z) (d:=60) C37 (cxg (C1G hst) (A94 hst)) hst ⟨Tryz.f140,_,Tryz.func140,rfl⟩ (by kernel_rfl) (by kernel_rfl) ?_;intro us outs hs;unfold A0j at hs;split at hs
 ·skip;rename_i u_p;have hq_p:=A6.1 hs;clear hs;obtain⟨p,hd_p,hs⟩:=hq_p;replace hd_p:=F2 hd_p;subst hd_p;split at hs
  ·rename_i hc;cases hs;have zg:=gt0 hc.2.2 hc.1;have zl:((el (K4 p (1:Int).toNat ((el p).length:Int).toNat)).length:Int)=((el p).length:Int)-1:=by
    rw[el1 hc.1,C8];omega
   unfold C37;refine w0 (.cons 0 _ (.nil)) ?_;refine n7 ?_;refine w5 (fun g0=>?_) fun g0=>?_
   ·refine w8 ?_;first|omega
   refine w1 (.get 1 0) (u:=.int .u8 _) (e:=G9 rfl (by omega) (by omega) rfl) (k':=?_);refine w31 A8d (e:=C2A _ zg) (k':=?_);refine R2 ?_;refine A1U ?_;refine w4 (fun g1=>?_) fun g1=>?_
   ·refine w7 [.int .i64 _] ?_;refine l0 ?_;exact C9M g1
   refine n7 ?_;refine w5 (fun g2=>?_) fun g2=>?_
   ·refine w8 ?_;first|omega
   refine w1 (.get 1 0) (u:=.int .u8 _) (e:=G9 rfl (by omega) (by omega) rfl) (k':=?_);refine w32 A8b (e:=C19 _ zg) (k':=?_);refine w2 (.subs 1) (r:=rB) (e:=I8 rfl (by omega) (by omega) (by omega)) (k':=?_);refine R2 ?_;refine w6 A7M (A5n _ _ _ _ _ _ _ ⟨rfl,by omega,by omega,by omega,C4y.1,C4y.2,C5P.1,C5P.2⟩) (h0:=fun g3=>?_) (h1:=fun v3 g3=>?_)
   ·show Wk _ _ (.cons _ _ (.cons _ _ _));refine R2 ?_;refine A1U ?_;refine w4 (fun g4=>?_) fun g4=>?_
    ·refine w7 [.int .i64 _] ?_;refine l0 ?_;exact C9L g1 (B9X hc.1 (C4u g3)) g4
    refine w7 [.int .i64 _] ?_;refine l0 ?_;exact C9K g1 (B9X hc.1 (C4u g3)) g4
   show Wk _ _ _;refine w7 [.int .i64 _] ?_;refine l0 ?_;exact C9J g1 (B9X hc.1 (C87 g3))
  ·cases hs
 ·cases hs
def A89(n:Int):Int:=if n=3 then 31 else if n=4 then 15 else 7
theorem C28{n:Int}(h:n=3∨n=4∨n=5):evU (.bin .shr) [.int .i64 255,.int .i64 n]=.int .i64 (A89 n):=by
 rcases h with rfl|rfl|rfl<;>rfl
theorem C3E{a n:Int}(h0:0≤a)(h1:a<256):evU (.bin .and) [.int .i64 a,.int .i64 (A89 n)]=.int .i64 (a%(A89 n+1)):=by
 unfold A89;split
 ·exact A0A 5 32 (by decide) (by decide) (by decide)
 ·split
  ·exact A0A 4 16 (by decide) (by decide) (by decide)
  ·exact A0A 3 8 (by decide) (by decide) (by decide)
def cdL:List Int→Int→Int
 | [],c=>c
 | b::r,c=>cdL r (c*64+b%64)
def A1s(l:List Int):Int:=cdL (l.drop 1) (if(l.length:Int)>1 then l.getD 0 0%(A89 ((l.length:Int)+1)+1)else l.getD 0 0)
theorem D0B{l:List Int}{i c:Int}(h:¬i<(l.length:Int)):cdL (l.drop i.toNat) c=c:=by rw[A1r l (by omega)];rfl
theorem D0A{l:List Int}{i c:Int}(h0:0≤i)(h1:i<(l.length:Int)):cdL (l.drop i.toNat) c=cdL (l.drop (i+1).toNat) (c*64+l.getD i.toNat default%64):=by
 rw[Y5 l h0 h1];rfl
theorem C95{l:List Int}(h:¬(l.length:Int)>1):A1s l=cdL (l.drop 1) (l.getD 0 0):=by unfold A1s;rw[if_neg h]
theorem C94{l:List Int}(h:(l.length:Int)>1):A1s l=cdL (l.drop 1) (l.getD 0 0%(A89 ((l.length:Int)+1)+1)):=by unfold A1s;rw[if_pos h]
theorem C5u{p:Option (List Int)}{c:Int}(h:1≤((el p).length:Int)):cdL ((el (K4 p (1:Int).toNat ((el p).length:Int).toNat)).drop (0:Int).toNat) c=cdL ((el p).drop 1) c:=by rw[el1 h];rfl
theorem C9C(n:Int):7≤A89 n∧A89 n≤31:=by unfold A89;(repeat' split)<;>omega
noncomputable def C6C:List (FuncId×FnC):=L0
theorem C1H{G:Nat→Option Obj}(hst:B9 Tryz.prog G gl H0 n0):G4 Tryz.prog G gl C6C:=.nil
def A5q:List U→Option (Nat×List U)
 | [.int .i64 c,u_q,.int .i64 m,.int .i64 i]=>(J9 rB u_q).bind fun q=>if m=((el q).length:Int)∧0≤i∧i≤m∧m≤3∧0≤c∧((i=0∧c<256)∨(i=1∧c<16384)∨(i=2∧c<1048576)∨(i=3∧c<67108864))∧(∀ x ∈ el q,0≤x∧x<256)then some (0,[.int .i64 (cdL ((el q).drop i.toNat) c)])else none
 | _=>none
theorem A5p(c:Int)(q:(Option (List Int)))(m:Int)(i:Int)(hc:m=((el q).length:Int)∧0≤i∧i≤m∧m≤3∧0≤c∧((i=0∧c<256)∨(i=1∧c<16384)∨(i=2∧c<1048576)∨(i=3∧c<67108864))∧(∀ x ∈ el q,0≤x∧x<256)):A5q [.int .i64 c,A8 rB q,.int .i64 m,.int .i64 i]=some (0,[.int .i64 (cdL ((el q).drop i.toNat) c)]):=by
 simp only[A5q,G1,D4];exact if_pos hc
def C4B:Q9:=⟨[(3,h 0 3),(20,dat 7 1 11),(21,h 2 3),(22,h 3 3)],[(7,.frz)],4,[⟨.exit 0,[(3,h 0 3)],[],1⟩]⟩
noncomputable def B8U:Code:=(Tryz.f141.body).getD .skip
noncomputable def C38:Code:=match H8 [true,true,true,false,true,false] B8U with|some (.loop x)=>x|_=>.skip
theorem C4A:Tryz.f141.body=some B8U:=rfl
theorem C3_:H8 [true,true,true,false,true,false] B8U=some (.loop C38):=by kernel_rfl
def C39:Tr:=aL [h3 3,h3 2]<|.br 4 (.lt 8 (.inbs 1) [h3 3,h 1 11]<|.br 5 (.lt 4 (.get 1 0) [h 1 11,h3 3]<|.lt 3 (.bin .shl) [h3 0,.int .u64 (6)]<|.lt 4 (.bin .and) [h 6 4,.int .u8 (63)]<|.lt 3 (.conv .i64) [h 8 4]<|.lt 3 (.bin .or) [h3 7,h3 9]<|aA [h3 3,jI 1]<|.ret [jI (-1),h3 10,h 1 11,h3 2,h3 11]) (.no)) (.ret [jI 0,h3 0])
def B8T:List U→Nat
 | [.int .i64 c,u_q,.int .i64 m,.int .i64 i]=>(match J9 rB u_q with|some q=>(m-i).toNat|none=>0)
 | _=>0
theorem B8S(c:Int)(q:(Option (List Int)))(m:Int)(i:Int):B8T [.int .i64 c,A8 rB q,.int .i64 m,.int .i64 i]=(m-i).toNat:=by
 simp only[B8T,G1]
theorem C8R{G:Nat→Option Obj}(hst:B9 Tryz.prog G gl H0 n0):∀ (E:Nat→U) (base:Nat),@Y8 ⟨E,G⟩ Tryz.prog base gl Tryz.f141.ntmps C38 (Q8 Tryz.prog gl n0 8 C4B A5q):=by
 refine A0f (C:=cx C6C B2z) (dep:=60) (f:=141) (n0:=n0) (nB:=8) (H0:=H0) B8T C39 (cxg (C1H hst) (A94 hst)) hst Tryz.func141 C4A C3_ (by kernel_rfl) (by kernel_rfl) (by kernel_rfl) ?_;intro us d outs hs;have hs0:=hs;unfold A5q at hs;split at hs
 ·skip;rename_i c u_q m i;have hq_q:=A6.1 hs;clear hs;obtain⟨q,hd_q,hs⟩:=hq_q;replace hd_q:=F2 hd_q;subst hd_q;split at hs
  ·rename_i hc;clear hs hs0;have zb:i<m→0≤((el q).getD i.toNat default)∧((el q).getD i.toNat default)<256:=fun h=>A2H (l:=el q) hc.2.2.2.2.2.2 (by omega) (by omega)
   refine⟨rfl,?_⟩;unfold C39;refine w0 (.cons 3 _ (.cons 2 _ (.cons 1 _ (.cons 0 _ (.nil))))) ?_;refine A1U ?_;refine w5 (fun g0=>?_) fun g0=>?_
   ·refine w7 [.int .i64 _,.int .i64 _] ?_;refine L6 (d:=0) ?_;rw[A5p c q m i hc,D0B (l:=el q) (i:=i) (by omega)]
   have zb:=zb g0;refine n7 ?_;refine w5 (fun g1=>?_) fun g1=>?_
   ·refine w8 ?_;first|omega
   refine w1 (.get 1 0) (u:=.int .u8 _) (e:=G9 rfl (by omega) (by omega) rfl) (k':=?_);first|refine w1 (.bin .shl) (e:=A8S 64 (by decide) (by decide) (A3l (by omega) (by omega))) (k':=?_)|refine w1 (.bin .shl) (e:=A6T 64 (by decide) (by decide)) (k':=?_)
   refine w1 (.bin .and) (e:=A0A 6 64 (by decide) (by decide) (by decide)) (k':=?_);first|refine t8 ?_|refine Y6 ?_
   first|refine w1 (.bin .or) (e:=A6_ 6 64 9223372036854775808 (by decide) (by decide) (by omega) (by omega) (by omega) (by omega) (by omega)) (k':=?_)|refine w1 (.bin .or) (e:=A9Y 6 64 9223372036854775808 (by decide) (by decide) (by omega) (by omega) (by omega) (by omega) (by omega)) (k':=?_)|refine w1 (.bin .or) (e:=A4L _ _ _) (k':=?_)
   first|refine W5 ?_|refine N7 ?_
   refine w7 [.int .i64 _,.int .i64 _,A8 rB _,.int .i64 _,.int .i64 _] ?_;refine J8 ?_ ?_
   ·rw[A5p _ q m (i+1) ⟨hc.1,by omega,by omega,by omega,by omega,by omega,hc.2.2.2.2.2.2⟩,A5p c q m i hc,D0A (l:=el q) (i:=i) (by omega) (by omega)]
   ·rw[B8S,B8S];omega
  ·cases hs
 ·cases hs
noncomputable def B7L:List LpE:=[(141,([true,true,true,false,true,false],Q8 Tryz.prog gl n0 8 C4B A5q))]
theorem B5x{G:Nat→Option Obj}(hst:B9 Tryz.prog G gl H0 n0):A0D Tryz.prog G gl B7L:=(.cons Tryz.func141 C4A C3_ (C8R hst) .nil)
noncomputable def C6D:List (FuncId×FnC):=L0
theorem C1I{G:Nat→Option Obj}(hst:B9 Tryz.prog G gl H0 n0):G4 Tryz.prog G gl C6D:=.nil
def A14:List U→Option (Nat×List U)
 | [u_p]=>(J9 rB u_p).bind fun p=>if 1≤((el p).length:Int)∧((el p).length:Int)≤4∧(∀ x ∈ el p,0≤x∧x<256)then some (0,[.int .i64 (A1s (el p))])else none
 | _=>none
theorem A8C(p:(Option (List Int)))(hc:1≤((el p).length:Int)∧((el p).length:Int)≤4∧(∀ x ∈ el p,0≤x∧x<256)):A14 [A8 rB p]=some (0,[.int .i64 (A1s (el p))]):=by
 simp only[A14,G1,D4];exact if_pos hc
def C4C:Tr:=.lt 8 (.inbs 1) [jI 0,h 0 11]<|.br 1 (.lt 4 (.get 1 0) [h 0 11,jI 0]<|.lt 3 (.conv .i64) [h 2 4]<|aD [h 0 11]<|aG [h3 4,jI 1]<|.br 5 (aA [h3 4,jI 1]<|.lt 3 (.bin .shr) [jI 255,h3 6]<|.lt 3 (.bin .and) [h3 3,h3 7]<|.dt 11 (.subs 1) [h 0 11,jI 1,h3 4]<|aD [h 9 11]<|.fn A5q [h3 8,h 9 11,h3 10,jI 0] 1<|.ret [h3 11]) (.dt 11 (.subs 1) [h 0 11,jI 1,h3 4]<|aD [h 6 11]<|.fn A5q [h3 3,h 6 11,h3 7,jI 0] 1<|.ret [h3 8])) (.no)
theorem C4D{G:Nat→Option Obj}(hst:B9 Tryz.prog G gl H0 n0):L2 Tryz.prog G 141 [.s 11] A14 [.s 3]:=by
 refine E7 (C:=cx C6D B7L) (d:=60) C4C (cxg (C1I hst) (B5x hst)) hst ⟨Tryz.f141,_,Tryz.func141,rfl⟩ (by kernel_rfl) (by kernel_rfl) ?_;intro us outs hs;unfold A14 at hs;split at hs
 ·skip;rename_i u_p;have hq_p:=A6.1 hs;clear hs;obtain⟨p,hd_p,hs⟩:=hq_p;replace hd_p:=F2 hd_p;subst hd_p;split at hs
  ·rename_i hc;cases hs;have zg:0≤(el p).getD (0:Int).toNat default∧(el p).getD (0:Int).toNat default<256:=gt0 hc.2.2 hc.1;have zl:((el (K4 p (1:Int).toNat ((el p).length:Int).toNat)).length:Int)=((el p).length:Int)-1:=by
    rw[el1 hc.1,C8];omega
   have zm:=C9C (((el p).length:Int)+1);unfold C4C;refine w0 (.cons 0 _ (.nil)) ?_;refine n7 ?_;refine w5 (fun g0=>?_) fun g0=>?_
   ·refine w8 ?_;first|omega
   refine w1 (.get 1 0) (u:=.int .u8 _) (e:=G9 rfl (by omega) (by omega) rfl) (k':=?_);first|refine t8 ?_|refine Y6 ?_
   refine R2 ?_;refine A7y ?_;refine w4 (fun g1=>?_) fun g1=>?_
   ·have zq:0≤(el p).getD (0:Int).toNat default%(A89 (((el p).length:Int)+1)+1)∧(el p).getD (0:Int).toNat default%(A89 (((el p).length:Int)+1)+1)<256:=⟨A3g _ (by omega),Int.lt_of_lt_of_le (Int.emod_lt_of_pos _ (by omega)) (by omega)⟩;first|refine W5 ?_|refine N7 ?_
    refine w1 (.bin .shr) (e:=C28 (by omega)) (k':=?_);refine w1 (.bin .and) (e:=C3E (by omega) (by omega)) (k':=?_);refine w2 (.subs 1) (r:=rB) (e:=I8 rfl (by omega) (by omega) (by omega)) (k':=?_);refine R2 ?_;refine w31 A5q (e:=A5p _ _ _ _ ⟨rfl,by omega,by omega,by omega,zq.1,.inl ⟨rfl,zq.2⟩,fun x hx=>hc.2.2 x (by rw[el1 hc.1]at hx;exact K2 hx)⟩) (k':=?_);refine w7 [.int .i64 _] ?_;refine l0 ?_;rw[C94 g1];exact C5u hc.1
   refine w2 (.subs 1) (r:=rB) (e:=I8 rfl (by omega) (by omega) (by omega)) (k':=?_);refine R2 ?_;refine w31 A5q (e:=A5p _ _ _ _ ⟨rfl,by omega,by omega,by omega,zg.1,.inl ⟨rfl,zg.2⟩,fun x hx=>hc.2.2 x (by rw[el1 hc.1]at hx;exact K2 hx)⟩) (k':=?_);refine w7 [.int .i64 _] ?_;refine l0 ?_;rw[C95 g1];exact C5u hc.1
  ·cases hs
 ·cases hs
noncomputable def C59:List (FuncId×FnC):=(140,I9 Tryz.prog [.s 11] A0j [.s 3])::L0
theorem C1D{G:Nat→Option Obj}(hst:B9 Tryz.prog G gl H0 n0):G4 Tryz.prog G gl C59:=(.cons (B8R hst) .nil)
def A49:List U→Option (Nat×List U)
 | [u_p]=>(J9 rB u_p).bind fun p=>if((el p).length:Int)≤1000∧(∀ x ∈ el p,0≤x∧x<256)then some (0,[.bool (decide (((el p).length:Int)=0∨knd (el p)=1))])else none
 | _=>none
theorem B56(p:(Option (List Int)))(hc:((el p).length:Int)≤1000∧(∀ x ∈ el p,0≤x∧x<256)):A49 [A8 rB p]=some (0,[.bool (decide (((el p).length:Int)=0∨knd (el p)=1))]):=by
 simp only[A49,G1,D4];exact if_pos hc
def C3y:Tr:=aD [h 0 11]<|aE [h3 1,jI 0]<|.br 2 (.ret [.bool true]) (.fn A0j [h 0 11] 1<|aE [h3 3,jI 1]<|.ret [h 4 8])
theorem C3z{G:Nat→Option Obj}(hst:B9 Tryz.prog G gl H0 n0):L2 Tryz.prog G 139 [.s 11] A49 [.s 8]:=by
 refine E7 (C:=cx C59 []) (d:=60) C3y (cxg (C1D hst) .nil) hst ⟨Tryz.f139,_,Tryz.func139,rfl⟩ (by kernel_rfl) (by kernel_rfl) ?_;intro us outs hs;unfold A49 at hs;split at hs
 ·skip;rename_i u_p;have hq_p:=A6.1 hs;clear hs;obtain⟨p,hd_p,hs⟩:=hq_p;replace hd_p:=F2 hd_p;subst hd_p;split at hs
  ·rename_i hc;cases hs;unfold C3y;refine w0 (.cons 0 _ (.nil)) ?_;repeat (first|refine N6 ?_|(refine w7 [.bool _] ?_;rotate_left)|refine R2 ?_|refine w4 (fun g=>?_) fun g=>?_|refine w31 A0j (e:=A5o _ ⟨by omega,by omega,hc.2⟩) (k':=?_))
   all_goals
    refine l1 ?_;first|exact(decide_eq_true (.inl (by omega))).symm|(exact decide_eq_decide.2 ⟨fun h=>.inr h,fun h=>h.resolve_left (by omega)⟩)
  ·cases hs
 ·cases hs
def B7R(b:Int):Option (List Int):=if knd [b]=1 then some [b]else none
def A7x(b:Int):Option (List Int):=if knd [b]=2 then some [A1s [b]]else if knd [b]=1 then none else some [65533]
def utR(l:List Int)(b:Int):Option (List Int):=if knd (l++[b])=2 then none else if knd (l++[b])=1 then some (l++[b])else if l=[]then none else B7R b
def utC(l:List Int)(b:Int):Option (List Int):=if knd (l++[b])=2 then some [A1s (l++[b])]else if knd (l++[b])=1 then none else if l=[]then some [65533]else some (65533::el (A7x b))
theorem C8M{b:Int}:utR [] b=B7R b∧utC [] b=A7x b:=by
 unfold utR utC B7R A7x;constructor
 ·by_cases h:knd ([]++[b])=2
  ·rw[if_pos h,if_neg (by show ¬knd ([]++[b])=1;omega)]
  ·rw[if_neg h];rfl
 ·rfl
theorem C9v{p:Option (List Int)}(h:((el p).length:Int)=0):el p=[]:=D8.1 (by omega)
theorem A1A{p:Option (List Int)}:el (K4 p (0:Int).toNat ((el p).length:Int).toNat)=el p:=by
 rw[K0];show((el p).drop 0).take _=_;rw[R0];exact F8 (by simp)
theorem ut2{a b c d:Option (List Int)}(h1:a=b)(h2:c=d):[A8 rB a,A8 rN c]=[A8 rB b,A8 rN d]:=by rw[h1,h2]
theorem C8K{l:List Int}{b:Int}(h:knd (l++[b])=2):none=utR l b∧some [A1s (l++[b])]=utC l b:=by unfold utR utC;rw[if_pos h,if_pos h];exact⟨rfl,rfl⟩
theorem C8L{l:List Int}{b:Int}(h:knd (l++[b])=1):some (l++[b])=utR l b∧none=utC l b:=by unfold utR utC;rw[if_neg (by omega),if_pos h,if_neg (by omega),if_pos h];exact⟨rfl,rfl⟩
theorem C8J{l:List Int}{b:Int}(h2:¬knd (l++[b])=2)(h:¬knd (l++[b])=1)(h3:l=[]):none=utR l b∧some [65533]=utC l b:=by unfold utR utC;rw[if_neg h2,if_neg h,if_neg h2,if_neg h,if_pos h3,if_pos h3];exact⟨rfl,rfl⟩
theorem D0Q{l:List Int}{b:Int}(h2:¬knd (l++[b])=2)(h:¬knd (l++[b])=1)(h3:l≠[]):B7R b=utR l b∧some (65533::el (A7x b))=utC l b:=by unfold utR utC;rw[if_neg h2,if_neg h,if_neg h2,if_neg h,if_neg h3,if_neg h3];exact⟨rfl,rfl⟩
theorem C3e{p:Option (List Int)}{b:Int}(hb:∀ x ∈ el p,0≤x∧x<256)(h0:0≤b)(h1:b<256):∀ x ∈ el p++[b],0≤x∧x<256:=fun x hx=>by
 rcases B1.1 hx with h|h
 ·exact hb x h
 ·have:x=b:=by simpa using h
  omega
theorem la(l:List Int)(b:Int):((l++[b]).length:Int)=(l.length:Int)+1:=by simp
theorem B2_(b:Int):(el (A7x b)).length≤1:=by unfold A7x;(repeat' split)<;>simp[el]
theorem C8O(b:Int):utC (el (none:Option (List Int))) b=A7x b:=C8M.2
theorem A8a(b:Int):(el (utC (el (none:Option (List Int))) b)).length≤1:=by rw[C8O];exact B2_ b
theorem B9r{l:List Int}:S9 (l.getD 0 0)≤4:=by unfold S9;(repeat' split)<;>omega
theorem B6j{l:List Int}(h:knd l=1∨knd l=2):(l.length:Int)≤4:=by
 have:=B9r (l:=l);unfold knd at h;by_cases h1:S9 (l.getD 0 0)<(l.length:Int)
 ·rw[if_pos h1]at h;omega
 ·omega
theorem A4C{l:List Int}(h:knd l=1):(l.length:Int)≤3:=by
 have:=B9r (l:=l);unfold knd at h;by_cases h1:S9 (l.getD 0 0)<(l.length:Int)
 ·rw[if_pos h1]at h;omega
 ·rw[if_neg h1]at h;by_cases h2:okT (l.drop 1) (loB (l.getD 0 0)) (hiB (l.getD 0 0))=true
  ·rw[if_pos h2]at h;by_cases h3:(l.length:Int)<S9 (l.getD 0 0)
   ·omega
   ·rw[if_neg h3]at h;omega
  ·rw[if_neg h2]at h;omega
theorem C6t(x:Option (List Int)):A6Y (some [65533]) x=some (65533::el x):=by
 cases x with
 | none=>rfl
 | some l=>cases l<;>rfl
noncomputable def C58:List (FuncId×FnC):=(140,I9 Tryz.prog [.s 11] A0j [.s 3])::(141,I9 Tryz.prog [.s 11] A14 [.s 3])::(139,I9 Tryz.prog [.s 11] A49 [.s 8])::L0
theorem C1C{G:Nat→Option Obj}(hst:B9 Tryz.prog G gl H0 n0):G4 Tryz.prog G gl C58:=(.cons (B8R hst) (.cons (C4D hst) (.cons (C3z hst) .nil)))
def A8c:List U→Option (Nat×List U)
 | [u_p,.int .u8 b]=>(J9 rB u_p).bind fun p=>if((el p).length:Int)=0∧(((el p).length:Int)=0∨knd (el p)=1)∧0≤b∧b<256∧(∀ x ∈ el p,0≤x∧x<256)then some (0,[A8 rB (utR (el p) b),A8 rN (utC (el p) b)])else none
 | _=>none
theorem C1_(p:(Option (List Int)))(b:Int)(hc:((el p).length:Int)=0∧(((el p).length:Int)=0∨knd (el p)=1)∧0≤b∧b<256∧(∀ x ∈ el p,0≤x∧x<256)):A8c [A8 rB p,.int .u8 b]=some (0,[A8 rB (utR (el p) b),A8 rN (utC (el p) b)]):=by
 simp only[A8c,G1,D4];exact if_pos hc
def C3x:Tr:=.fn A49 [h 0 11] 1<|aX [h 2 8]<|.br 3 (.dt 11 (.mk 1) [h 1 4]<|.fn A0j [h 4 11] 1<|aE [h3 5,jI 2]<|.br 6 (.dt 11 (.mk 1) [h 1 4]<|.fn A14 [h 7 11] 1<|.dt 11 (.nilw 1) []<|.dt 11 (.mk 1) [h3 8]<|.ret [h 9 11,h 10 11]) (aE [h3 5,jI 1]<|.br 7 (.dt 11 (.mk 1) [h 1 4]<|.dt 11 (.nilw 1) []<|.ret [h 8 11,h 9 11]) (.dt 11 (.nilw 1) []<|.dt 11 (.mk 1) [jI 65533]<|.ret [h 8 11,h 9 11]))) (aD [h 0 11]<|.dt 11 (.subs 1) [h 0 11,jI 0,h3 4]<|.dt 11 (.snoc 1) [h 5 11,h 1 4]<|.fn A0j [h 6 11] 1<|aE [h3 7,jI 2]<|.br 8 (.fn A14 [h 6 11] 1<|.dt 11 (.nilw 1) []<|.dt 11 (.mk 1) [h3 9]<|.ret [h 10 11,h 11 11]) (aE [h3 7,jI 1]<|.br 9 (.dt 11 (.nilw 1) []<|.ret [h 6 11,h 10 11]) (aE [h3 4,jI 0]<|.br 10 (.dt 11 (.nilw 1) []<|.dt 11 (.mk 1) [jI 65533]<|.ret [h 11 11,h 12 11]) (.no))))
theorem C8P{G:Nat→Option Obj}(hst:B9 Tryz.prog G gl H0 n0):L2 Tryz.prog G 127 [.s 11,.s 4] A8c [.s 11,.s 11]:=by
 refine E7 (C:=cx C58 []) (d:=2) C3x (cxg (C1C hst) .nil) hst ⟨Tryz.f127,_,Tryz.func127,rfl⟩ (by kernel_rfl) (by kernel_rfl) ?_;intro us outs hs;unfold A8c at hs;split at hs
 ·skip;rename_i u_p b;have hq_p:=A6.1 hs;clear hs;obtain⟨p,hd_p,hs⟩:=hq_p;replace hd_p:=F2 hd_p;subst hd_p;split at hs
  ·rename_i hc;cases hs;have zs:el (K4 p (0:Int).toNat ((el p).length:Int).toNat)++[b]=el p++[b]:=by rw[A1A]
   have zn:((el (K4 p (0:Int).toNat ((el p).length:Int).toNat)).length:Int)=((el p).length:Int):=by rw[A1A]
   unfold C3x;refine w0 (.cons 1 _ (.cons 0 _ (.nil))) ?_;refine w31 A49 (e:=B56 _ ⟨by omega,hc.2.2.2.2⟩) (k':=?_);first|refine m9 ?_|refine A3o ?_
   first|refine w4 (fun g0=>?_) (fun g0=>?_)|refine w4B (fun g0=>?_) (fun g0=>?_)
   ·refine w2 (.mk 1) (r:=rB) (e:=P2 [_] rfl (by decide) rfl) (k':=?_);refine w31 A0j (e:=A5o _ (g0 hc.2.1).elim) (k':=?_);refine N6 ?_;refine w4 (fun g1=>?_) fun g1=>?_
    ·refine w2 (.mk 1) (r:=rB) (e:=P2 [_] rfl (by decide) rfl) (k':=?_);refine w31 A14 (e:=A8C _ (g0 hc.2.1).elim) (k':=?_);refine w2 (.nilw 1) (r:=rB) (e:=E5 rfl) (k':=?_);refine w2 (.mk 1) (r:=rN) (e:=P2 [_] rfl (by decide) rfl) (k':=?_);refine w7 [A8 rB _,A8 rN _] ?_;exact(g0 hc.2.1).elim
    refine N6 ?_;refine w4 (fun g2=>?_) fun g2=>?_
    ·refine w2 (.mk 1) (r:=rB) (e:=P2 [_] rfl (by decide) rfl) (k':=?_);refine w2 (.nilw 1) (r:=rN) (e:=E5 rfl) (k':=?_);refine w7 [A8 rB _,A8 rN _] ?_;exact(g0 hc.2.1).elim
    refine w2 (.nilw 1) (r:=rB) (e:=E5 rfl) (k':=?_);refine w2 (.mk 1) (r:=rN) (e:=P2 [_] rfl (by decide) rfl) (k':=?_);refine w7 [A8 rB _,A8 rN _] ?_;exact(g0 hc.2.1).elim
   have zr:=hc.2.1;refine R2 ?_;refine w2 (.subs 1) (r:=rB) (e:=I8 rfl (by omega) (by omega) (by omega)) (k':=?_);refine w2 (.snoc 1) (r:=rB) (e:=J7 rfl rfl (by decide) (by first|omega|(show 1+_≤1000000000;have:=A8a b;omega))) (k':=?_);refine w31 A0j (e:=A5o _ ⟨by rw[F6,la];omega,by rw[F6,la];omega,by rw[F6,A1A];exact C3e hc.2.2.2.2 hc.2.2.1 hc.2.2.2.1⟩) (k':=?_);refine N6 ?_;refine w4 (fun g1=>?_) fun g1=>?_
   ·refine w31 A14 (e:=A8C _ ⟨by rw[F6,la];omega,(by have:=B6j (.inr g1);rw[F6];exact this),by rw[F6,A1A];exact C3e hc.2.2.2.2 hc.2.2.1 hc.2.2.2.1⟩) (k':=?_);refine w2 (.nilw 1) (r:=rB) (e:=E5 rfl) (k':=?_);refine w2 (.mk 1) (r:=rN) (e:=P2 [_] rfl (by decide) rfl) (k':=?_);refine w7 [A8 rB _,A8 rN _] ?_;have z:=C8K (l:=el p) (b:=b) (by rw[← zs];exact g1);exact ut2 z.1 (by rw[zs];exact z.2)
   refine N6 ?_;refine w4 (fun g2=>?_) fun g2=>?_
   ·refine w2 (.nilw 1) (r:=rN) (e:=E5 rfl) (k':=?_);refine w7 [A8 rB _,A8 rN _] ?_;have z:=C8L (l:=el p) (b:=b) (by rw[← zs];exact g2);exact ut2 (by rw[zs];exact z.1) z.2
   refine N6 ?_;refine w5 (fun g3=>?_) fun g3=>?_
   ·refine w8 ?_;first|omega|(exfalso;simp_all;done)|(exfalso;simp_all;omega)
   refine w2 (.nilw 1) (r:=rB) (e:=E5 rfl) (k':=?_);refine w2 (.mk 1) (r:=rN) (e:=P2 [_] rfl (by decide) rfl) (k':=?_);refine w7 [A8 rB _,A8 rN _] ?_;have z:=C8J (l:=el p) (b:=b) (by rw[← zs];exact g1) (by rw[← zs];exact g2) (C9v g3);exact ut2 z.1 z.2
  ·cases hs
 ·cases hs
noncomputable def C56:List (FuncId×FnC):=(140,I9 Tryz.prog [.s 11] A0j [.s 3])::(141,I9 Tryz.prog [.s 11] A14 [.s 3])::(139,I9 Tryz.prog [.s 11] A49 [.s 8])::(127,I9 Tryz.prog [.s 11,.s 4] A8c [.s 11,.s 11])::L0
theorem C1A{G:Nat→Option Obj}(hst:B9 Tryz.prog G gl H0 n0):G4 Tryz.prog G gl C56:=(.cons (B8R hst) (.cons (C4D hst) (.cons (C3z hst) (.cons (C8P hst) .nil))))
def A3n:List U→Option (Nat×List U)
 | [u_p,.int .u8 b]=>(J9 rB u_p).bind fun p=>if((el p).length:Int)≤100∧(((el p).length:Int)=0∨knd (el p)=1)∧0≤b∧b<256∧(∀ x ∈ el p,0≤x∧x<256)then some (0,[A8 rB (utR (el p) b),A8 rN (utC (el p) b)])else none
 | _=>none
theorem C18(p:(Option (List Int)))(b:Int)(hc:((el p).length:Int)≤100∧(((el p).length:Int)=0∨knd (el p)=1)∧0≤b∧b<256∧(∀ x ∈ el p,0≤x∧x<256)):A3n [A8 rB p,.int .u8 b]=some (0,[A8 rB (utR (el p) b),A8 rN (utC (el p) b)]):=by
 simp only[A3n,G1,D4];exact if_pos hc
def C3t:Tr:=.fn A49 [h 0 11] 1<|aX [h 2 8]<|.br 3 (.dt 11 (.mk 1) [h 1 4]<|.fn A0j [h 4 11] 1<|aE [h3 5,jI 2]<|.br 6 (.dt 11 (.mk 1) [h 1 4]<|.fn A14 [h 7 11] 1<|.dt 11 (.nilw 1) []<|.dt 11 (.mk 1) [h3 8]<|.ret [h 9 11,h 10 11]) (aE [h3 5,jI 1]<|.br 7 (.dt 11 (.mk 1) [h 1 4]<|.dt 11 (.nilw 1) []<|.ret [h 8 11,h 9 11]) (.dt 11 (.nilw 1) []<|.dt 11 (.mk 1) [jI 65533]<|.ret [h 8 11,h 9 11]))) (aD [h 0 11]<|.dt 11 (.subs 1) [h 0 11,jI 0,h3 4]<|.dt 11 (.snoc 1) [h 5 11,h 1 4]<|.fn A0j [h 6 11] 1<|aE [h3 7,jI 2]<|.br 8 (.fn A14 [h 6 11] 1<|.dt 11 (.nilw 1) []<|.dt 11 (.mk 1) [h3 9]<|.ret [h 10 11,h 11 11]) (aE [h3 7,jI 1]<|.br 9 (.dt 11 (.nilw 1) []<|.ret [h 6 11,h 10 11]) (aE [h3 4,jI 0]<|.br 10 (.dt 11 (.nilw 1) []<|.dt 11 (.mk 1) [jI 65533]<|.ret [h 11 11,h 12 11]) (.dt 11 (.nilw 1) []<|.fn A8c [h 11 11,h 1 4] 2<|.dt 11 (.mk 1) [jI 65533]<|.dt 11 (.cat 1) [h 14 11,h 13 11]<|.ret [h 12 11,h 15 11]))))
theorem C3u{G:Nat→Option Obj}(hst:B9 Tryz.prog G gl H0 n0):L2 Tryz.prog G 127 [.s 11,.s 4] A3n [.s 11,.s 11]:=by
 refine E7 (C:=cx C56 []) (d:=60) C3t (cxg (C1A hst) .nil) hst ⟨Tryz.f127,_,Tryz.func127,rfl⟩ (by kernel_rfl) (by kernel_rfl) ?_;intro us outs hs;unfold A3n at hs;split at hs
 ·skip;rename_i u_p b;have hq_p:=A6.1 hs;clear hs;obtain⟨p,hd_p,hs⟩:=hq_p;replace hd_p:=F2 hd_p;subst hd_p;split at hs
  ·rename_i hc;cases hs;have zs:el (K4 p (0:Int).toNat ((el p).length:Int).toNat)++[b]=el p++[b]:=by rw[A1A]
   have zn:((el (K4 p (0:Int).toNat ((el p).length:Int).toNat)).length:Int)=((el p).length:Int):=by rw[A1A]
   unfold C3t;refine w0 (.cons 1 _ (.cons 0 _ (.nil))) ?_;refine w31 A49 (e:=B56 _ ⟨by omega,hc.2.2.2.2⟩) (k':=?_);first|refine m9 ?_|refine A3o ?_
   first|refine w4 (fun g0=>?_) (fun g0=>?_)|refine w4B (fun g0=>?_) (fun g0=>?_)
   ·refine w2 (.mk 1) (r:=rB) (e:=P2 [_] rfl (by decide) rfl) (k':=?_);refine w31 A0j (e:=A5o _ (g0 hc.2.1).elim) (k':=?_);refine N6 ?_;refine w4 (fun g1=>?_) fun g1=>?_
    ·refine w2 (.mk 1) (r:=rB) (e:=P2 [_] rfl (by decide) rfl) (k':=?_);refine w31 A14 (e:=A8C _ (g0 hc.2.1).elim) (k':=?_);refine w2 (.nilw 1) (r:=rB) (e:=E5 rfl) (k':=?_);refine w2 (.mk 1) (r:=rN) (e:=P2 [_] rfl (by decide) rfl) (k':=?_);refine w7 [A8 rB _,A8 rN _] ?_;exact(g0 hc.2.1).elim
    refine N6 ?_;refine w4 (fun g2=>?_) fun g2=>?_
    ·refine w2 (.mk 1) (r:=rB) (e:=P2 [_] rfl (by decide) rfl) (k':=?_);refine w2 (.nilw 1) (r:=rN) (e:=E5 rfl) (k':=?_);refine w7 [A8 rB _,A8 rN _] ?_;exact(g0 hc.2.1).elim
    refine w2 (.nilw 1) (r:=rB) (e:=E5 rfl) (k':=?_);refine w2 (.mk 1) (r:=rN) (e:=P2 [_] rfl (by decide) rfl) (k':=?_);refine w7 [A8 rB _,A8 rN _] ?_;exact(g0 hc.2.1).elim
   have zr:=hc.2.1;refine R2 ?_;refine w2 (.subs 1) (r:=rB) (e:=I8 rfl (by omega) (by omega) (by omega)) (k':=?_);refine w2 (.snoc 1) (r:=rB) (e:=J7 rfl rfl (by decide) (by first|omega|(show 1+_≤1000000000;have:=A8a b;omega))) (k':=?_);refine w31 A0j (e:=A5o _ ⟨by rw[F6,la];omega,by rw[F6,la];omega,by rw[F6,A1A];exact C3e hc.2.2.2.2 hc.2.2.1 hc.2.2.2.1⟩) (k':=?_);refine N6 ?_;refine w4 (fun g1=>?_) fun g1=>?_
   ·refine w31 A14 (e:=A8C _ ⟨by rw[F6,la];omega,(by have:=B6j (.inr g1);rw[F6];exact this),by rw[F6,A1A];exact C3e hc.2.2.2.2 hc.2.2.1 hc.2.2.2.1⟩) (k':=?_);refine w2 (.nilw 1) (r:=rB) (e:=E5 rfl) (k':=?_);refine w2 (.mk 1) (r:=rN) (e:=P2 [_] rfl (by decide) rfl) (k':=?_);refine w7 [A8 rB _,A8 rN _] ?_;have z:=C8K (l:=el p) (b:=b) (by rw[← zs];exact g1);exact ut2 z.1 (by rw[zs];exact z.2)
   refine N6 ?_;refine w4 (fun g2=>?_) fun g2=>?_
   ·refine w2 (.nilw 1) (r:=rN) (e:=E5 rfl) (k':=?_);refine w7 [A8 rB _,A8 rN _] ?_;have z:=C8L (l:=el p) (b:=b) (by rw[← zs];exact g2);exact ut2 (by rw[zs];exact z.1) z.2
   refine N6 ?_;refine w4 (fun g3=>?_) fun g3=>?_
   ·refine w2 (.nilw 1) (r:=rB) (e:=E5 rfl) (k':=?_);refine w2 (.mk 1) (r:=rN) (e:=P2 [_] rfl (by decide) rfl) (k':=?_);refine w7 [A8 rB _,A8 rN _] ?_;have z:=C8J (l:=el p) (b:=b) (by rw[← zs];exact g1) (by rw[← zs];exact g2) (C9v g3);exact ut2 z.1 z.2
   refine w2 (.nilw 1) (r:=rB) (e:=E5 rfl) (k':=?_);refine w32 A8c (e:=C1_ _ _ ⟨rfl,.inl rfl,hc.2.2.1,hc.2.2.2.1,fun x hx=>by cases hx⟩) (k':=?_);refine w2 (.mk 1) (r:=rN) (e:=P2 [_] rfl (by decide) rfl) (k':=?_);refine w2 (.cat 1) (r:=rN) (e:=B2c rfl (by first|omega|(show 1+_≤1000000000;have:=A8a b;omega))) (k':=?_);refine w7 [A8 rB _,A8 rN _] ?_;have z:=D0Q (l:=el p) (b:=b) (by rw[← zs];exact g1) (by rw[← zs];exact g2) (fun h=>g3 (by rw[h];rfl));exact ut2 (C8M.1.trans z.1) (by rw[← z.2,C8O];exact C6t _)
  ·cases hs
 ·cases hs
def fsN(b:Int):Int:=if b<128 then 1 else if 192≤b∧b<224 then 2 else if 224≤b∧b<240 then 3 else if 240≤b∧b<248 then 4 else 0
def fsL(b:Int):Int:=if b<128 then b else if 192≤b∧b<224 then b-192 else if 224≤b∧b<240 then b-224 else if 240≤b∧b<248 then b-240 else 0
def spL(l:List Int):Nat→Int→Int→Int→Option (Int×Int)
 | 0,_,lo,hi=>some (lo,hi)
 | k+1,i,lo,hi=>if i<(l.length:Int)then(if l.getD i.toNat default<128∨191<l.getD i.toNat default then none else spL l k (i+1) (lo*64+(l.getD i.toNat default-128)) (hi*64+63-63+(l.getD i.toNat default-128)))else spL l k (i+1) (lo*64) (hi*64+63)
def spN(l:List Int):Option (Int×Int):=if(l.length:Int)=0 then none else
 if(l.length:Int)>fsN (l.getD 0 0)then none else spL l (fsN (l.getD 0 0)-1).toNat 1 (fsL (l.getD 0 0)) (fsL (l.getD 0 0))
def spI(o:Option (Int×Int))(n:Int):Int:=if o.isSome then n else 0
theorem C8b{l:List Int}(h:(l.length:Int)≠0)(h2:(l.length:Int)>fsN (l.getD 0 0)):spN l=none:=by unfold spN;rw[if_neg h,if_pos h2]
theorem C8a{l:List Int}(h:(l.length:Int)≠0)(h2:¬(l.length:Int)>fsN (l.getD 0 0)):spN l=spL l (fsN (l.getD 0 0)-1).toNat 1 (fsL (l.getD 0 0)) (fsL (l.getD 0 0)):=by unfold spN;rw[if_neg h,if_neg h2]
theorem fsC(a:Int):(a<128∧fsN a=1∧fsL a=a)∨(((128≤a∧a<192)∨248≤a)∧fsN a=0)∨(192≤a∧a<224∧fsN a=2∧fsL a=a-192)∨(224≤a∧a<240∧fsN a=3∧fsL a=a-224)∨(240≤a∧a<248∧fsN a=4∧fsL a=a-240):=by
 unfold fsN fsL
 (repeat' split)<;>omega
theorem lnC(a:Int):(a<128∧S9 a=1)∨(194≤a∧a<224∧S9 a=2)∨(224≤a∧a<240∧S9 a=3)∨(240≤a∧a≤244∧S9 a=4)∨(((128≤a∧a<194)∨244<a)∧S9 a=0):=by
 unfold S9
 (repeat' split)<;>omega
theorem loC(a:Int):(a=224∧loB a=160)∨(a=240∧loB a=144)∨(a≠224∧a≠240∧loB a=128):=by
 unfold loB
 (repeat' split)<;>omega
theorem hiC(a:Int):(a=237∧hiB a=159)∨(a=244∧hiB a=143)∨(a≠237∧a≠244∧hiB a=191):=by
 unfold hiB
 (repeat' split)<;>omega
theorem knC(l:List Int):(knd l=0∧(S9 (l.getD 0 0)<(l.length:Int)∨¬okT (l.drop 1) (loB (l.getD 0 0)) (hiB (l.getD 0 0))=true))∨(knd l=1∧(l.length:Int)<S9 (l.getD 0 0)∧okT (l.drop 1) (loB (l.getD 0 0)) (hiB (l.getD 0 0))=true)∨(knd l=2∧(l.length:Int)=S9 (l.getD 0 0)∧okT (l.drop 1) (loB (l.getD 0 0)) (hiB (l.getD 0 0))=true):=by
 unfold knd;by_cases h1:S9 (l.getD 0 0)<(l.length:Int)
 ·rw[if_pos h1];exact .inl ⟨rfl,.inl h1⟩
 ·rw[if_neg h1];by_cases h2:okT (l.drop 1) (loB (l.getD 0 0)) (hiB (l.getD 0 0))=true
  ·rw[if_pos h2];by_cases h3:(l.length:Int)<S9 (l.getD 0 0)
   ·rw[if_pos h3];exact .inr (.inl ⟨rfl,h3,h2⟩)
   ·rw[if_neg h3];exact .inr (.inr ⟨rfl,by omega,h2⟩)
  ·rw[if_neg h2];exact .inl ⟨rfl,.inr h2⟩
theorem ok1(b lo hi:Int):okT [b] lo hi=true↔lo≤b∧b≤hi:=by simp[okT]
theorem ok2(b c lo hi:Int):okT [b,c] lo hi=true↔lo≤b∧b≤hi∧128≤c∧c≤191:=by simp[okT,and_assoc]
theorem ok3(b c d lo hi:Int):okT [b,c,d] lo hi=true↔lo≤b∧b≤hi∧128≤c∧c≤191∧128≤d∧d≤191:=by simp[okT,and_assoc]
theorem kn1(a:Int):(knd [a]=0∧S9 a<1)∨(knd [a]=1∧1<S9 a)∨(knd [a]=2∧S9 a=1):=by
 rcases knC [a]with⟨h,h2|h2⟩|⟨h,h2,h3⟩|⟨h,h2,h3⟩
 ·exact .inl ⟨h,h2⟩
 ·exact absurd rfl h2
 ·exact .inr (.inl ⟨h,h2⟩)
 ·exact .inr (.inr ⟨h,h2.symm⟩)
theorem kn2(a b:Int):(knd [a,b]=0∧(S9 a<2∨¬(loB a≤b∧b≤hiB a)))∨(knd [a,b]=1∧2<S9 a∧loB a≤b∧b≤hiB a)∨(knd [a,b]=2∧S9 a=2∧loB a≤b∧b≤hiB a):=by
 rcases knC [a,b]with⟨h,h2|h2⟩|⟨h,h2,h3⟩|⟨h,h2,h3⟩
 ·exact .inl ⟨h,.inl h2⟩
 ·exact .inl ⟨h,.inr fun k=>h2 ((ok1 _ _ _).2 k)⟩
 ·exact .inr (.inl ⟨h,h2,(ok1 _ _ _).1 h3⟩)
 ·exact .inr (.inr ⟨h,h2.symm,(ok1 _ _ _).1 h3⟩)
theorem kn3(a b c:Int):(knd [a,b,c]=0∧(S9 a<3∨¬(loB a≤b∧b≤hiB a∧128≤c∧c≤191)))∨(knd [a,b,c]=1∧3<S9 a∧loB a≤b∧b≤hiB a∧128≤c∧c≤191)∨(knd [a,b,c]=2∧S9 a=3∧loB a≤b∧b≤hiB a∧128≤c∧c≤191):=by
 rcases knC [a,b,c]with⟨h,h2|h2⟩|⟨h,h2,h3⟩|⟨h,h2,h3⟩
 ·exact .inl ⟨h,.inl h2⟩
 ·exact .inl ⟨h,.inr fun k=>h2 ((ok2 _ _ _ _).2 k)⟩
 ·exact .inr (.inl ⟨h,h2,(ok2 _ _ _ _).1 h3⟩)
 ·exact .inr (.inr ⟨h,h2.symm,(ok2 _ _ _ _).1 h3⟩)
theorem kn4(a b c d:Int):(knd [a,b,c,d]=0∧(S9 a<4∨¬(loB a≤b∧b≤hiB a∧128≤c∧c≤191∧128≤d∧d≤191)))∨(knd [a,b,c,d]=1∧4<S9 a∧loB a≤b∧b≤hiB a∧128≤c∧c≤191∧128≤d∧d≤191)∨(knd [a,b,c,d]=2∧S9 a=4∧loB a≤b∧b≤hiB a∧128≤c∧c≤191∧128≤d∧d≤191):=by
 rcases knC [a,b,c,d]with⟨h,h2|h2⟩|⟨h,h2,h3⟩|⟨h,h2,h3⟩
 ·exact .inl ⟨h,.inl h2⟩
 ·exact .inl ⟨h,.inr fun k=>h2 ((ok3 _ _ _ _ _).2 k)⟩
 ·exact .inr (.inl ⟨h,h2,(ok3 _ _ _ _ _).1 h3⟩)
 ·exact .inr (.inr ⟨h,h2.symm,(ok3 _ _ _ _ _).1 h3⟩)
def leS(n:Int):Int:=([0,0,128,2048,65536]:List Int).getD n.toNat 0
def mxS(n:Int):Int:=([0,127,2047,65535,1114111]:List Int).getD n.toNat 0
def gLo(l:List Int):Int:=((spN l).getD (0,0)).1
def gHi(l:List Int):Int:=((spN l).getD (0,0)).2
def gNn(l:List Int):Int:=spI (spN l) (fsN (l.getD 0 0))
def gIs(l:List Int):Prop:=gNn l≠0∧max (gLo l) (leS (gNn l))≤min (gHi l) (mxS (gNn l))∧¬(55296≤max (gLo l) (leS (gNn l))∧min (gHi l) (mxS (gNn l))≤57343)
theorem C5Q{l:List Int}(h:spN l=none):¬gIs l:=fun k=>k.1 (by unfold gNn;rw[h];rfl)
theorem C9n{l:List Int}{lo hi n:Int}(h:spN l=some (lo,hi))(hn:fsN (l.getD 0 0)=n):gNn l=n∧gLo l=lo∧gHi l=hi:=by
 unfold gNn gLo gHi;rw[h,hn];exact⟨rfl,rfl,rfl⟩
def B73(l:List Int):Prop:=(gIs l↔knd l=1∨knd l=2)∧(gIs l→((l.length:Int)=gNn l↔knd l=2))∧(knd l=2→gLo l=A1s l)
theorem W8{l:List Int}(h:spN l=none)(h2:knd l=0):B73 l :=
 ⟨⟨fun k=>absurd k (C5Q h),fun k=>by omega⟩,fun k=>absurd k (C5Q h),fun k=>by omega⟩
theorem A2R{l:List Int}{lo hi n e m:Int}(h:spN l=some (lo,hi))(hn:fsN (l.getD 0 0)=n)(he:leS n=e)(hm:mxS n=m)
  (h1:(n≠0∧max lo e≤min hi m∧¬(55296≤max lo e∧min hi m≤57343))↔knd l=1∨knd l=2) (h2:knd l=1∨knd l=2→((l.length:Int)=n↔knd l=2)) (h3:knd l=2→lo=A1s l):B73 l:=by
 obtain⟨a,b,c⟩:=C9n h hn;have hI:gIs l↔knd l=1∨knd l=2:=by
  unfold gIs;rw[a,b,c,he,hm];exact h1
 exact⟨hI,fun k=>by rw[a];exact h2 (hI.1 k),fun k=>by rw[b];exact h3 k⟩
theorem A4_{l:List Int}{n:Nat}(hl:l.length≠0)(hn:fsN (l.getD 0 0)=(n:Int)+1)(hle:l.length≤n+1):spN l=spL l n 1 (fsL (l.getD 0 0)) (fsL (l.getD 0 0)):=by
 rw[C8a (by omega) (by omega),hn,show((n:Int)+1-1).toNat=n by omega]
theorem A5A{l:List Int}(hl:l.length≠0)(h:fsN (l.getD 0 0)<(l.length:Int)):spN l=none:=C8b (by omega) (by omega)
theorem D0q(a:Int):A1s [a]=a:=rfl
theorem D0p(a b:Int):A1s [a,b]=a%32*64+b%64:=rfl
theorem D0o(a b c:Int):A1s [a,b,c]=(a%16*64+b%64)*64+c%64:=rfl
theorem D0n(a b c d:Int):A1s [a,b,c,d]=((a%8*64+b%64)*64+c%64)*64+d%64:=rfl
theorem g1(a:Int)(h0:0≤a)(h1:a<256):B73 [a]:=by
 have k:=kn1 a;have l:=lnC a;rcases fsC a with⟨q,n,f⟩|⟨q,n⟩|⟨q,q2,n,f⟩|⟨q,q2,n,f⟩|⟨q,q2,n,f⟩
 ·have s:spN [a]=some (fsL a,fsL a):=(A4_ (l:=[a]) (n:=0) (by simp) (show fsN a=((0:Nat):Int)+1 from n) (by simp)).trans rfl;refine A2R s n (show leS 1=0 from rfl) (show mxS 1=127 from rfl) ?_ ?_ ?_
  ·omega
  ·intro _;show(1:Int)=1↔_;omega
  ·intro _;rw[D0q];exact f
 ·exact W8 (A5A (by simp) (by show fsN a<1;omega)) (by omega)
 ·have s:spN [a]=some (fsL a*64,fsL a*64+63):=(A4_ (l:=[a]) (n:=1) (by simp) (show fsN a=((1:Nat):Int)+1 from n) (by simp)).trans rfl;refine A2R s n (show leS 2=128 from rfl) (show mxS 2=2047 from rfl) ?_ ?_ ?_
  ·omega
  ·intro _;show(1:Int)=2↔_;omega
  ·intro _;omega
 ·have s:spN [a]=some (fsL a*64*64,(fsL a*64+63)*64+63):=(A4_ (l:=[a]) (n:=2) (by simp) (show fsN a=((2:Nat):Int)+1 from n) (by simp)).trans rfl;refine A2R s n (show leS 3=2048 from rfl) (show mxS 3=65535 from rfl) ?_ ?_ ?_
  ·omega
  ·intro _;show(1:Int)=3↔_;omega
  ·intro _;omega
 ·have s:spN [a]=some (fsL a*64*64*64,((fsL a*64+63)*64+63)*64+63):=(A4_ (l:=[a]) (n:=3) (by simp) (show fsN a=((3:Nat):Int)+1 from n) (by simp)).trans rfl;refine A2R s n (show leS 4=65536 from rfl) (show mxS 4=1114111 from rfl) ?_ ?_ ?_
  ·omega
  ·intro _;show(1:Int)=4↔_;omega
  ·intro _;omega
theorem g2(a b:Int)(h0:0≤a)(h1:a<256)(h2:0≤b)(h3:b<256):B73 [a,b]:=by
 have k:=kn2 a b;have l:=lnC a;have u:=loC a;have v:=hiC a;rcases fsC a with⟨q,n,f⟩|⟨q,n⟩|⟨q,q2,n,f⟩|⟨q,q2,n,f⟩|⟨q,q2,n,f⟩
 ·exact W8 (A5A (by simp) (by show fsN a<2;omega)) (by omega)
 ·exact W8 (A5A (by simp) (by show fsN a<2;omega)) (by omega)
 ·have s:spN [a,b]=if b<128∨191<b then none else some (fsL a*64+(b-128),fsL a*64+63-63+(b-128)):=(A4_ (l:=[a,b]) (n:=1) (by simp) (show fsN a=((1:Nat):Int)+1 from n) (by simp)).trans rfl
  by_cases hb:b<128∨191<b
  ·rw[if_pos hb]at s;exact W8 s (by omega)
  ·rw[if_neg hb]at s;refine A2R s n (show leS 2=128 from rfl) (show mxS 2=2047 from rfl) ?_ ?_ ?_
   ·omega
   ·intro _;show(2:Int)=2↔_;omega
   ·intro _;rw[D0p];omega
 ·have s:spN [a,b]=if b<128∨191<b then none else some ((fsL a*64+(b-128))*64,(fsL a*64+63-63+(b-128))*64+63):=(A4_ (l:=[a,b]) (n:=2) (by simp) (show fsN a=((2:Nat):Int)+1 from n) (by simp)).trans rfl
  by_cases hb:b<128∨191<b
  ·rw[if_pos hb]at s;exact W8 s (by omega)
  ·rw[if_neg hb]at s;refine A2R s n (show leS 3=2048 from rfl) (show mxS 3=65535 from rfl) ?_ ?_ ?_
   ·omega
   ·intro _;show(2:Int)=3↔_;omega
   ·intro _;omega
 ·have s:spN [a,b]=if b<128∨191<b then none else some ((fsL a*64+(b-128))*64*64,((fsL a*64+63-63+(b-128))*64+63)*64+63):=(A4_ (l:=[a,b]) (n:=3) (by simp) (show fsN a=((3:Nat):Int)+1 from n) (by simp)).trans rfl
  by_cases hb:b<128∨191<b
  ·rw[if_pos hb]at s;exact W8 s (by omega)
  ·rw[if_neg hb]at s;refine A2R s n (show leS 4=65536 from rfl) (show mxS 4=1114111 from rfl) ?_ ?_ ?_
   ·omega
   ·intro _;show(2:Int)=4↔_;omega
   ·intro _;omega
theorem g3(a b c:Int)(h0:0≤a)(h1:a<256)(h2:0≤b)(h3:b<256)(h4:0≤c)(h5:c<256):B73 [a,b,c]:=by
 have k:=kn3 a b c;have l:=lnC a;have u:=loC a;have v:=hiC a;rcases fsC a with⟨q,n,f⟩|⟨q,n⟩|⟨q,q2,n,f⟩|⟨q,q2,n,f⟩|⟨q,q2,n,f⟩
 ·exact W8 (A5A (by simp) (by show fsN a<3;omega)) (by omega)
 ·exact W8 (A5A (by simp) (by show fsN a<3;omega)) (by omega)
 ·exact W8 (A5A (by simp) (by show fsN a<3;omega)) (by omega)
 ·have s:spN [a,b,c]=if b<128∨191<b then none else if c<128∨191<c then none else some ((fsL a*64+(b-128))*64+(c-128),(fsL a*64+63-63+(b-128))*64+63-63+(c-128)):=(A4_ (l:=[a,b,c]) (n:=2) (by simp) (show fsN a=((2:Nat):Int)+1 from n) (by simp)).trans rfl
  by_cases hb:b<128∨191<b
  ·rw[if_pos hb]at s;exact W8 s (by omega)
  ·rw[if_neg hb]at s;by_cases hc:c<128∨191<c
   ·rw[if_pos hc]at s;exact W8 s (by omega)
   ·rw[if_neg hc]at s;refine A2R s n (show leS 3=2048 from rfl) (show mxS 3=65535 from rfl) ?_ ?_ ?_
    ·omega
    ·intro _;show(3:Int)=3↔_;omega
    ·intro _;rw[D0o];omega
 ·have s:spN [a,b,c]=if b<128∨191<b then none else if c<128∨191<c then none else some (((fsL a*64+(b-128))*64+(c-128))*64,((fsL a*64+63-63+(b-128))*64+63-63+(c-128))*64+63):=(A4_ (l:=[a,b,c]) (n:=3) (by simp) (show fsN a=((3:Nat):Int)+1 from n) (by simp)).trans rfl
  by_cases hb:b<128∨191<b
  ·rw[if_pos hb]at s;exact W8 s (by omega)
  ·rw[if_neg hb]at s;by_cases hc:c<128∨191<c
   ·rw[if_pos hc]at s;exact W8 s (by omega)
   ·rw[if_neg hc]at s;refine A2R s n (show leS 4=65536 from rfl) (show mxS 4=1114111 from rfl) ?_ ?_ ?_
    ·omega
    ·intro _;show(3:Int)=4↔_;omega
    ·intro _;omega
theorem g4(a b c d:Int)(h0:0≤a)(h1:a<256)(h2:0≤b)(h3:b<256)(h4:0≤c)(h5:c<256)(h6:0≤d)(h7:d<256):B73 [a,b,c,d]:=by
 have k:=kn4 a b c d;have l:=lnC a;have u:=loC a;have v:=hiC a;rcases fsC a with⟨q,n,f⟩|⟨q,n⟩|⟨q,q2,n,f⟩|⟨q,q2,n,f⟩|⟨q,q2,n,f⟩
 ·exact W8 (A5A (by simp) (by show fsN a<4;omega)) (by omega)
 ·exact W8 (A5A (by simp) (by show fsN a<4;omega)) (by omega)
 ·exact W8 (A5A (by simp) (by show fsN a<4;omega)) (by omega)
 ·exact W8 (A5A (by simp) (by show fsN a<4;omega)) (by omega)
 ·have s:spN [a,b,c,d]=if b<128∨191<b then none else if c<128∨191<c then none else if d<128∨191<d then none else some (((fsL a*64+(b-128))*64+(c-128))*64+(d-128),((fsL a*64+63-63+(b-128))*64+63-63+(c-128))*64+63-63+(d-128)):=(A4_ (l:=[a,b,c,d]) (n:=3) (by simp) (show fsN a=((3:Nat):Int)+1 from n) (by simp)).trans rfl
  by_cases hb:b<128∨191<b
  ·rw[if_pos hb]at s;exact W8 s (by omega)
  ·rw[if_neg hb]at s;by_cases hc:c<128∨191<c
   ·rw[if_pos hc]at s;exact W8 s (by omega)
   ·rw[if_neg hc]at s;by_cases hd:d<128∨191<d
    ·rw[if_pos hd]at s;exact W8 s (by omega)
    ·rw[if_neg hd]at s;refine A2R s n (show leS 4=65536 from rfl) (show mxS 4=1114111 from rfl) ?_ ?_ ?_
     ·omega
     ·intro _;show(4:Int)=4↔_;omega
     ·intro _;rw[D0n];omega
end Go.Proofs.YtdimocjaepnifaaGreatDoor
