/- The law PickSplits: for every input the call returns true, and the arguments read behind it as they read before. No condition. -/
import Derived.Test.YtdkdbjgkedahfaaDoorX11
namespace Go.Proofs.YtdkdbjgkedahfaaDoor
set_option linter.all false
open Go Go.Sx
set_option maxRecDepth 100000
set_option linter.unusedVariables false
set_option linter.unusedSimpArgs false
set_option maxHeartbeats 4000000
theorem B61(u v:List UInt8):M6 (some (bI u)) (some (bI v))=some (bI (u++v)):=by
 cases v with
 | nil=>rw[C5];rfl
 | cons a v=>rw[J2];rfl
theorem lx0{cs:List Cel}{k:Int}(h:(cs.length:Int)≤80)(hk:k+1000≤800000):((el (some (bI (T7 (cs.drop (0:Int).toNat))))).length:Int)+k≤800000:=by
 have a:=A1O cs;rw[T6,B0,G4];omega
theorem lx1{cs:List Cel}{k:Int}(h:(cs.length:Int)≤80)(hk:k+1000≤800000):((el (some (el (some (bI (T7 (cs.drop (0:Int).toNat))))++[10]))).length:Int)+k≤800000:=by
 have a:=A1O cs;rw[T6,B0,B0,A0,G4,Y9];omega
theorem lx2{k:Int}(hk:k+1000≤800000):((el (some (el (none:Option (List Int))++[10]))).length:Int)+k≤800000:=by
 show(1:Int)+k≤_;omega
theorem A2H{cs:List Cel}(h:(cs.length:Int)≤80):(el (some (bI (T7 (cs.drop (0:Int).toNat))))).length+1≤1000000000:=by
 have a:=A1O cs;rw[T6,B0,G4];omega
theorem A7V{cs:List Cel}:some (bI (T7 (cs.drop (0:Int).toNat)))=some (bI (T7 cs++[])):=by rw[T6,C5]
theorem B2D{cs:List Cel}:some (el (some (bI (T7 (cs.drop (0:Int).toNat))))++[10])=some (bI (T7 cs++[10])):=by rw[T6,C6Z]
theorem B2C{cs:List Cel}(h:noT (cs.drop (0:Int).toNat)=none):some (el (none:Option (List Int))++[10])=some (bI (T7 cs++[10])):=by rw[A7k (l:=cs) h];rfl
noncomputable def C35:List (FuncId×FnC):=(61,Q7 Tryd.prog [.s 12] A2i [.s 3])::(64,Q7 Tryd.prog [.s 3] A05 [.s 9])::(32,Q7 Tryd.prog [.s 22] A0h [.s 22])::L0
theorem B9v{G:Nat→Option Obj}(hst:D0 Tryd.prog G gl H0 n0):K3 Tryd.prog G gl C35:=(.cons (A8V hst) (.cons (B2a hst) (.cons (B1_ hst) .nil)))
def A4t:List U→Option (Nat×List U)
 | [u_rows,.int .i64 cols,.int .i64 i,.int .i64 fr,.int .i64 fc,.int .i64 tr,.int .i64 tc]=>(N9 rRw u_rows).bind fun rows=>if W1 rows=0∧cols=K1 rows∧0≤fr∧fr≤i∧tr<((el rows).length:Int)∧i≤tr+1∧0≤fc∧fc≤cols∧0≤tc∧tc≤cols∧(fr=tr→fc≤tc)then A0g (noI rows fr fc tr tc i) [] (fun _=>[B6 rB (some (bI (A0N rows fr fc tr tc i)))])else none
 | _=>none
theorem A5m(rows:(Option (List ((Option (List (Int×Int×Int×Int×Int×Int×Int×Int×Int×Int×Int×Int)))×Bool))))(cols:Int)(i:Int)(fr:Int)(fc:Int)(tr:Int)(tc:Int)(hc:W1 rows=0∧cols=K1 rows∧0≤fr∧fr≤i∧tr<((el rows).length:Int)∧i≤tr+1∧0≤fc∧fc≤cols∧0≤tc∧tc≤cols∧(fr=tr→fc≤tc)):A4t [B6 rRw rows,.int .i64 cols,.int .i64 i,.int .i64 fr,.int .i64 fc,.int .i64 tr,.int .i64 tc]=A0g (noI rows fr fc tr tc i) [] (fun _=>[B6 rB (some (bI (A0N rows fr fc tr tc i)))]):=by
 simp only[A4t,G2,E1];exact if_pos hc
def C2c:S0:=⟨[(0,dat 8 0 12),(4,.pointer (some ⟨4,0,none⟩)),(5,.pointer (some ⟨5,0,none⟩)),(9,h 1 3),(10,.pointer (some ⟨7,0,none⟩)),(11,h 2 3)],[(4,.cells 29 [h 3 3,h 4 3]),(5,.cells 29 [h 5 3,h 6 3]),(7,.cells 76 [.pointer none,.slice none 0 0]),(8,.frz)],7,[⟨.exit 0,[(10,.pointer (some ⟨7,0,none⟩))],[(7,.cells 76 [.pointer none,.slice none 0 0])],0⟩,⟨.exit 0,[(10,.pointer (some ⟨7,0,none⟩))],[(7,.cells 76 [.pointer (some ⟨7,0,none⟩),own 9 0 11]),(9,.sq 0 11 5 10),(10,.frz)],1⟩]⟩
noncomputable def B7a:Code:=(Tryd.f11.body).getD .skip
noncomputable def C2Y:Code:=match G0 [true,true,true,true,true,false,true,false] B7a with|some (.loop x)=>x|_=>.skip
theorem C2b:Tryd.f11.body=some B7a:=rfl
theorem C2a:G0 [true,true,true,true,true,false,true,false] B7a=some (.loop C2Y):=by kernel_rfl
def C2Z:Tr:=.lt 8 (.bin .leq) [h 2 3,h 5 3]<|.br 7 (.lt 8 (.bin .eql) [h 2 3,h 3 3]<|.br 8 (.lt 8 (.bin .eql) [h 2 3,h 5 3]<|.br 9 (.lt 8 (.inbs 2) [h 2 3,h 0 12]<|.br 10 (.dt 22 (.get 2 0) [h 0 12,h 2 3]<|.dt 22 (.subs 12) [h 11 22,h 4 3,h 6 3]<|.lt 8 (.inbs 2) [h 2 3,h 0 12]<|.br 13 (.lt 8 (.get 2 1) [h 0 12,h 2 3]<|.lt 8 (.un .not) [h 14 8]<|.br 15 (.lt 8 (.bin .eql) [h 6 3,h 1 3]<|.br 16 (.fn A0h [h 12 22] 1<|.lt 3 (.len) [h 17 22]<|.lp V0 [h 17 22,h 18 3,jI 0] 0 0 (.lt 8 (.bin .lss) [h 2 3,h 5 3]<|.br 19 (.lt 3 (.bin .add) [h 2 3,jI 1]<|.dt 11 (.mk 1) [.int .u8 (10)]<|.fn Q3 [h 0 12,h 1 3,h 20 3,h 3 3,h 4 3,h 5 3,h 6 3,h 21 11] 1<|.ret [jI 1,h 22 11]) (.lt 3 (.bin .add) [h 2 3,jI 1]<|.ret [jI (-1),h 0 12,h 1 3,h 20 3,h 3 3,h 4 3,h 5 3,h 6 3])) (.lp V0 [h 17 22,h 18 3,jI 0] 1 1 (.lt 8 (.bin .lss) [h 2 3,h 5 3]<|.br 20 (.dt 11 (.snoc 1) [h 19 11,.int .u8 (10)]<|.lt 3 (.bin .add) [h 2 3,jI 1]<|.fn Q3 [h 0 12,h 1 3,h 22 3,h 3 3,h 4 3,h 5 3,h 6 3,h 21 11] 1<|.ret [jI 1,h 23 11]) (.lt 3 (.bin .add) [h 2 3,jI 1]<|.fn Q3 [h 0 12,h 1 3,h 21 3,h 3 3,h 4 3,h 5 3,h 6 3,h 19 11] 1<|.ret [jI 1,h 22 11])) (.no))) (.lt 3 (.len) [h 12 22]<|.lp V0 [h 12 22,h 17 3,jI 0] 0 0 (.lt 8 (.bin .lss) [h 2 3,h 5 3]<|.br 18 (.lt 3 (.bin .add) [h 2 3,jI 1]<|.dt 11 (.mk 1) [.int .u8 (10)]<|.fn Q3 [h 0 12,h 1 3,h 19 3,h 3 3,h 4 3,h 5 3,h 6 3,h 20 11] 1<|.ret [jI 1,h 21 11]) (.lt 3 (.bin .add) [h 2 3,jI 1]<|.ret [jI (-1),h 0 12,h 1 3,h 19 3,h 3 3,h 4 3,h 5 3,h 6 3])) (.lp V0 [h 12 22,h 17 3,jI 0] 1 1 (.lt 8 (.bin .lss) [h 2 3,h 5 3]<|.br 19 (.dt 11 (.snoc 1) [h 18 11,.int .u8 (10)]<|.lt 3 (.bin .add) [h 2 3,jI 1]<|.fn Q3 [h 0 12,h 1 3,h 21 3,h 3 3,h 4 3,h 5 3,h 6 3,h 20 11] 1<|.ret [jI 1,h 22 11]) (.lt 3 (.bin .add) [h 2 3,jI 1]<|.fn Q3 [h 0 12,h 1 3,h 20 3,h 3 3,h 4 3,h 5 3,h 6 3,h 18 11] 1<|.ret [jI 1,h 21 11])) (.no)))) (.lt 3 (.len) [h 12 22]<|.lp V0 [h 12 22,h 16 3,jI 0] 0 0 (.lt 3 (.bin .add) [h 2 3,jI 1]<|.ret [jI (-1),h 0 12,h 1 3,h 17 3,h 3 3,h 4 3,h 5 3,h 6 3]) (.lp V0 [h 12 22,h 16 3,jI 0] 1 1 (.lt 3 (.bin .add) [h 2 3,jI 1]<|.fn Q3 [h 0 12,h 1 3,h 18 3,h 3 3,h 4 3,h 5 3,h 6 3,h 17 11] 1<|.ret [jI 1,h 19 11]) (.no)))) (.no)) (.no)) (.lt 8 (.inbs 2) [h 2 3,h 0 12]<|.br 10 (.dt 22 (.get 2 0) [h 0 12,h 2 3]<|.dt 22 (.subs 12) [h 11 22,h 4 3,h 1 3]<|.lt 8 (.inbs 2) [h 2 3,h 0 12]<|.br 13 (.lt 8 (.get 2 1) [h 0 12,h 2 3]<|.lt 8 (.un .not) [h 14 8]<|.br 15 (.lt 8 (.bin .eql) [h 1 3,h 1 3]<|.br 16 (.fn A0h [h 12 22] 1<|.lt 3 (.len) [h 17 22]<|.lp V0 [h 17 22,h 18 3,jI 0] 0 0 (.lt 8 (.bin .lss) [h 2 3,h 5 3]<|.br 19 (.lt 3 (.bin .add) [h 2 3,jI 1]<|.dt 11 (.mk 1) [.int .u8 (10)]<|.fn Q3 [h 0 12,h 1 3,h 20 3,h 3 3,h 4 3,h 5 3,h 6 3,h 21 11] 1<|.ret [jI 1,h 22 11]) (.lt 3 (.bin .add) [h 2 3,jI 1]<|.ret [jI (-1),h 0 12,h 1 3,h 20 3,h 3 3,h 4 3,h 5 3,h 6 3])) (.lp V0 [h 17 22,h 18 3,jI 0] 1 1 (.lt 8 (.bin .lss) [h 2 3,h 5 3]<|.br 20 (.dt 11 (.snoc 1) [h 19 11,.int .u8 (10)]<|.lt 3 (.bin .add) [h 2 3,jI 1]<|.fn Q3 [h 0 12,h 1 3,h 22 3,h 3 3,h 4 3,h 5 3,h 6 3,h 21 11] 1<|.ret [jI 1,h 23 11]) (.lt 3 (.bin .add) [h 2 3,jI 1]<|.fn Q3 [h 0 12,h 1 3,h 21 3,h 3 3,h 4 3,h 5 3,h 6 3,h 19 11] 1<|.ret [jI 1,h 22 11])) (.no))) (.lt 3 (.len) [h 12 22]<|.lp V0 [h 12 22,h 17 3,jI 0] 0 0 (.lt 8 (.bin .lss) [h 2 3,h 5 3]<|.br 18 (.lt 3 (.bin .add) [h 2 3,jI 1]<|.dt 11 (.mk 1) [.int .u8 (10)]<|.fn Q3 [h 0 12,h 1 3,h 19 3,h 3 3,h 4 3,h 5 3,h 6 3,h 20 11] 1<|.ret [jI 1,h 21 11]) (.lt 3 (.bin .add) [h 2 3,jI 1]<|.ret [jI (-1),h 0 12,h 1 3,h 19 3,h 3 3,h 4 3,h 5 3,h 6 3])) (.lp V0 [h 12 22,h 17 3,jI 0] 1 1 (.lt 8 (.bin .lss) [h 2 3,h 5 3]<|.br 19 (.dt 11 (.snoc 1) [h 18 11,.int .u8 (10)]<|.lt 3 (.bin .add) [h 2 3,jI 1]<|.fn Q3 [h 0 12,h 1 3,h 21 3,h 3 3,h 4 3,h 5 3,h 6 3,h 20 11] 1<|.ret [jI 1,h 22 11]) (.lt 3 (.bin .add) [h 2 3,jI 1]<|.fn Q3 [h 0 12,h 1 3,h 20 3,h 3 3,h 4 3,h 5 3,h 6 3,h 18 11] 1<|.ret [jI 1,h 21 11])) (.no)))) (.lt 3 (.len) [h 12 22]<|.lp V0 [h 12 22,h 16 3,jI 0] 0 0 (.lt 3 (.bin .add) [h 2 3,jI 1]<|.ret [jI (-1),h 0 12,h 1 3,h 17 3,h 3 3,h 4 3,h 5 3,h 6 3]) (.lp V0 [h 12 22,h 16 3,jI 0] 1 1 (.lt 3 (.bin .add) [h 2 3,jI 1]<|.fn Q3 [h 0 12,h 1 3,h 18 3,h 3 3,h 4 3,h 5 3,h 6 3,h 17 11] 1<|.ret [jI 1,h 19 11]) (.no)))) (.no)) (.no))) (.lt 8 (.bin .eql) [h 2 3,h 5 3]<|.br 9 (.lt 8 (.inbs 2) [h 2 3,h 0 12]<|.br 10 (.dt 22 (.get 2 0) [h 0 12,h 2 3]<|.dt 22 (.subs 12) [h 11 22,jI 0,h 6 3]<|.lt 8 (.inbs 2) [h 2 3,h 0 12]<|.br 13 (.lt 8 (.get 2 1) [h 0 12,h 2 3]<|.lt 8 (.un .not) [h 14 8]<|.br 15 (.lt 8 (.bin .eql) [h 6 3,h 1 3]<|.br 16 (.fn A0h [h 12 22] 1<|.lt 3 (.len) [h 17 22]<|.lp V0 [h 17 22,h 18 3,jI 0] 0 0 (.lt 8 (.bin .lss) [h 2 3,h 5 3]<|.br 19 (.lt 3 (.bin .add) [h 2 3,jI 1]<|.dt 11 (.mk 1) [.int .u8 (10)]<|.fn Q3 [h 0 12,h 1 3,h 20 3,h 3 3,h 4 3,h 5 3,h 6 3,h 21 11] 1<|.ret [jI 1,h 22 11]) (.lt 3 (.bin .add) [h 2 3,jI 1]<|.ret [jI (-1),h 0 12,h 1 3,h 20 3,h 3 3,h 4 3,h 5 3,h 6 3])) (.lp V0 [h 17 22,h 18 3,jI 0] 1 1 (.lt 8 (.bin .lss) [h 2 3,h 5 3]<|.br 20 (.dt 11 (.snoc 1) [h 19 11,.int .u8 (10)]<|.lt 3 (.bin .add) [h 2 3,jI 1]<|.fn Q3 [h 0 12,h 1 3,h 22 3,h 3 3,h 4 3,h 5 3,h 6 3,h 21 11] 1<|.ret [jI 1,h 23 11]) (.lt 3 (.bin .add) [h 2 3,jI 1]<|.fn Q3 [h 0 12,h 1 3,h 21 3,h 3 3,h 4 3,h 5 3,h 6 3,h 19 11] 1<|.ret [jI 1,h 22 11])) (.no))) (.lt 3 (.len) [h 12 22]<|.lp V0 [h 12 22,h 17 3,jI 0] 0 0 (.lt 8 (.bin .lss) [h 2 3,h 5 3]<|.br 18 (.lt 3 (.bin .add) [h 2 3,jI 1]<|.dt 11 (.mk 1) [.int .u8 (10)]<|.fn Q3 [h 0 12,h 1 3,h 19 3,h 3 3,h 4 3,h 5 3,h 6 3,h 20 11] 1<|.ret [jI 1,h 21 11]) (.lt 3 (.bin .add) [h 2 3,jI 1]<|.ret [jI (-1),h 0 12,h 1 3,h 19 3,h 3 3,h 4 3,h 5 3,h 6 3])) (.lp V0 [h 12 22,h 17 3,jI 0] 1 1 (.lt 8 (.bin .lss) [h 2 3,h 5 3]<|.br 19 (.dt 11 (.snoc 1) [h 18 11,.int .u8 (10)]<|.lt 3 (.bin .add) [h 2 3,jI 1]<|.fn Q3 [h 0 12,h 1 3,h 21 3,h 3 3,h 4 3,h 5 3,h 6 3,h 20 11] 1<|.ret [jI 1,h 22 11]) (.lt 3 (.bin .add) [h 2 3,jI 1]<|.fn Q3 [h 0 12,h 1 3,h 20 3,h 3 3,h 4 3,h 5 3,h 6 3,h 18 11] 1<|.ret [jI 1,h 21 11])) (.no)))) (.lt 3 (.len) [h 12 22]<|.lp V0 [h 12 22,h 16 3,jI 0] 0 0 (.lt 3 (.bin .add) [h 2 3,jI 1]<|.ret [jI (-1),h 0 12,h 1 3,h 17 3,h 3 3,h 4 3,h 5 3,h 6 3]) (.lp V0 [h 12 22,h 16 3,jI 0] 1 1 (.lt 3 (.bin .add) [h 2 3,jI 1]<|.fn Q3 [h 0 12,h 1 3,h 18 3,h 3 3,h 4 3,h 5 3,h 6 3,h 17 11] 1<|.ret [jI 1,h 19 11]) (.no)))) (.no)) (.no)) (.lt 8 (.inbs 2) [h 2 3,h 0 12]<|.br 10 (.dt 22 (.get 2 0) [h 0 12,h 2 3]<|.dt 22 (.subs 12) [h 11 22,jI 0,h 1 3]<|.lt 8 (.inbs 2) [h 2 3,h 0 12]<|.br 13 (.lt 8 (.get 2 1) [h 0 12,h 2 3]<|.lt 8 (.un .not) [h 14 8]<|.br 15 (.lt 8 (.bin .eql) [h 1 3,h 1 3]<|.br 16 (.fn A0h [h 12 22] 1<|.lt 3 (.len) [h 17 22]<|.lp V0 [h 17 22,h 18 3,jI 0] 0 0 (.lt 8 (.bin .lss) [h 2 3,h 5 3]<|.br 19 (.lt 3 (.bin .add) [h 2 3,jI 1]<|.dt 11 (.mk 1) [.int .u8 (10)]<|.fn Q3 [h 0 12,h 1 3,h 20 3,h 3 3,h 4 3,h 5 3,h 6 3,h 21 11] 1<|.ret [jI 1,h 22 11]) (.lt 3 (.bin .add) [h 2 3,jI 1]<|.ret [jI (-1),h 0 12,h 1 3,h 20 3,h 3 3,h 4 3,h 5 3,h 6 3])) (.lp V0 [h 17 22,h 18 3,jI 0] 1 1 (.lt 8 (.bin .lss) [h 2 3,h 5 3]<|.br 20 (.dt 11 (.snoc 1) [h 19 11,.int .u8 (10)]<|.lt 3 (.bin .add) [h 2 3,jI 1]<|.fn Q3 [h 0 12,h 1 3,h 22 3,h 3 3,h 4 3,h 5 3,h 6 3,h 21 11] 1<|.ret [jI 1,h 23 11]) (.lt 3 (.bin .add) [h 2 3,jI 1]<|.fn Q3 [h 0 12,h 1 3,h 21 3,h 3 3,h 4 3,h 5 3,h 6 3,h 19 11] 1<|.ret [jI 1,h 22 11])) (.no))) (.lt 3 (.len) [h 12 22]<|.lp V0 [h 12 22,h 17 3,jI 0] 0 0 (.lt 8 (.bin .lss) [h 2 3,h 5 3]<|.br 18 (.lt 3 (.bin .add) [h 2 3,jI 1]<|.dt 11 (.mk 1) [.int .u8 (10)]<|.fn Q3 [h 0 12,h 1 3,h 19 3,h 3 3,h 4 3,h 5 3,h 6 3,h 20 11] 1<|.ret [jI 1,h 21 11]) (.lt 3 (.bin .add) [h 2 3,jI 1]<|.ret [jI (-1),h 0 12,h 1 3,h 19 3,h 3 3,h 4 3,h 5 3,h 6 3])) (.lp V0 [h 12 22,h 17 3,jI 0] 1 1 (.lt 8 (.bin .lss) [h 2 3,h 5 3]<|.br 19 (.dt 11 (.snoc 1) [h 18 11,.int .u8 (10)]<|.lt 3 (.bin .add) [h 2 3,jI 1]<|.fn Q3 [h 0 12,h 1 3,h 21 3,h 3 3,h 4 3,h 5 3,h 6 3,h 20 11] 1<|.ret [jI 1,h 22 11]) (.lt 3 (.bin .add) [h 2 3,jI 1]<|.fn Q3 [h 0 12,h 1 3,h 20 3,h 3 3,h 4 3,h 5 3,h 6 3,h 18 11] 1<|.ret [jI 1,h 21 11])) (.no)))) (.lt 3 (.len) [h 12 22]<|.lp V0 [h 12 22,h 16 3,jI 0] 0 0 (.lt 3 (.bin .add) [h 2 3,jI 1]<|.ret [jI (-1),h 0 12,h 1 3,h 17 3,h 3 3,h 4 3,h 5 3,h 6 3]) (.lp V0 [h 12 22,h 16 3,jI 0] 1 1 (.lt 3 (.bin .add) [h 2 3,jI 1]<|.fn Q3 [h 0 12,h 1 3,h 18 3,h 3 3,h 4 3,h 5 3,h 6 3,h 17 11] 1<|.ret [jI 1,h 19 11]) (.no)))) (.no)) (.no)))) (.ret [jI 0])
def B7Z:List U→Nat
 | [u_rows,.int .i64 cols,.int .i64 i,.int .i64 fr,.int .i64 fc,.int .i64 tr,.int .i64 tc]=>(match N9 rRw u_rows with|some rows=>(tr+1-i).toNat|none=>0)
 | _=>0
theorem S5(rows:(Option (List ((Option (List (Int×Int×Int×Int×Int×Int×Int×Int×Int×Int×Int×Int)))×Bool))))(cols:Int)(i:Int)(fr:Int)(fc:Int)(tr:Int)(tc:Int):B7Z [B6 rRw rows,.int .i64 cols,.int .i64 i,.int .i64 fr,.int .i64 fc,.int .i64 tr,.int .i64 tc]=(tr+1-i).toNat:=by
 simp only[B7Z,G2]
theorem C5c{G:Nat→Option Obj}(hst:D0 Tryd.prog G gl H0 n0):∀ (E:Nat→U) (base:Nat),@N3 ⟨E,G⟩ Tryd.prog base gl Tryd.f11.ntmps C2Y (M7 Tryd.prog gl n0 11 C2c A4t):=by
 refine U1 (C:=cx C35 C0T) (dep:=60) (f:=11) (n0:=n0) (nB:=11) (H0:=H0) B7Z C2Z (cxg (B9v hst) (B3i hst)) hst Tryd.func11 C2b C2a (by kernel_rfl) (by kernel_rfl) (by kernel_rfl) ?_;intro us d outs hs;have hs0:=hs;unfold A4t at hs;split at hs
 ·skip;rename_i u_rows cols i fr fc tr tc;have hq_rows:=B2.1 hs;clear hs;obtain⟨rows,hd_rows,hs⟩:=hq_rows;replace hd_rows:=K0 hd_rows;subst hd_rows;split at hs
  ·rename_i hc;clear hs hs0;have hw:=A3F hc.1;have hn:=A2J hc.1;have hi:fr<tr∨fc≤tc∨fr≠tr:=by by_cases q:fr=tr;exact .inr (.inl (hc.2.2.2.2.2.2.2.2.2.2 q));exact .inr (.inr q)
   have hg:i≤tr→((el ((el rows).getD i.toNat default).1).length:Int)=cols:=fun g=>by rw[hc.2.1];exact(hn.2.2 _ (y8 (l:=el rows) (i:=i) (by omega) (by omega))).2
   have hx:i≤tr→∀ (a e:Int) (s:Option (List Cel)) (z:List UInt8),a=aT fr fc i→e=eT tr tc cols i→s=A9V ((el rows).getD i.toNat default) a e cols→z=nlT ((el rows).getD i.toNat default) i tr→noT ((el s).drop (0:Int).toNat)=none→z=[]→A4t [B6 rRw rows,.int .i64 cols,.int .i64 (i+1),.int .i64 fr,.int .i64 fc,.int .i64 tr,.int .i64 tc]=A4t [B6 rRw rows,.int .i64 cols,.int .i64 i,.int .i64 fr,.int .i64 fc,.int .i64 tr,.int .i64 tc]:=fun g a e s z h1 h2 h3 h4 h5 h6=>by
    have k1:s=sgT rows fr fc tr tc i:=by rw[h3,h1,h2,hc.2.1];rfl
    have h5:noT (el s)=none:=h5;have k2:A18 rows fr fc tr tc i=[]:=by unfold A18;rw[← k1,← h4,h6,A7k h5];rfl
    rw[A5m rows cols (i+1) fr fc tr tc ⟨hc.1,hc.2.1,by omega,by omega,by omega,by omega,by omega,by omega,by omega,by omega,hc.2.2.2.2.2.2.2.2.2.2⟩,A5m rows cols i fr fc tr tc hc,A1x (rows:=rows) (fr:=fr) (fc:=fc) (tr:=tr) (tc:=tc) g,k2,C44 (rows:=rows) (fr:=fr) (fc:=fc) (tr:=tr) (tc:=tc) g (by rw[← k1];exact h5) (by rw[← h4];exact h6)];rfl
   have hy:i≤tr→∀ X (a e:Int) (s:Option (List Cel)) (z:List UInt8),a=aT fr fc i→e=eT tr tc cols i→s=A9V ((el rows).getD i.toNat default) a e cols→z=nlT ((el rows).getD i.toNat default) i tr→X=some (bI (T7 (el s)++z))→(noT ((el s).drop (0:Int).toNat)≠none∨z≠[])→A4t [B6 rRw rows,.int .i64 cols,.int .i64 i,.int .i64 fr,.int .i64 fc,.int .i64 tr,.int .i64 tc]=some (1,[B6 rB (M6 X (some (bI (A0N rows fr fc tr tc (i+1)))))]):=fun g X a e s z h1 h2 h3 h4 h5 h6=>by
    have k1:s=sgT rows fr fc tr tc i:=by rw[h3,h1,h2,hc.2.1];rfl
    have k2:X=some (bI (A18 rows fr fc tr tc i)):=by rw[h5,k1,h4];rfl
    rw[A5m rows cols i fr fc tr tc hc,C43 (rows:=rows) (fr:=fr) (fc:=fc) (tr:=tr) (tc:=tc) g (fun q=>by
     rw[← k1,← h4]at q;rcases h6 with h|h
     ·exact h q.1
     ·exact h q.2),k2,B61,← A1x (rows:=rows) (fr:=fr) (fc:=fc) (tr:=tr) (tc:=tc) g];rfl
   refine⟨rfl,?_⟩;unfold C2Z;refine s0 (.cons 6 _ (.cons 5 _ (.cons 4 _ (.cons 3 _ (.cons 2 _ (.cons 1 _ (.cons 0 _ (.nil)))))))) rfl (by simp[Ev.ok,Ev.len]) ?_;refine s1 (A0V _ _ _) rfl rfl rfl ?_;refine s5 rfl (fun g0=>?_) fun g0=>?_
   ·refine s7 [.int .i64 _] rfl ?_;refine D7 (d:=0) ?_;rw[A5m rows cols i fr fc tr tc hc,C1D (by omega)];rfl
   have hr:=hn.2.2 _ (y8 (l:=el rows) (i:=i) (by omega) (by omega));have hl:=hr.2;have hs1:=A5t (x:=((el rows).getD i.toNat default).1) (n:=80) (by omega);have hs2:=fun a b=>B0w (hs1 a b)
   refine s1 (L8 _ _ _) rfl rfl rfl ?_;refine s4 rfl (fun g1=>?_) fun g1=>?_
   ·refine s1 (L8 _ _ _) rfl rfl rfl ?_;refine s4 rfl (fun g2=>?_) fun g2=>?_
    ·refine s1 (H1 rfl) rfl rfl rfl ?_;refine s5 rfl (fun g3=>?_) fun g3=>?_
     ·refine s8 ?_;first|omega
     refine s2 (r:=rCl) (C8 rfl (by omega) (by omega) rfl) rfl rfl ?_;refine s2 (r:=rCl) (A0A rfl (by omega) (by omega) (by omega)) rfl rfl ?_;refine s1 (H1 rfl) rfl rfl rfl ?_;refine s5 rfl (fun g4=>?_) fun g4=>?_
     ·refine s8 ?_;first|omega
     refine s1 (u:=.bool _) (C8 rfl (by omega) (by omega) rfl) rfl rfl rfl ?_;refine s1 (A03 _) rfl rfl rfl ?_;refine s4B rfl (fun g5=>?_) fun g5=>?_
     ·refine s1 (L8 _ _ _) rfl rfl rfl ?_;refine s4 rfl (fun g6=>?_) fun g6=>?_
      ·refine s31 (A1y _ (F0 (hs1 _ _) (by decide))) rfl ?_;refine s1 (G9 _ _) rfl rfl rfl ?_;refine s6 (S2 _ _ 0 ⟨rfl,by decide,E3 _,F0 (by first|exact hs1 _ _|exact hs2 _ _) (by decide)⟩) rfl (fun _=>rfl) (fun g7=>?_) (fun v7 g7=>?_)
       ·show Tr.sav _ _ _;refine s1 (H6 _ _ _) rfl rfl rfl ?_;refine s4 rfl (fun g8=>?_) fun g8=>?_
        ·first|refine s1 (C7 (D3 (by omega) (by omega))) rfl rfl rfl ?_|refine s1 (E0 _ _ _) rfl rfl rfl ?_
         refine s2 (r:=rB) (e9 [_] rfl (by decide) rfl) rfl rfl ?_;refine s31 (K6 _ _ _ _ _ _ _ _ ⟨hc.1,hc.2.1,by omega,by omega,by omega,by omega,by omega,by omega,by omega,by omega,hc.2.2.2.2.2.2.2.2.2.2,lx2 (by omega)⟩) rfl ?_;refine s7 [.int .i64 _,B6 rB _] rfl ?_;refine D7 (d:=1) ?_;exact hy g0 _ fc tc (w9 (M1 ((el rows).getD i.toNat default).1 (fc:Int).toNat (tc:Int).toNat)) [10] (x5 ‹_›) (x3 ‹_›) ((Z1 ‹_› (by first|assumption|rfl)).symm) (X1 ‹_› ‹_›) (B2C ‹_›) (.inr (by decide))
        first|refine s1 (C7 (D3 (by omega) (by omega))) rfl rfl rfl ?_|refine s1 (E0 _ _ _) rfl rfl rfl ?_
        refine s7 [.int .i64 _,B6 rRw _,.int .i64 _,.int .i64 _,.int .i64 _,.int .i64 _,.int .i64 _,.int .i64 _] rfl ?_;refine D6 ?_ ?_
        ·exact hx g0 fc tc (w9 (M1 ((el rows).getD i.toNat default).1 (fc:Int).toNat (tc:Int).toNat)) [] (x5 ‹_›) (x3 ‹_›) ((Z1 ‹_› (by first|assumption|rfl)).symm) (N1 (by first|exact .inl ‹_›|exact .inr ‹_›)) ‹_› rfl
        ·rw[S5,S5];omega
       show Tr.sav _ _ (.cons 19 _ _);refine s1 (H6 _ _ _) rfl rfl rfl ?_;refine s4 rfl (fun g8=>?_) fun g8=>?_
       ·refine s2 (r:=rB) (K9 rfl rfl (by decide) (by first|omega|exact A2H (by first|exact hs1 _ _|exact hs2 _ _)|exact n8 (by first|exact hs1 _ _|exact hs2 _ _) (by omega)|(simp only[J6,F2,B0,A0,G4,A3,A4];omega)|(show 0+_≤_;simp only[F2,B0,A0,G4,A3,A4];omega))) rfl rfl ?_;first|refine s1 (C7 (D3 (by omega) (by omega))) rfl rfl rfl ?_|refine s1 (E0 _ _ _) rfl rfl rfl ?_
        refine s31 (K6 _ _ _ _ _ _ _ _ ⟨hc.1,hc.2.1,by omega,by omega,by omega,by omega,by omega,by omega,by omega,by omega,hc.2.2.2.2.2.2.2.2.2.2,lx1 (hs2 _ _) (by omega)⟩) rfl ?_;refine s7 [.int .i64 _,B6 rB _] rfl ?_;refine D7 (d:=1) ?_;exact hy g0 _ fc tc (w9 (M1 ((el rows).getD i.toNat default).1 (fc:Int).toNat (tc:Int).toNat)) [10] (x5 ‹_›) (x3 ‹_›) ((Z1 ‹_› (by first|assumption|rfl)).symm) (X1 ‹_› ‹_›) B2D (.inl (fun q=>by simp_all))
       first|refine s1 (C7 (D3 (by omega) (by omega))) rfl rfl rfl ?_|refine s1 (E0 _ _ _) rfl rfl rfl ?_
       refine s31 (K6 _ _ _ _ _ _ _ _ ⟨hc.1,hc.2.1,by omega,by omega,by omega,by omega,by omega,by omega,by omega,by omega,hc.2.2.2.2.2.2.2.2.2.2,lx0 (hs2 _ _) (by omega)⟩) rfl ?_;refine s7 [.int .i64 _,B6 rB _] rfl ?_;refine D7 (d:=1) ?_;exact hy g0 _ fc tc (w9 (M1 ((el rows).getD i.toNat default).1 (fc:Int).toNat (tc:Int).toNat)) [] (x5 ‹_›) (x3 ‹_›) ((Z1 ‹_› (by first|assumption|rfl)).symm) (N1 (by first|exact .inl ‹_›|exact .inr ‹_›)) A7V (.inl (fun q=>by simp_all))
      refine s1 (G9 _ _) rfl rfl rfl ?_;refine s6 (S2 _ _ 0 ⟨rfl,by decide,E3 _,F0 (by first|exact hs1 _ _|exact hs2 _ _) (by decide)⟩) rfl (fun _=>rfl) (fun g7=>?_) (fun v7 g7=>?_)
      ·show Tr.sav _ _ _;refine s1 (H6 _ _ _) rfl rfl rfl ?_;refine s4 rfl (fun g8=>?_) fun g8=>?_
       ·first|refine s1 (C7 (D3 (by omega) (by omega))) rfl rfl rfl ?_|refine s1 (E0 _ _ _) rfl rfl rfl ?_
        refine s2 (r:=rB) (e9 [_] rfl (by decide) rfl) rfl rfl ?_;refine s31 (K6 _ _ _ _ _ _ _ _ ⟨hc.1,hc.2.1,by omega,by omega,by omega,by omega,by omega,by omega,by omega,by omega,hc.2.2.2.2.2.2.2.2.2.2,lx2 (by omega)⟩) rfl ?_;refine s7 [.int .i64 _,B6 rB _] rfl ?_;refine D7 (d:=1) ?_;exact hy g0 _ fc tc (M1 ((el rows).getD i.toNat default).1 (fc:Int).toNat (tc:Int).toNat) [10] (x5 ‹_›) (x3 ‹_›) ((Q4 (by first|exact .inl ‹_›|exact .inr ‹_›)).symm) (X1 ‹_› ‹_›) (B2C ‹_›) (.inr (by decide))
       first|refine s1 (C7 (D3 (by omega) (by omega))) rfl rfl rfl ?_|refine s1 (E0 _ _ _) rfl rfl rfl ?_
       refine s7 [.int .i64 _,B6 rRw _,.int .i64 _,.int .i64 _,.int .i64 _,.int .i64 _,.int .i64 _,.int .i64 _] rfl ?_;refine D6 ?_ ?_
       ·exact hx g0 fc tc (M1 ((el rows).getD i.toNat default).1 (fc:Int).toNat (tc:Int).toNat) [] (x5 ‹_›) (x3 ‹_›) ((Q4 (by first|exact .inl ‹_›|exact .inr ‹_›)).symm) (N1 (by first|exact .inl ‹_›|exact .inr ‹_›)) ‹_› rfl
       ·rw[S5,S5];omega
      show Tr.sav _ _ (.cons 18 _ _);refine s1 (H6 _ _ _) rfl rfl rfl ?_;refine s4 rfl (fun g8=>?_) fun g8=>?_
      ·refine s2 (r:=rB) (K9 rfl rfl (by decide) (by first|omega|exact A2H (by first|exact hs1 _ _|exact hs2 _ _)|exact n8 (by first|exact hs1 _ _|exact hs2 _ _) (by omega)|(simp only[J6,F2,B0,A0,G4,A3,A4];omega)|(show 0+_≤_;simp only[F2,B0,A0,G4,A3,A4];omega))) rfl rfl ?_;first|refine s1 (C7 (D3 (by omega) (by omega))) rfl rfl rfl ?_|refine s1 (E0 _ _ _) rfl rfl rfl ?_
       refine s31 (K6 _ _ _ _ _ _ _ _ ⟨hc.1,hc.2.1,by omega,by omega,by omega,by omega,by omega,by omega,by omega,by omega,hc.2.2.2.2.2.2.2.2.2.2,lx1 (hs1 _ _) (by omega)⟩) rfl ?_;refine s7 [.int .i64 _,B6 rB _] rfl ?_;refine D7 (d:=1) ?_;exact hy g0 _ fc tc (M1 ((el rows).getD i.toNat default).1 (fc:Int).toNat (tc:Int).toNat) [10] (x5 ‹_›) (x3 ‹_›) ((Q4 (by first|exact .inl ‹_›|exact .inr ‹_›)).symm) (X1 ‹_› ‹_›) B2D (.inl (fun q=>by simp_all))
      first|refine s1 (C7 (D3 (by omega) (by omega))) rfl rfl rfl ?_|refine s1 (E0 _ _ _) rfl rfl rfl ?_
      refine s31 (K6 _ _ _ _ _ _ _ _ ⟨hc.1,hc.2.1,by omega,by omega,by omega,by omega,by omega,by omega,by omega,by omega,hc.2.2.2.2.2.2.2.2.2.2,lx0 (hs1 _ _) (by omega)⟩) rfl ?_;refine s7 [.int .i64 _,B6 rB _] rfl ?_;refine D7 (d:=1) ?_;exact hy g0 _ fc tc (M1 ((el rows).getD i.toNat default).1 (fc:Int).toNat (tc:Int).toNat) [] (x5 ‹_›) (x3 ‹_›) ((Q4 (by first|exact .inl ‹_›|exact .inr ‹_›)).symm) (N1 (by first|exact .inl ‹_›|exact .inr ‹_›)) A7V (.inl (fun q=>by simp_all))
     refine s1 (G9 _ _) rfl rfl rfl ?_;refine s6 (S2 _ _ 0 ⟨rfl,by decide,E3 _,F0 (by first|exact hs1 _ _|exact hs2 _ _) (by decide)⟩) rfl (fun _=>rfl) (fun g6=>?_) (fun v6 g6=>?_)
     ·show Tr.sav _ _ _;first|refine s1 (C7 (D3 (by omega) (by omega))) rfl rfl rfl ?_|refine s1 (E0 _ _ _) rfl rfl rfl ?_
      refine s7 [.int .i64 _,B6 rRw _,.int .i64 _,.int .i64 _,.int .i64 _,.int .i64 _,.int .i64 _,.int .i64 _] rfl ?_;refine D6 ?_ ?_
      ·exact hx g0 fc tc (M1 ((el rows).getD i.toNat default).1 (fc:Int).toNat (tc:Int).toNat) [] (x5 ‹_›) (x3 ‹_›) ((Q4 (by first|exact .inl ‹_›|exact .inr ‹_›)).symm) (N1 (by first|exact .inl ‹_›|exact .inr ‹_›)) ‹_› rfl
      ·rw[S5,S5];omega
     show Tr.sav _ _ (.cons 17 _ _);first|refine s1 (C7 (D3 (by omega) (by omega))) rfl rfl rfl ?_|refine s1 (E0 _ _ _) rfl rfl rfl ?_
     refine s31 (K6 _ _ _ _ _ _ _ _ ⟨hc.1,hc.2.1,by omega,by omega,by omega,by omega,by omega,by omega,by omega,by omega,hc.2.2.2.2.2.2.2.2.2.2,lx0 (hs1 _ _) (by omega)⟩) rfl ?_;refine s7 [.int .i64 _,B6 rB _] rfl ?_;refine D7 (d:=1) ?_;exact hy g0 _ fc tc (M1 ((el rows).getD i.toNat default).1 (fc:Int).toNat (tc:Int).toNat) [] (x5 ‹_›) (x3 ‹_›) ((Q4 (by first|exact .inl ‹_›|exact .inr ‹_›)).symm) (N1 (by first|exact .inl ‹_›|exact .inr ‹_›)) A7V (.inl (fun q=>by simp_all))
    refine s1 (H1 rfl) rfl rfl rfl ?_;refine s5 rfl (fun g3=>?_) fun g3=>?_
    ·refine s8 ?_;first|omega
    refine s2 (r:=rCl) (C8 rfl (by omega) (by omega) rfl) rfl rfl ?_;refine s2 (r:=rCl) (A0A rfl (by omega) (by omega) (by omega)) rfl rfl ?_;refine s1 (H1 rfl) rfl rfl rfl ?_;refine s5 rfl (fun g4=>?_) fun g4=>?_
    ·refine s8 ?_;first|omega
    refine s1 (u:=.bool _) (C8 rfl (by omega) (by omega) rfl) rfl rfl rfl ?_;refine s1 (A03 _) rfl rfl rfl ?_;refine s4B rfl (fun g5=>?_) fun g5=>?_
    ·refine s1 (L8 _ _ _) rfl rfl rfl ?_;refine s4 rfl (fun g6=>?_) fun g6=>?_
     ·refine s31 (A1y _ (F0 (hs1 _ _) (by decide))) rfl ?_;refine s1 (G9 _ _) rfl rfl rfl ?_;refine s6 (S2 _ _ 0 ⟨rfl,by decide,E3 _,F0 (by first|exact hs1 _ _|exact hs2 _ _) (by decide)⟩) rfl (fun _=>rfl) (fun g7=>?_) (fun v7 g7=>?_)
      ·show Tr.sav _ _ _;refine s1 (H6 _ _ _) rfl rfl rfl ?_;refine s4 rfl (fun g8=>?_) fun g8=>?_
       ·first|refine s1 (C7 (D3 (by omega) (by omega))) rfl rfl rfl ?_|refine s1 (E0 _ _ _) rfl rfl rfl ?_
        refine s2 (r:=rB) (e9 [_] rfl (by decide) rfl) rfl rfl ?_;refine s31 (K6 _ _ _ _ _ _ _ _ ⟨hc.1,hc.2.1,by omega,by omega,by omega,by omega,by omega,by omega,by omega,by omega,hc.2.2.2.2.2.2.2.2.2.2,lx2 (by omega)⟩) rfl ?_;refine s7 [.int .i64 _,B6 rB _] rfl ?_;refine D7 (d:=1) ?_;exact hy g0 _ fc cols (w9 (M1 ((el rows).getD i.toNat default).1 (fc:Int).toNat (cols:Int).toNat)) [10] (x5 ‹_›) (x4 ‹_›) ((Z1 ‹_› (by first|assumption|rfl)).symm) (X1 ‹_› ‹_›) (B2C ‹_›) (.inr (by decide))
       first|refine s1 (C7 (D3 (by omega) (by omega))) rfl rfl rfl ?_|refine s1 (E0 _ _ _) rfl rfl rfl ?_
       refine s7 [.int .i64 _,B6 rRw _,.int .i64 _,.int .i64 _,.int .i64 _,.int .i64 _,.int .i64 _,.int .i64 _] rfl ?_;refine D6 ?_ ?_
       ·exact hx g0 fc cols (w9 (M1 ((el rows).getD i.toNat default).1 (fc:Int).toNat (cols:Int).toNat)) [] (x5 ‹_›) (x4 ‹_›) ((Z1 ‹_› (by first|assumption|rfl)).symm) (N1 (by first|exact .inl ‹_›|exact .inr ‹_›)) ‹_› rfl
       ·rw[S5,S5];omega
      show Tr.sav _ _ (.cons 19 _ _);refine s1 (H6 _ _ _) rfl rfl rfl ?_;refine s4 rfl (fun g8=>?_) fun g8=>?_
      ·refine s2 (r:=rB) (K9 rfl rfl (by decide) (by first|omega|exact A2H (by first|exact hs1 _ _|exact hs2 _ _)|exact n8 (by first|exact hs1 _ _|exact hs2 _ _) (by omega)|(simp only[J6,F2,B0,A0,G4,A3,A4];omega)|(show 0+_≤_;simp only[F2,B0,A0,G4,A3,A4];omega))) rfl rfl ?_;first|refine s1 (C7 (D3 (by omega) (by omega))) rfl rfl rfl ?_|refine s1 (E0 _ _ _) rfl rfl rfl ?_
       refine s31 (K6 _ _ _ _ _ _ _ _ ⟨hc.1,hc.2.1,by omega,by omega,by omega,by omega,by omega,by omega,by omega,by omega,hc.2.2.2.2.2.2.2.2.2.2,lx1 (hs2 _ _) (by omega)⟩) rfl ?_;refine s7 [.int .i64 _,B6 rB _] rfl ?_;refine D7 (d:=1) ?_;exact hy g0 _ fc cols (w9 (M1 ((el rows).getD i.toNat default).1 (fc:Int).toNat (cols:Int).toNat)) [10] (x5 ‹_›) (x4 ‹_›) ((Z1 ‹_› (by first|assumption|rfl)).symm) (X1 ‹_› ‹_›) B2D (.inl (fun q=>by simp_all))
      first|refine s1 (C7 (D3 (by omega) (by omega))) rfl rfl rfl ?_|refine s1 (E0 _ _ _) rfl rfl rfl ?_
      refine s31 (K6 _ _ _ _ _ _ _ _ ⟨hc.1,hc.2.1,by omega,by omega,by omega,by omega,by omega,by omega,by omega,by omega,hc.2.2.2.2.2.2.2.2.2.2,lx0 (hs2 _ _) (by omega)⟩) rfl ?_;refine s7 [.int .i64 _,B6 rB _] rfl ?_;refine D7 (d:=1) ?_;exact hy g0 _ fc cols (w9 (M1 ((el rows).getD i.toNat default).1 (fc:Int).toNat (cols:Int).toNat)) [] (x5 ‹_›) (x4 ‹_›) ((Z1 ‹_› (by first|assumption|rfl)).symm) (N1 (by first|exact .inl ‹_›|exact .inr ‹_›)) A7V (.inl (fun q=>by simp_all))
     refine s1 (G9 _ _) rfl rfl rfl ?_;refine s6 (S2 _ _ 0 ⟨rfl,by decide,E3 _,F0 (by first|exact hs1 _ _|exact hs2 _ _) (by decide)⟩) rfl (fun _=>rfl) (fun g7=>?_) (fun v7 g7=>?_)
     ·show Tr.sav _ _ _;refine s1 (H6 _ _ _) rfl rfl rfl ?_;refine s4 rfl (fun g8=>?_) fun g8=>?_
      ·first|refine s1 (C7 (D3 (by omega) (by omega))) rfl rfl rfl ?_|refine s1 (E0 _ _ _) rfl rfl rfl ?_
       refine s2 (r:=rB) (e9 [_] rfl (by decide) rfl) rfl rfl ?_;refine s31 (K6 _ _ _ _ _ _ _ _ ⟨hc.1,hc.2.1,by omega,by omega,by omega,by omega,by omega,by omega,by omega,by omega,hc.2.2.2.2.2.2.2.2.2.2,lx2 (by omega)⟩) rfl ?_;refine s7 [.int .i64 _,B6 rB _] rfl ?_;refine D7 (d:=1) ?_;exact hy g0 _ fc cols (M1 ((el rows).getD i.toNat default).1 (fc:Int).toNat (cols:Int).toNat) [10] (x5 ‹_›) (x4 ‹_›) ((Q4 (by first|exact .inl ‹_›|exact .inr ‹_›)).symm) (X1 ‹_› ‹_›) (B2C ‹_›) (.inr (by decide))
      first|refine s1 (C7 (D3 (by omega) (by omega))) rfl rfl rfl ?_|refine s1 (E0 _ _ _) rfl rfl rfl ?_
      refine s7 [.int .i64 _,B6 rRw _,.int .i64 _,.int .i64 _,.int .i64 _,.int .i64 _,.int .i64 _,.int .i64 _] rfl ?_;refine D6 ?_ ?_
      ·exact hx g0 fc cols (M1 ((el rows).getD i.toNat default).1 (fc:Int).toNat (cols:Int).toNat) [] (x5 ‹_›) (x4 ‹_›) ((Q4 (by first|exact .inl ‹_›|exact .inr ‹_›)).symm) (N1 (by first|exact .inl ‹_›|exact .inr ‹_›)) ‹_› rfl
      ·rw[S5,S5];omega
     show Tr.sav _ _ (.cons 18 _ _);refine s1 (H6 _ _ _) rfl rfl rfl ?_;refine s4 rfl (fun g8=>?_) fun g8=>?_
     ·refine s2 (r:=rB) (K9 rfl rfl (by decide) (by first|omega|exact A2H (by first|exact hs1 _ _|exact hs2 _ _)|exact n8 (by first|exact hs1 _ _|exact hs2 _ _) (by omega)|(simp only[J6,F2,B0,A0,G4,A3,A4];omega)|(show 0+_≤_;simp only[F2,B0,A0,G4,A3,A4];omega))) rfl rfl ?_;first|refine s1 (C7 (D3 (by omega) (by omega))) rfl rfl rfl ?_|refine s1 (E0 _ _ _) rfl rfl rfl ?_
      refine s31 (K6 _ _ _ _ _ _ _ _ ⟨hc.1,hc.2.1,by omega,by omega,by omega,by omega,by omega,by omega,by omega,by omega,hc.2.2.2.2.2.2.2.2.2.2,lx1 (hs1 _ _) (by omega)⟩) rfl ?_;refine s7 [.int .i64 _,B6 rB _] rfl ?_;refine D7 (d:=1) ?_;exact hy g0 _ fc cols (M1 ((el rows).getD i.toNat default).1 (fc:Int).toNat (cols:Int).toNat) [10] (x5 ‹_›) (x4 ‹_›) ((Q4 (by first|exact .inl ‹_›|exact .inr ‹_›)).symm) (X1 ‹_› ‹_›) B2D (.inl (fun q=>by simp_all))
     first|refine s1 (C7 (D3 (by omega) (by omega))) rfl rfl rfl ?_|refine s1 (E0 _ _ _) rfl rfl rfl ?_
     refine s31 (K6 _ _ _ _ _ _ _ _ ⟨hc.1,hc.2.1,by omega,by omega,by omega,by omega,by omega,by omega,by omega,by omega,hc.2.2.2.2.2.2.2.2.2.2,lx0 (hs1 _ _) (by omega)⟩) rfl ?_;refine s7 [.int .i64 _,B6 rB _] rfl ?_;refine D7 (d:=1) ?_;exact hy g0 _ fc cols (M1 ((el rows).getD i.toNat default).1 (fc:Int).toNat (cols:Int).toNat) [] (x5 ‹_›) (x4 ‹_›) ((Q4 (by first|exact .inl ‹_›|exact .inr ‹_›)).symm) (N1 (by first|exact .inl ‹_›|exact .inr ‹_›)) A7V (.inl (fun q=>by simp_all))
    refine s1 (G9 _ _) rfl rfl rfl ?_;refine s6 (S2 _ _ 0 ⟨rfl,by decide,E3 _,F0 (by first|exact hs1 _ _|exact hs2 _ _) (by decide)⟩) rfl (fun _=>rfl) (fun g6=>?_) (fun v6 g6=>?_)
    ·show Tr.sav _ _ _;first|refine s1 (C7 (D3 (by omega) (by omega))) rfl rfl rfl ?_|refine s1 (E0 _ _ _) rfl rfl rfl ?_
     refine s7 [.int .i64 _,B6 rRw _,.int .i64 _,.int .i64 _,.int .i64 _,.int .i64 _,.int .i64 _,.int .i64 _] rfl ?_;refine D6 ?_ ?_
     ·exact hx g0 fc cols (M1 ((el rows).getD i.toNat default).1 (fc:Int).toNat (cols:Int).toNat) [] (x5 ‹_›) (x4 ‹_›) ((Q4 (by first|exact .inl ‹_›|exact .inr ‹_›)).symm) (N1 (by first|exact .inl ‹_›|exact .inr ‹_›)) ‹_› rfl
     ·rw[S5,S5];omega
    show Tr.sav _ _ (.cons 17 _ _);first|refine s1 (C7 (D3 (by omega) (by omega))) rfl rfl rfl ?_|refine s1 (E0 _ _ _) rfl rfl rfl ?_
    refine s31 (K6 _ _ _ _ _ _ _ _ ⟨hc.1,hc.2.1,by omega,by omega,by omega,by omega,by omega,by omega,by omega,by omega,hc.2.2.2.2.2.2.2.2.2.2,lx0 (hs1 _ _) (by omega)⟩) rfl ?_;refine s7 [.int .i64 _,B6 rB _] rfl ?_;refine D7 (d:=1) ?_;exact hy g0 _ fc cols (M1 ((el rows).getD i.toNat default).1 (fc:Int).toNat (cols:Int).toNat) [] (x5 ‹_›) (x4 ‹_›) ((Q4 (by first|exact .inl ‹_›|exact .inr ‹_›)).symm) (N1 (by first|exact .inl ‹_›|exact .inr ‹_›)) A7V (.inl (fun q=>by simp_all))
   refine s1 (L8 _ _ _) rfl rfl rfl ?_;refine s4 rfl (fun g2=>?_) fun g2=>?_
   ·refine s1 (H1 rfl) rfl rfl rfl ?_;refine s5 rfl (fun g3=>?_) fun g3=>?_
    ·refine s8 ?_;first|omega
    refine s2 (r:=rCl) (C8 rfl (by omega) (by omega) rfl) rfl rfl ?_;refine s2 (r:=rCl) (A0A rfl (by omega) (by omega) (by omega)) rfl rfl ?_;refine s1 (H1 rfl) rfl rfl rfl ?_;refine s5 rfl (fun g4=>?_) fun g4=>?_
    ·refine s8 ?_;first|omega
    refine s1 (u:=.bool _) (C8 rfl (by omega) (by omega) rfl) rfl rfl rfl ?_;refine s1 (A03 _) rfl rfl rfl ?_;refine s4B rfl (fun g5=>?_) fun g5=>?_
    ·refine s1 (L8 _ _ _) rfl rfl rfl ?_;refine s4 rfl (fun g6=>?_) fun g6=>?_
     ·refine s31 (A1y _ (F0 (hs1 _ _) (by decide))) rfl ?_;refine s1 (G9 _ _) rfl rfl rfl ?_;refine s6 (S2 _ _ 0 ⟨rfl,by decide,E3 _,F0 (by first|exact hs1 _ _|exact hs2 _ _) (by decide)⟩) rfl (fun _=>rfl) (fun g7=>?_) (fun v7 g7=>?_)
      ·show Tr.sav _ _ _;refine s1 (H6 _ _ _) rfl rfl rfl ?_;refine s4 rfl (fun g8=>?_) fun g8=>?_
       ·first|refine s1 (C7 (D3 (by omega) (by omega))) rfl rfl rfl ?_|refine s1 (E0 _ _ _) rfl rfl rfl ?_
        refine s2 (r:=rB) (e9 [_] rfl (by decide) rfl) rfl rfl ?_;refine s31 (K6 _ _ _ _ _ _ _ _ ⟨hc.1,hc.2.1,by omega,by omega,by omega,by omega,by omega,by omega,by omega,by omega,hc.2.2.2.2.2.2.2.2.2.2,lx2 (by omega)⟩) rfl ?_;refine s7 [.int .i64 _,B6 rB _] rfl ?_;refine D7 (d:=1) ?_;exact hy g0 _ 0 tc (w9 (M1 ((el rows).getD i.toNat default).1 (0:Int).toNat (tc:Int).toNat)) [10] (x6 ‹_›) (x3 ‹_›) ((Z1 ‹_› (by first|assumption|rfl)).symm) (X1 ‹_› ‹_›) (B2C ‹_›) (.inr (by decide))
       first|refine s1 (C7 (D3 (by omega) (by omega))) rfl rfl rfl ?_|refine s1 (E0 _ _ _) rfl rfl rfl ?_
       refine s7 [.int .i64 _,B6 rRw _,.int .i64 _,.int .i64 _,.int .i64 _,.int .i64 _,.int .i64 _,.int .i64 _] rfl ?_;refine D6 ?_ ?_
       ·exact hx g0 0 tc (w9 (M1 ((el rows).getD i.toNat default).1 (0:Int).toNat (tc:Int).toNat)) [] (x6 ‹_›) (x3 ‹_›) ((Z1 ‹_› (by first|assumption|rfl)).symm) (N1 (by first|exact .inl ‹_›|exact .inr ‹_›)) ‹_› rfl
       ·rw[S5,S5];omega
      show Tr.sav _ _ (.cons 19 _ _);refine s1 (H6 _ _ _) rfl rfl rfl ?_;refine s4 rfl (fun g8=>?_) fun g8=>?_
      ·refine s2 (r:=rB) (K9 rfl rfl (by decide) (by first|omega|exact A2H (by first|exact hs1 _ _|exact hs2 _ _)|exact n8 (by first|exact hs1 _ _|exact hs2 _ _) (by omega)|(simp only[J6,F2,B0,A0,G4,A3,A4];omega)|(show 0+_≤_;simp only[F2,B0,A0,G4,A3,A4];omega))) rfl rfl ?_;first|refine s1 (C7 (D3 (by omega) (by omega))) rfl rfl rfl ?_|refine s1 (E0 _ _ _) rfl rfl rfl ?_
       refine s31 (K6 _ _ _ _ _ _ _ _ ⟨hc.1,hc.2.1,by omega,by omega,by omega,by omega,by omega,by omega,by omega,by omega,hc.2.2.2.2.2.2.2.2.2.2,lx1 (hs2 _ _) (by omega)⟩) rfl ?_;refine s7 [.int .i64 _,B6 rB _] rfl ?_;refine D7 (d:=1) ?_;exact hy g0 _ 0 tc (w9 (M1 ((el rows).getD i.toNat default).1 (0:Int).toNat (tc:Int).toNat)) [10] (x6 ‹_›) (x3 ‹_›) ((Z1 ‹_› (by first|assumption|rfl)).symm) (X1 ‹_› ‹_›) B2D (.inl (fun q=>by simp_all))
      first|refine s1 (C7 (D3 (by omega) (by omega))) rfl rfl rfl ?_|refine s1 (E0 _ _ _) rfl rfl rfl ?_
      refine s31 (K6 _ _ _ _ _ _ _ _ ⟨hc.1,hc.2.1,by omega,by omega,by omega,by omega,by omega,by omega,by omega,by omega,hc.2.2.2.2.2.2.2.2.2.2,lx0 (hs2 _ _) (by omega)⟩) rfl ?_;refine s7 [.int .i64 _,B6 rB _] rfl ?_;refine D7 (d:=1) ?_;exact hy g0 _ 0 tc (w9 (M1 ((el rows).getD i.toNat default).1 (0:Int).toNat (tc:Int).toNat)) [] (x6 ‹_›) (x3 ‹_›) ((Z1 ‹_› (by first|assumption|rfl)).symm) (N1 (by first|exact .inl ‹_›|exact .inr ‹_›)) A7V (.inl (fun q=>by simp_all))
     refine s1 (G9 _ _) rfl rfl rfl ?_;refine s6 (S2 _ _ 0 ⟨rfl,by decide,E3 _,F0 (by first|exact hs1 _ _|exact hs2 _ _) (by decide)⟩) rfl (fun _=>rfl) (fun g7=>?_) (fun v7 g7=>?_)
     ·show Tr.sav _ _ _;refine s1 (H6 _ _ _) rfl rfl rfl ?_;refine s4 rfl (fun g8=>?_) fun g8=>?_
      ·first|refine s1 (C7 (D3 (by omega) (by omega))) rfl rfl rfl ?_|refine s1 (E0 _ _ _) rfl rfl rfl ?_
       refine s2 (r:=rB) (e9 [_] rfl (by decide) rfl) rfl rfl ?_;refine s31 (K6 _ _ _ _ _ _ _ _ ⟨hc.1,hc.2.1,by omega,by omega,by omega,by omega,by omega,by omega,by omega,by omega,hc.2.2.2.2.2.2.2.2.2.2,lx2 (by omega)⟩) rfl ?_;refine s7 [.int .i64 _,B6 rB _] rfl ?_;refine D7 (d:=1) ?_;exact hy g0 _ 0 tc (M1 ((el rows).getD i.toNat default).1 (0:Int).toNat (tc:Int).toNat) [10] (x6 ‹_›) (x3 ‹_›) ((Q4 (by first|exact .inl ‹_›|exact .inr ‹_›)).symm) (X1 ‹_› ‹_›) (B2C ‹_›) (.inr (by decide))
      first|refine s1 (C7 (D3 (by omega) (by omega))) rfl rfl rfl ?_|refine s1 (E0 _ _ _) rfl rfl rfl ?_
      refine s7 [.int .i64 _,B6 rRw _,.int .i64 _,.int .i64 _,.int .i64 _,.int .i64 _,.int .i64 _,.int .i64 _] rfl ?_;refine D6 ?_ ?_
      ·exact hx g0 0 tc (M1 ((el rows).getD i.toNat default).1 (0:Int).toNat (tc:Int).toNat) [] (x6 ‹_›) (x3 ‹_›) ((Q4 (by first|exact .inl ‹_›|exact .inr ‹_›)).symm) (N1 (by first|exact .inl ‹_›|exact .inr ‹_›)) ‹_› rfl
      ·rw[S5,S5];omega
     show Tr.sav _ _ (.cons 18 _ _);refine s1 (H6 _ _ _) rfl rfl rfl ?_;refine s4 rfl (fun g8=>?_) fun g8=>?_
     ·refine s2 (r:=rB) (K9 rfl rfl (by decide) (by first|omega|exact A2H (by first|exact hs1 _ _|exact hs2 _ _)|exact n8 (by first|exact hs1 _ _|exact hs2 _ _) (by omega)|(simp only[J6,F2,B0,A0,G4,A3,A4];omega)|(show 0+_≤_;simp only[F2,B0,A0,G4,A3,A4];omega))) rfl rfl ?_;first|refine s1 (C7 (D3 (by omega) (by omega))) rfl rfl rfl ?_|refine s1 (E0 _ _ _) rfl rfl rfl ?_
      refine s31 (K6 _ _ _ _ _ _ _ _ ⟨hc.1,hc.2.1,by omega,by omega,by omega,by omega,by omega,by omega,by omega,by omega,hc.2.2.2.2.2.2.2.2.2.2,lx1 (hs1 _ _) (by omega)⟩) rfl ?_;refine s7 [.int .i64 _,B6 rB _] rfl ?_;refine D7 (d:=1) ?_;exact hy g0 _ 0 tc (M1 ((el rows).getD i.toNat default).1 (0:Int).toNat (tc:Int).toNat) [10] (x6 ‹_›) (x3 ‹_›) ((Q4 (by first|exact .inl ‹_›|exact .inr ‹_›)).symm) (X1 ‹_› ‹_›) B2D (.inl (fun q=>by simp_all))
     first|refine s1 (C7 (D3 (by omega) (by omega))) rfl rfl rfl ?_|refine s1 (E0 _ _ _) rfl rfl rfl ?_
     refine s31 (K6 _ _ _ _ _ _ _ _ ⟨hc.1,hc.2.1,by omega,by omega,by omega,by omega,by omega,by omega,by omega,by omega,hc.2.2.2.2.2.2.2.2.2.2,lx0 (hs1 _ _) (by omega)⟩) rfl ?_;refine s7 [.int .i64 _,B6 rB _] rfl ?_;refine D7 (d:=1) ?_;exact hy g0 _ 0 tc (M1 ((el rows).getD i.toNat default).1 (0:Int).toNat (tc:Int).toNat) [] (x6 ‹_›) (x3 ‹_›) ((Q4 (by first|exact .inl ‹_›|exact .inr ‹_›)).symm) (N1 (by first|exact .inl ‹_›|exact .inr ‹_›)) A7V (.inl (fun q=>by simp_all))
    refine s1 (G9 _ _) rfl rfl rfl ?_;refine s6 (S2 _ _ 0 ⟨rfl,by decide,E3 _,F0 (by first|exact hs1 _ _|exact hs2 _ _) (by decide)⟩) rfl (fun _=>rfl) (fun g6=>?_) (fun v6 g6=>?_)
    ·show Tr.sav _ _ _;first|refine s1 (C7 (D3 (by omega) (by omega))) rfl rfl rfl ?_|refine s1 (E0 _ _ _) rfl rfl rfl ?_
     refine s7 [.int .i64 _,B6 rRw _,.int .i64 _,.int .i64 _,.int .i64 _,.int .i64 _,.int .i64 _,.int .i64 _] rfl ?_;refine D6 ?_ ?_
     ·exact hx g0 0 tc (M1 ((el rows).getD i.toNat default).1 (0:Int).toNat (tc:Int).toNat) [] (x6 ‹_›) (x3 ‹_›) ((Q4 (by first|exact .inl ‹_›|exact .inr ‹_›)).symm) (N1 (by first|exact .inl ‹_›|exact .inr ‹_›)) ‹_› rfl
     ·rw[S5,S5];omega
    show Tr.sav _ _ (.cons 17 _ _);first|refine s1 (C7 (D3 (by omega) (by omega))) rfl rfl rfl ?_|refine s1 (E0 _ _ _) rfl rfl rfl ?_
    refine s31 (K6 _ _ _ _ _ _ _ _ ⟨hc.1,hc.2.1,by omega,by omega,by omega,by omega,by omega,by omega,by omega,by omega,hc.2.2.2.2.2.2.2.2.2.2,lx0 (hs1 _ _) (by omega)⟩) rfl ?_;refine s7 [.int .i64 _,B6 rB _] rfl ?_;refine D7 (d:=1) ?_;exact hy g0 _ 0 tc (M1 ((el rows).getD i.toNat default).1 (0:Int).toNat (tc:Int).toNat) [] (x6 ‹_›) (x3 ‹_›) ((Q4 (by first|exact .inl ‹_›|exact .inr ‹_›)).symm) (N1 (by first|exact .inl ‹_›|exact .inr ‹_›)) A7V (.inl (fun q=>by simp_all))
   refine s1 (H1 rfl) rfl rfl rfl ?_;refine s5 rfl (fun g3=>?_) fun g3=>?_
   ·refine s8 ?_;first|omega
   refine s2 (r:=rCl) (C8 rfl (by omega) (by omega) rfl) rfl rfl ?_;refine s2 (r:=rCl) (A0A rfl (by omega) (by omega) (by omega)) rfl rfl ?_;refine s1 (H1 rfl) rfl rfl rfl ?_;refine s5 rfl (fun g4=>?_) fun g4=>?_
   ·refine s8 ?_;first|omega
   refine s1 (u:=.bool _) (C8 rfl (by omega) (by omega) rfl) rfl rfl rfl ?_;refine s1 (A03 _) rfl rfl rfl ?_;refine s4B rfl (fun g5=>?_) fun g5=>?_
   ·refine s1 (L8 _ _ _) rfl rfl rfl ?_;refine s4 rfl (fun g6=>?_) fun g6=>?_
    ·refine s31 (A1y _ (F0 (hs1 _ _) (by decide))) rfl ?_;refine s1 (G9 _ _) rfl rfl rfl ?_;refine s6 (S2 _ _ 0 ⟨rfl,by decide,E3 _,F0 (by first|exact hs1 _ _|exact hs2 _ _) (by decide)⟩) rfl (fun _=>rfl) (fun g7=>?_) (fun v7 g7=>?_)
     ·show Tr.sav _ _ _;refine s1 (H6 _ _ _) rfl rfl rfl ?_;refine s4 rfl (fun g8=>?_) fun g8=>?_
      ·first|refine s1 (C7 (D3 (by omega) (by omega))) rfl rfl rfl ?_|refine s1 (E0 _ _ _) rfl rfl rfl ?_
       refine s2 (r:=rB) (e9 [_] rfl (by decide) rfl) rfl rfl ?_;refine s31 (K6 _ _ _ _ _ _ _ _ ⟨hc.1,hc.2.1,by omega,by omega,by omega,by omega,by omega,by omega,by omega,by omega,hc.2.2.2.2.2.2.2.2.2.2,lx2 (by omega)⟩) rfl ?_;refine s7 [.int .i64 _,B6 rB _] rfl ?_;refine D7 (d:=1) ?_;exact hy g0 _ 0 cols (w9 (M1 ((el rows).getD i.toNat default).1 (0:Int).toNat (cols:Int).toNat)) [10] (x6 ‹_›) (x4 ‹_›) ((Z1 ‹_› (by first|assumption|rfl)).symm) (X1 ‹_› ‹_›) (B2C ‹_›) (.inr (by decide))
      first|refine s1 (C7 (D3 (by omega) (by omega))) rfl rfl rfl ?_|refine s1 (E0 _ _ _) rfl rfl rfl ?_
      refine s7 [.int .i64 _,B6 rRw _,.int .i64 _,.int .i64 _,.int .i64 _,.int .i64 _,.int .i64 _,.int .i64 _] rfl ?_;refine D6 ?_ ?_
      ·exact hx g0 0 cols (w9 (M1 ((el rows).getD i.toNat default).1 (0:Int).toNat (cols:Int).toNat)) [] (x6 ‹_›) (x4 ‹_›) ((Z1 ‹_› (by first|assumption|rfl)).symm) (N1 (by first|exact .inl ‹_›|exact .inr ‹_›)) ‹_› rfl
      ·rw[S5,S5];omega
     show Tr.sav _ _ (.cons 19 _ _);refine s1 (H6 _ _ _) rfl rfl rfl ?_;refine s4 rfl (fun g8=>?_) fun g8=>?_
     ·refine s2 (r:=rB) (K9 rfl rfl (by decide) (by first|omega|exact A2H (by first|exact hs1 _ _|exact hs2 _ _)|exact n8 (by first|exact hs1 _ _|exact hs2 _ _) (by omega)|(simp only[J6,F2,B0,A0,G4,A3,A4];omega)|(show 0+_≤_;simp only[F2,B0,A0,G4,A3,A4];omega))) rfl rfl ?_;first|refine s1 (C7 (D3 (by omega) (by omega))) rfl rfl rfl ?_|refine s1 (E0 _ _ _) rfl rfl rfl ?_
      refine s31 (K6 _ _ _ _ _ _ _ _ ⟨hc.1,hc.2.1,by omega,by omega,by omega,by omega,by omega,by omega,by omega,by omega,hc.2.2.2.2.2.2.2.2.2.2,lx1 (hs2 _ _) (by omega)⟩) rfl ?_;refine s7 [.int .i64 _,B6 rB _] rfl ?_;refine D7 (d:=1) ?_;exact hy g0 _ 0 cols (w9 (M1 ((el rows).getD i.toNat default).1 (0:Int).toNat (cols:Int).toNat)) [10] (x6 ‹_›) (x4 ‹_›) ((Z1 ‹_› (by first|assumption|rfl)).symm) (X1 ‹_› ‹_›) B2D (.inl (fun q=>by simp_all))
     first|refine s1 (C7 (D3 (by omega) (by omega))) rfl rfl rfl ?_|refine s1 (E0 _ _ _) rfl rfl rfl ?_
     refine s31 (K6 _ _ _ _ _ _ _ _ ⟨hc.1,hc.2.1,by omega,by omega,by omega,by omega,by omega,by omega,by omega,by omega,hc.2.2.2.2.2.2.2.2.2.2,lx0 (hs2 _ _) (by omega)⟩) rfl ?_;refine s7 [.int .i64 _,B6 rB _] rfl ?_;refine D7 (d:=1) ?_;exact hy g0 _ 0 cols (w9 (M1 ((el rows).getD i.toNat default).1 (0:Int).toNat (cols:Int).toNat)) [] (x6 ‹_›) (x4 ‹_›) ((Z1 ‹_› (by first|assumption|rfl)).symm) (N1 (by first|exact .inl ‹_›|exact .inr ‹_›)) A7V (.inl (fun q=>by simp_all))
    refine s1 (G9 _ _) rfl rfl rfl ?_;refine s6 (S2 _ _ 0 ⟨rfl,by decide,E3 _,F0 (by first|exact hs1 _ _|exact hs2 _ _) (by decide)⟩) rfl (fun _=>rfl) (fun g7=>?_) (fun v7 g7=>?_)
    ·show Tr.sav _ _ _;refine s1 (H6 _ _ _) rfl rfl rfl ?_;refine s4 rfl (fun g8=>?_) fun g8=>?_
     ·first|refine s1 (C7 (D3 (by omega) (by omega))) rfl rfl rfl ?_|refine s1 (E0 _ _ _) rfl rfl rfl ?_
      refine s2 (r:=rB) (e9 [_] rfl (by decide) rfl) rfl rfl ?_;refine s31 (K6 _ _ _ _ _ _ _ _ ⟨hc.1,hc.2.1,by omega,by omega,by omega,by omega,by omega,by omega,by omega,by omega,hc.2.2.2.2.2.2.2.2.2.2,lx2 (by omega)⟩) rfl ?_;refine s7 [.int .i64 _,B6 rB _] rfl ?_;refine D7 (d:=1) ?_;exact hy g0 _ 0 cols (M1 ((el rows).getD i.toNat default).1 (0:Int).toNat (cols:Int).toNat) [10] (x6 ‹_›) (x4 ‹_›) ((Q4 (by first|exact .inl ‹_›|exact .inr ‹_›)).symm) (X1 ‹_› ‹_›) (B2C ‹_›) (.inr (by decide))
     first|refine s1 (C7 (D3 (by omega) (by omega))) rfl rfl rfl ?_|refine s1 (E0 _ _ _) rfl rfl rfl ?_
     refine s7 [.int .i64 _,B6 rRw _,.int .i64 _,.int .i64 _,.int .i64 _,.int .i64 _,.int .i64 _,.int .i64 _] rfl ?_;refine D6 ?_ ?_
     ·exact hx g0 0 cols (M1 ((el rows).getD i.toNat default).1 (0:Int).toNat (cols:Int).toNat) [] (x6 ‹_›) (x4 ‹_›) ((Q4 (by first|exact .inl ‹_›|exact .inr ‹_›)).symm) (N1 (by first|exact .inl ‹_›|exact .inr ‹_›)) ‹_› rfl
     ·rw[S5,S5];omega
    show Tr.sav _ _ (.cons 18 _ _);refine s1 (H6 _ _ _) rfl rfl rfl ?_;refine s4 rfl (fun g8=>?_) fun g8=>?_
    ·refine s2 (r:=rB) (K9 rfl rfl (by decide) (by first|omega|exact A2H (by first|exact hs1 _ _|exact hs2 _ _)|exact n8 (by first|exact hs1 _ _|exact hs2 _ _) (by omega)|(simp only[J6,F2,B0,A0,G4,A3,A4];omega)|(show 0+_≤_;simp only[F2,B0,A0,G4,A3,A4];omega))) rfl rfl ?_;first|refine s1 (C7 (D3 (by omega) (by omega))) rfl rfl rfl ?_|refine s1 (E0 _ _ _) rfl rfl rfl ?_
     refine s31 (K6 _ _ _ _ _ _ _ _ ⟨hc.1,hc.2.1,by omega,by omega,by omega,by omega,by omega,by omega,by omega,by omega,hc.2.2.2.2.2.2.2.2.2.2,lx1 (hs1 _ _) (by omega)⟩) rfl ?_;refine s7 [.int .i64 _,B6 rB _] rfl ?_;refine D7 (d:=1) ?_;exact hy g0 _ 0 cols (M1 ((el rows).getD i.toNat default).1 (0:Int).toNat (cols:Int).toNat) [10] (x6 ‹_›) (x4 ‹_›) ((Q4 (by first|exact .inl ‹_›|exact .inr ‹_›)).symm) (X1 ‹_› ‹_›) B2D (.inl (fun q=>by simp_all))
    first|refine s1 (C7 (D3 (by omega) (by omega))) rfl rfl rfl ?_|refine s1 (E0 _ _ _) rfl rfl rfl ?_
    refine s31 (K6 _ _ _ _ _ _ _ _ ⟨hc.1,hc.2.1,by omega,by omega,by omega,by omega,by omega,by omega,by omega,by omega,hc.2.2.2.2.2.2.2.2.2.2,lx0 (hs1 _ _) (by omega)⟩) rfl ?_;refine s7 [.int .i64 _,B6 rB _] rfl ?_;refine D7 (d:=1) ?_;exact hy g0 _ 0 cols (M1 ((el rows).getD i.toNat default).1 (0:Int).toNat (cols:Int).toNat) [] (x6 ‹_›) (x4 ‹_›) ((Q4 (by first|exact .inl ‹_›|exact .inr ‹_›)).symm) (N1 (by first|exact .inl ‹_›|exact .inr ‹_›)) A7V (.inl (fun q=>by simp_all))
   refine s1 (G9 _ _) rfl rfl rfl ?_;refine s6 (S2 _ _ 0 ⟨rfl,by decide,E3 _,F0 (by first|exact hs1 _ _|exact hs2 _ _) (by decide)⟩) rfl (fun _=>rfl) (fun g6=>?_) (fun v6 g6=>?_)
   ·show Tr.sav _ _ _;first|refine s1 (C7 (D3 (by omega) (by omega))) rfl rfl rfl ?_|refine s1 (E0 _ _ _) rfl rfl rfl ?_
    refine s7 [.int .i64 _,B6 rRw _,.int .i64 _,.int .i64 _,.int .i64 _,.int .i64 _,.int .i64 _,.int .i64 _] rfl ?_;refine D6 ?_ ?_
    ·exact hx g0 0 cols (M1 ((el rows).getD i.toNat default).1 (0:Int).toNat (cols:Int).toNat) [] (x6 ‹_›) (x4 ‹_›) ((Q4 (by first|exact .inl ‹_›|exact .inr ‹_›)).symm) (N1 (by first|exact .inl ‹_›|exact .inr ‹_›)) ‹_› rfl
    ·rw[S5,S5];omega
   show Tr.sav _ _ (.cons 17 _ _);first|refine s1 (C7 (D3 (by omega) (by omega))) rfl rfl rfl ?_|refine s1 (E0 _ _ _) rfl rfl rfl ?_
   refine s31 (K6 _ _ _ _ _ _ _ _ ⟨hc.1,hc.2.1,by omega,by omega,by omega,by omega,by omega,by omega,by omega,by omega,hc.2.2.2.2.2.2.2.2.2.2,lx0 (hs1 _ _) (by omega)⟩) rfl ?_;refine s7 [.int .i64 _,B6 rB _] rfl ?_;refine D7 (d:=1) ?_;exact hy g0 _ 0 cols (M1 ((el rows).getD i.toNat default).1 (0:Int).toNat (cols:Int).toNat) [] (x6 ‹_›) (x4 ‹_›) ((Q4 (by first|exact .inl ‹_›|exact .inr ‹_›)).symm) (N1 (by first|exact .inl ‹_›|exact .inr ‹_›)) A7V (.inl (fun q=>by simp_all))
  ·cases hs
 ·cases hs
noncomputable def C4T:List LpE:=(11,([true,true,true,true,true,false,true,false],orL (M7 Tryd.prog gl n0 11 C2c A4t) (M7 Tryd.prog gl n0 13 B7c Q3)))::C0T
theorem C0S{G:Nat→Option Obj}(hst:D0 Tryd.prog G gl H0 n0):Y4 Tryd.prog G gl C4T:=.cons Tryd.func11 C2b C2a (fun E base=>@N3.or ⟨E,G⟩ _ _ _ _ _ _ _ (C5c hst E base) ((C2g hst) E base)) (B3i hst)
def A4n(rows:Option (List Row))(r c:Int):Prop:=0≤r∧r<((el rows).length:Int)∧0≤c∧c≤K1 rows
def A3V(rows:Option (List Row))(fr fc tr tc:Int):Prop:=A4n rows fr fc∧A4n rows tr tc∧¬(tr<fr∨(tr=fr∧tc<fc))
instance(rows:Option (List Row))(r c:Int):Decidable (A4n rows r c):=by unfold A4n;infer_instance
instance(rows:Option (List Row))(fr fc tr tc:Int):Decidable (A3V rows fr fc tr tc):=by unfold A3V;infer_instance
def A7U(rows:Option (List Row))(fr fc tr tc:Int):Int:=if W1 rows≠0 then W1 rows else if A3V rows fr fc tr tc then 0 else 2
def B6L(rows:Option (List Row))(fr fc tr tc:Int):List UInt8:=if A7U rows fr fc tr tc=0 then A0N rows fr fc tr tc fr else[]
def C0j(rows:Option (List Row))(fr fc tr tc:Int):List U:=[.str (B6L rows fr fc tr tc),.int .i64 (A7U rows fr fc tr tc)]
theorem A0w{rows:Option (List Row)}{fr fc tr tc:Int}(h:W1 rows≠0):A7U rows fr fc tr tc=W1 rows:=if_pos h
theorem S4{rows:Option (List Row)}{fr fc tr tc:Int}(h:¬W1 rows≠0)(h2:¬A3V rows fr fc tr tc):A7U rows fr fc tr tc=2:=by unfold A7U;rw[if_neg h,if_neg h2]
theorem R6{rows:Option (List Row)}{fr fc tr tc:Int}(h:¬W1 rows≠0)(h2:A3V rows fr fc tr tc):A7U rows fr fc tr tc=0:=by unfold A7U;rw[if_neg h,if_pos h2]
theorem L5{rows:Option (List Row)}{fr fc tr tc e:Int}(h:A7U rows fr fc tr tc=e)(he:e≠0):[U.str [],U.int .i64 e]=C0j rows fr fc tr tc:=by unfold C0j B6L;rw[h,if_neg he]
theorem S3{rows:Option (List Row)}{fr fc tr tc:Int}{s:List UInt8}(h:A7U rows fr fc tr tc=0)(hs:s=A0N rows fr fc tr tc fr):[U.str s,U.int .i64 0]=C0j rows fr fc tr tc:=by unfold C0j B6L;rw[h,if_pos rfl,hs]
theorem C53{fr fc tr tc w:Int}(hw:0≤w)(h0:0≤fc)(h1:fc≤w)(h2:0≤tc)(h3:tc≤w)(h:tr*w+tr+tc<fr*w+fr+fc):tr<fr∨(tr=fr∧tc<fc):=by
 rcases Int.lt_trichotomy tr fr with q|q|q
 ·exact .inl q
 ·subst q;exact .inr ⟨rfl,by omega⟩
 ·exfalso;have:(fr+1)*w≤tr*w:=A0Z (by omega) hw;rw[Int.add_mul,Int.one_mul]at this;omega
theorem C54{fr fc tr tc w:Int}(hw:0≤w)(h0:0≤fc)(h1:fc≤w)(h2:0≤tc)(h3:tc≤w)(h:¬tr*w+tr+tc<fr*w+fr+fc):¬(tr<fr∨(tr=fr∧tc<fc)):=by
 rintro(q|⟨q,q2⟩)
 ·have:(tr+1)*w≤fr*w:=A0Z (by omega) hw;rw[Int.add_mul,Int.one_mul]at this;omega
 ·subst q;omega
theorem B5I(rows:Option (List Row))(fr fc tr tc:Int):∀ (n:Nat) (i:Int),noX rows fr fc tr tc n i=none→B6M rows fr fc tr tc n i=[]
 | 0,_,_=>rfl
 | n+1,i,h=>by
   unfold noX at h;split at h
   ·rename_i q;have e:A18 rows fr fc tr tc i=[]:=by unfold A18;rw[q.2,A7k q.1];rfl
    show A18 rows fr fc tr tc i++B6M rows fr fc tr tc n (i+1)=[];rw[e,B5I rows fr fc tr tc n (i+1) h];rfl
   ·cases h
theorem t6{rows:Option (List Row)}{fr fc tr tc i:Int}(h:noI rows fr fc tr tc i=none):[]=A0N rows fr fc tr tc i:=(B5I rows fr fc tr tc _ i h).symm
theorem C4t{rows:Option (List Row)}(h:W1 rows=0)(i:Nat):((el ((el rows).getD i default).1).length:Int)≤80:=by
 have hc:=A3F h;rw[B5];cases hi:(el rows)[i]? with
 | none=>show((el (none:Option (List Cel))).length:Int)≤80;decide
 | some m=>have:=((A2J h).2.2 m (D9 hi)).2;show((el m.1).length:Int)≤80;omega
theorem B19{rows:Option (List Row)}{fr fc tr tc:Int}(h:W1 rows=0):∀ (n:Nat) (i:Int),(B6M rows fr fc tr tc n i).length≤961*n
 | 0,_=>A7 _
 | n+1,i=>by
   have a:=B2x (rows:=rows) (fr:=fr) (fc:=fc) (tr:=tr) (tc:=tc) (i:=i) (n:=0) (C4t h _);have b:=B19 (fr:=fr) (fc:=fc) (tr:=tr) (tc:=tc) h n (i+1);show(A18 rows fr fc tr tc i++B6M rows fr fc tr tc n (i+1)).length≤_;rw[A0];omega
theorem B4v{rows:Option (List Row)}{fr fc tr tc:Int}(h:W1 rows=0)(h0:0≤fr)(h1:tr<140):(A0N rows fr fc tr tc fr).length≤140000:=by
 have:=B19 (fr:=fr) (fc:=fc) (tr:=tr) (tc:=tc) h (tr-fr+1).toNat fr;unfold A0N;omega
theorem C4f{rows:Option (List Row)}{fr fc tr tc w:Int}(hw:K1 rows=w)(a:0≤fr)(b:fr<((el rows).length:Int))(c:0≤fc)(d:fc≤w)(e:0≤tr)(f:tr<((el rows).length:Int))(g:0≤tc)(h:tc≤w)(k:¬(tr<fr∨(tr=fr∧tc<fc))):A3V rows fr fc tr tc:=⟨⟨a,b,c,by omega⟩,⟨e,f,g,by omega⟩,k⟩
noncomputable def C34:List (FuncId×FnC):=(61,Q7 Tryd.prog [.s 12] A2i [.s 3])::(64,Q7 Tryd.prog [.s 3] A05 [.s 9])::(32,Q7 Tryd.prog [.s 22] A0h [.s 22])::L0
theorem B9u{G:Nat→Option Obj}(hst:D0 Tryd.prog G gl H0 n0):K3 Tryd.prog G gl C34:=(.cons (A8V hst) (.cons (B2a hst) (.cons (B1_ hst) .nil)))
def A4s:List U→Option (Nat×List U)
 | [u_rows,.int .i64 fr,.int .i64 fc,.int .i64 tr,.int .i64 tc]=>(N9 rRw u_rows).bind fun rows=>if A08 rows then some (0,[.str (B6L rows fr fc tr tc),.int .i64 (A7U rows fr fc tr tc)])else none
 | _=>none
theorem C0i(rows:(Option (List ((Option (List (Int×Int×Int×Int×Int×Int×Int×Int×Int×Int×Int×Int)))×Bool))))(fr:Int)(fc:Int)(tr:Int)(tc:Int)(hc:A08 rows):A4s [B6 rRw rows,.int .i64 fr,.int .i64 fc,.int .i64 tr,.int .i64 tc]=some (0,[.str (B6L rows fr fc tr tc),.int .i64 (A7U rows fr fc tr tc)]):=by
 simp only[A4s,G2,E1];exact if_pos hc
def C2X:Tr:=.fn A2i [h 0 12] 1<|.lt 8 (.bin .neq) [h 5 3,jI 0]<|.br 6 (.lt 8 (.bin .neq) [h 5 3,jI 0]<|.br 7 (.ret [.string ⟨⟨[]⟩⟩,h 5 3]) (.no)) (.lt 8 (.inbs 2) [jI 0,h 0 12]<|.br 7 (.dt 22 (.get 2 0) [h 0 12,jI 0]<|.lt 3 (.len) [h 8 22]<|.lt 3 (.bin .sub) [h 9 3,jI 0]<|.lt 8 (.bin .geq) [h 1 3,jI 0]<|.br 11 (.lt 3 (.len) [h 0 12]<|.lt 8 (.bin .lss) [h 1 3,h 12 3]<|.br 13 (.lt 8 (.bin .geq) [h 2 3,jI 0]<|.br 14 (.lt 8 (.bin .leq) [h 2 3,h 10 3]<|.lt 8 (.un .not) [h 15 8]<|.br 16 (.ret [.string ⟨⟨[]⟩⟩,jI 2]) (.lt 8 (.inbs 2) [jI 0,h 0 12]<|.br 17 (.dt 22 (.get 2 0) [h 0 12,jI 0]<|.lt 3 (.len) [h 18 22]<|.lt 3 (.bin .sub) [h 19 3,jI 0]<|.lt 8 (.bin .geq) [h 3 3,jI 0]<|.br 21 (.lt 8 (.bin .lss) [h 3 3,h 12 3]<|.br 22 (.lt 8 (.bin .geq) [h 4 3,jI 0]<|.br 23 (.lt 8 (.bin .leq) [h 4 3,h 20 3]<|.lt 8 (.un .not) [h 24 8]<|.br 25 (.ret [.string ⟨⟨[]⟩⟩,jI 2]) (.lt 8 (.inbs 2) [jI 0,h 0 12]<|.br 26 (.dt 22 (.get 2 0) [h 0 12,jI 0]<|.lt 3 (.len) [h 27 22]<|.lt 3 (.bin .mul) [h 1 3,h 28 3]<|.lt 3 (.bin .add) [h 29 3,h 1 3]<|.lt 3 (.bin .add) [h 30 3,h 2 3]<|.lt 3 (.bin .mul) [h 3 3,h 28 3]<|.lt 3 (.bin .add) [h 32 3,h 3 3]<|.lt 3 (.bin .add) [h 33 3,h 4 3]<|.lt 8 (.bin .gtr) [h 31 3,h 34 3]<|.br 35 (.ret [.string ⟨⟨[]⟩⟩,jI 2]) (.lp A4t [h 0 12,h 28 3,h 1 3,h 1 3,h 2 3,h 3 3,h 4 3] 0 0 (.ret [.string ⟨⟨[]⟩⟩,jI 0]) (.lp A4t [h 0 12,h 28 3,h 1 3,h 1 3,h 2 3,h 3 3,h 4 3] 1 1 (.lt 3 (.len) [h 36 11]<|.lt 9 (.ustr) [h 36 11,h 37 3]<|.ret [h 38 9,jI 0]) (.no)))) (.no))) (.ret [.string ⟨⟨[]⟩⟩,jI 2])) (.ret [.string ⟨⟨[]⟩⟩,jI 2])) (.ret [.string ⟨⟨[]⟩⟩,jI 2])) (.no))) (.ret [.string ⟨⟨[]⟩⟩,jI 2])) (.ret [.string ⟨⟨[]⟩⟩,jI 2])) (.ret [.string ⟨⟨[]⟩⟩,jI 2])) (.no))
theorem B7X{G:Nat→Option Obj}(hst:D0 Tryd.prog G gl H0 n0):Y5 Tryd.prog G 11 [.s 12,.a [3,3],.a [3,3]] A4s [.s 9,.s 3]:=by
 refine J9 (C:=cx C34 C4T) (d:=60) C2X (cxg (B9u hst) (C0S hst)) hst ⟨Tryd.f11,_,Tryd.func11,rfl⟩ (by kernel_rfl) (by kernel_rfl) ?_;intro us outs hs;unfold A4s at hs;split at hs
 ·skip;rename_i u_rows fr fc tr tc;have hq_rows:=B2.1 hs;clear hs;obtain⟨rows,hd_rows,hs⟩:=hq_rows;replace hd_rows:=K0 hd_rows;subst hd_rows;split at hs
  ·rename_i hc;cases hs;have qd:=B4j rows;unfold C2X;refine s0 (.cons 4 _ (.cons 3 _ (.cons 2 _ (.cons 1 _ (.cons 0 _ (.nil)))))) rfl (by simp[Ev.ok,Ev.len]) ?_;refine s31 (B5D _ hc) rfl ?_;refine s1 (L2 _ _ _) rfl rfl rfl ?_;refine s4 rfl (fun g0=>?_) fun g0=>?_
   ·refine s1 (L2 _ _ _) rfl rfl rfl ?_;refine s4 rfl (fun g1=>?_) fun g1=>?_
    ·refine s7 [.str _,.int .i64 _] rfl ?_;first|exact L5 (A0w ‹_›) ‹_›|exact L5 (S4 ‹_› (fun q=>q.2.2 ly)) (by decide)|exact L5 (S4 ‹_› (by unfold A3V A4n;omega)) (by decide)|exact S3 (R6 ‹_› lp) (t6 ‹_›)|exact S3 (R6 ‹_› lp) (A3P _)
    refine s8 ?_;first|omega
   refine s1 (H1 rfl) rfl rfl rfl ?_;refine s5 rfl (fun g1=>?_) fun g1=>?_
   ·refine s8 ?_;first|omega
   refine s2 (r:=rCl) (C8 rfl (by omega) (by omega) rfl) rfl rfl ?_;refine s1 (G9 _ _) rfl rfl rfl ?_;first|refine s1 (m4 (D3 (by omega) (by omega))) rfl rfl rfl ?_|refine s1 (A0B _ _ _) rfl rfl rfl ?_
   refine s1 (i0 _ _ _) rfl rfl rfl ?_;refine s5 rfl (fun g2=>?_) fun g2=>?_
   ·refine s7 [.str _,.int .i64 _] rfl ?_;first|exact L5 (A0w ‹_›) ‹_›|exact L5 (S4 ‹_› (fun q=>q.2.2 ly)) (by decide)|exact L5 (S4 ‹_› (by unfold A3V A4n;omega)) (by decide)|exact S3 (R6 ‹_› lp) (t6 ‹_›)|exact S3 (R6 ‹_› lp) (A3P _)
   refine s1 (G9 _ _) rfl rfl rfl ?_;refine s1 (H6 _ _ _) rfl rfl rfl ?_;refine s5 rfl (fun g3=>?_) fun g3=>?_
   ·refine s7 [.str _,.int .i64 _] rfl ?_;first|exact L5 (A0w ‹_›) ‹_›|exact L5 (S4 ‹_› (fun q=>q.2.2 ly)) (by decide)|exact L5 (S4 ‹_› (by unfold A3V A4n;omega)) (by decide)|exact S3 (R6 ‹_› lp) (t6 ‹_›)|exact S3 (R6 ‹_› lp) (A3P _)
   refine s1 (i0 _ _ _) rfl rfl rfl ?_;refine s5 rfl (fun g4=>?_) fun g4=>?_
   ·refine s7 [.str _,.int .i64 _] rfl ?_;first|exact L5 (A0w ‹_›) ‹_›|exact L5 (S4 ‹_› (fun q=>q.2.2 ly)) (by decide)|exact L5 (S4 ‹_› (by unfold A3V A4n;omega)) (by decide)|exact S3 (R6 ‹_› lp) (t6 ‹_›)|exact S3 (R6 ‹_› lp) (A3P _)
   refine s1 (A0V _ _ _) rfl rfl rfl ?_;refine s1 (A1E _) rfl rfl rfl ?_;refine s4 rfl (fun g5=>?_) fun g5=>?_
   ·refine s7 [.str _,.int .i64 _] rfl ?_;first|exact L5 (A0w ‹_›) ‹_›|exact L5 (S4 ‹_› (fun q=>q.2.2 ly)) (by decide)|exact L5 (S4 ‹_› (by unfold A3V A4n;omega)) (by decide)|exact S3 (R6 ‹_› lp) (t6 ‹_›)|exact S3 (R6 ‹_› lp) (A3P _)
   refine s1 (H1 rfl) rfl rfl rfl ?_;refine s5 rfl (fun g6=>?_) fun g6=>?_
   ·refine s8 ?_;first|omega
   refine s2 (r:=rCl) (C8 rfl (by omega) (by omega) rfl) rfl rfl ?_;refine s1 (G9 _ _) rfl rfl rfl ?_;first|refine s1 (m4 (D3 (by omega) (by omega))) rfl rfl rfl ?_|refine s1 (A0B _ _ _) rfl rfl rfl ?_
   refine s1 (i0 _ _ _) rfl rfl rfl ?_;refine s5 rfl (fun g7=>?_) fun g7=>?_
   ·refine s7 [.str _,.int .i64 _] rfl ?_;first|exact L5 (A0w ‹_›) ‹_›|exact L5 (S4 ‹_› (fun q=>q.2.2 ly)) (by decide)|exact L5 (S4 ‹_› (by unfold A3V A4n;omega)) (by decide)|exact S3 (R6 ‹_› lp) (t6 ‹_›)|exact S3 (R6 ‹_› lp) (A3P _)
   refine s1 (H6 _ _ _) rfl rfl rfl ?_;refine s5 rfl (fun g8=>?_) fun g8=>?_
   ·refine s7 [.str _,.int .i64 _] rfl ?_;first|exact L5 (A0w ‹_›) ‹_›|exact L5 (S4 ‹_› (fun q=>q.2.2 ly)) (by decide)|exact L5 (S4 ‹_› (by unfold A3V A4n;omega)) (by decide)|exact S3 (R6 ‹_› lp) (t6 ‹_›)|exact S3 (R6 ‹_› lp) (A3P _)
   refine s1 (i0 _ _ _) rfl rfl rfl ?_;refine s5 rfl (fun g9=>?_) fun g9=>?_
   ·refine s7 [.str _,.int .i64 _] rfl ?_;first|exact L5 (A0w ‹_›) ‹_›|exact L5 (S4 ‹_› (fun q=>q.2.2 ly)) (by decide)|exact L5 (S4 ‹_› (by unfold A3V A4n;omega)) (by decide)|exact S3 (R6 ‹_› lp) (t6 ‹_›)|exact S3 (R6 ‹_› lp) (A3P _)
   refine s1 (A0V _ _ _) rfl rfl rfl ?_;refine s1 (A1E _) rfl rfl rfl ?_;refine s4 rfl (fun g10=>?_) fun g10=>?_
   ·refine s7 [.str _,.int .i64 _] rfl ?_;first|exact L5 (A0w ‹_›) ‹_›|exact L5 (S4 ‹_› (fun q=>q.2.2 ly)) (by decide)|exact L5 (S4 ‹_› (by unfold A3V A4n;omega)) (by decide)|exact S3 (R6 ‹_› lp) (t6 ‹_›)|exact S3 (R6 ‹_› lp) (A3P _)
   refine s1 (H1 rfl) rfl rfl rfl ?_;refine s5 rfl (fun g11=>?_) fun g11=>?_
   ·refine s8 ?_;first|omega
   have m1:=B8d (a:=fr) (b:=((el ((el rows).getD (0:Int).toNat default).1).length:Int)) (A:=140) (B:=80) (by omega) (by omega) (by omega) (by omega);have m2:=B8d (a:=tr) (b:=((el ((el rows).getD (0:Int).toNat default).1).length:Int)) (A:=140) (B:=80) (by omega) (by omega) (by omega) (by omega);refine s2 (r:=rCl) (C8 rfl (by omega) (by omega) rfl) rfl rfl ?_;refine s1 (G9 _ _) rfl rfl rfl ?_;first|refine s1 (B5p (D3 (by omega) (by omega))) rfl rfl rfl ?_|refine s1 (B4c _ _ _) rfl rfl rfl ?_
   first|refine s1 (C7 (D3 (by omega) (by omega))) rfl rfl rfl ?_|refine s1 (E0 _ _ _) rfl rfl rfl ?_
   first|refine s1 (C7 (D3 (by omega) (by omega))) rfl rfl rfl ?_|refine s1 (E0 _ _ _) rfl rfl rfl ?_
   first|refine s1 (B5p (D3 (by omega) (by omega))) rfl rfl rfl ?_|refine s1 (B4c _ _ _) rfl rfl rfl ?_
   first|refine s1 (C7 (D3 (by omega) (by omega))) rfl rfl rfl ?_|refine s1 (E0 _ _ _) rfl rfl rfl ?_
   first|refine s1 (C7 (D3 (by omega) (by omega))) rfl rfl rfl ?_|refine s1 (E0 _ _ _) rfl rfl rfl ?_
   refine s1 (A3B _ _ _) rfl rfl rfl ?_;refine s4 rfl (fun g12=>?_) fun g12=>?_
   ·have ly:=C53 (fr:=fr) (fc:=fc) (tr:=tr) (tc:=tc) (w:=((el ((el rows).getD (0:Int).toNat default).1).length:Int)) (by omega) (by omega) (by omega) (by omega) (by omega) ‹_›;refine s7 [.str _,.int .i64 _] rfl ?_;first|exact L5 (A0w ‹_›) ‹_›|exact L5 (S4 ‹_› (fun q=>q.2.2 ly)) (by decide)|exact L5 (S4 ‹_› (by unfold A3V A4n;omega)) (by decide)|exact S3 (R6 ‹_› lp) (t6 ‹_›)|exact S3 (R6 ‹_› lp) (A3P _)
   have ln:=C54 (fr:=fr) (fc:=fc) (tr:=tr) (tc:=tc) (w:=((el ((el rows).getD (0:Int).toNat default).1).length:Int)) (by omega) (by omega) (by omega) (by omega) (by omega) ‹_›;have lk:fr=tr→fc≤tc:=(fun e=>by omega);have lp:=C4f (rows:=rows) (fr:=fr) (fc:=fc) (tr:=tr) (tc:=tc) qd.2 (by omega) (by omega) (by omega) (by omega) (by omega) (by omega) (by omega) (by omega) ln;have tl:=B4v (rows:=rows) (fr:=fr) (fc:=fc) (tr:=tr) (tc:=tc) (by omega) (by omega) (by omega);refine s6 (A5m _ _ _ _ _ _ _ ⟨by omega,qd.2.symm,by omega,by omega,by omega,by omega,by omega,by omega,by omega,by omega,lk⟩) rfl (fun _=>rfl) (fun g13=>?_) (fun v13 g13=>?_)
   ·show Tr.sav _ _ _;refine s7 [.str _,.int .i64 _] rfl ?_;first|exact L5 (A0w ‹_›) ‹_›|exact L5 (S4 ‹_› (fun q=>q.2.2 ly)) (by decide)|exact L5 (S4 ‹_› (by unfold A3V A4n;omega)) (by decide)|exact S3 (R6 ‹_› lp) (t6 ‹_›)|exact S3 (R6 ‹_› lp) (A3P _)
   show Tr.sav _ _ (.cons 36 _ _);refine s1 (G9 _ _) rfl rfl rfl ?_;refine s1 (B9C rfl (by omega) (by rw[B0,G4];omega) (fun n h=>C5V h)) rfl rfl rfl ?_;refine s7 [.str _,.int .i64 _] rfl ?_;first|exact L5 (A0w ‹_›) ‹_›|exact L5 (S4 ‹_› (fun q=>q.2.2 ly)) (by decide)|exact L5 (S4 ‹_› (by unfold A3V A4n;omega)) (by decide)|exact S3 (R6 ‹_› lp) (t6 ‹_›)|exact S3 (R6 ‹_› lp) (A3P _)
  ·cases hs
 ·cases hs
def C1r(rows:Option (List Row))(r c:Int):Prop:=0≤r∧r<((el rows).length:Int)∧0≤c∧c≤K1 rows-1
def C6S(rows:Option (List Row))(pr pc qr qc:Int):Prop:=C1r rows pr pc∧C1r rows qr qc
instance(rows:Option (List Row))(r c:Int):Decidable (C1r rows r c):=by unfold C1r;infer_instance
instance(rows:Option (List Row))(fr fc tr tc:Int):Decidable (C6S rows fr fc tr tc):=by unfold C6S;infer_instance
theorem C0y{dc:Int}{l:Option (List Drf)}:1≤((el (c8 dc l)).length:Int)∧((el (c8 dc l)).length:Int)≤12:=by
 have e:∀ (n:Nat) (i:Int),(A1X dc (el l) n i).length=n:=by
  intro n;induction n with
  | zero=>intro i;rfl
  | succ n ih=>intro i;show(A1X dc (el l) n (i+1)).length+1=n+1;rw[ih]
 show 1≤(((A1X dc (el l) (p9 l).toNat 0).length:Nat):Int)∧_≤_;have:((el (c8 dc l)).length:Int)=((A1X dc (el l) (p9 l).toNat 0).length:Nat):=rfl;rw[this,e];unfold p9;omega
def C6R(rows:Option (List Row))(k:Int):Cel:=(el ((el rows).getD (k / K1 rows).toNat default).1).getD (k%K1 rows).toNat default
structure CK (rows:Option (List Row)) (k w:Int):Prop where
 w0:2≤w
 w1:w≤80
 n0:0<((el rows).length:Int)
 n1:((el rows).length:Int)≤140
 d0:0≤k / w
 d1:k / w<((el rows).length:Int)
 m0:0≤k%w
 m1:k%w<w
 k1:k≤11200
 rl:((el ((el rows).getD (k / w).toNat default).1).length:Int)=w
 b0:0≤(C6R rows k).1
 b1:(C6R rows k).1≤1114111
structure WK (rows:Option (List Row)) (r c w:Int):Prop where
 ik:inK rows (r*w+c)
 lo:A0G (el rows) r*w=loK rows (r*w+c)
 ja:jK rows (r*w+c)≤r*w+c
 ij:inK rows (jK rows (r*w+c))
 hi:(V8 (el rows) r+1)*w=hiK rows (jK rows (r*w+c))
 jm:jK rows (r*w+c)≤mK rows (jK rows (r*w+c))
 mm:mK rows (jK rows (r*w+c))=mK rows (r*w+c)
 im:inK rows (mK rows (jK rows (r*w+c)))
 wb:C4c rows r c=(jK rows (r*w+c) / w,jK rows (r*w+c)%w)
 wf:C4a rows r c=(mK rows (r*w+c) / w,mK rows (r*w+c)%w)
 b0:0≤r*w
 b1:r*w≤11200
noncomputable def C33:List (FuncId×FnC):=(61,Q7 Tryd.prog [.s 12] A2i [.s 3])::L0
theorem B9t{G:Nat→Option Obj}(hst:D0 Tryd.prog G gl H0 n0):K3 Tryd.prog G gl C33:=(.cons (A8V hst) .nil)
def A7x:List U→Option (Nat×List U)
 | []=>some (0,[.bool (true)])
 | _=>none
theorem C0f :A7x []=some (0,[.bool (true)]):=rfl
theorem B7L{G:Nat→Option Obj}(hst:D0 Tryd.prog G gl H0 n0):Y5 Tryd.prog G 15 [] A7x [.s 8]:=by
 refine A9e (C:=cx C33 []) (d:=60) (cxg (B9t hst) .nil) hst ⟨Tryd.f15,_,Tryd.func15,rfl⟩ ?_;intro us outs hs;unfold A7x at hs;split at hs
 ·cases hs;exact⟨List.replicate 11 0,by kernel_rfl⟩
 ·cases hs
def rS:Rw (List UInt8):=r1 C5U
def C1K(l:List Row):Nat→Int→Int
 | 0,_=>0
 | n+1,i=>(if(l.getD i.toNat default).2 then 0 else 1)+C1K l n (i+1)
def A6f(l:List Row)(i:Int):Int:=C1K l ((l.length:Int)-1-i).toNat i
theorem A7m{l:List Row}{i:Int}(h:¬i<(l.length:Int)-1):A6f l i=0:=by
 unfold A6f;rw[show((l.length:Int)-1-i).toNat=0 by omega];rfl
theorem B8g{l:List Row}{i:Int}(h:i<(l.length:Int)-1)(h2:(!(l.getD i.toNat default).2)=false):A6f l i=A6f l (i+1):=by
 unfold A6f;rw[show((l.length:Int)-1-i).toNat=((l.length:Int)-1-(i+1)).toNat+1 by omega,C1K,if_pos (by simpa using h2),Int.zero_add]
theorem B8h{l:List Row}{i:Int}(h:i<(l.length:Int)-1)(h2:(!(l.getD i.toNat default).2)=true):A6f l i=1+A6f l (i+1):=by
 unfold A6f;rw[show((l.length:Int)-1-i).toNat=((l.length:Int)-1-(i+1)).toNat+1 by omega,C1K,if_neg (by simpa using h2)]
noncomputable def C4I:List (FuncId×FnC):=(22,Q7 Tryd.prog [.a [4,13]] A38 [.s 12])::(11,Q7 Tryd.prog [.s 12,.a [3,3],.a [3,3]] A4s [.s 9,.s 3])::(16,Q7 Tryd.prog [.s 12,.a [3,3]] A58 [.a [3,3],.a [3,3],.s 3])::(15,Q7 Tryd.prog [] A7x [.s 8])::L0
theorem B9_{G:Nat→Option Obj}(hst:D0 Tryd.prog G gl H0 n0):K3 Tryd.prog G gl C4I:=(.cons (B4h hst) (.cons (B7X hst) (.cons (B8q hst) (.cons (B7L hst) .nil))))
def B0C:List U→Option (Nat×List U)
 | [u_rows,.int .i64 cols,.int .i64 many,.int .i64 i]=>(N9 rRw u_rows).bind fun rows=>if 0≤i∧1≤((el rows).length:Int)∧((el rows).length:Int)≤140∧i≤((el rows).length:Int)∧0≤many∧many≤i then some (0,[B6 rRw rows,.int .i64 cols,.int .i64 (many+A6f (el rows) i)])else none
 | _=>none
theorem A17(rows:(Option (List ((Option (List (Int×Int×Int×Int×Int×Int×Int×Int×Int×Int×Int×Int)))×Bool))))(cols:Int)(many:Int)(i:Int)(hc:0≤i∧1≤((el rows).length:Int)∧((el rows).length:Int)≤140∧i≤((el rows).length:Int)∧0≤many∧many≤i):B0C [B6 rRw rows,.int .i64 cols,.int .i64 many,.int .i64 i]=some (0,[B6 rRw rows,.int .i64 cols,.int .i64 (many+A6f (el rows) i)]):=by
 simp only[B0C,G2,E1];exact if_pos hc
def C3R:S0:=⟨[(3,dat 6 0 12),(4,h 1 3),(5,h 2 3),(6,h 3 3)],[(6,.frz)],4,[⟨.exit 0,[(3,dat 7 0 12),(4,h 1 3),(5,h 2 3)],[(7,.frz)],3⟩]⟩
noncomputable def B8j:Code:=(Tryd.f8.body).getD .skip
noncomputable def C3N:Code:=match G0 [true,true,true,true,true,false,true,false] B8j with|some (.loop x)=>x|_=>.skip
theorem C3Q:Tryd.f8.body=some B8j:=rfl
theorem C3P:G0 [true,true,true,true,true,false,true,false] B8j=some (.loop C3N):=by kernel_rfl
def C3O:Tr:=.lt 3 (.len) [h 0 12]<|.lt 3 (.bin .sub) [h 4 3,jI 1]<|.lt 8 (.bin .lss) [h 3 3,h 5 3]<|.br 6 (.lt 8 (.inbs 2) [h 3 3,h 0 12]<|.br 7 (.lt 8 (.get 2 1) [h 0 12,h 3 3]<|.lt 8 (.un .not) [h 8 8]<|.br 9 (.lt 3 (.bin .add) [h 2 3,jI 1]<|.lt 3 (.bin .add) [h 3 3,jI 1]<|.ret [jI (-1),h 0 12,h 1 3,h 10 3,h 11 3]) (.lt 3 (.bin .add) [h 3 3,jI 1]<|.ret [jI (-1),h 0 12,h 1 3,h 2 3,h 10 3])) (.no)) (.ret [jI 0,h 0 12,h 1 3,h 2 3])
def B8i:List U→Nat
 | [u_rows,.int .i64 cols,.int .i64 many,.int .i64 i]=>(match N9 rRw u_rows with|some rows=>(((el rows).length:Int)-i).toNat|none=>0)
 | _=>0
theorem B1J(rows:(Option (List ((Option (List (Int×Int×Int×Int×Int×Int×Int×Int×Int×Int×Int×Int)))×Bool))))(cols:Int)(many:Int)(i:Int):B8i [B6 rRw rows,.int .i64 cols,.int .i64 many,.int .i64 i]=(((el rows).length:Int)-i).toNat:=by
 simp only[B8i,G2]
theorem C5y{G:Nat→Option Obj}(hst:D0 Tryd.prog G gl H0 n0):∀ (E:Nat→U) (base:Nat),@N3 ⟨E,G⟩ Tryd.prog base gl Tryd.f8.ntmps C3N (M7 Tryd.prog gl n0 8 C3R B0C):=by
 refine U1 (C:=cx C4I []) (dep:=60) (f:=8) (n0:=n0) (nB:=8) (H0:=H0) B8i C3O (cxg (B9_ hst) .nil) hst Tryd.func8 C3Q C3P (by kernel_rfl) (by kernel_rfl) (by kernel_rfl) ?_;intro us d outs hs;have hs0:=hs;unfold B0C at hs;split at hs
 ·skip;rename_i u_rows cols many i;have hq_rows:=B2.1 hs;clear hs;obtain⟨rows,hd_rows,hs⟩:=hq_rows;replace hd_rows:=K0 hd_rows;subst hd_rows;split at hs
  ·rename_i hc;clear hs hs0;refine⟨rfl,?_⟩;unfold C3O;refine s0 (.cons 3 _ (.cons 2 _ (.cons 1 _ (.cons 0 _ (.nil))))) rfl (by simp[Ev.ok,Ev.len]) ?_;refine s1 (G9 _ _) rfl rfl rfl ?_;first|refine s1 (m4 (D3 (by omega) (by omega))) rfl rfl rfl ?_|refine s1 (A0B _ _ _) rfl rfl rfl ?_
   refine s1 (H6 _ _ _) rfl rfl rfl ?_;refine s5 rfl (fun g0=>?_) fun g0=>?_
   ·refine s7 [.int .i64 _,B6 rRw _,.int .i64 _,.int .i64 _] rfl ?_;refine D7 (d:=0) ?_;rw[A17 _ _ _ _ hc,A7m ‹_›,Int.add_zero]
   refine s1 (H1 rfl) rfl rfl rfl ?_;refine s5 rfl (fun g1=>?_) fun g1=>?_
   ·refine s8 ?_;first|omega
   refine s1 (u:=.bool _) (C8 rfl (by omega) (by omega) rfl) rfl rfl rfl ?_;refine s1 (A03 _) rfl rfl rfl ?_;refine s4B rfl (fun g2=>?_) fun g2=>?_
   ·first|refine s1 (C7 (D3 (by omega) (by omega))) rfl rfl rfl ?_|refine s1 (E0 _ _ _) rfl rfl rfl ?_
    first|refine s1 (C7 (D3 (by omega) (by omega))) rfl rfl rfl ?_|refine s1 (E0 _ _ _) rfl rfl rfl ?_
    refine s7 [.int .i64 _,B6 rRw _,.int .i64 _,.int .i64 _,.int .i64 _] rfl ?_;refine D6 ?_ ?_
    ·rw[A17 _ _ _ _ hc];first|(rw[B8g ‹_› ‹_›];exact A17 _ _ _ _ ⟨by omega,by omega,by omega,by omega,by omega,by omega⟩)|(rw[B8h ‹_› ‹_›,← Int.add_assoc];exact A17 _ _ _ _ ⟨by omega,by omega,by omega,by omega,by omega,by omega⟩)
    ·rw[B1J,B1J];omega
   first|refine s1 (C7 (D3 (by omega) (by omega))) rfl rfl rfl ?_|refine s1 (E0 _ _ _) rfl rfl rfl ?_
   refine s7 [.int .i64 _,B6 rRw _,.int .i64 _,.int .i64 _,.int .i64 _] rfl ?_;refine D6 ?_ ?_
   ·rw[A17 _ _ _ _ hc];first|(rw[B8g ‹_› ‹_›];exact A17 _ _ _ _ ⟨by omega,by omega,by omega,by omega,by omega,by omega⟩)|(rw[B8h ‹_› ‹_›,← Int.add_assoc];exact A17 _ _ _ _ ⟨by omega,by omega,by omega,by omega,by omega,by omega⟩)
   ·rw[B1J,B1J];omega
  ·cases hs
 ·cases hs
noncomputable def C0X:List LpE:=(8,([true,true,true,true,true,false,true,false],M7 Tryd.prog gl n0 8 C3R B0C))::[]
theorem B3k{G:Nat→Option Obj}(hst:D0 Tryd.prog G gl H0 n0):Y4 Tryd.prog G gl C0X:=.cons Tryd.func8 C3Q C3P (C5y hst) .nil
def B0a:List U→Option (Nat×List U)
 | [.str s,.str t]=>if t=[10]then some (0,[.int .i64 ((Lib.countByte s 10:Int))])else none
 | _=>none
theorem C1o(s:(List UInt8))(t:(List UInt8))(hc:t=[10]):B0a [.str s,.str t]=some (0,[.int .i64 ((Lib.countByte s 10:Int))]):=if_pos hc
theorem C3x{G:Nat→Option Obj}(hst:D0 Tryd.prog G gl H0 n0):Y5 Tryd.prog G 27 [.s 9,.s 9] B0a [.s 3]:=by
 intro us outs w vs R hsh hs hG hR;unfold B0a at hs;split at hs
 ·skip;rename_i s t;split at hs
  ·rename_i hc;cases hs;have hv:=A2v (vs2:=[.string ⟨⟨s⟩⟩,.string ⟨⟨t⟩⟩]) hsh rfl;subst hv;refine B5y (vr:=[.int .i64 (Lib.countByte s 10)]) Tryd.func27 rfl (by kernel_rfl) rfl ?_;subst hc;exact(Tryd.strings_Count_one ⟨⟨s⟩⟩ 10 w).mono fun e w' ⟨h1,h2⟩=>⟨h1,by subst h2;exact RowKit.Below.refl _ _⟩
  ·cases hs
 ·cases hs
theorem C0q{R:Nat→Option Obj}{x:Option (List (List UInt8))}{sep:List UInt8}{vs:List Value}(h:ShL R [.s 11,.s 9] [B6 rS x,.str sep] vs):∃ v,vs=[v,.string ⟨⟨sep⟩⟩]∧Enc R (B6 rS x) v:=by
 generalize hu:[B6 rS x,U.str sep]=us at h;cases h with
 | cons h1 h2 =>
   cases h1 with
   | s e1 t1 =>
     cases h2 with
     | cons h3 h4 =>
       cases h3 with
       | s e2 t2 =>
         cases h4;simp only[W9,U9,C5,D1,and_true]at hu;obtain⟨rfl,rfl⟩:=hu
         have:=A2F e2 (show toV (.str sep)=some (.string ⟨⟨sep⟩⟩)from rfl);subst this;exact⟨_,rfl,e1⟩
theorem B9H{R:Nat→Option Obj}{x:Option (List (List UInt8))}{v:Value}(h:Enc R (B6 rS x) v):(el x=[]∧∃ a c,v=.slice a 0 c)∨∃ a o c C T fz,v=.slice (some ⟨a,o,none⟩) (el x).length c∧(el x).length≤c∧(el x≠[]→R a=some (.cells C T fz))∧∀ (j:Nat) (s:List UInt8),(el x)[j]? = some s→C[o+j]? = some (.string ⟨⟨s⟩⟩):=by
 rw[X7]at h;generalize hu:U.seq _ _ _=u at h;cases h with
 | sc h=>subst hu;cases h
 | nil =>
   injection hu with h1 h2 h3
   exact .inl ⟨by simpa using h3,_,_,rfl⟩
 | emp =>
   injection hu with h1 h2 h3
   exact .inl ⟨by simpa using h3,_,_,rfl⟩
 | sl hc hg hz hw h =>
   rename_i w rows a o c C T fz;injection hu with h1 h2 h3
   subst h3;have hw1:w=1:=h2.symm;subst hw1;have hl:((el x).map rS.enc).length=(el x).length:=L9 ..;rw[hl]at hc hz;refine .inr ⟨a,o,c,C,T,fz,by rw[hl],hc,fun hn=>hg (by simpa using hn),fun j s hj=>?_⟩;have hn:(el x).map rS.enc≠[]:=by intro e;rw[List.map_eq_nil_iff.1 e]at hj;cases hj
   have hjl:j<(el x).length:=(A9.1 hj).1;have hz:=hz hn;have hlt:o+j<C.size:=by omega
   have:=h j (rS.enc s) 0 (.str s) C[o+j] (by rw[H8,hj];rfl) rfl (by rw[Nat.mul_one,Nat.add_zero];exact G6 hlt);rw[G6 hlt,A2F this (show toV (.str s)=some (.string ⟨⟨s⟩⟩)from rfl)]
def jnS(x:Option (List (List UInt8)))(sep:List UInt8):List UInt8:=Lib.join (el x) sep
theorem B8f(l:List (List UInt8)):(l.map (fun s=>ByteArray.mk ⟨s⟩)).map (·.data.toList)=l:=by
 rw[List.map_map];exact(A09 fun _ _=>rfl).trans (List.map_id _)
def B4V:List U→Option (Nat×List U)
 | [u_x,.str sep]=>(N9 rS u_x).bind fun x=>if((el x).length:Int)≤1000000∧(jnS x sep).length≤1000000000 then some (0,[.str (jnS x sep)])else none
 | _=>none
theorem C4_(x:(Option (List (List UInt8))))(sep:(List UInt8))(hc:((el x).length:Int)≤1000000∧(jnS x sep).length≤1000000000):B4V [B6 rS x,.str sep]=some (0,[.str (jnS x sep)]):=by
 simp only[B4V,G2,E1];exact if_pos hc
theorem C59{G:Nat→Option Obj}(hst:D0 Tryd.prog G gl H0 n0):Y5 Tryd.prog G 28 [.s 11,.s 9] B4V [.s 9]:=by
 intro us outs w vs R hsh hs hG hR;unfold B4V at hs;split at hs
 ·skip;rename_i u_x sep;have hq_x:=B2.1 hs;clear hs;obtain⟨x,hd_x,hs⟩:=hq_x;replace hd_x:=K0 hd_x;subst hd_x;split at hs
  ·rename_i hc;cases hs;refine B5y (vr:=[.string ⟨⟨jnS x sep⟩⟩]) Tryd.func28 rfl (by kernel_rfl) rfl ?_;obtain⟨v,rfl,hv⟩:=C0q hsh;rcases B9H hv with⟨h0,a,c,rfl⟩|⟨a,o,c,C,T,fz,rfl,h1,h2,h3⟩
   ·refine((Tryd.strings_Join_none a c ⟨⟨sep⟩⟩ w).mono fun e w' ⟨g1,g2⟩=>⟨?_,by subst g2;exact RowKit.Below.refl _ _⟩);rw[g1];unfold jnS;rw[h0];rfl
   ·by_cases hn:el x=[]
    ·rw[hn];refine((Tryd.strings_Join_none _ c ⟨⟨sep⟩⟩ w).mono fun e w' ⟨g1,g2⟩=>⟨?_,by subst g2;exact RowKit.Below.refl _ _⟩);rw[g1];unfold jnS;rw[hn];rfl
    ·have hb:=h2 hn;have hw:=hR _ _ hb;have key:=Tryd.strings_Join a o c ((el x).map (fun s=>ByteArray.mk ⟨s⟩)) ⟨⟨sep⟩⟩ w (fun j y hj=>?_) (hR.lt hb) (by rw[L9];omega) (by rw[L9];exact h1) (by rw[B8f];show(jnS x sep).length≤_;have:=hc.2;omega)
     ·rw[L9]at key;refine(key.mono fun e w' ⟨g1,g2⟩=>⟨?_,g2⟩);rw[g1,B8f];rfl
     ·rw[H8]at hj;cases hs:(el x)[j]? with
      | none=>rw[hs]at hj;cases hj
      | some s =>
        rw[hs]at hj;cases hj;simp only[World.cell?,hw];exact h3 j s hs
  ·cases hs
 ·cases hs
def A8d(rows:Option (List Row)):Nat→Int→List (List UInt8)
 | 0,_=>[]
 | n+1,i=>if i<((el rows).length:Int)then A0N rows i 0 (V8 (el rows) i) (K1 rows) i::A8d rows n (V8 (el rows) i+1)else[]
def A7X(rows:Option (List Row))(i:Int):List (List UInt8):=A8d rows (((el rows).length:Int)-i).toNat i
theorem B0I{rows:Option (List Row)}:∀ (n m:Nat) (i:Int),0≤i→(((el rows).length:Int)-i).toNat≤n→(((el rows).length:Int)-i).toNat≤m→A8d rows n i=A8d rows m i
 | 0,0,i,_,_,_=>rfl
 | 0,m+1,i,h0,h,_=>by unfold A8d;rw[if_neg (by omega)]
 | n+1,0,i,h0,_,h=>by unfold A8d;rw[if_neg (by omega)]
 | n+1,m+1,i,h0,h1,h2=>by
   unfold A8d;by_cases hi:i<((el rows).length:Int)
   ·rw[if_pos hi,if_pos hi];have hb:=A6A (l:=el rows) h0 hi;rw[B0I n m _ (by omega) (by omega) (by omega)]
   ·rw[if_neg hi,if_neg hi]
theorem B5Y{rows:Option (List Row)}{i:Int}(h:¬i<((el rows).length:Int)):A7X rows i=[]:=by
 unfold A7X;rw[show(((el rows).length:Int)-i).toNat=0 by omega];rfl
theorem B4P{rows:Option (List Row)}{i:Int}(h0:0≤i)(h:i<((el rows).length:Int)):A7X rows i=A0N rows i 0 (V8 (el rows) i) (K1 rows) i::A7X rows (V8 (el rows) i+1):=by
 have hb:=A6A (l:=el rows) h0 h;unfold A7X;rw[show(((el rows).length:Int)-i).toNat=(((el rows).length:Int)-(i+1)).toNat+1 by omega,A8d,if_pos h,B0I _ (((el rows).length:Int)-(V8 (el rows) i+1)).toNat _ (by omega) (by omega) (A7 _)]
theorem B8n{l:List Row}:∀ (n:Nat) (i:Int),0≤i→i<(l.length:Int)→((l.length:Int)-i).toNat=n→(∀ j,i≤j→j<V8 l i→(l.getD j.toNat default).2=true)∧(V8 l i+1=(l.length:Int)∨(l.getD (V8 l i).toNat default).2=false)
 | 0,i,h0,h,hn=>by omega
 | n+1,i,h0,h,hn=>by
   by_cases e:(l.getD i.toNat default).2=true∧i+1<(l.length:Int)
   ·have ih:=B8n n (i+1) (by omega) e.2 (by omega);rw[B5R h0 e.1 e.2];refine⟨fun j h1 h2=>?_,ih.2⟩;by_cases hj:j=i
    ·subst hj;exact e.1
    ·exact ih.1 j (by omega) h2
   ·have e2:(l.getD i.toNat default).2=false∨¬i+1<(l.length:Int):=by
     by_cases q:(l.getD i.toNat default).2=true
     ·exact .inr fun q2=>e ⟨q,q2⟩
     ·exact .inl (by simpa using q)
    rw[A8Y h0 e2];refine⟨fun j h1 h2=>by omega,?_⟩;rcases e2 with q|q
    ·exact .inr q
    ·exact .inl (by omega)
def C0g(rows:Option (List Row))(i:Int):List UInt8:=T7 (el (A9V ((el rows).getD i.toNat default) 0 (K1 rows) (K1 rows)))
theorem A3v{rows:Option (List Row)}{fr tr i:Int}:A18 rows fr 0 tr (K1 rows) i=C0g rows i++nlT ((el rows).getD i.toNat default) i tr:=by
 have a:aT fr 0 i=0:=by unfold aT;split<;>rfl
 have b:eT tr (K1 rows) (K1 rows) i=K1 rows:=by unfold eT;split<;>rfl
 unfold A18 sgT C0g;rw[a,b]
theorem A9l{rows:Option (List Row)}{i l:Int}(h0:0≤i)(hl:l<((el rows).length:Int))(hw:∀ j,i≤j→j<l→((el rows).getD j.toNat default).2=true)(hx:l+1=((el rows).length:Int)∨((el rows).getD l.toNat default).2=false) :
  ∀ (n:Nat) (k:Int),i≤k→k≤l→(l-k).toNat=n→A0N rows 0 0 (((el rows).length:Int)-1) (K1 rows) k=A0N rows i 0 l (K1 rows) k++(if l+1<((el rows).length:Int)then[10]else[])++A0N rows 0 0 (((el rows).length:Int)-1) (K1 rows) (l+1)
 | 0,k,h1,h2,hn=>by
   have:k=l:=by omega
   subst this;rw[A1x (by omega),A1x (rows:=rows) (fr:=i) (tr:=k) (A2N _),A5l (rows:=rows) (fr:=i) (tr:=k) (by omega),A3v,A3v,C5,← N1 (tr:=k) (.inr (by omega)),C5];congr 2
   by_cases q:k+1<((el rows).length:Int)
   ·rw[if_pos q,← X1 (by rcases hx with x|x;omega;rw[x];rfl) (by omega)]
   ·rw[if_neg q,← N1 (.inr (by omega))]
 | n+1,k,h1,h2,hn=>by
   have hk:=hw k h1 (by omega);rw[A1x (by omega),A1x (rows:=rows) (fr:=i) (tr:=l) h2,A3v,A3v,← N1 (tr:=l) (.inl (by rw[hk];rfl)),← N1 (tr:=((el rows).length:Int)-1) (.inl (by rw[hk];rfl)),A9l h0 hl hw hx n (k+1) (by omega) (by omega) (by omega)];simp only[C5,C4]
theorem B8_{l:List Row}{i:Int}(h0:0≤i)(h:i<(l.length:Int)):V8 l i+1<(l.length:Int)→A0G l (V8 l i+1)=V8 l i+1:=fun h2=>by
 have hb:=A6A (l:=l) h0 h;rcases(B8n _ i h0 h rfl).2 with x|x
 ·omega
 ·exact B1T (by omega) (by rw[Int.add_sub_cancel];exact x)
theorem B18{rows:Option (List Row)}:∀ (n:Nat) (i:Int),0≤i→i<((el rows).length:Int)→(((el rows).length:Int)-i).toNat≤n→Lib.join (A7X rows i) [10]=A0N rows 0 0 (((el rows).length:Int)-1) (K1 rows) i
 | 0,i,h0,h,hn=>by omega
 | n+1,i,h0,h,hn=>by
   have hb:=A6A (l:=el rows) h0 h;have hx:=B8n _ i h0 h rfl;rw[B4P h0 h,A9l h0 hb.2.2.2 hx.1 hx.2 _ i (A2N _) hb.2.2.1 rfl];by_cases q:V8 (el rows) i+1<((el rows).length:Int)
   ·rw[if_pos q,← B18 n (V8 (el rows) i+1) (by omega) q (by omega)];rw[B4P (by omega) q];unfold Lib.join;rw[List.intercalate_cons_cons]
   ·have e:A0N rows 0 0 (((el rows).length:Int)-1) (K1 rows) (V8 (el rows) i+1)=[]:=A5l (by omega);rw[if_neg q,B5Y q,e];simp[Lib.join,List.intercalate]
theorem C06{c:Int}(h:32≤c):∀ x ∈ A5H c,x≠10:=by
 intro x hx;unfold A5H at hx;split at hx
 ·simp only[B3,J3,or_false]at hx;omega
 ·split at hx
  ·simp only[B3,J3,or_false]at hx;omega
  ·split at hx
   ·simp only[B3,J3,or_false]at hx;omega
   ·simp only[B3,J3,or_false]at hx;omega
theorem C05{c:Int}(h:0≤c)(h2:c≤1114111):∀ x ∈ A5H c,0≤x∧x<256:=by
 intro x hx;unfold A5H at hx;split at hx
 ·simp only[B3,J3,or_false]at hx;omega
 ·split at hx
  ·simp only[B3,J3,or_false]at hx;omega
  ·split at hx
   ·simp only[B3,J3,or_false]at hx;omega
   ·simp only[B3,J3,or_false]at hx;omega
theorem B4_{c:Int}(h:32≤c)(h2:c≤1114111):(10:UInt8) ∉ A3Y c:=by
 intro hm;unfold A3Y iB at hm;obtain⟨x,hx,he⟩:=Q8.1 hm;have h3:32≤B4F c:=by unfold B4F;split<;>omega
 have h4:B4F c≤1114111:=by unfold B4F;split<;>omega
 have h1:=C06 h3 x hx;have h2:=C05 (by omega) h4 x hx
 have:=congrArg UInt8.toNat he;rw[UInt8.toNat_ofNat']at this;have e:(10:UInt8).toNat=10:=rfl;rw[e]at this;omega
theorem B7S{c:Int}(h:0≤A1u c):32≤c:=by
 unfold A1u at h;split at h
 ·omega
 ·omega
theorem C1q{c:Cel}(h:A6O c=0):(10:UInt8) ∉ A6t c:=by
 have f:=C5B h;have hb:=C5C f;unfold P8 at f;by_cases h2:wdC c=2
 ·rw[A4A h2];simp
 ·rw[L3 h2];rcases f with f|f
  ·exact absurd f.2.2.2 h2
  ·obtain⟨f1,f2,f3,f4,f5⟩:=f;have a:=B4_ (B7S (c:=c.1) (by omega)) hb.1.2;have mk:∀ m:Int,(m=0∨A1u m=0)→m≤1114111→(10:UInt8) ∉ mkT m:=fun m hm hm2=>by
    unfold mkT;split
    ·simp
    ·exact B4_ (B7S (by omega)) hm2
   have b:=mk c.2.1 f4 hb.2.1.2;have d:=mk c.2.2.1 (f5.imp (fun x=>x) (·.2)) hb.2.2.1.2;simp only[B4,not_or];exact⟨⟨a,b⟩,d⟩
theorem B50:∀ {l:List Cel},(∀ c ∈ l,A6O c=0)→(10:UInt8) ∉ T7 l
 | [],_=>by simp[T7]
 | c::r,h=>by
   have a:=C1q (h c B7);have b:=B50 (l:=r) fun x hx=>h x (C6 _ hx)
   simp only[T7,B4,not_or];exact⟨a,b⟩
theorem C0z{l:List Cel}(h:A1Y l=0):∀ c ∈ l,A6O c=0:=by
 intro c hc;obtain⟨n,hn,he⟩:=List.mem_iff_getElem.1 hc
 have:=(B6d h (i:=(n:Int)) (by omega) (by omega)).1;rw[V4,B5,A6 hn]at this;rw[← he];exact this
theorem C0t{r:Row}{a b cols:Int}(h:A1Y (el r.1)=0):∀ c ∈ el (A9V r a b cols),A6O c=0:=by
 intro c hc;refine C0z h c ?_;unfold A9V at hc;split at hc
 ·unfold w9 at hc;rw[A6M]at hc;have hc:=j7 (i9 hc);rw[A6M]at hc;exact j7 (i9 hc)
 ·rw[A6M]at hc;exact j7 (i9 hc)
theorem C5b{rows:Option (List Row)}(h:W1 rows=0){i:Int}(h0:0≤i)(h1:i<((el rows).length:Int)):(C0g rows i).count 10=0:=by
 unfold C0g;exact List.count_eq_zero.2 (B50 (C0t ((A2J h).2.2 _ (y8 h0 h1)).1))
theorem A9m{rows:Option (List Row)}(h:W1 rows=0):∀ (n:Nat) (i:Int),0≤i→i≤((el rows).length:Int)→(((el rows).length:Int)-i).toNat=n→((A0N rows 0 0 (((el rows).length:Int)-1) (K1 rows) i).count 10:Int)=A6f (el rows) i
 | 0,i,h0,h1,hn=>by rw[A5l (by omega),A7m (by omega)];rfl
 | n+1,i,h0,h1,hn=>by
   rw[A1x (by omega),A3v,List.count_append,List.count_append,C5b h h0 (by omega)];have ih:=A9m h n (i+1) (by omega) (by omega) (by omega);by_cases q:i<((el rows).length:Int)-1
   ·cases hw:((el rows).getD i.toNat default).2 with
    | true =>
      have hw':(!((el rows).getD i.toNat default).2)=false:=by rw[hw];rfl
      rw[← N1 (.inl hw'),B8g q hw',← ih];simp
    | false =>
      have hw':(!((el rows).getD i.toNat default).2)=true:=by rw[hw];rfl
      rw[← X1 hw' q,B8h q hw',← ih];simp
   ·rw[← N1 (.inr q),A7m q];have:A6f (el rows) (i+1)=0:=A7m (by omega);rw[this]at ih;have h3:([]:List UInt8).count 10=0:=rfl;omega
theorem C1O{rows:Option (List Row)}{cols i:Int}(h:W1 rows=0)(ha:A08 rows)(hw:cols=K1 rows)(h0:0≤i)(h1:i<((el rows).length:Int))(hf:A0G (el rows) i=i):A58 [B6 rRw rows,.int .i64 i,.int .i64 cols]=some (0,[.int .i64 i,.int .i64 0,.int .i64 (V8 (el rows) i),.int .i64 cols,.int .i64 0]):=by
 subst hw;have hc:=A3F h;have e:A2h rows 0 i (K1 rows)=0:=A7E (fun q=>q h) ⟨h0,h1,by omega,by omega⟩;rw[C1N _ _ _ ha,e];show some (0,[U.int .i64 (ifE 0 (A0G (el rows) i)),_,U.int .i64 (ifE 0 (V8 (el rows) i)),U.int .i64 (ifE 0 (K1 rows)),_])=_;rw[hf];rfl
theorem B7Y{rows:Option (List Row)}{cols i l:Int}(h:W1 rows=0)(ha:A08 rows)(hw:cols=K1 rows)(h0:0≤i)(h1:i≤l)(h2:l<((el rows).length:Int)):A4s [B6 rRw rows,.int .i64 i,.int .i64 0,.int .i64 l,.int .i64 cols]=some (0,[.str (A0N rows i 0 l (K1 rows) i),.int .i64 0]):=by
 subst hw;have hc:=A3F h;have e:A7U rows i 0 l (K1 rows)=0:=R6 (fun q=>q h) ⟨⟨h0,by omega,by omega,by omega⟩,⟨by omega,h2,by omega,by omega⟩,by omega⟩;rw[C0i _ _ _ _ _ ha,e];unfold B6L;rw[e,if_pos rfl]
theorem C4k{rows:Option (List Row)}{i:Int}{x:Option (List (List UInt8))}(h0:0≤i)(h:i<((el rows).length:Int)):M6 (some (el x++[A0N rows i 0 (V8 (el rows) i) (K1 rows) i])) (some (A7X rows (V8 (el rows) i+1)))=M6 x (some (A7X rows i)):=by
 rw[B4P h0 h,← H3]
noncomputable def C39:List (FuncId×FnC):=(22,Q7 Tryd.prog [.a [4,13]] A38 [.s 12])::(11,Q7 Tryd.prog [.s 12,.a [3,3],.a [3,3]] A4s [.s 9,.s 3])::(16,Q7 Tryd.prog [.s 12,.a [3,3]] A58 [.a [3,3],.a [3,3],.s 3])::(15,Q7 Tryd.prog [] A7x [.s 8])::(27,Q7 Tryd.prog [.s 9,.s 9] B0a [.s 3])::(28,Q7 Tryd.prog [.s 11,.s 9] B4V [.s 9])::L0
theorem B9z{G:Nat→Option Obj}(hst:D0 Tryd.prog G gl H0 n0):K3 Tryd.prog G gl C39:=(.cons (B4h hst) (.cons (B7X hst) (.cons (B8q hst) (.cons (B7L hst) (.cons (C3x hst) (.cons (C59 hst) .nil))))))
def A9q:List U→Option (Nat×List U)
 | [u_rows,.int .i64 cols,.str all,u_x,.int .i64 i]=>(N9 rRw u_rows).bind fun rows=>(N9 rS u_x).bind fun x=>if W1 rows=0∧A08 rows∧cols=K1 rows∧0≤i∧i≤((el rows).length:Int)∧(i<((el rows).length:Int)→A0G (el rows) i=i)∧((el x).length:Int)≤i then some (0,[.str all,B6 rS (M6 x (some (A7X rows i)))])else none
 | _=>none
theorem A7f(rows:(Option (List ((Option (List (Int×Int×Int×Int×Int×Int×Int×Int×Int×Int×Int×Int)))×Bool))))(cols:Int)(all:(List UInt8))(x:(Option (List (List UInt8))))(i:Int)(hc:W1 rows=0∧A08 rows∧cols=K1 rows∧0≤i∧i≤((el rows).length:Int)∧(i<((el rows).length:Int)→A0G (el rows) i=i)∧((el x).length:Int)≤i):A9q [B6 rRw rows,.int .i64 cols,.str all,B6 rS x,.int .i64 i]=some (0,[.str all,B6 rS (M6 x (some (A7X rows i)))]):=by
 simp only[A9q,G2,E1];exact if_pos hc
def C2v:S0:=⟨[(3,dat 11 0 12),(4,h 1 3),(7,h 2 9),(9,own 12 3 11),(10,h 4 3),(82,junk),(83,junk),(86,junk),(87,junk),(88,junk),(89,junk),(92,junk),(93,junk),(94,junk),(95,junk),(98,junk),(99,junk),(100,junk),(101,junk)],[(12,.sq 3 11 9 13),(11,.frz),(13,.frz)],5,[⟨.exit 2,[(7,h 0 9),(9,own 14 1 11)],[(14,.sq 1 11 9 15),(15,.frz)],2⟩]⟩
noncomputable def B7y:Code:=(Tryd.f8.body).getD .skip
noncomputable def C2r:Code:=match G0 [true,true,true,true,true,true,true,true,true,false,true,false] B7y with|some (.loop x)=>x|_=>.skip
theorem C2u:Tryd.f8.body=some B7y:=rfl
theorem C2t:G0 [true,true,true,true,true,true,true,true,true,false,true,false] B7y=some (.loop C2r):=by kernel_rfl
def C2s:Tr:=.lt 3 (.len) [h 0 12]<|.lt 8 (.bin .lss) [h 4 3,h 5 3]<|.br 6 (.fn A58 [h 0 12,h 4 3,h 1 3] 5<|.fn A4s [h 0 12,h 7 3,h 8 3,h 9 3,h 10 3] 2<|.lt 8 (.bin .neq) [h 11 3,jI 0]<|.br 14 (.no) (.lt 8 (.bin .neq) [h 13 3,jI 0]<|.br 15 (.no) (.lt 8 (.eqs) [h 7 3,h 4 3,h 8 3,jI 0]<|.lt 8 (.un .not) [h 16 8]<|.br 17 (.no) (.lt 8 (.bin .lss) [h 9 3,h 4 3]<|.br 18 (.no) (.lt 8 (.bin .neq) [h 10 3,h 1 3]<|.br 19 (.no) (.dt 11 (.snoc 1) [h 3 11,h 12 9]<|.lt 3 (.bin .add) [h 9 3,jI 1]<|.ret [jI (-1),h 0 12,h 1 3,h 2 9,h 20 11,h 21 3])))))) (.ret [jI 0,h 2 9,h 3 11])
def B7x:List U→Nat
 | [u_rows,.int .i64 cols,.str all,u_x,.int .i64 i]=>(match N9 rRw u_rows with|some rows=>(match N9 rS u_x with|some x=>(((el rows).length:Int)-i).toNat|none=>0)|none=>0)
 | _=>0
theorem B7w(rows:(Option (List ((Option (List (Int×Int×Int×Int×Int×Int×Int×Int×Int×Int×Int×Int)))×Bool))))(cols:Int)(all:(List UInt8))(x:(Option (List (List UInt8))))(i:Int):B7x [B6 rRw rows,.int .i64 cols,.str all,B6 rS x,.int .i64 i]=(((el rows).length:Int)-i).toNat:=by
 simp only[B7x,G2]
theorem C5g{G:Nat→Option Obj}(hst:D0 Tryd.prog G gl H0 n0):∀ (E:Nat→U) (base:Nat),@N3 ⟨E,G⟩ Tryd.prog base gl Tryd.f8.ntmps C2r (M7 Tryd.prog gl n0 16 C2v A9q):=by
 refine U1 (C:=cx C39 C0X) (dep:=60) (f:=8) (n0:=n0) (nB:=16) (H0:=H0) B7x C2s (cxg (B9z hst) (B3k hst)) hst Tryd.func8 C2u C2t (by kernel_rfl) (by kernel_rfl) (by kernel_rfl) ?_;intro us d outs hs;have hs0:=hs;unfold A9q at hs;split at hs
 ·skip;rename_i u_rows cols all u_x i;have hq_rows:=B2.1 hs;clear hs;obtain⟨rows,hd_rows,hs⟩:=hq_rows;replace hd_rows:=K0 hd_rows;subst hd_rows;have hq_x:=B2.1 hs;clear hs;obtain⟨x,hd_x,hs⟩:=hq_x;replace hd_x:=K0 hd_x;subst hd_x;split at hs
  ·rename_i hc;clear hs hs0;have hl:=A2J hc.1;refine⟨rfl,?_⟩;unfold C2s;refine s0 (.cons 4 _ (.cons 3 _ (.cons 2 _ (.cons 1 _ (.cons 0 _ (.nil)))))) rfl (by simp[Ev.ok,Ev.len]) ?_;refine s1 (G9 _ _) rfl rfl rfl ?_;refine s1 (H6 _ _ _) rfl rfl rfl ?_;refine s5 rfl (fun g0=>?_) fun g0=>?_
   ·refine s7 [.int .i64 _,.str _,B6 rS _] rfl ?_;refine D7 (d:=0) ?_;rw[A7f _ _ _ _ _ hc,B5Y ‹_›];rfl
   have lb:=A6A (l:=el rows) hc.2.2.2.1 g0;have hf:=hc.2.2.2.2.2.1 g0;have fn:=B8_ (l:=el rows) hc.2.2.2.1 g0;refine s3 (C1O hc.1 hc.2.1 hc.2.2.1 hc.2.2.2.1 g0 hf) rfl ?_;show Tr.sav _ _ (.cons 11 _ (.cons 10 _ (.cons 9 _ (.cons 8 _ (.cons 7 _ _)))));refine s32 (B7Y hc.1 hc.2.1 hc.2.2.1 hc.2.2.2.1 lb.2.2.1 lb.2.2.2) rfl rfl ?_;refine s1 (L2 _ _ _) rfl rfl rfl ?_;refine s4 rfl (fun g1=>?_) fun g1=>?_
   ·refine s8 ?_;first|omega|exact absurd rfl ‹_›|(simp at *;done)
   refine s1 (L2 _ _ _) rfl rfl rfl ?_;refine s4 rfl (fun g2=>?_) fun g2=>?_
   ·refine s8 ?_;first|omega|exact absurd rfl ‹_›|(simp at *;done)
   refine s1 rfl rfl rfl rfl ?_;first|refine s1 (A1E _) rfl rfl rfl ?_|refine s1 (A03 _) rfl rfl rfl ?_
   first|refine s4 rfl (fun g3=>?_) (fun g3=>?_)|refine s4B rfl (fun g3=>?_) (fun g3=>?_)
   ·refine s8 ?_;first|omega|exact absurd rfl ‹_›|(simp at *;done)
   refine s1 (H6 _ _ _) rfl rfl rfl ?_;refine s4 rfl (fun g4=>?_) fun g4=>?_
   ·refine s8 ?_;first|omega|exact absurd rfl ‹_›|(simp at *;done)
   refine s1 (L2 _ _ _) rfl rfl rfl ?_;refine s4 rfl (fun g5=>?_) fun g5=>?_
   ·refine s8 ?_;first|omega|exact absurd rfl ‹_›|(simp at *;done)
   refine s2 (r:=rS) (K9 rfl rfl (by decide) (by omega)) rfl rfl ?_;first|refine s1 (C7 (D3 (by omega) (by omega))) rfl rfl rfl ?_|refine s1 (E0 _ _ _) rfl rfl rfl ?_
   refine s7 [.int .i64 _,B6 rRw _,.int .i64 _,.str _,B6 rS _,.int .i64 _] rfl ?_;refine D6 ?_ ?_
   ·rw[A7f _ _ _ _ _ hc,← C4k hc.2.2.2.1 g0];exact A7f _ _ _ _ _ ⟨hc.1,hc.2.1,hc.2.2.1,by omega,by omega,fn,by rw[B0,A0,Y9];omega⟩
   ·rw[B7w,B7w];omega
  ·cases hs
 ·cases hs
noncomputable def C4U:List LpE:=(8,([true,true,true,true,true,true,true,true,true,false,true,false],M7 Tryd.prog gl n0 16 C2v A9q))::C0X
theorem C0U{G:Nat→Option Obj}(hst:D0 Tryd.prog G gl H0 n0):Y4 Tryd.prog G gl C4U:=.cons Tryd.func8 C2u C2t (C5g hst) (B3k hst)
theorem C4i{rows:Option (List Row)}(h:0<((el rows).length:Int)):jnS (M6 none (some (A7X rows 0))) [10]=A0N rows 0 0 (((el rows).length:Int)-1) (K1 rows) 0:=by
 unfold jnS;rw[F2];exact B18 _ 0 (by decide) h (A7 _)
theorem C4j{rows:Option (List Row)}(h:W1 rows=0):((Lib.countByte (A0N rows 0 0 (((el rows).length:Int)-1) (K1 rows) 0) 10:Nat):Int)=0+A6f (el rows) 0:=by
 rw[Int.zero_add];exact A9m h _ 0 (by decide) (by have:=(A2J h).1;omega) rfl
theorem C3e{rows:Option (List Row)}:∀ (n:Nat) (i:Int),(A8d rows n i).length≤n
 | 0,_=>A7 _
 | n+1,i=>by
   unfold A8d;split
   ·have:=C3e (rows:=rows) n (V8 (el rows) i+1);rw[A3];omega
   ·exact A4I _
noncomputable def C6X:List (FuncId×FnC):=(22,Q7 Tryd.prog [.a [4,13]] A38 [.s 12])::(11,Q7 Tryd.prog [.s 12,.a [3,3],.a [3,3]] A4s [.s 9,.s 3])::(16,Q7 Tryd.prog [.s 12,.a [3,3]] A58 [.a [3,3],.a [3,3],.s 3])::(15,Q7 Tryd.prog [] A7x [.s 8])::(27,Q7 Tryd.prog [.s 9,.s 9] B0a [.s 3])::(28,Q7 Tryd.prog [.s 11,.s 9] B4V [.s 9])::L0
theorem C12{G:Nat→Option Obj}(hst:D0 Tryd.prog G gl H0 n0):K3 Tryd.prog G gl C6X:=(.cons (B4h hst) (.cons (B7X hst) (.cons (B8q hst) (.cons (B7L hst) (.cons (C3x hst) (.cons (C59 hst) .nil))))))
def C08:List U→Option (Nat×List U)
 | [.int .u8 dc,u_l]=>(N9 rDr u_l).bind fun l=>if 0≤dc∧dc≤255∧okD l then some (0,[.bool (true)])else none
 | _=>none
theorem C4y(dc:Int)(l:(Option (List (Int×(Option (List Int))×Bool))))(hc:0≤dc∧dc≤255∧okD l):C08 [.int .u8 dc,B6 rDr l]=some (0,[.bool (true)]):=by
 simp only[C08,G2,E1];exact if_pos hc
def C5p:Tr:=.fn A7x [] 1<|.lt 8 (.un .not) [h 2 8]<|.br 3 (.ret [.bool false]) (.fn A38 [h 0 4,h 1 13] 1<|.lt 8 (.inbs 2) [jI 0,h 4 12]<|.br 5 (.dt 22 (.get 2 0) [h 4 12,jI 0]<|.lt 3 (.len) [h 6 22]<|.fn B0C [h 4 12,h 7 3,jI 0,jI 0] 3<|.lt 3 (.len) [h 8 12]<|.lt 3 (.bin .sub) [h 11 3,jI 1]<|.fn A4s [h 8 12,jI 0,jI 0,h 12 3,h 9 3] 2<|.lt 8 (.bin .neq) [h 14 3,jI 0]<|.br 15 (.ret [.bool false]) (.fn B0a [h 13 9,.string ⟨⟨[10]⟩⟩] 1<|.lt 8 (.bin .neq) [h 16 3,h 10 3]<|.br 17 (.ret [.bool false]) (.dt 11 (.nilw 1) []<|.fn A9q [h 8 12,h 9 3,h 13 9,h 18 11,jI 0] 2<|.fn B4V [h 20 11,.string ⟨⟨[10]⟩⟩] 1<|.lt 8 (.bin .eql) [h 21 9,h 19 9]<|.ret [h 22 8]))) (.no))
theorem C6d{G:Nat→Option Obj}(hst:D0 Tryd.prog G gl H0 n0):Y5 Tryd.prog G 8 [.a [4,13]] C08 [.s 8]:=by
 refine J9 (C:=cx C6X C4U) (d:=60) C5p (cxg (C12 hst) (C0U hst)) hst ⟨Tryd.f8,_,Tryd.func8,rfl⟩ (by kernel_rfl) (by kernel_rfl) ?_;intro us outs hs;unfold C08 at hs;split at hs
 ·skip;rename_i dc u_l;have hq_l:=B2.1 hs;clear hs;obtain⟨l,hd_l,hs⟩:=hq_l;replace hd_l:=K0 hd_l;subst hd_l;split at hs
  ·rename_i hc;cases hs;have hv:=B7_ hc.2.2 hc.1 hc.2.1;have hn:=C0y (dc:=dc) (l:=l);have hcl:=A3F hv.1;have hW:=(B4j (c8 dc l)).2;have ht:=B4v (rows:=c8 dc l) (fr:=0) (fc:=0) (tr:=((el (c8 dc l)).length:Int)-1) (tc:=K1 (c8 dc l)) hv.1 (by decide) (by omega);have hj:=C4i (rows:=c8 dc l) (by omega);have hct:=C4j (rows:=c8 dc l) hv.1;have hll:((el (M6 (none:Option (List (List UInt8))) (some (A7X (c8 dc l) 0)))).length:Int)≤1000:=by
    rw[F2]
    have:=C3e (rows:=c8 dc l) (((el (c8 dc l)).length:Int)-0).toNat 0;show((A8d _ _ _).length:Int)≤_;omega
   unfold C5p;refine s0 (.cons 1 _ (.cons 0 _ (.nil))) rfl (by simp[Ev.ok,Ev.len]) ?_;refine s31 C0f rfl ?_;first|refine s1 (A1E _) rfl rfl rfl ?_|refine s1 (A03 _) rfl rfl rfl ?_
   first|refine s4 rfl (fun g0=>?_) (fun g0=>?_)|refine s4B rfl (fun g0=>?_) (fun g0=>?_)
   ·refine s7 [.bool _] rfl ?_;first|(exfalso;first|omega|exact absurd hct ‹_›|(simp at *;done))|(refine congrArg (fun z=>[U.bool z]) ?_;exact decide_eq_true hj)
   refine s31 (B9L _ _ hc) rfl ?_;refine s1 (H1 rfl) rfl rfl rfl ?_;refine s5 rfl (fun g1=>?_) fun g1=>?_
   ·refine s8 ?_;first|omega
   refine s2 (r:=rCl) (C8 rfl (by omega) (by omega) rfl) rfl rfl ?_;refine s1 (G9 _ _) rfl rfl rfl ?_;refine s3 (A17 _ _ _ _ ⟨by decide,by omega,by omega,by omega,by decide,by decide⟩) rfl ?_;show Tr.sav _ _ (.cons 10 _ (.cons 9 _ (.cons 8 _ _)));refine s1 (G9 _ _) rfl rfl rfl ?_;first|refine s1 (m4 (D3 (by omega) (by omega))) rfl rfl rfl ?_|refine s1 (A0B _ _ _) rfl rfl rfl ?_
   refine s32 (B7Y hv.1 hv.2.1 hW.symm (by decide) (by omega) (by omega)) rfl rfl ?_;refine s1 (L2 _ _ _) rfl rfl rfl ?_;refine s4 rfl (fun g2=>?_) fun g2=>?_
   ·refine s7 [.bool _] rfl ?_;first|(exfalso;first|omega|exact absurd hct ‹_›|(simp at *;done))|(refine congrArg (fun z=>[U.bool z]) ?_;exact decide_eq_true hj)
   refine s31 (C1o _ _ rfl) rfl ?_;refine s1 (L2 _ _ _) rfl rfl rfl ?_;refine s4 rfl (fun g3=>?_) fun g3=>?_
   ·refine s7 [.bool _] rfl ?_;first|(exfalso;first|omega|exact absurd hct ‹_›|(simp at *;done))|(refine congrArg (fun z=>[U.bool z]) ?_;exact decide_eq_true hj)
   refine s2 (r:=rS) (A34 rfl) rfl rfl ?_;refine s32 (A7f _ _ _ none _ ⟨hv.1,hv.2.1,hW.symm,by decide,by omega,fun _=>B4a (by decide) (by decide),by decide⟩) rfl rfl ?_;refine s31 (C4_ _ [10] ⟨by omega,by rw[hj];omega⟩) rfl ?_;refine s1 (C5G _ _) rfl rfl rfl ?_;refine s7 [.bool _] rfl ?_;first|(exfalso;first|omega|exact absurd hct ‹_›|(simp at *;done))|(refine congrArg (fun z=>[U.bool z]) ?_;exact decide_eq_true hj)
  ·cases hs
 ·cases hs
end Go.Proofs.YtdkdbjgkedahfaaDoor
