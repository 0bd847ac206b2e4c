/- The law PickFound: for every input the call returns true, and the arguments read behind it as they read before. No condition. -/
import Derived.Test.YtdkdbjgkedahfaaDoorX11
namespace Go.Proofs.YtdkdbjgkedahfaaDoor
set_option linter.all false
open Go Go.Sx
set_option maxRecDepth 100000
set_option linter.unusedVariables false
set_option linter.unusedSimpArgs false
set_option maxHeartbeats 4000000
theorem B7e(u v:List UInt8):O1 (some (bI u)) (some (bI v))=some (bI (u++v)):=by
 cases v with
 | nil=>rw[C8];rfl
 | cons a v=>rw[J6];rfl
theorem lx0{cs:List Cel}{k:Int}(h:(cs.length:Int)≤80)(hk:k+1000≤800000):((el (some (bI (N6 (cs.drop (0:Int).toNat))))).length:Int)+k≤800000:=by
 have a:=A1p cs;rw[T5,B0,G6];omega
theorem lx1{cs:List Cel}{k:Int}(h:(cs.length:Int)≤80)(hk:k+1000≤800000):((el (some (el (some (bI (N6 (cs.drop (0:Int).toNat))))++[10]))).length:Int)+k≤800000:=by
 have a:=A1p cs;rw[T5,B0,B0,A0,G6,A0o];omega
theorem lx2{k:Int}(hk:k+1000≤800000):((el (some (el (none:Option (List Int))++[10]))).length:Int)+k≤800000:=by
 show(1:Int)+k≤_;omega
theorem A2f{cs:List Cel}(h:(cs.length:Int)≤80):(el (some (bI (N6 (cs.drop (0:Int).toNat))))).length+1≤1000000000:=by
 have a:=A1p cs;rw[T5,B0,G6];omega
theorem A70{cs:List Cel}:some (bI (N6 (cs.drop (0:Int).toNat)))=some (bI (N6 cs++[])):=by rw[T5,C8]
theorem B2m{cs:List Cel}:some (el (some (bI (N6 (cs.drop (0:Int).toNat))))++[10])=some (bI (N6 cs++[10])):=by rw[T5,C7L]
theorem B2l{cs:List Cel}(h:noT (cs.drop (0:Int).toNat)=none):some (el (none:Option (List Int))++[10])=some (bI (N6 cs++[10])):=by rw[A6W (l:=cs) h];rfl
noncomputable def C4e:List (FuncId×FnC):=(61,R7 Tryd.prog [.s 12] A1C [.s 3])::(64,R7 Tryd.prog [.s 3] A0U [.s 9])::(32,R7 Tryd.prog [.s 22] A08 [.s 22])::L0
theorem C0Z{G:Nat→Option Obj}(hst:D2 Tryd.prog G gl H0 n0):K2 Tryd.prog G gl C4e:=(.cons (A5J hst) (.cons (A7f hst) (.cons (B2i hst) .nil)))
def A5H:List U→Option (Nat×List U)
 | [u_rows,.int .i64 cols,.int .i64 i,.int .i64 fr,.int .i64 fc,.int .i64 tr,.int .i64 tc]=>(P3 rRw u_rows).bind fun rows=>if V5 rows=0∧cols=D0 rows∧0≤fr∧fr≤i∧tr<((el rows).length:Int)∧i≤tr+1∧0≤fc∧fc≤cols∧0≤tc∧tc≤cols∧(fr=tr→fc≤tc)then A0Q (noI rows fr fc tr tc i) [] (fun _=>[B2 rB (some (bI (A07 rows fr fc tr tc i)))])else none
 | _=>none
theorem A6D(rows:(Option (List ((Option (List (Int×Int×Int×Int×Int×Int×Int×Int×Int×Int×Int×Int)))×Bool))))(cols:Int)(i:Int)(fr:Int)(fc:Int)(tr:Int)(tc:Int)(hc:V5 rows=0∧cols=D0 rows∧0≤fr∧fr≤i∧tr<((el rows).length:Int)∧i≤tr+1∧0≤fc∧fc≤cols∧0≤tc∧tc≤cols∧(fr=tr→fc≤tc)):A5H [B2 rRw rows,.int .i64 cols,.int .i64 i,.int .i64 fr,.int .i64 fc,.int .i64 tr,.int .i64 tc]=A0Q (noI rows fr fc tr tc i) [] (fun _=>[B2 rB (some (bI (A07 rows fr fc tr tc i)))]):=by
 simp only[A5H,G5,E4];exact if_pos hc
def C27:T8:=⟨[(0,dat 8 0 12),(4,.pointer (some ⟨4,0,none⟩)),(5,.pointer (some ⟨5,0,none⟩)),(9,h 1 3),(10,.pointer (some ⟨7,0,none⟩)),(11,h 2 3)],[(4,.cells 29 [h 3 3,h 4 3]),(5,.cells 29 [h 5 3,h 6 3]),(7,.cells 76 [.pointer none,.slice none 0 0]),(8,.frz)],7,[⟨.exit 0,[(10,.pointer (some ⟨7,0,none⟩))],[(7,.cells 76 [.pointer none,.slice none 0 0])],0⟩,⟨.exit 0,[(10,.pointer (some ⟨7,0,none⟩))],[(7,.cells 76 [.pointer (some ⟨7,0,none⟩),own 9 0 11]),(9,.sq 0 11 5 10),(10,.frz)],1⟩]⟩
noncomputable def B8D:Code:=(Tryd.f11.body).getD .skip
noncomputable def C23:Code:=match G3 [true,true,true,true,true,false,true,false] B8D with|some (.loop x)=>x|_=>.skip
theorem C26:Tryd.f11.body=some B8D:=rfl
theorem C25:G3 [true,true,true,true,true,false,true,false] B8D=some (.loop C23):=by kernel_rfl
def C24:Tr:=.lt 8 (.bin .leq) [h 2 3,h 5 3]<|.br 7 (.lt 8 (.bin .eql) [h 2 3,h 3 3]<|.br 8 (.lt 8 (.bin .eql) [h 2 3,h 5 3]<|.br 9 (.lt 8 (.inbs 2) [h 2 3,h 0 12]<|.br 10 (.dt 22 (.get 2 0) [h 0 12,h 2 3]<|.dt 22 (.subs 12) [h 11 22,h 4 3,h 6 3]<|.lt 8 (.inbs 2) [h 2 3,h 0 12]<|.br 13 (.lt 8 (.get 2 1) [h 0 12,h 2 3]<|.lt 8 (.un .not) [h 14 8]<|.br 15 (.lt 8 (.bin .eql) [h 6 3,h 1 3]<|.br 16 (.fn A08 [h 12 22] 1<|.lt 3 (.len) [h 17 22]<|.lp U4 [h 17 22,h 18 3,jI 0] 0 0 (.lt 8 (.bin .lss) [h 2 3,h 5 3]<|.br 19 (.lt 3 (.bin .add) [h 2 3,jI 1]<|.dt 11 (.mk 1) [.int .u8 (10)]<|.fn Q9 [h 0 12,h 1 3,h 20 3,h 3 3,h 4 3,h 5 3,h 6 3,h 21 11] 1<|.ret [jI 1,h 22 11]) (.lt 3 (.bin .add) [h 2 3,jI 1]<|.ret [jI (-1),h 0 12,h 1 3,h 20 3,h 3 3,h 4 3,h 5 3,h 6 3])) (.lp U4 [h 17 22,h 18 3,jI 0] 1 1 (.lt 8 (.bin .lss) [h 2 3,h 5 3]<|.br 20 (.dt 11 (.snoc 1) [h 19 11,.int .u8 (10)]<|.lt 3 (.bin .add) [h 2 3,jI 1]<|.fn Q9 [h 0 12,h 1 3,h 22 3,h 3 3,h 4 3,h 5 3,h 6 3,h 21 11] 1<|.ret [jI 1,h 23 11]) (.lt 3 (.bin .add) [h 2 3,jI 1]<|.fn Q9 [h 0 12,h 1 3,h 21 3,h 3 3,h 4 3,h 5 3,h 6 3,h 19 11] 1<|.ret [jI 1,h 22 11])) (.no))) (.lt 3 (.len) [h 12 22]<|.lp U4 [h 12 22,h 17 3,jI 0] 0 0 (.lt 8 (.bin .lss) [h 2 3,h 5 3]<|.br 18 (.lt 3 (.bin .add) [h 2 3,jI 1]<|.dt 11 (.mk 1) [.int .u8 (10)]<|.fn Q9 [h 0 12,h 1 3,h 19 3,h 3 3,h 4 3,h 5 3,h 6 3,h 20 11] 1<|.ret [jI 1,h 21 11]) (.lt 3 (.bin .add) [h 2 3,jI 1]<|.ret [jI (-1),h 0 12,h 1 3,h 19 3,h 3 3,h 4 3,h 5 3,h 6 3])) (.lp U4 [h 12 22,h 17 3,jI 0] 1 1 (.lt 8 (.bin .lss) [h 2 3,h 5 3]<|.br 19 (.dt 11 (.snoc 1) [h 18 11,.int .u8 (10)]<|.lt 3 (.bin .add) [h 2 3,jI 1]<|.fn Q9 [h 0 12,h 1 3,h 21 3,h 3 3,h 4 3,h 5 3,h 6 3,h 20 11] 1<|.ret [jI 1,h 22 11]) (.lt 3 (.bin .add) [h 2 3,jI 1]<|.fn Q9 [h 0 12,h 1 3,h 20 3,h 3 3,h 4 3,h 5 3,h 6 3,h 18 11] 1<|.ret [jI 1,h 21 11])) (.no)))) (.lt 3 (.len) [h 12 22]<|.lp U4 [h 12 22,h 16 3,jI 0] 0 0 (.lt 3 (.bin .add) [h 2 3,jI 1]<|.ret [jI (-1),h 0 12,h 1 3,h 17 3,h 3 3,h 4 3,h 5 3,h 6 3]) (.lp U4 [h 12 22,h 16 3,jI 0] 1 1 (.lt 3 (.bin .add) [h 2 3,jI 1]<|.fn Q9 [h 0 12,h 1 3,h 18 3,h 3 3,h 4 3,h 5 3,h 6 3,h 17 11] 1<|.ret [jI 1,h 19 11]) (.no)))) (.no)) (.no)) (.lt 8 (.inbs 2) [h 2 3,h 0 12]<|.br 10 (.dt 22 (.get 2 0) [h 0 12,h 2 3]<|.dt 22 (.subs 12) [h 11 22,h 4 3,h 1 3]<|.lt 8 (.inbs 2) [h 2 3,h 0 12]<|.br 13 (.lt 8 (.get 2 1) [h 0 12,h 2 3]<|.lt 8 (.un .not) [h 14 8]<|.br 15 (.lt 8 (.bin .eql) [h 1 3,h 1 3]<|.br 16 (.fn A08 [h 12 22] 1<|.lt 3 (.len) [h 17 22]<|.lp U4 [h 17 22,h 18 3,jI 0] 0 0 (.lt 8 (.bin .lss) [h 2 3,h 5 3]<|.br 19 (.lt 3 (.bin .add) [h 2 3,jI 1]<|.dt 11 (.mk 1) [.int .u8 (10)]<|.fn Q9 [h 0 12,h 1 3,h 20 3,h 3 3,h 4 3,h 5 3,h 6 3,h 21 11] 1<|.ret [jI 1,h 22 11]) (.lt 3 (.bin .add) [h 2 3,jI 1]<|.ret [jI (-1),h 0 12,h 1 3,h 20 3,h 3 3,h 4 3,h 5 3,h 6 3])) (.lp U4 [h 17 22,h 18 3,jI 0] 1 1 (.lt 8 (.bin .lss) [h 2 3,h 5 3]<|.br 20 (.dt 11 (.snoc 1) [h 19 11,.int .u8 (10)]<|.lt 3 (.bin .add) [h 2 3,jI 1]<|.fn Q9 [h 0 12,h 1 3,h 22 3,h 3 3,h 4 3,h 5 3,h 6 3,h 21 11] 1<|.ret [jI 1,h 23 11]) (.lt 3 (.bin .add) [h 2 3,jI 1]<|.fn Q9 [h 0 12,h 1 3,h 21 3,h 3 3,h 4 3,h 5 3,h 6 3,h 19 11] 1<|.ret [jI 1,h 22 11])) (.no))) (.lt 3 (.len) [h 12 22]<|.lp U4 [h 12 22,h 17 3,jI 0] 0 0 (.lt 8 (.bin .lss) [h 2 3,h 5 3]<|.br 18 (.lt 3 (.bin .add) [h 2 3,jI 1]<|.dt 11 (.mk 1) [.int .u8 (10)]<|.fn Q9 [h 0 12,h 1 3,h 19 3,h 3 3,h 4 3,h 5 3,h 6 3,h 20 11] 1<|.ret [jI 1,h 21 11]) (.lt 3 (.bin .add) [h 2 3,jI 1]<|.ret [jI (-1),h 0 12,h 1 3,h 19 3,h 3 3,h 4 3,h 5 3,h 6 3])) (.lp U4 [h 12 22,h 17 3,jI 0] 1 1 (.lt 8 (.bin .lss) [h 2 3,h 5 3]<|.br 19 (.dt 11 (.snoc 1) [h 18 11,.int .u8 (10)]<|.lt 3 (.bin .add) [h 2 3,jI 1]<|.fn Q9 [h 0 12,h 1 3,h 21 3,h 3 3,h 4 3,h 5 3,h 6 3,h 20 11] 1<|.ret [jI 1,h 22 11]) (.lt 3 (.bin .add) [h 2 3,jI 1]<|.fn Q9 [h 0 12,h 1 3,h 20 3,h 3 3,h 4 3,h 5 3,h 6 3,h 18 11] 1<|.ret [jI 1,h 21 11])) (.no)))) (.lt 3 (.len) [h 12 22]<|.lp U4 [h 12 22,h 16 3,jI 0] 0 0 (.lt 3 (.bin .add) [h 2 3,jI 1]<|.ret [jI (-1),h 0 12,h 1 3,h 17 3,h 3 3,h 4 3,h 5 3,h 6 3]) (.lp U4 [h 12 22,h 16 3,jI 0] 1 1 (.lt 3 (.bin .add) [h 2 3,jI 1]<|.fn Q9 [h 0 12,h 1 3,h 18 3,h 3 3,h 4 3,h 5 3,h 6 3,h 17 11] 1<|.ret [jI 1,h 19 11]) (.no)))) (.no)) (.no))) (.lt 8 (.bin .eql) [h 2 3,h 5 3]<|.br 9 (.lt 8 (.inbs 2) [h 2 3,h 0 12]<|.br 10 (.dt 22 (.get 2 0) [h 0 12,h 2 3]<|.dt 22 (.subs 12) [h 11 22,jI 0,h 6 3]<|.lt 8 (.inbs 2) [h 2 3,h 0 12]<|.br 13 (.lt 8 (.get 2 1) [h 0 12,h 2 3]<|.lt 8 (.un .not) [h 14 8]<|.br 15 (.lt 8 (.bin .eql) [h 6 3,h 1 3]<|.br 16 (.fn A08 [h 12 22] 1<|.lt 3 (.len) [h 17 22]<|.lp U4 [h 17 22,h 18 3,jI 0] 0 0 (.lt 8 (.bin .lss) [h 2 3,h 5 3]<|.br 19 (.lt 3 (.bin .add) [h 2 3,jI 1]<|.dt 11 (.mk 1) [.int .u8 (10)]<|.fn Q9 [h 0 12,h 1 3,h 20 3,h 3 3,h 4 3,h 5 3,h 6 3,h 21 11] 1<|.ret [jI 1,h 22 11]) (.lt 3 (.bin .add) [h 2 3,jI 1]<|.ret [jI (-1),h 0 12,h 1 3,h 20 3,h 3 3,h 4 3,h 5 3,h 6 3])) (.lp U4 [h 17 22,h 18 3,jI 0] 1 1 (.lt 8 (.bin .lss) [h 2 3,h 5 3]<|.br 20 (.dt 11 (.snoc 1) [h 19 11,.int .u8 (10)]<|.lt 3 (.bin .add) [h 2 3,jI 1]<|.fn Q9 [h 0 12,h 1 3,h 22 3,h 3 3,h 4 3,h 5 3,h 6 3,h 21 11] 1<|.ret [jI 1,h 23 11]) (.lt 3 (.bin .add) [h 2 3,jI 1]<|.fn Q9 [h 0 12,h 1 3,h 21 3,h 3 3,h 4 3,h 5 3,h 6 3,h 19 11] 1<|.ret [jI 1,h 22 11])) (.no))) (.lt 3 (.len) [h 12 22]<|.lp U4 [h 12 22,h 17 3,jI 0] 0 0 (.lt 8 (.bin .lss) [h 2 3,h 5 3]<|.br 18 (.lt 3 (.bin .add) [h 2 3,jI 1]<|.dt 11 (.mk 1) [.int .u8 (10)]<|.fn Q9 [h 0 12,h 1 3,h 19 3,h 3 3,h 4 3,h 5 3,h 6 3,h 20 11] 1<|.ret [jI 1,h 21 11]) (.lt 3 (.bin .add) [h 2 3,jI 1]<|.ret [jI (-1),h 0 12,h 1 3,h 19 3,h 3 3,h 4 3,h 5 3,h 6 3])) (.lp U4 [h 12 22,h 17 3,jI 0] 1 1 (.lt 8 (.bin .lss) [h 2 3,h 5 3]<|.br 19 (.dt 11 (.snoc 1) [h 18 11,.int .u8 (10)]<|.lt 3 (.bin .add) [h 2 3,jI 1]<|.fn Q9 [h 0 12,h 1 3,h 21 3,h 3 3,h 4 3,h 5 3,h 6 3,h 20 11] 1<|.ret [jI 1,h 22 11]) (.lt 3 (.bin .add) [h 2 3,jI 1]<|.fn Q9 [h 0 12,h 1 3,h 20 3,h 3 3,h 4 3,h 5 3,h 6 3,h 18 11] 1<|.ret [jI 1,h 21 11])) (.no)))) (.lt 3 (.len) [h 12 22]<|.lp U4 [h 12 22,h 16 3,jI 0] 0 0 (.lt 3 (.bin .add) [h 2 3,jI 1]<|.ret [jI (-1),h 0 12,h 1 3,h 17 3,h 3 3,h 4 3,h 5 3,h 6 3]) (.lp U4 [h 12 22,h 16 3,jI 0] 1 1 (.lt 3 (.bin .add) [h 2 3,jI 1]<|.fn Q9 [h 0 12,h 1 3,h 18 3,h 3 3,h 4 3,h 5 3,h 6 3,h 17 11] 1<|.ret [jI 1,h 19 11]) (.no)))) (.no)) (.no)) (.lt 8 (.inbs 2) [h 2 3,h 0 12]<|.br 10 (.dt 22 (.get 2 0) [h 0 12,h 2 3]<|.dt 22 (.subs 12) [h 11 22,jI 0,h 1 3]<|.lt 8 (.inbs 2) [h 2 3,h 0 12]<|.br 13 (.lt 8 (.get 2 1) [h 0 12,h 2 3]<|.lt 8 (.un .not) [h 14 8]<|.br 15 (.lt 8 (.bin .eql) [h 1 3,h 1 3]<|.br 16 (.fn A08 [h 12 22] 1<|.lt 3 (.len) [h 17 22]<|.lp U4 [h 17 22,h 18 3,jI 0] 0 0 (.lt 8 (.bin .lss) [h 2 3,h 5 3]<|.br 19 (.lt 3 (.bin .add) [h 2 3,jI 1]<|.dt 11 (.mk 1) [.int .u8 (10)]<|.fn Q9 [h 0 12,h 1 3,h 20 3,h 3 3,h 4 3,h 5 3,h 6 3,h 21 11] 1<|.ret [jI 1,h 22 11]) (.lt 3 (.bin .add) [h 2 3,jI 1]<|.ret [jI (-1),h 0 12,h 1 3,h 20 3,h 3 3,h 4 3,h 5 3,h 6 3])) (.lp U4 [h 17 22,h 18 3,jI 0] 1 1 (.lt 8 (.bin .lss) [h 2 3,h 5 3]<|.br 20 (.dt 11 (.snoc 1) [h 19 11,.int .u8 (10)]<|.lt 3 (.bin .add) [h 2 3,jI 1]<|.fn Q9 [h 0 12,h 1 3,h 22 3,h 3 3,h 4 3,h 5 3,h 6 3,h 21 11] 1<|.ret [jI 1,h 23 11]) (.lt 3 (.bin .add) [h 2 3,jI 1]<|.fn Q9 [h 0 12,h 1 3,h 21 3,h 3 3,h 4 3,h 5 3,h 6 3,h 19 11] 1<|.ret [jI 1,h 22 11])) (.no))) (.lt 3 (.len) [h 12 22]<|.lp U4 [h 12 22,h 17 3,jI 0] 0 0 (.lt 8 (.bin .lss) [h 2 3,h 5 3]<|.br 18 (.lt 3 (.bin .add) [h 2 3,jI 1]<|.dt 11 (.mk 1) [.int .u8 (10)]<|.fn Q9 [h 0 12,h 1 3,h 19 3,h 3 3,h 4 3,h 5 3,h 6 3,h 20 11] 1<|.ret [jI 1,h 21 11]) (.lt 3 (.bin .add) [h 2 3,jI 1]<|.ret [jI (-1),h 0 12,h 1 3,h 19 3,h 3 3,h 4 3,h 5 3,h 6 3])) (.lp U4 [h 12 22,h 17 3,jI 0] 1 1 (.lt 8 (.bin .lss) [h 2 3,h 5 3]<|.br 19 (.dt 11 (.snoc 1) [h 18 11,.int .u8 (10)]<|.lt 3 (.bin .add) [h 2 3,jI 1]<|.fn Q9 [h 0 12,h 1 3,h 21 3,h 3 3,h 4 3,h 5 3,h 6 3,h 20 11] 1<|.ret [jI 1,h 22 11]) (.lt 3 (.bin .add) [h 2 3,jI 1]<|.fn Q9 [h 0 12,h 1 3,h 20 3,h 3 3,h 4 3,h 5 3,h 6 3,h 18 11] 1<|.ret [jI 1,h 21 11])) (.no)))) (.lt 3 (.len) [h 12 22]<|.lp U4 [h 12 22,h 16 3,jI 0] 0 0 (.lt 3 (.bin .add) [h 2 3,jI 1]<|.ret [jI (-1),h 0 12,h 1 3,h 17 3,h 3 3,h 4 3,h 5 3,h 6 3]) (.lp U4 [h 12 22,h 16 3,jI 0] 1 1 (.lt 3 (.bin .add) [h 2 3,jI 1]<|.fn Q9 [h 0 12,h 1 3,h 18 3,h 3 3,h 4 3,h 5 3,h 6 3,h 17 11] 1<|.ret [jI 1,h 19 11]) (.no)))) (.no)) (.no)))) (.ret [jI 0])
def B8C:List U→Nat
 | [u_rows,.int .i64 cols,.int .i64 i,.int .i64 fr,.int .i64 fc,.int .i64 tr,.int .i64 tc]=>(match P3 rRw u_rows with|some rows=>(tr+1-i).toNat|none=>0)
 | _=>0
theorem U2(rows:(Option (List ((Option (List (Int×Int×Int×Int×Int×Int×Int×Int×Int×Int×Int×Int)))×Bool))))(cols:Int)(i:Int)(fr:Int)(fc:Int)(tr:Int)(tc:Int):B8C [B2 rRw rows,.int .i64 cols,.int .i64 i,.int .i64 fr,.int .i64 fc,.int .i64 tr,.int .i64 tc]=(tr+1-i).toNat:=by
 simp only[B8C,G5]
theorem C6F{G:Nat→Option Obj}(hst:D2 Tryd.prog G gl H0 n0):∀ (E:Nat→U) (base:Nat),@M9 ⟨E,G⟩ Tryd.prog base gl Tryd.f11.ntmps C23 (M0 Tryd.prog gl n0 11 C27 A5H):=by
 refine V2 (C:=cx C4e C0_) (dep:=60) (f:=11) (n0:=n0) (nB:=11) (H0:=H0) B8C C24 (cxg (C0Z hst) (B4O hst)) hst Tryd.func11 C26 C25 (by kernel_rfl) (by kernel_rfl) (by kernel_rfl) ?_;intro us d outs hs;have hs0:=hs;unfold A5H at hs;split at hs
 ·skip;rename_i u_rows cols i fr fc tr tc;have hq_rows:=B4.1 hs;clear hs;obtain⟨rows,hd_rows,hs⟩:=hq_rows;replace hd_rows:=K5 hd_rows;subst hd_rows;split at hs
  ·rename_i hc;clear hs hs0;have hw:=X8 hc.1;have hn:=S6 hc.1;have hi:fr<tr∨fc≤tc∨fr≠tr:=by by_cases q:fr=tr;exact .inr (.inl (hc.2.2.2.2.2.2.2.2.2.2 q));exact .inr (.inr q)
   have hg:i≤tr→((el ((el rows).getD i.toNat default).1).length:Int)=cols:=fun g=>by rw[hc.2.1];exact(hn.2.2 _ (R6 (l:=el rows) (i:=i) (by omega) (by omega))).2
   have hx:i≤tr→∀ (a e:Int) (s:Option (List Cel)) (z:List UInt8),a=aT fr fc i→e=eT tr tc cols i→s=B2y ((el rows).getD i.toNat default) a e cols→z=nlT ((el rows).getD i.toNat default) i tr→noT ((el s).drop (0:Int).toNat)=none→z=[]→A5H [B2 rRw rows,.int .i64 cols,.int .i64 (i+1),.int .i64 fr,.int .i64 fc,.int .i64 tr,.int .i64 tc]=A5H [B2 rRw rows,.int .i64 cols,.int .i64 i,.int .i64 fr,.int .i64 fc,.int .i64 tr,.int .i64 tc]:=fun g a e s z h1 h2 h3 h4 h5 h6=>by
    have k1:s=sgT rows fr fc tr tc i:=by rw[h3,h1,h2,hc.2.1];rfl
    have h5:noT (el s)=none:=h5;have k2:A2V rows fr fc tr tc i=[]:=by unfold A2V;rw[← k1,← h4,h6,A6W h5];rfl
    rw[A6D rows cols (i+1) fr fc tr tc ⟨hc.1,hc.2.1,by omega,by omega,by omega,by omega,by omega,by omega,by omega,by omega,hc.2.2.2.2.2.2.2.2.2.2⟩,A6D rows cols i fr fc tr tc hc,A6C (rows:=rows) (fr:=fr) (fc:=fc) (tr:=tr) (tc:=tc) g,k2,C5e (rows:=rows) (fr:=fr) (fc:=fc) (tr:=tr) (tc:=tc) g (by rw[← k1];exact h5) (by rw[← h4];exact h6)];rfl
   have hy:i≤tr→∀ X (a e:Int) (s:Option (List Cel)) (z:List UInt8),a=aT fr fc i→e=eT tr tc cols i→s=B2y ((el rows).getD i.toNat default) a e cols→z=nlT ((el rows).getD i.toNat default) i tr→X=some (bI (N6 (el s)++z))→(noT ((el s).drop (0:Int).toNat)≠none∨z≠[])→A5H [B2 rRw rows,.int .i64 cols,.int .i64 i,.int .i64 fr,.int .i64 fc,.int .i64 tr,.int .i64 tc]=some (1,[B2 rB (O1 X (some (bI (A07 rows fr fc tr tc (i+1)))))]):=fun g X a e s z h1 h2 h3 h4 h5 h6=>by
    have k1:s=sgT rows fr fc tr tc i:=by rw[h3,h1,h2,hc.2.1];rfl
    have k2:X=some (bI (A2V rows fr fc tr tc i)):=by rw[h5,k1,h4];rfl
    rw[A6D rows cols i fr fc tr tc hc,C5d (rows:=rows) (fr:=fr) (fc:=fc) (tr:=tr) (tc:=tc) g (fun q=>by
     rw[← k1,← h4]at q;rcases h6 with h|h
     ·exact h q.1
     ·exact h q.2),k2,B7e,← A6C (rows:=rows) (fr:=fr) (fc:=fc) (tr:=tr) (tc:=tc) g];rfl
   refine⟨rfl,?_⟩;unfold C24;refine s0 (.cons 6 _ (.cons 5 _ (.cons 4 _ (.cons 3 _ (.cons 2 _ (.cons 1 _ (.cons 0 _ (.nil)))))))) rfl (by simp[Ev.ok,Ev.len]) ?_;refine s1 (A0d _ _ _) rfl rfl rfl ?_;refine s5 rfl (fun g0=>?_) fun g0=>?_
   ·refine s7 [.int .i64 _] rfl ?_;refine C9 (d:=0) ?_;rw[A6D rows cols i fr fc tr tc hc,C1o (by omega)];rfl
   have hr:=hn.2.2 _ (R6 (l:=el rows) (i:=i) (by omega) (by omega));have hl:=hr.2;have hs1:=A4h (x:=((el rows).getD i.toNat default).1) (n:=80) (by omega);have hs2:=fun a b=>B1N (hs1 a b)
   refine s1 (I4 _ _ _) rfl rfl rfl ?_;refine s4 rfl (fun g1=>?_) fun g1=>?_
   ·refine s1 (I4 _ _ _) rfl rfl rfl ?_;refine s4 rfl (fun g2=>?_) fun g2=>?_
    ·refine s1 (F6 rfl) rfl rfl rfl ?_;refine s5 rfl (fun g3=>?_) fun g3=>?_
     ·refine s8 ?_;first|omega
     refine s2 (r:=rCl) (C6 rfl (by omega) (by omega) rfl) rfl rfl ?_;refine s2 (r:=rCl) (x8 rfl (by omega) (by omega) (by omega)) rfl rfl ?_;refine s1 (F6 rfl) rfl rfl rfl ?_;refine s5 rfl (fun g4=>?_) fun g4=>?_
     ·refine s8 ?_;first|omega
     refine s1 (u:=.bool _) (C6 rfl (by omega) (by omega) rfl) rfl rfl rfl ?_;refine s1 (A1V _) rfl rfl rfl ?_;refine s4B rfl (fun g5=>?_) fun g5=>?_
     ·refine s1 (I4 _ _ _) rfl rfl rfl ?_;refine s4 rfl (fun g6=>?_) fun g6=>?_
      ·refine s31 (A2M _ (F1 (hs1 _ _) (by decide))) rfl ?_;refine s1 (G8 _ _) rfl rfl rfl ?_;refine s6 (S0 _ _ 0 ⟨rfl,by decide,E3 _,F1 (by first|exact hs1 _ _|exact hs2 _ _) (by decide)⟩) rfl (fun _=>rfl) (fun g7=>?_) (fun v7 g7=>?_)
       ·show Tr.sav _ _ _;refine s1 (H7 _ _ _) rfl rfl rfl ?_;refine s4 rfl (fun g8=>?_) fun g8=>?_
        ·first|refine s1 (C7 (B9 (by omega) (by omega))) rfl rfl rfl ?_|refine s1 (D9 _ _ _) rfl rfl rfl ?_
         refine s2 (r:=rB) (p8 [_] rfl (by decide) rfl) rfl rfl ?_;refine s31 (K9 _ _ _ _ _ _ _ _ ⟨hc.1,hc.2.1,by omega,by omega,by omega,by omega,by omega,by omega,by omega,by omega,hc.2.2.2.2.2.2.2.2.2.2,lx2 (by omega)⟩) rfl ?_;refine s7 [.int .i64 _,B2 rB _] rfl ?_;refine C9 (d:=1) ?_;exact hy g0 _ fc tc (y9 (L2 ((el rows).getD i.toNat default).1 (fc:Int).toNat (tc:Int).toNat)) [10] (y0 ‹_›) (A0C ‹_›) ((i7 ‹_› (by first|assumption|rfl)).symm) (j7 ‹_› ‹_›) (B2l ‹_›) (.inr (by decide))
        first|refine s1 (C7 (B9 (by omega) (by omega))) rfl rfl rfl ?_|refine s1 (D9 _ _ _) rfl rfl rfl ?_
        refine s7 [.int .i64 _,B2 rRw _,.int .i64 _,.int .i64 _,.int .i64 _,.int .i64 _,.int .i64 _,.int .i64 _] rfl ?_;refine D5 ?_ ?_
        ·exact hx g0 fc tc (y9 (L2 ((el rows).getD i.toNat default).1 (fc:Int).toNat (tc:Int).toNat)) [] (y0 ‹_›) (A0C ‹_›) ((i7 ‹_› (by first|assumption|rfl)).symm) (P4 (by first|exact .inl ‹_›|exact .inr ‹_›)) ‹_› rfl
        ·rw[U2,U2];omega
       show Tr.sav _ _ (.cons 19 _ _);refine s1 (H7 _ _ _) rfl rfl rfl ?_;refine s4 rfl (fun g8=>?_) fun g8=>?_
       ·refine s2 (r:=rB) (L7 rfl rfl (by decide) (by first|omega|exact A2f (by first|exact hs1 _ _|exact hs2 _ _)|exact w7 (by first|exact hs1 _ _|exact hs2 _ _) (by omega)|(simp only[K0,F7,B0,A0,G6,A3,A4];omega)|(show 0+_≤_;simp only[F7,B0,A0,G6,A3,A4];omega))) rfl rfl ?_;first|refine s1 (C7 (B9 (by omega) (by omega))) rfl rfl rfl ?_|refine s1 (D9 _ _ _) rfl rfl rfl ?_
        refine s31 (K9 _ _ _ _ _ _ _ _ ⟨hc.1,hc.2.1,by omega,by omega,by omega,by omega,by omega,by omega,by omega,by omega,hc.2.2.2.2.2.2.2.2.2.2,lx1 (hs2 _ _) (by omega)⟩) rfl ?_;refine s7 [.int .i64 _,B2 rB _] rfl ?_;refine C9 (d:=1) ?_;exact hy g0 _ fc tc (y9 (L2 ((el rows).getD i.toNat default).1 (fc:Int).toNat (tc:Int).toNat)) [10] (y0 ‹_›) (A0C ‹_›) ((i7 ‹_› (by first|assumption|rfl)).symm) (j7 ‹_› ‹_›) B2m (.inl (fun q=>by simp_all))
       first|refine s1 (C7 (B9 (by omega) (by omega))) rfl rfl rfl ?_|refine s1 (D9 _ _ _) rfl rfl rfl ?_
       refine s31 (K9 _ _ _ _ _ _ _ _ ⟨hc.1,hc.2.1,by omega,by omega,by omega,by omega,by omega,by omega,by omega,by omega,hc.2.2.2.2.2.2.2.2.2.2,lx0 (hs2 _ _) (by omega)⟩) rfl ?_;refine s7 [.int .i64 _,B2 rB _] rfl ?_;refine C9 (d:=1) ?_;exact hy g0 _ fc tc (y9 (L2 ((el rows).getD i.toNat default).1 (fc:Int).toNat (tc:Int).toNat)) [] (y0 ‹_›) (A0C ‹_›) ((i7 ‹_› (by first|assumption|rfl)).symm) (P4 (by first|exact .inl ‹_›|exact .inr ‹_›)) A70 (.inl (fun q=>by simp_all))
      refine s1 (G8 _ _) rfl rfl rfl ?_;refine s6 (S0 _ _ 0 ⟨rfl,by decide,E3 _,F1 (by first|exact hs1 _ _|exact hs2 _ _) (by decide)⟩) rfl (fun _=>rfl) (fun g7=>?_) (fun v7 g7=>?_)
      ·show Tr.sav _ _ _;refine s1 (H7 _ _ _) rfl rfl rfl ?_;refine s4 rfl (fun g8=>?_) fun g8=>?_
       ·first|refine s1 (C7 (B9 (by omega) (by omega))) rfl rfl rfl ?_|refine s1 (D9 _ _ _) rfl rfl rfl ?_
        refine s2 (r:=rB) (p8 [_] rfl (by decide) rfl) rfl rfl ?_;refine s31 (K9 _ _ _ _ _ _ _ _ ⟨hc.1,hc.2.1,by omega,by omega,by omega,by omega,by omega,by omega,by omega,by omega,hc.2.2.2.2.2.2.2.2.2.2,lx2 (by omega)⟩) rfl ?_;refine s7 [.int .i64 _,B2 rB _] rfl ?_;refine C9 (d:=1) ?_;exact hy g0 _ fc tc (L2 ((el rows).getD i.toNat default).1 (fc:Int).toNat (tc:Int).toNat) [10] (y0 ‹_›) (A0C ‹_›) ((Q1 (by first|exact .inl ‹_›|exact .inr ‹_›)).symm) (j7 ‹_› ‹_›) (B2l ‹_›) (.inr (by decide))
       first|refine s1 (C7 (B9 (by omega) (by omega))) rfl rfl rfl ?_|refine s1 (D9 _ _ _) rfl rfl rfl ?_
       refine s7 [.int .i64 _,B2 rRw _,.int .i64 _,.int .i64 _,.int .i64 _,.int .i64 _,.int .i64 _,.int .i64 _] rfl ?_;refine D5 ?_ ?_
       ·exact hx g0 fc tc (L2 ((el rows).getD i.toNat default).1 (fc:Int).toNat (tc:Int).toNat) [] (y0 ‹_›) (A0C ‹_›) ((Q1 (by first|exact .inl ‹_›|exact .inr ‹_›)).symm) (P4 (by first|exact .inl ‹_›|exact .inr ‹_›)) ‹_› rfl
       ·rw[U2,U2];omega
      show Tr.sav _ _ (.cons 18 _ _);refine s1 (H7 _ _ _) rfl rfl rfl ?_;refine s4 rfl (fun g8=>?_) fun g8=>?_
      ·refine s2 (r:=rB) (L7 rfl rfl (by decide) (by first|omega|exact A2f (by first|exact hs1 _ _|exact hs2 _ _)|exact w7 (by first|exact hs1 _ _|exact hs2 _ _) (by omega)|(simp only[K0,F7,B0,A0,G6,A3,A4];omega)|(show 0+_≤_;simp only[F7,B0,A0,G6,A3,A4];omega))) rfl rfl ?_;first|refine s1 (C7 (B9 (by omega) (by omega))) rfl rfl rfl ?_|refine s1 (D9 _ _ _) rfl rfl rfl ?_
       refine s31 (K9 _ _ _ _ _ _ _ _ ⟨hc.1,hc.2.1,by omega,by omega,by omega,by omega,by omega,by omega,by omega,by omega,hc.2.2.2.2.2.2.2.2.2.2,lx1 (hs1 _ _) (by omega)⟩) rfl ?_;refine s7 [.int .i64 _,B2 rB _] rfl ?_;refine C9 (d:=1) ?_;exact hy g0 _ fc tc (L2 ((el rows).getD i.toNat default).1 (fc:Int).toNat (tc:Int).toNat) [10] (y0 ‹_›) (A0C ‹_›) ((Q1 (by first|exact .inl ‹_›|exact .inr ‹_›)).symm) (j7 ‹_› ‹_›) B2m (.inl (fun q=>by simp_all))
      first|refine s1 (C7 (B9 (by omega) (by omega))) rfl rfl rfl ?_|refine s1 (D9 _ _ _) rfl rfl rfl ?_
      refine s31 (K9 _ _ _ _ _ _ _ _ ⟨hc.1,hc.2.1,by omega,by omega,by omega,by omega,by omega,by omega,by omega,by omega,hc.2.2.2.2.2.2.2.2.2.2,lx0 (hs1 _ _) (by omega)⟩) rfl ?_;refine s7 [.int .i64 _,B2 rB _] rfl ?_;refine C9 (d:=1) ?_;exact hy g0 _ fc tc (L2 ((el rows).getD i.toNat default).1 (fc:Int).toNat (tc:Int).toNat) [] (y0 ‹_›) (A0C ‹_›) ((Q1 (by first|exact .inl ‹_›|exact .inr ‹_›)).symm) (P4 (by first|exact .inl ‹_›|exact .inr ‹_›)) A70 (.inl (fun q=>by simp_all))
     refine s1 (G8 _ _) rfl rfl rfl ?_;refine s6 (S0 _ _ 0 ⟨rfl,by decide,E3 _,F1 (by first|exact hs1 _ _|exact hs2 _ _) (by decide)⟩) rfl (fun _=>rfl) (fun g6=>?_) (fun v6 g6=>?_)
     ·show Tr.sav _ _ _;first|refine s1 (C7 (B9 (by omega) (by omega))) rfl rfl rfl ?_|refine s1 (D9 _ _ _) rfl rfl rfl ?_
      refine s7 [.int .i64 _,B2 rRw _,.int .i64 _,.int .i64 _,.int .i64 _,.int .i64 _,.int .i64 _,.int .i64 _] rfl ?_;refine D5 ?_ ?_
      ·exact hx g0 fc tc (L2 ((el rows).getD i.toNat default).1 (fc:Int).toNat (tc:Int).toNat) [] (y0 ‹_›) (A0C ‹_›) ((Q1 (by first|exact .inl ‹_›|exact .inr ‹_›)).symm) (P4 (by first|exact .inl ‹_›|exact .inr ‹_›)) ‹_› rfl
      ·rw[U2,U2];omega
     show Tr.sav _ _ (.cons 17 _ _);first|refine s1 (C7 (B9 (by omega) (by omega))) rfl rfl rfl ?_|refine s1 (D9 _ _ _) rfl rfl rfl ?_
     refine s31 (K9 _ _ _ _ _ _ _ _ ⟨hc.1,hc.2.1,by omega,by omega,by omega,by omega,by omega,by omega,by omega,by omega,hc.2.2.2.2.2.2.2.2.2.2,lx0 (hs1 _ _) (by omega)⟩) rfl ?_;refine s7 [.int .i64 _,B2 rB _] rfl ?_;refine C9 (d:=1) ?_;exact hy g0 _ fc tc (L2 ((el rows).getD i.toNat default).1 (fc:Int).toNat (tc:Int).toNat) [] (y0 ‹_›) (A0C ‹_›) ((Q1 (by first|exact .inl ‹_›|exact .inr ‹_›)).symm) (P4 (by first|exact .inl ‹_›|exact .inr ‹_›)) A70 (.inl (fun q=>by simp_all))
    refine s1 (F6 rfl) rfl rfl rfl ?_;refine s5 rfl (fun g3=>?_) fun g3=>?_
    ·refine s8 ?_;first|omega
    refine s2 (r:=rCl) (C6 rfl (by omega) (by omega) rfl) rfl rfl ?_;refine s2 (r:=rCl) (x8 rfl (by omega) (by omega) (by omega)) rfl rfl ?_;refine s1 (F6 rfl) rfl rfl rfl ?_;refine s5 rfl (fun g4=>?_) fun g4=>?_
    ·refine s8 ?_;first|omega
    refine s1 (u:=.bool _) (C6 rfl (by omega) (by omega) rfl) rfl rfl rfl ?_;refine s1 (A1V _) rfl rfl rfl ?_;refine s4B rfl (fun g5=>?_) fun g5=>?_
    ·refine s1 (I4 _ _ _) rfl rfl rfl ?_;refine s4 rfl (fun g6=>?_) fun g6=>?_
     ·refine s31 (A2M _ (F1 (hs1 _ _) (by decide))) rfl ?_;refine s1 (G8 _ _) rfl rfl rfl ?_;refine s6 (S0 _ _ 0 ⟨rfl,by decide,E3 _,F1 (by first|exact hs1 _ _|exact hs2 _ _) (by decide)⟩) rfl (fun _=>rfl) (fun g7=>?_) (fun v7 g7=>?_)
      ·show Tr.sav _ _ _;refine s1 (H7 _ _ _) rfl rfl rfl ?_;refine s4 rfl (fun g8=>?_) fun g8=>?_
       ·first|refine s1 (C7 (B9 (by omega) (by omega))) rfl rfl rfl ?_|refine s1 (D9 _ _ _) rfl rfl rfl ?_
        refine s2 (r:=rB) (p8 [_] rfl (by decide) rfl) rfl rfl ?_;refine s31 (K9 _ _ _ _ _ _ _ _ ⟨hc.1,hc.2.1,by omega,by omega,by omega,by omega,by omega,by omega,by omega,by omega,hc.2.2.2.2.2.2.2.2.2.2,lx2 (by omega)⟩) rfl ?_;refine s7 [.int .i64 _,B2 rB _] rfl ?_;refine C9 (d:=1) ?_;exact hy g0 _ fc cols (y9 (L2 ((el rows).getD i.toNat default).1 (fc:Int).toNat (cols:Int).toNat)) [10] (y0 ‹_›) (A0D ‹_›) ((i7 ‹_› (by first|assumption|rfl)).symm) (j7 ‹_› ‹_›) (B2l ‹_›) (.inr (by decide))
       first|refine s1 (C7 (B9 (by omega) (by omega))) rfl rfl rfl ?_|refine s1 (D9 _ _ _) rfl rfl rfl ?_
       refine s7 [.int .i64 _,B2 rRw _,.int .i64 _,.int .i64 _,.int .i64 _,.int .i64 _,.int .i64 _,.int .i64 _] rfl ?_;refine D5 ?_ ?_
       ·exact hx g0 fc cols (y9 (L2 ((el rows).getD i.toNat default).1 (fc:Int).toNat (cols:Int).toNat)) [] (y0 ‹_›) (A0D ‹_›) ((i7 ‹_› (by first|assumption|rfl)).symm) (P4 (by first|exact .inl ‹_›|exact .inr ‹_›)) ‹_› rfl
       ·rw[U2,U2];omega
      show Tr.sav _ _ (.cons 19 _ _);refine s1 (H7 _ _ _) rfl rfl rfl ?_;refine s4 rfl (fun g8=>?_) fun g8=>?_
      ·refine s2 (r:=rB) (L7 rfl rfl (by decide) (by first|omega|exact A2f (by first|exact hs1 _ _|exact hs2 _ _)|exact w7 (by first|exact hs1 _ _|exact hs2 _ _) (by omega)|(simp only[K0,F7,B0,A0,G6,A3,A4];omega)|(show 0+_≤_;simp only[F7,B0,A0,G6,A3,A4];omega))) rfl rfl ?_;first|refine s1 (C7 (B9 (by omega) (by omega))) rfl rfl rfl ?_|refine s1 (D9 _ _ _) rfl rfl rfl ?_
       refine s31 (K9 _ _ _ _ _ _ _ _ ⟨hc.1,hc.2.1,by omega,by omega,by omega,by omega,by omega,by omega,by omega,by omega,hc.2.2.2.2.2.2.2.2.2.2,lx1 (hs2 _ _) (by omega)⟩) rfl ?_;refine s7 [.int .i64 _,B2 rB _] rfl ?_;refine C9 (d:=1) ?_;exact hy g0 _ fc cols (y9 (L2 ((el rows).getD i.toNat default).1 (fc:Int).toNat (cols:Int).toNat)) [10] (y0 ‹_›) (A0D ‹_›) ((i7 ‹_› (by first|assumption|rfl)).symm) (j7 ‹_› ‹_›) B2m (.inl (fun q=>by simp_all))
      first|refine s1 (C7 (B9 (by omega) (by omega))) rfl rfl rfl ?_|refine s1 (D9 _ _ _) rfl rfl rfl ?_
      refine s31 (K9 _ _ _ _ _ _ _ _ ⟨hc.1,hc.2.1,by omega,by omega,by omega,by omega,by omega,by omega,by omega,by omega,hc.2.2.2.2.2.2.2.2.2.2,lx0 (hs2 _ _) (by omega)⟩) rfl ?_;refine s7 [.int .i64 _,B2 rB _] rfl ?_;refine C9 (d:=1) ?_;exact hy g0 _ fc cols (y9 (L2 ((el rows).getD i.toNat default).1 (fc:Int).toNat (cols:Int).toNat)) [] (y0 ‹_›) (A0D ‹_›) ((i7 ‹_› (by first|assumption|rfl)).symm) (P4 (by first|exact .inl ‹_›|exact .inr ‹_›)) A70 (.inl (fun q=>by simp_all))
     refine s1 (G8 _ _) rfl rfl rfl ?_;refine s6 (S0 _ _ 0 ⟨rfl,by decide,E3 _,F1 (by first|exact hs1 _ _|exact hs2 _ _) (by decide)⟩) rfl (fun _=>rfl) (fun g7=>?_) (fun v7 g7=>?_)
     ·show Tr.sav _ _ _;refine s1 (H7 _ _ _) rfl rfl rfl ?_;refine s4 rfl (fun g8=>?_) fun g8=>?_
      ·first|refine s1 (C7 (B9 (by omega) (by omega))) rfl rfl rfl ?_|refine s1 (D9 _ _ _) rfl rfl rfl ?_
       refine s2 (r:=rB) (p8 [_] rfl (by decide) rfl) rfl rfl ?_;refine s31 (K9 _ _ _ _ _ _ _ _ ⟨hc.1,hc.2.1,by omega,by omega,by omega,by omega,by omega,by omega,by omega,by omega,hc.2.2.2.2.2.2.2.2.2.2,lx2 (by omega)⟩) rfl ?_;refine s7 [.int .i64 _,B2 rB _] rfl ?_;refine C9 (d:=1) ?_;exact hy g0 _ fc cols (L2 ((el rows).getD i.toNat default).1 (fc:Int).toNat (cols:Int).toNat) [10] (y0 ‹_›) (A0D ‹_›) ((Q1 (by first|exact .inl ‹_›|exact .inr ‹_›)).symm) (j7 ‹_› ‹_›) (B2l ‹_›) (.inr (by decide))
      first|refine s1 (C7 (B9 (by omega) (by omega))) rfl rfl rfl ?_|refine s1 (D9 _ _ _) rfl rfl rfl ?_
      refine s7 [.int .i64 _,B2 rRw _,.int .i64 _,.int .i64 _,.int .i64 _,.int .i64 _,.int .i64 _,.int .i64 _] rfl ?_;refine D5 ?_ ?_
      ·exact hx g0 fc cols (L2 ((el rows).getD i.toNat default).1 (fc:Int).toNat (cols:Int).toNat) [] (y0 ‹_›) (A0D ‹_›) ((Q1 (by first|exact .inl ‹_›|exact .inr ‹_›)).symm) (P4 (by first|exact .inl ‹_›|exact .inr ‹_›)) ‹_› rfl
      ·rw[U2,U2];omega
     show Tr.sav _ _ (.cons 18 _ _);refine s1 (H7 _ _ _) rfl rfl rfl ?_;refine s4 rfl (fun g8=>?_) fun g8=>?_
     ·refine s2 (r:=rB) (L7 rfl rfl (by decide) (by first|omega|exact A2f (by first|exact hs1 _ _|exact hs2 _ _)|exact w7 (by first|exact hs1 _ _|exact hs2 _ _) (by omega)|(simp only[K0,F7,B0,A0,G6,A3,A4];omega)|(show 0+_≤_;simp only[F7,B0,A0,G6,A3,A4];omega))) rfl rfl ?_;first|refine s1 (C7 (B9 (by omega) (by omega))) rfl rfl rfl ?_|refine s1 (D9 _ _ _) rfl rfl rfl ?_
      refine s31 (K9 _ _ _ _ _ _ _ _ ⟨hc.1,hc.2.1,by omega,by omega,by omega,by omega,by omega,by omega,by omega,by omega,hc.2.2.2.2.2.2.2.2.2.2,lx1 (hs1 _ _) (by omega)⟩) rfl ?_;refine s7 [.int .i64 _,B2 rB _] rfl ?_;refine C9 (d:=1) ?_;exact hy g0 _ fc cols (L2 ((el rows).getD i.toNat default).1 (fc:Int).toNat (cols:Int).toNat) [10] (y0 ‹_›) (A0D ‹_›) ((Q1 (by first|exact .inl ‹_›|exact .inr ‹_›)).symm) (j7 ‹_› ‹_›) B2m (.inl (fun q=>by simp_all))
     first|refine s1 (C7 (B9 (by omega) (by omega))) rfl rfl rfl ?_|refine s1 (D9 _ _ _) rfl rfl rfl ?_
     refine s31 (K9 _ _ _ _ _ _ _ _ ⟨hc.1,hc.2.1,by omega,by omega,by omega,by omega,by omega,by omega,by omega,by omega,hc.2.2.2.2.2.2.2.2.2.2,lx0 (hs1 _ _) (by omega)⟩) rfl ?_;refine s7 [.int .i64 _,B2 rB _] rfl ?_;refine C9 (d:=1) ?_;exact hy g0 _ fc cols (L2 ((el rows).getD i.toNat default).1 (fc:Int).toNat (cols:Int).toNat) [] (y0 ‹_›) (A0D ‹_›) ((Q1 (by first|exact .inl ‹_›|exact .inr ‹_›)).symm) (P4 (by first|exact .inl ‹_›|exact .inr ‹_›)) A70 (.inl (fun q=>by simp_all))
    refine s1 (G8 _ _) rfl rfl rfl ?_;refine s6 (S0 _ _ 0 ⟨rfl,by decide,E3 _,F1 (by first|exact hs1 _ _|exact hs2 _ _) (by decide)⟩) rfl (fun _=>rfl) (fun g6=>?_) (fun v6 g6=>?_)
    ·show Tr.sav _ _ _;first|refine s1 (C7 (B9 (by omega) (by omega))) rfl rfl rfl ?_|refine s1 (D9 _ _ _) rfl rfl rfl ?_
     refine s7 [.int .i64 _,B2 rRw _,.int .i64 _,.int .i64 _,.int .i64 _,.int .i64 _,.int .i64 _,.int .i64 _] rfl ?_;refine D5 ?_ ?_
     ·exact hx g0 fc cols (L2 ((el rows).getD i.toNat default).1 (fc:Int).toNat (cols:Int).toNat) [] (y0 ‹_›) (A0D ‹_›) ((Q1 (by first|exact .inl ‹_›|exact .inr ‹_›)).symm) (P4 (by first|exact .inl ‹_›|exact .inr ‹_›)) ‹_› rfl
     ·rw[U2,U2];omega
    show Tr.sav _ _ (.cons 17 _ _);first|refine s1 (C7 (B9 (by omega) (by omega))) rfl rfl rfl ?_|refine s1 (D9 _ _ _) rfl rfl rfl ?_
    refine s31 (K9 _ _ _ _ _ _ _ _ ⟨hc.1,hc.2.1,by omega,by omega,by omega,by omega,by omega,by omega,by omega,by omega,hc.2.2.2.2.2.2.2.2.2.2,lx0 (hs1 _ _) (by omega)⟩) rfl ?_;refine s7 [.int .i64 _,B2 rB _] rfl ?_;refine C9 (d:=1) ?_;exact hy g0 _ fc cols (L2 ((el rows).getD i.toNat default).1 (fc:Int).toNat (cols:Int).toNat) [] (y0 ‹_›) (A0D ‹_›) ((Q1 (by first|exact .inl ‹_›|exact .inr ‹_›)).symm) (P4 (by first|exact .inl ‹_›|exact .inr ‹_›)) A70 (.inl (fun q=>by simp_all))
   refine s1 (I4 _ _ _) rfl rfl rfl ?_;refine s4 rfl (fun g2=>?_) fun g2=>?_
   ·refine s1 (F6 rfl) rfl rfl rfl ?_;refine s5 rfl (fun g3=>?_) fun g3=>?_
    ·refine s8 ?_;first|omega
    refine s2 (r:=rCl) (C6 rfl (by omega) (by omega) rfl) rfl rfl ?_;refine s2 (r:=rCl) (x8 rfl (by omega) (by omega) (by omega)) rfl rfl ?_;refine s1 (F6 rfl) rfl rfl rfl ?_;refine s5 rfl (fun g4=>?_) fun g4=>?_
    ·refine s8 ?_;first|omega
    refine s1 (u:=.bool _) (C6 rfl (by omega) (by omega) rfl) rfl rfl rfl ?_;refine s1 (A1V _) rfl rfl rfl ?_;refine s4B rfl (fun g5=>?_) fun g5=>?_
    ·refine s1 (I4 _ _ _) rfl rfl rfl ?_;refine s4 rfl (fun g6=>?_) fun g6=>?_
     ·refine s31 (A2M _ (F1 (hs1 _ _) (by decide))) rfl ?_;refine s1 (G8 _ _) rfl rfl rfl ?_;refine s6 (S0 _ _ 0 ⟨rfl,by decide,E3 _,F1 (by first|exact hs1 _ _|exact hs2 _ _) (by decide)⟩) rfl (fun _=>rfl) (fun g7=>?_) (fun v7 g7=>?_)
      ·show Tr.sav _ _ _;refine s1 (H7 _ _ _) rfl rfl rfl ?_;refine s4 rfl (fun g8=>?_) fun g8=>?_
       ·first|refine s1 (C7 (B9 (by omega) (by omega))) rfl rfl rfl ?_|refine s1 (D9 _ _ _) rfl rfl rfl ?_
        refine s2 (r:=rB) (p8 [_] rfl (by decide) rfl) rfl rfl ?_;refine s31 (K9 _ _ _ _ _ _ _ _ ⟨hc.1,hc.2.1,by omega,by omega,by omega,by omega,by omega,by omega,by omega,by omega,hc.2.2.2.2.2.2.2.2.2.2,lx2 (by omega)⟩) rfl ?_;refine s7 [.int .i64 _,B2 rB _] rfl ?_;refine C9 (d:=1) ?_;exact hy g0 _ 0 tc (y9 (L2 ((el rows).getD i.toNat default).1 (0:Int).toNat (tc:Int).toNat)) [10] (A0F ‹_›) (A0C ‹_›) ((i7 ‹_› (by first|assumption|rfl)).symm) (j7 ‹_› ‹_›) (B2l ‹_›) (.inr (by decide))
       first|refine s1 (C7 (B9 (by omega) (by omega))) rfl rfl rfl ?_|refine s1 (D9 _ _ _) rfl rfl rfl ?_
       refine s7 [.int .i64 _,B2 rRw _,.int .i64 _,.int .i64 _,.int .i64 _,.int .i64 _,.int .i64 _,.int .i64 _] rfl ?_;refine D5 ?_ ?_
       ·exact hx g0 0 tc (y9 (L2 ((el rows).getD i.toNat default).1 (0:Int).toNat (tc:Int).toNat)) [] (A0F ‹_›) (A0C ‹_›) ((i7 ‹_› (by first|assumption|rfl)).symm) (P4 (by first|exact .inl ‹_›|exact .inr ‹_›)) ‹_› rfl
       ·rw[U2,U2];omega
      show Tr.sav _ _ (.cons 19 _ _);refine s1 (H7 _ _ _) rfl rfl rfl ?_;refine s4 rfl (fun g8=>?_) fun g8=>?_
      ·refine s2 (r:=rB) (L7 rfl rfl (by decide) (by first|omega|exact A2f (by first|exact hs1 _ _|exact hs2 _ _)|exact w7 (by first|exact hs1 _ _|exact hs2 _ _) (by omega)|(simp only[K0,F7,B0,A0,G6,A3,A4];omega)|(show 0+_≤_;simp only[F7,B0,A0,G6,A3,A4];omega))) rfl rfl ?_;first|refine s1 (C7 (B9 (by omega) (by omega))) rfl rfl rfl ?_|refine s1 (D9 _ _ _) rfl rfl rfl ?_
       refine s31 (K9 _ _ _ _ _ _ _ _ ⟨hc.1,hc.2.1,by omega,by omega,by omega,by omega,by omega,by omega,by omega,by omega,hc.2.2.2.2.2.2.2.2.2.2,lx1 (hs2 _ _) (by omega)⟩) rfl ?_;refine s7 [.int .i64 _,B2 rB _] rfl ?_;refine C9 (d:=1) ?_;exact hy g0 _ 0 tc (y9 (L2 ((el rows).getD i.toNat default).1 (0:Int).toNat (tc:Int).toNat)) [10] (A0F ‹_›) (A0C ‹_›) ((i7 ‹_› (by first|assumption|rfl)).symm) (j7 ‹_› ‹_›) B2m (.inl (fun q=>by simp_all))
      first|refine s1 (C7 (B9 (by omega) (by omega))) rfl rfl rfl ?_|refine s1 (D9 _ _ _) rfl rfl rfl ?_
      refine s31 (K9 _ _ _ _ _ _ _ _ ⟨hc.1,hc.2.1,by omega,by omega,by omega,by omega,by omega,by omega,by omega,by omega,hc.2.2.2.2.2.2.2.2.2.2,lx0 (hs2 _ _) (by omega)⟩) rfl ?_;refine s7 [.int .i64 _,B2 rB _] rfl ?_;refine C9 (d:=1) ?_;exact hy g0 _ 0 tc (y9 (L2 ((el rows).getD i.toNat default).1 (0:Int).toNat (tc:Int).toNat)) [] (A0F ‹_›) (A0C ‹_›) ((i7 ‹_› (by first|assumption|rfl)).symm) (P4 (by first|exact .inl ‹_›|exact .inr ‹_›)) A70 (.inl (fun q=>by simp_all))
     refine s1 (G8 _ _) rfl rfl rfl ?_;refine s6 (S0 _ _ 0 ⟨rfl,by decide,E3 _,F1 (by first|exact hs1 _ _|exact hs2 _ _) (by decide)⟩) rfl (fun _=>rfl) (fun g7=>?_) (fun v7 g7=>?_)
     ·show Tr.sav _ _ _;refine s1 (H7 _ _ _) rfl rfl rfl ?_;refine s4 rfl (fun g8=>?_) fun g8=>?_
      ·first|refine s1 (C7 (B9 (by omega) (by omega))) rfl rfl rfl ?_|refine s1 (D9 _ _ _) rfl rfl rfl ?_
       refine s2 (r:=rB) (p8 [_] rfl (by decide) rfl) rfl rfl ?_;refine s31 (K9 _ _ _ _ _ _ _ _ ⟨hc.1,hc.2.1,by omega,by omega,by omega,by omega,by omega,by omega,by omega,by omega,hc.2.2.2.2.2.2.2.2.2.2,lx2 (by omega)⟩) rfl ?_;refine s7 [.int .i64 _,B2 rB _] rfl ?_;refine C9 (d:=1) ?_;exact hy g0 _ 0 tc (L2 ((el rows).getD i.toNat default).1 (0:Int).toNat (tc:Int).toNat) [10] (A0F ‹_›) (A0C ‹_›) ((Q1 (by first|exact .inl ‹_›|exact .inr ‹_›)).symm) (j7 ‹_› ‹_›) (B2l ‹_›) (.inr (by decide))
      first|refine s1 (C7 (B9 (by omega) (by omega))) rfl rfl rfl ?_|refine s1 (D9 _ _ _) rfl rfl rfl ?_
      refine s7 [.int .i64 _,B2 rRw _,.int .i64 _,.int .i64 _,.int .i64 _,.int .i64 _,.int .i64 _,.int .i64 _] rfl ?_;refine D5 ?_ ?_
      ·exact hx g0 0 tc (L2 ((el rows).getD i.toNat default).1 (0:Int).toNat (tc:Int).toNat) [] (A0F ‹_›) (A0C ‹_›) ((Q1 (by first|exact .inl ‹_›|exact .inr ‹_›)).symm) (P4 (by first|exact .inl ‹_›|exact .inr ‹_›)) ‹_› rfl
      ·rw[U2,U2];omega
     show Tr.sav _ _ (.cons 18 _ _);refine s1 (H7 _ _ _) rfl rfl rfl ?_;refine s4 rfl (fun g8=>?_) fun g8=>?_
     ·refine s2 (r:=rB) (L7 rfl rfl (by decide) (by first|omega|exact A2f (by first|exact hs1 _ _|exact hs2 _ _)|exact w7 (by first|exact hs1 _ _|exact hs2 _ _) (by omega)|(simp only[K0,F7,B0,A0,G6,A3,A4];omega)|(show 0+_≤_;simp only[F7,B0,A0,G6,A3,A4];omega))) rfl rfl ?_;first|refine s1 (C7 (B9 (by omega) (by omega))) rfl rfl rfl ?_|refine s1 (D9 _ _ _) rfl rfl rfl ?_
      refine s31 (K9 _ _ _ _ _ _ _ _ ⟨hc.1,hc.2.1,by omega,by omega,by omega,by omega,by omega,by omega,by omega,by omega,hc.2.2.2.2.2.2.2.2.2.2,lx1 (hs1 _ _) (by omega)⟩) rfl ?_;refine s7 [.int .i64 _,B2 rB _] rfl ?_;refine C9 (d:=1) ?_;exact hy g0 _ 0 tc (L2 ((el rows).getD i.toNat default).1 (0:Int).toNat (tc:Int).toNat) [10] (A0F ‹_›) (A0C ‹_›) ((Q1 (by first|exact .inl ‹_›|exact .inr ‹_›)).symm) (j7 ‹_› ‹_›) B2m (.inl (fun q=>by simp_all))
     first|refine s1 (C7 (B9 (by omega) (by omega))) rfl rfl rfl ?_|refine s1 (D9 _ _ _) rfl rfl rfl ?_
     refine s31 (K9 _ _ _ _ _ _ _ _ ⟨hc.1,hc.2.1,by omega,by omega,by omega,by omega,by omega,by omega,by omega,by omega,hc.2.2.2.2.2.2.2.2.2.2,lx0 (hs1 _ _) (by omega)⟩) rfl ?_;refine s7 [.int .i64 _,B2 rB _] rfl ?_;refine C9 (d:=1) ?_;exact hy g0 _ 0 tc (L2 ((el rows).getD i.toNat default).1 (0:Int).toNat (tc:Int).toNat) [] (A0F ‹_›) (A0C ‹_›) ((Q1 (by first|exact .inl ‹_›|exact .inr ‹_›)).symm) (P4 (by first|exact .inl ‹_›|exact .inr ‹_›)) A70 (.inl (fun q=>by simp_all))
    refine s1 (G8 _ _) rfl rfl rfl ?_;refine s6 (S0 _ _ 0 ⟨rfl,by decide,E3 _,F1 (by first|exact hs1 _ _|exact hs2 _ _) (by decide)⟩) rfl (fun _=>rfl) (fun g6=>?_) (fun v6 g6=>?_)
    ·show Tr.sav _ _ _;first|refine s1 (C7 (B9 (by omega) (by omega))) rfl rfl rfl ?_|refine s1 (D9 _ _ _) rfl rfl rfl ?_
     refine s7 [.int .i64 _,B2 rRw _,.int .i64 _,.int .i64 _,.int .i64 _,.int .i64 _,.int .i64 _,.int .i64 _] rfl ?_;refine D5 ?_ ?_
     ·exact hx g0 0 tc (L2 ((el rows).getD i.toNat default).1 (0:Int).toNat (tc:Int).toNat) [] (A0F ‹_›) (A0C ‹_›) ((Q1 (by first|exact .inl ‹_›|exact .inr ‹_›)).symm) (P4 (by first|exact .inl ‹_›|exact .inr ‹_›)) ‹_› rfl
     ·rw[U2,U2];omega
    show Tr.sav _ _ (.cons 17 _ _);first|refine s1 (C7 (B9 (by omega) (by omega))) rfl rfl rfl ?_|refine s1 (D9 _ _ _) rfl rfl rfl ?_
    refine s31 (K9 _ _ _ _ _ _ _ _ ⟨hc.1,hc.2.1,by omega,by omega,by omega,by omega,by omega,by omega,by omega,by omega,hc.2.2.2.2.2.2.2.2.2.2,lx0 (hs1 _ _) (by omega)⟩) rfl ?_;refine s7 [.int .i64 _,B2 rB _] rfl ?_;refine C9 (d:=1) ?_;exact hy g0 _ 0 tc (L2 ((el rows).getD i.toNat default).1 (0:Int).toNat (tc:Int).toNat) [] (A0F ‹_›) (A0C ‹_›) ((Q1 (by first|exact .inl ‹_›|exact .inr ‹_›)).symm) (P4 (by first|exact .inl ‹_›|exact .inr ‹_›)) A70 (.inl (fun q=>by simp_all))
   refine s1 (F6 rfl) rfl rfl rfl ?_;refine s5 rfl (fun g3=>?_) fun g3=>?_
   ·refine s8 ?_;first|omega
   refine s2 (r:=rCl) (C6 rfl (by omega) (by omega) rfl) rfl rfl ?_;refine s2 (r:=rCl) (x8 rfl (by omega) (by omega) (by omega)) rfl rfl ?_;refine s1 (F6 rfl) rfl rfl rfl ?_;refine s5 rfl (fun g4=>?_) fun g4=>?_
   ·refine s8 ?_;first|omega
   refine s1 (u:=.bool _) (C6 rfl (by omega) (by omega) rfl) rfl rfl rfl ?_;refine s1 (A1V _) rfl rfl rfl ?_;refine s4B rfl (fun g5=>?_) fun g5=>?_
   ·refine s1 (I4 _ _ _) rfl rfl rfl ?_;refine s4 rfl (fun g6=>?_) fun g6=>?_
    ·refine s31 (A2M _ (F1 (hs1 _ _) (by decide))) rfl ?_;refine s1 (G8 _ _) rfl rfl rfl ?_;refine s6 (S0 _ _ 0 ⟨rfl,by decide,E3 _,F1 (by first|exact hs1 _ _|exact hs2 _ _) (by decide)⟩) rfl (fun _=>rfl) (fun g7=>?_) (fun v7 g7=>?_)
     ·show Tr.sav _ _ _;refine s1 (H7 _ _ _) rfl rfl rfl ?_;refine s4 rfl (fun g8=>?_) fun g8=>?_
      ·first|refine s1 (C7 (B9 (by omega) (by omega))) rfl rfl rfl ?_|refine s1 (D9 _ _ _) rfl rfl rfl ?_
       refine s2 (r:=rB) (p8 [_] rfl (by decide) rfl) rfl rfl ?_;refine s31 (K9 _ _ _ _ _ _ _ _ ⟨hc.1,hc.2.1,by omega,by omega,by omega,by omega,by omega,by omega,by omega,by omega,hc.2.2.2.2.2.2.2.2.2.2,lx2 (by omega)⟩) rfl ?_;refine s7 [.int .i64 _,B2 rB _] rfl ?_;refine C9 (d:=1) ?_;exact hy g0 _ 0 cols (y9 (L2 ((el rows).getD i.toNat default).1 (0:Int).toNat (cols:Int).toNat)) [10] (A0F ‹_›) (A0D ‹_›) ((i7 ‹_› (by first|assumption|rfl)).symm) (j7 ‹_› ‹_›) (B2l ‹_›) (.inr (by decide))
      first|refine s1 (C7 (B9 (by omega) (by omega))) rfl rfl rfl ?_|refine s1 (D9 _ _ _) rfl rfl rfl ?_
      refine s7 [.int .i64 _,B2 rRw _,.int .i64 _,.int .i64 _,.int .i64 _,.int .i64 _,.int .i64 _,.int .i64 _] rfl ?_;refine D5 ?_ ?_
      ·exact hx g0 0 cols (y9 (L2 ((el rows).getD i.toNat default).1 (0:Int).toNat (cols:Int).toNat)) [] (A0F ‹_›) (A0D ‹_›) ((i7 ‹_› (by first|assumption|rfl)).symm) (P4 (by first|exact .inl ‹_›|exact .inr ‹_›)) ‹_› rfl
      ·rw[U2,U2];omega
     show Tr.sav _ _ (.cons 19 _ _);refine s1 (H7 _ _ _) rfl rfl rfl ?_;refine s4 rfl (fun g8=>?_) fun g8=>?_
     ·refine s2 (r:=rB) (L7 rfl rfl (by decide) (by first|omega|exact A2f (by first|exact hs1 _ _|exact hs2 _ _)|exact w7 (by first|exact hs1 _ _|exact hs2 _ _) (by omega)|(simp only[K0,F7,B0,A0,G6,A3,A4];omega)|(show 0+_≤_;simp only[F7,B0,A0,G6,A3,A4];omega))) rfl rfl ?_;first|refine s1 (C7 (B9 (by omega) (by omega))) rfl rfl rfl ?_|refine s1 (D9 _ _ _) rfl rfl rfl ?_
      refine s31 (K9 _ _ _ _ _ _ _ _ ⟨hc.1,hc.2.1,by omega,by omega,by omega,by omega,by omega,by omega,by omega,by omega,hc.2.2.2.2.2.2.2.2.2.2,lx1 (hs2 _ _) (by omega)⟩) rfl ?_;refine s7 [.int .i64 _,B2 rB _] rfl ?_;refine C9 (d:=1) ?_;exact hy g0 _ 0 cols (y9 (L2 ((el rows).getD i.toNat default).1 (0:Int).toNat (cols:Int).toNat)) [10] (A0F ‹_›) (A0D ‹_›) ((i7 ‹_› (by first|assumption|rfl)).symm) (j7 ‹_› ‹_›) B2m (.inl (fun q=>by simp_all))
     first|refine s1 (C7 (B9 (by omega) (by omega))) rfl rfl rfl ?_|refine s1 (D9 _ _ _) rfl rfl rfl ?_
     refine s31 (K9 _ _ _ _ _ _ _ _ ⟨hc.1,hc.2.1,by omega,by omega,by omega,by omega,by omega,by omega,by omega,by omega,hc.2.2.2.2.2.2.2.2.2.2,lx0 (hs2 _ _) (by omega)⟩) rfl ?_;refine s7 [.int .i64 _,B2 rB _] rfl ?_;refine C9 (d:=1) ?_;exact hy g0 _ 0 cols (y9 (L2 ((el rows).getD i.toNat default).1 (0:Int).toNat (cols:Int).toNat)) [] (A0F ‹_›) (A0D ‹_›) ((i7 ‹_› (by first|assumption|rfl)).symm) (P4 (by first|exact .inl ‹_›|exact .inr ‹_›)) A70 (.inl (fun q=>by simp_all))
    refine s1 (G8 _ _) rfl rfl rfl ?_;refine s6 (S0 _ _ 0 ⟨rfl,by decide,E3 _,F1 (by first|exact hs1 _ _|exact hs2 _ _) (by decide)⟩) rfl (fun _=>rfl) (fun g7=>?_) (fun v7 g7=>?_)
    ·show Tr.sav _ _ _;refine s1 (H7 _ _ _) rfl rfl rfl ?_;refine s4 rfl (fun g8=>?_) fun g8=>?_
     ·first|refine s1 (C7 (B9 (by omega) (by omega))) rfl rfl rfl ?_|refine s1 (D9 _ _ _) rfl rfl rfl ?_
      refine s2 (r:=rB) (p8 [_] rfl (by decide) rfl) rfl rfl ?_;refine s31 (K9 _ _ _ _ _ _ _ _ ⟨hc.1,hc.2.1,by omega,by omega,by omega,by omega,by omega,by omega,by omega,by omega,hc.2.2.2.2.2.2.2.2.2.2,lx2 (by omega)⟩) rfl ?_;refine s7 [.int .i64 _,B2 rB _] rfl ?_;refine C9 (d:=1) ?_;exact hy g0 _ 0 cols (L2 ((el rows).getD i.toNat default).1 (0:Int).toNat (cols:Int).toNat) [10] (A0F ‹_›) (A0D ‹_›) ((Q1 (by first|exact .inl ‹_›|exact .inr ‹_›)).symm) (j7 ‹_› ‹_›) (B2l ‹_›) (.inr (by decide))
     first|refine s1 (C7 (B9 (by omega) (by omega))) rfl rfl rfl ?_|refine s1 (D9 _ _ _) rfl rfl rfl ?_
     refine s7 [.int .i64 _,B2 rRw _,.int .i64 _,.int .i64 _,.int .i64 _,.int .i64 _,.int .i64 _,.int .i64 _] rfl ?_;refine D5 ?_ ?_
     ·exact hx g0 0 cols (L2 ((el rows).getD i.toNat default).1 (0:Int).toNat (cols:Int).toNat) [] (A0F ‹_›) (A0D ‹_›) ((Q1 (by first|exact .inl ‹_›|exact .inr ‹_›)).symm) (P4 (by first|exact .inl ‹_›|exact .inr ‹_›)) ‹_› rfl
     ·rw[U2,U2];omega
    show Tr.sav _ _ (.cons 18 _ _);refine s1 (H7 _ _ _) rfl rfl rfl ?_;refine s4 rfl (fun g8=>?_) fun g8=>?_
    ·refine s2 (r:=rB) (L7 rfl rfl (by decide) (by first|omega|exact A2f (by first|exact hs1 _ _|exact hs2 _ _)|exact w7 (by first|exact hs1 _ _|exact hs2 _ _) (by omega)|(simp only[K0,F7,B0,A0,G6,A3,A4];omega)|(show 0+_≤_;simp only[F7,B0,A0,G6,A3,A4];omega))) rfl rfl ?_;first|refine s1 (C7 (B9 (by omega) (by omega))) rfl rfl rfl ?_|refine s1 (D9 _ _ _) rfl rfl rfl ?_
     refine s31 (K9 _ _ _ _ _ _ _ _ ⟨hc.1,hc.2.1,by omega,by omega,by omega,by omega,by omega,by omega,by omega,by omega,hc.2.2.2.2.2.2.2.2.2.2,lx1 (hs1 _ _) (by omega)⟩) rfl ?_;refine s7 [.int .i64 _,B2 rB _] rfl ?_;refine C9 (d:=1) ?_;exact hy g0 _ 0 cols (L2 ((el rows).getD i.toNat default).1 (0:Int).toNat (cols:Int).toNat) [10] (A0F ‹_›) (A0D ‹_›) ((Q1 (by first|exact .inl ‹_›|exact .inr ‹_›)).symm) (j7 ‹_› ‹_›) B2m (.inl (fun q=>by simp_all))
    first|refine s1 (C7 (B9 (by omega) (by omega))) rfl rfl rfl ?_|refine s1 (D9 _ _ _) rfl rfl rfl ?_
    refine s31 (K9 _ _ _ _ _ _ _ _ ⟨hc.1,hc.2.1,by omega,by omega,by omega,by omega,by omega,by omega,by omega,by omega,hc.2.2.2.2.2.2.2.2.2.2,lx0 (hs1 _ _) (by omega)⟩) rfl ?_;refine s7 [.int .i64 _,B2 rB _] rfl ?_;refine C9 (d:=1) ?_;exact hy g0 _ 0 cols (L2 ((el rows).getD i.toNat default).1 (0:Int).toNat (cols:Int).toNat) [] (A0F ‹_›) (A0D ‹_›) ((Q1 (by first|exact .inl ‹_›|exact .inr ‹_›)).symm) (P4 (by first|exact .inl ‹_›|exact .inr ‹_›)) A70 (.inl (fun q=>by simp_all))
   refine s1 (G8 _ _) rfl rfl rfl ?_;refine s6 (S0 _ _ 0 ⟨rfl,by decide,E3 _,F1 (by first|exact hs1 _ _|exact hs2 _ _) (by decide)⟩) rfl (fun _=>rfl) (fun g6=>?_) (fun v6 g6=>?_)
   ·show Tr.sav _ _ _;first|refine s1 (C7 (B9 (by omega) (by omega))) rfl rfl rfl ?_|refine s1 (D9 _ _ _) rfl rfl rfl ?_
    refine s7 [.int .i64 _,B2 rRw _,.int .i64 _,.int .i64 _,.int .i64 _,.int .i64 _,.int .i64 _,.int .i64 _] rfl ?_;refine D5 ?_ ?_
    ·exact hx g0 0 cols (L2 ((el rows).getD i.toNat default).1 (0:Int).toNat (cols:Int).toNat) [] (A0F ‹_›) (A0D ‹_›) ((Q1 (by first|exact .inl ‹_›|exact .inr ‹_›)).symm) (P4 (by first|exact .inl ‹_›|exact .inr ‹_›)) ‹_› rfl
    ·rw[U2,U2];omega
   show Tr.sav _ _ (.cons 17 _ _);first|refine s1 (C7 (B9 (by omega) (by omega))) rfl rfl rfl ?_|refine s1 (D9 _ _ _) rfl rfl rfl ?_
   refine s31 (K9 _ _ _ _ _ _ _ _ ⟨hc.1,hc.2.1,by omega,by omega,by omega,by omega,by omega,by omega,by omega,by omega,hc.2.2.2.2.2.2.2.2.2.2,lx0 (hs1 _ _) (by omega)⟩) rfl ?_;refine s7 [.int .i64 _,B2 rB _] rfl ?_;refine C9 (d:=1) ?_;exact hy g0 _ 0 cols (L2 ((el rows).getD i.toNat default).1 (0:Int).toNat (cols:Int).toNat) [] (A0F ‹_›) (A0D ‹_›) ((Q1 (by first|exact .inl ‹_›|exact .inr ‹_›)).symm) (P4 (by first|exact .inl ‹_›|exact .inr ‹_›)) A70 (.inl (fun q=>by simp_all))
  ·cases hs
 ·cases hs
noncomputable def C45:List LpE:=(11,([true,true,true,true,true,false,true,false],orL (M0 Tryd.prog gl n0 11 C27 A5H) (M0 Tryd.prog gl n0 13 B8F Q9)))::C0_
theorem C09{G:Nat→Option Obj}(hst:D2 Tryd.prog G gl H0 n0):Y6 Tryd.prog G gl C45:=.cons Tryd.func11 C26 C25 (fun E base=>@M9.or ⟨E,G⟩ _ _ _ _ _ _ _ (C6F hst E base) ((C3A hst) E base)) (B4O hst)
def A5C(rows:Option (List Row))(r c:Int):Prop:=0≤r∧r<((el rows).length:Int)∧0≤c∧c≤D0 rows
def A1t(rows:Option (List Row))(fr fc tr tc:Int):Prop:=A5C rows fr fc∧A5C rows tr tc∧¬(tr<fr∨(tr=fr∧tc<fc))
instance(rows:Option (List Row))(r c:Int):Decidable (A5C rows r c):=by unfold A5C;infer_instance
instance(rows:Option (List Row))(fr fc tr tc:Int):Decidable (A1t rows fr fc tr tc):=by unfold A1t;infer_instance
def A7z(rows:Option (List Row))(fr fc tr tc:Int):Int:=if V5 rows≠0 then V5 rows else if A1t rows fr fc tr tc then 0 else 2
def B60(rows:Option (List Row))(fr fc tr tc:Int):List UInt8:=if A7z rows fr fc tr tc=0 then A07 rows fr fc tr tc fr else[]
def C1P(rows:Option (List Row))(fr fc tr tc:Int):List U:=[.str (B60 rows fr fc tr tc),.int .i64 (A7z rows fr fc tr tc)]
theorem A1O{rows:Option (List Row)}{fr fc tr tc:Int}(h:V5 rows≠0):A7z rows fr fc tr tc=V5 rows:=if_pos h
theorem U1{rows:Option (List Row)}{fr fc tr tc:Int}(h:¬V5 rows≠0)(h2:¬A1t rows fr fc tr tc):A7z rows fr fc tr tc=2:=by unfold A7z;rw[if_neg h,if_neg h2]
theorem S9{rows:Option (List Row)}{fr fc tr tc:Int}(h:¬V5 rows≠0)(h2:A1t rows fr fc tr tc):A7z rows fr fc tr tc=0:=by unfold A7z;rw[if_neg h,if_pos h2]
theorem L8{rows:Option (List Row)}{fr fc tr tc e:Int}(h:A7z rows fr fc tr tc=e)(he:e≠0):[U.str [],U.int .i64 e]=C1P rows fr fc tr tc:=by unfold C1P B60;rw[h,if_neg he]
theorem U0{rows:Option (List Row)}{fr fc tr tc:Int}{s:List UInt8}(h:A7z rows fr fc tr tc=0)(hs:s=A07 rows fr fc tr tc fr):[U.str s,U.int .i64 0]=C1P rows fr fc tr tc:=by unfold C1P B60;rw[h,if_pos rfl,hs]
theorem C6k{fr fc tr tc w:Int}(hw:0≤w)(h0:0≤fc)(h1:fc≤w)(h2:0≤tc)(h3:tc≤w)(h:tr*w+tr+tc<fr*w+fr+fc):tr<fr∨(tr=fr∧tc<fc):=by
 rcases Int.lt_trichotomy tr fr with q|q|q
 ·exact .inl q
 ·subst q;exact .inr ⟨rfl,by omega⟩
 ·exfalso;have:(fr+1)*w≤tr*w:=E5 (by omega) hw;rw[W8,W7]at this;omega
theorem C6l{fr fc tr tc w:Int}(hw:0≤w)(h0:0≤fc)(h1:fc≤w)(h2:0≤tc)(h3:tc≤w)(h:¬tr*w+tr+tc<fr*w+fr+fc):¬(tr<fr∨(tr=fr∧tc<fc)):=by
 rintro(q|⟨q,q2⟩)
 ·have:(tr+1)*w≤fr*w:=E5 (by omega) hw;rw[W8,W7]at this;omega
 ·subst q;omega
theorem B5w(rows:Option (List Row))(fr fc tr tc:Int):∀ (n:Nat) (i:Int),noX rows fr fc tr tc n i=none→B61 rows fr fc tr tc n i=[]
 | 0,_,_=>rfl
 | n+1,i,h=>by
   unfold noX at h;split at h
   ·rename_i q;have e:A2V rows fr fc tr tc i=[]:=by unfold A2V;rw[q.2,A6W q.1];rfl
    show A2V rows fr fc tr tc i++B61 rows fr fc tr tc n (i+1)=[];rw[e,B5w rows fr fc tr tc n (i+1) h];rfl
   ·cases h
theorem y8{rows:Option (List Row)}{fr fc tr tc i:Int}(h:noI rows fr fc tr tc i=none):[]=A07 rows fr fc tr tc i:=(B5w rows fr fc tr tc _ i h).symm
theorem C5Q{rows:Option (List Row)}(h:V5 rows=0)(i:Nat):((el ((el rows).getD i default).1).length:Int)≤80:=by
 have hc:=X8 h;rw[B3];cases hi:(el rows)[i]? with
 | none=>show((el (none:Option (List Cel))).length:Int)≤80;decide
 | some m=>have:=((S6 h).2.2 m (E1 hi)).2;show((el m.1).length:Int)≤80;omega
theorem B2h{rows:Option (List Row)}{fr fc tr tc:Int}(h:V5 rows=0):∀ (n:Nat) (i:Int),(B61 rows fr fc tr tc n i).length≤961*n
 | 0,_=>A7 _
 | n+1,i=>by
   have a:=B3Y (rows:=rows) (fr:=fr) (fc:=fc) (tr:=tr) (tc:=tc) (i:=i) (n:=0) (C5Q h _);have b:=B2h (fr:=fr) (fc:=fc) (tr:=tr) (tc:=tc) h n (i+1);show(A2V rows fr fc tr tc i++B61 rows fr fc tr tc n (i+1)).length≤_;rw[A0];omega
theorem B5Y{rows:Option (List Row)}{fr fc tr tc:Int}(h:V5 rows=0)(h0:0≤fr)(h1:tr<140):(A07 rows fr fc tr tc fr).length≤140000:=by
 have:=B2h (fr:=fr) (fc:=fc) (tr:=tr) (tc:=tc) h (tr-fr+1).toNat fr;unfold A07;omega
theorem C5G{rows:Option (List Row)}{fr fc tr tc w:Int}(hw:D0 rows=w)(a:0≤fr)(b:fr<((el rows).length:Int))(c:0≤fc)(d:fc≤w)(e:0≤tr)(f:tr<((el rows).length:Int))(g:0≤tc)(h:tc≤w)(k:¬(tr<fr∨(tr=fr∧tc<fc))):A1t rows fr fc tr tc:=⟨⟨a,b,c,by omega⟩,⟨e,f,g,by omega⟩,k⟩
noncomputable def C4d:List (FuncId×FnC):=(61,R7 Tryd.prog [.s 12] A1C [.s 3])::(64,R7 Tryd.prog [.s 3] A0U [.s 9])::(32,R7 Tryd.prog [.s 22] A08 [.s 22])::L0
theorem C0Y{G:Nat→Option Obj}(hst:D2 Tryd.prog G gl H0 n0):K2 Tryd.prog G gl C4d:=(.cons (A5J hst) (.cons (A7f hst) (.cons (B2i hst) .nil)))
def A3k:List U→Option (Nat×List U)
 | [u_rows,.int .i64 fr,.int .i64 fc,.int .i64 tr,.int .i64 tc]=>(P3 rRw u_rows).bind fun rows=>if A1L rows then some (0,[.str (B60 rows fr fc tr tc),.int .i64 (A7z rows fr fc tr tc)])else none
 | _=>none
theorem C1O(rows:(Option (List ((Option (List (Int×Int×Int×Int×Int×Int×Int×Int×Int×Int×Int×Int)))×Bool))))(fr:Int)(fc:Int)(tr:Int)(tc:Int)(hc:A1L rows):A3k [B2 rRw rows,.int .i64 fr,.int .i64 fc,.int .i64 tr,.int .i64 tc]=some (0,[.str (B60 rows fr fc tr tc),.int .i64 (A7z rows fr fc tr tc)]):=by
 simp only[A3k,G5,E4];exact if_pos hc
def C22:Tr:=.fn A1C [h 0 12] 1<|.lt 8 (.bin .neq) [h 5 3,jI 0]<|.br 6 (.lt 8 (.bin .neq) [h 5 3,jI 0]<|.br 7 (.ret [.string ⟨⟨[]⟩⟩,h 5 3]) (.no)) (.lt 8 (.inbs 2) [jI 0,h 0 12]<|.br 7 (.dt 22 (.get 2 0) [h 0 12,jI 0]<|.lt 3 (.len) [h 8 22]<|.lt 3 (.bin .sub) [h 9 3,jI 0]<|.lt 8 (.bin .geq) [h 1 3,jI 0]<|.br 11 (.lt 3 (.len) [h 0 12]<|.lt 8 (.bin .lss) [h 1 3,h 12 3]<|.br 13 (.lt 8 (.bin .geq) [h 2 3,jI 0]<|.br 14 (.lt 8 (.bin .leq) [h 2 3,h 10 3]<|.lt 8 (.un .not) [h 15 8]<|.br 16 (.ret [.string ⟨⟨[]⟩⟩,jI 2]) (.lt 8 (.inbs 2) [jI 0,h 0 12]<|.br 17 (.dt 22 (.get 2 0) [h 0 12,jI 0]<|.lt 3 (.len) [h 18 22]<|.lt 3 (.bin .sub) [h 19 3,jI 0]<|.lt 8 (.bin .geq) [h 3 3,jI 0]<|.br 21 (.lt 8 (.bin .lss) [h 3 3,h 12 3]<|.br 22 (.lt 8 (.bin .geq) [h 4 3,jI 0]<|.br 23 (.lt 8 (.bin .leq) [h 4 3,h 20 3]<|.lt 8 (.un .not) [h 24 8]<|.br 25 (.ret [.string ⟨⟨[]⟩⟩,jI 2]) (.lt 8 (.inbs 2) [jI 0,h 0 12]<|.br 26 (.dt 22 (.get 2 0) [h 0 12,jI 0]<|.lt 3 (.len) [h 27 22]<|.lt 3 (.bin .mul) [h 1 3,h 28 3]<|.lt 3 (.bin .add) [h 29 3,h 1 3]<|.lt 3 (.bin .add) [h 30 3,h 2 3]<|.lt 3 (.bin .mul) [h 3 3,h 28 3]<|.lt 3 (.bin .add) [h 32 3,h 3 3]<|.lt 3 (.bin .add) [h 33 3,h 4 3]<|.lt 8 (.bin .gtr) [h 31 3,h 34 3]<|.br 35 (.ret [.string ⟨⟨[]⟩⟩,jI 2]) (.lp A5H [h 0 12,h 28 3,h 1 3,h 1 3,h 2 3,h 3 3,h 4 3] 0 0 (.ret [.string ⟨⟨[]⟩⟩,jI 0]) (.lp A5H [h 0 12,h 28 3,h 1 3,h 1 3,h 2 3,h 3 3,h 4 3] 1 1 (.lt 3 (.len) [h 36 11]<|.lt 9 (.ustr) [h 36 11,h 37 3]<|.ret [h 38 9,jI 0]) (.no)))) (.no))) (.ret [.string ⟨⟨[]⟩⟩,jI 2])) (.ret [.string ⟨⟨[]⟩⟩,jI 2])) (.ret [.string ⟨⟨[]⟩⟩,jI 2])) (.no))) (.ret [.string ⟨⟨[]⟩⟩,jI 2])) (.ret [.string ⟨⟨[]⟩⟩,jI 2])) (.ret [.string ⟨⟨[]⟩⟩,jI 2])) (.no))
theorem C6E{G:Nat→Option Obj}(hst:D2 Tryd.prog G gl H0 n0):c9 Tryd.prog G 11 [.s 12,.a [3,3],.a [3,3]] A3k [.s 9,.s 3]:=by
 refine J7 (C:=cx C4d C45) (d:=60) C22 (cxg (C0Y hst) (C09 hst)) hst ⟨Tryd.f11,_,Tryd.func11,rfl⟩ (by kernel_rfl) (by kernel_rfl) ?_;intro us outs hs;unfold A3k at hs;split at hs
 ·skip;rename_i u_rows fr fc tr tc;have hq_rows:=B4.1 hs;clear hs;obtain⟨rows,hd_rows,hs⟩:=hq_rows;replace hd_rows:=K5 hd_rows;subst hd_rows;split at hs
  ·rename_i hc;cases hs;have qd:=A9T rows;unfold C22;refine s0 (.cons 4 _ (.cons 3 _ (.cons 2 _ (.cons 1 _ (.cons 0 _ (.nil)))))) rfl (by simp[Ev.ok,Ev.len]) ?_;refine s31 (B1c _ hc) rfl ?_;refine s1 (K7 _ _ _) rfl rfl rfl ?_;refine s4 rfl (fun g0=>?_) fun g0=>?_
   ·refine s1 (K7 _ _ _) rfl rfl rfl ?_;refine s4 rfl (fun g1=>?_) fun g1=>?_
    ·refine s7 [.str _,.int .i64 _] rfl ?_;first|exact L8 (A1O ‹_›) ‹_›|exact L8 (U1 ‹_› (fun q=>q.2.2 ly)) (by decide)|exact L8 (U1 ‹_› (by unfold A1t A5C;omega)) (by decide)|exact U0 (S9 ‹_› lp) (y8 ‹_›)|exact U0 (S9 ‹_› lp) (A27 _)
    refine s8 ?_;first|omega
   refine s1 (F6 rfl) rfl rfl rfl ?_;refine s5 rfl (fun g1=>?_) fun g1=>?_
   ·refine s8 ?_;first|omega
   refine s2 (r:=rCl) (C6 rfl (by omega) (by omega) rfl) rfl rfl ?_;refine s1 (G8 _ _) rfl rfl rfl ?_;first|refine s1 (S4 (B9 (by omega) (by omega))) rfl rfl rfl ?_|refine s1 (A0b _ _ _) rfl rfl rfl ?_
   refine s1 (N5 _ _ _) rfl rfl rfl ?_;refine s5 rfl (fun g2=>?_) fun g2=>?_
   ·refine s7 [.str _,.int .i64 _] rfl ?_;first|exact L8 (A1O ‹_›) ‹_›|exact L8 (U1 ‹_› (fun q=>q.2.2 ly)) (by decide)|exact L8 (U1 ‹_› (by unfold A1t A5C;omega)) (by decide)|exact U0 (S9 ‹_› lp) (y8 ‹_›)|exact U0 (S9 ‹_› lp) (A27 _)
   refine s1 (G8 _ _) rfl rfl rfl ?_;refine s1 (H7 _ _ _) rfl rfl rfl ?_;refine s5 rfl (fun g3=>?_) fun g3=>?_
   ·refine s7 [.str _,.int .i64 _] rfl ?_;first|exact L8 (A1O ‹_›) ‹_›|exact L8 (U1 ‹_› (fun q=>q.2.2 ly)) (by decide)|exact L8 (U1 ‹_› (by unfold A1t A5C;omega)) (by decide)|exact U0 (S9 ‹_› lp) (y8 ‹_›)|exact U0 (S9 ‹_› lp) (A27 _)
   refine s1 (N5 _ _ _) rfl rfl rfl ?_;refine s5 rfl (fun g4=>?_) fun g4=>?_
   ·refine s7 [.str _,.int .i64 _] rfl ?_;first|exact L8 (A1O ‹_›) ‹_›|exact L8 (U1 ‹_› (fun q=>q.2.2 ly)) (by decide)|exact L8 (U1 ‹_› (by unfold A1t A5C;omega)) (by decide)|exact U0 (S9 ‹_› lp) (y8 ‹_›)|exact U0 (S9 ‹_› lp) (A27 _)
   refine s1 (A0d _ _ _) rfl rfl rfl ?_;refine s1 (t6 _) rfl rfl rfl ?_;refine s4 rfl (fun g5=>?_) fun g5=>?_
   ·refine s7 [.str _,.int .i64 _] rfl ?_;first|exact L8 (A1O ‹_›) ‹_›|exact L8 (U1 ‹_› (fun q=>q.2.2 ly)) (by decide)|exact L8 (U1 ‹_› (by unfold A1t A5C;omega)) (by decide)|exact U0 (S9 ‹_› lp) (y8 ‹_›)|exact U0 (S9 ‹_› lp) (A27 _)
   refine s1 (F6 rfl) rfl rfl rfl ?_;refine s5 rfl (fun g6=>?_) fun g6=>?_
   ·refine s8 ?_;first|omega
   refine s2 (r:=rCl) (C6 rfl (by omega) (by omega) rfl) rfl rfl ?_;refine s1 (G8 _ _) rfl rfl rfl ?_;first|refine s1 (S4 (B9 (by omega) (by omega))) rfl rfl rfl ?_|refine s1 (A0b _ _ _) rfl rfl rfl ?_
   refine s1 (N5 _ _ _) rfl rfl rfl ?_;refine s5 rfl (fun g7=>?_) fun g7=>?_
   ·refine s7 [.str _,.int .i64 _] rfl ?_;first|exact L8 (A1O ‹_›) ‹_›|exact L8 (U1 ‹_› (fun q=>q.2.2 ly)) (by decide)|exact L8 (U1 ‹_› (by unfold A1t A5C;omega)) (by decide)|exact U0 (S9 ‹_› lp) (y8 ‹_›)|exact U0 (S9 ‹_› lp) (A27 _)
   refine s1 (H7 _ _ _) rfl rfl rfl ?_;refine s5 rfl (fun g8=>?_) fun g8=>?_
   ·refine s7 [.str _,.int .i64 _] rfl ?_;first|exact L8 (A1O ‹_›) ‹_›|exact L8 (U1 ‹_› (fun q=>q.2.2 ly)) (by decide)|exact L8 (U1 ‹_› (by unfold A1t A5C;omega)) (by decide)|exact U0 (S9 ‹_› lp) (y8 ‹_›)|exact U0 (S9 ‹_› lp) (A27 _)
   refine s1 (N5 _ _ _) rfl rfl rfl ?_;refine s5 rfl (fun g9=>?_) fun g9=>?_
   ·refine s7 [.str _,.int .i64 _] rfl ?_;first|exact L8 (A1O ‹_›) ‹_›|exact L8 (U1 ‹_› (fun q=>q.2.2 ly)) (by decide)|exact L8 (U1 ‹_› (by unfold A1t A5C;omega)) (by decide)|exact U0 (S9 ‹_› lp) (y8 ‹_›)|exact U0 (S9 ‹_› lp) (A27 _)
   refine s1 (A0d _ _ _) rfl rfl rfl ?_;refine s1 (t6 _) rfl rfl rfl ?_;refine s4 rfl (fun g10=>?_) fun g10=>?_
   ·refine s7 [.str _,.int .i64 _] rfl ?_;first|exact L8 (A1O ‹_›) ‹_›|exact L8 (U1 ‹_› (fun q=>q.2.2 ly)) (by decide)|exact L8 (U1 ‹_› (by unfold A1t A5C;omega)) (by decide)|exact U0 (S9 ‹_› lp) (y8 ‹_›)|exact U0 (S9 ‹_› lp) (A27 _)
   refine s1 (F6 rfl) rfl rfl rfl ?_;refine s5 rfl (fun g11=>?_) fun g11=>?_
   ·refine s8 ?_;first|omega
   have m1:=A2p (a:=fr) (b:=((el ((el rows).getD (0:Int).toNat default).1).length:Int)) (A:=140) (B:=80) (by omega) (by omega) (by omega) (by omega);have m2:=A2p (a:=tr) (b:=((el ((el rows).getD (0:Int).toNat default).1).length:Int)) (A:=140) (B:=80) (by omega) (by omega) (by omega) (by omega);refine s2 (r:=rCl) (C6 rfl (by omega) (by omega) rfl) rfl rfl ?_;refine s1 (G8 _ _) rfl rfl rfl ?_;first|refine s1 (t7 (B9 (by omega) (by omega))) rfl rfl rfl ?_|refine s1 (A3a _ _ _) rfl rfl rfl ?_
   first|refine s1 (C7 (B9 (by omega) (by omega))) rfl rfl rfl ?_|refine s1 (D9 _ _ _) rfl rfl rfl ?_
   first|refine s1 (C7 (B9 (by omega) (by omega))) rfl rfl rfl ?_|refine s1 (D9 _ _ _) rfl rfl rfl ?_
   first|refine s1 (t7 (B9 (by omega) (by omega))) rfl rfl rfl ?_|refine s1 (A3a _ _ _) rfl rfl rfl ?_
   first|refine s1 (C7 (B9 (by omega) (by omega))) rfl rfl rfl ?_|refine s1 (D9 _ _ _) rfl rfl rfl ?_
   first|refine s1 (C7 (B9 (by omega) (by omega))) rfl rfl rfl ?_|refine s1 (D9 _ _ _) rfl rfl rfl ?_
   refine s1 (w6 _ _ _) rfl rfl rfl ?_;refine s4 rfl (fun g12=>?_) fun g12=>?_
   ·have ly:=C6k (fr:=fr) (fc:=fc) (tr:=tr) (tc:=tc) (w:=((el ((el rows).getD (0:Int).toNat default).1).length:Int)) (by omega) (by omega) (by omega) (by omega) (by omega) ‹_›;refine s7 [.str _,.int .i64 _] rfl ?_;first|exact L8 (A1O ‹_›) ‹_›|exact L8 (U1 ‹_› (fun q=>q.2.2 ly)) (by decide)|exact L8 (U1 ‹_› (by unfold A1t A5C;omega)) (by decide)|exact U0 (S9 ‹_› lp) (y8 ‹_›)|exact U0 (S9 ‹_› lp) (A27 _)
   have ln:=C6l (fr:=fr) (fc:=fc) (tr:=tr) (tc:=tc) (w:=((el ((el rows).getD (0:Int).toNat default).1).length:Int)) (by omega) (by omega) (by omega) (by omega) (by omega) ‹_›;have lk:fr=tr→fc≤tc:=(fun e=>by omega);have lp:=C5G (rows:=rows) (fr:=fr) (fc:=fc) (tr:=tr) (tc:=tc) qd.2 (by omega) (by omega) (by omega) (by omega) (by omega) (by omega) (by omega) (by omega) ln;have tl:=B5Y (rows:=rows) (fr:=fr) (fc:=fc) (tr:=tr) (tc:=tc) (by omega) (by omega) (by omega);refine s6 (A6D _ _ _ _ _ _ _ ⟨by omega,qd.2.symm,by omega,by omega,by omega,by omega,by omega,by omega,by omega,by omega,lk⟩) rfl (fun _=>rfl) (fun g13=>?_) (fun v13 g13=>?_)
   ·show Tr.sav _ _ _;refine s7 [.str _,.int .i64 _] rfl ?_;first|exact L8 (A1O ‹_›) ‹_›|exact L8 (U1 ‹_› (fun q=>q.2.2 ly)) (by decide)|exact L8 (U1 ‹_› (by unfold A1t A5C;omega)) (by decide)|exact U0 (S9 ‹_› lp) (y8 ‹_›)|exact U0 (S9 ‹_› lp) (A27 _)
   show Tr.sav _ _ (.cons 36 _ _);refine s1 (G8 _ _) rfl rfl rfl ?_;refine s1 (B3z rfl (by omega) (by rw[B0,G6];omega) (fun n h=>C0R h)) rfl rfl rfl ?_;refine s7 [.str _,.int .i64 _] rfl ?_;first|exact L8 (A1O ‹_›) ‹_›|exact L8 (U1 ‹_› (fun q=>q.2.2 ly)) (by decide)|exact L8 (U1 ‹_› (by unfold A1t A5C;omega)) (by decide)|exact U0 (S9 ‹_› lp) (y8 ‹_›)|exact U0 (S9 ‹_› lp) (A27 _)
  ·cases hs
 ·cases hs
def C2R(rows:Option (List Row))(r c:Int):Prop:=0≤r∧r<((el rows).length:Int)∧0≤c∧c≤D0 rows-1
def C7F(rows:Option (List Row))(pr pc qr qc:Int):Prop:=C2R rows pr pc∧C2R rows qr qc
instance(rows:Option (List Row))(r c:Int):Decidable (C2R rows r c):=by unfold C2R;infer_instance
instance(rows:Option (List Row))(fr fc tr tc:Int):Decidable (C7F rows fr fc tr tc):=by unfold C7F;infer_instance
def B7d(rows:Option (List Row))(k:Int):Cel:=(el ((el rows).getD (k / D0 rows).toNat default).1).getD (k%D0 rows).toNat default
structure CK (rows:Option (List Row)) (k w:Int):Prop where
 w0:2≤w
 w1:w≤80
 n0:0<((el rows).length:Int)
 n1:((el rows).length:Int)≤140
 d0:0≤k / w
 d1:k / w<((el rows).length:Int)
 m0:0≤k%w
 m1:k%w<w
 k1:k≤11200
 rl:((el ((el rows).getD (k / w).toNat default).1).length:Int)=w
 b0:0≤(B7d rows k).1
 b1:(B7d rows k).1≤1114111
theorem A9S{rows:Option (List Row)}{k w:Int}(h:inK rows k)(hw:D0 rows=w):CK rows k w:=by
 subst hw;have hc:=X8 h.1;have hl:=S6 h.1;have hk:=A3e h.2.2.1 (by omega) h.2.2.2;have hr:=hl.2.2 _ (R6 (l:=el rows) hk.1 hk.2.1);have hm:=(A2p (a:=((el rows).length:Int)) (b:=D0 rows) (A:=140) (B:=80) (by omega) (by omega) (by omega) (by omega)).2;have hb:=C5o (C5n (A6z hr.1 hk.2.2.1 (by rw[hr.2];exact hk.2.2.2)).1);exact⟨hc.1,hc.2,by omega,by omega,hk.1,hk.2.1,hk.2.2.1,hk.2.2.2,by have:=h.2.2.2;omega,hr.2,hb.1.1,hb.1.2⟩
theorem C2P{rows:Option (List Row)}{k:Int}(h:inK rows k)(h2:wdC (B7d rows k)=2):inK rows (k-1)∧wdC (B7d rows (k-1))=1∧C0E rows (D0 rows) (k-1)=C0E rows (D0 rows) k:=by
 have c:=A9S h rfl;have hl:=S6 h.1;have hr:=hl.2.2 _ (R6 (l:=el rows) c.d0 c.d1);obtain⟨p,q⟩:=(A6z hr.1 c.m0 (by rw[hr.2];exact c.m1)).2 h2;have e1:(k-1) / D0 rows=k / D0 rows:=by
  have e:=Z1 k (D0 rows);have:k-1=(k%D0 rows-1)+(k / D0 rows)*D0 rows:=by omega
  rw[this,Int.add_mul_ediv_right _ _ (by have:=c.w0;omega),Int.ediv_eq_zero_of_lt (by omega) (by have:=c.m1;omega)];omega
 have e2:(k-1)%D0 rows=k%D0 rows-1:=by
  have a:=Z1 k (D0 rows);have b:=Z1 (k-1) (D0 rows);rw[e1]at b;omega
 have h0:0<k:=by
  have a:=Z1 k (D0 rows)
  have:=r7 c.d0 (show(0:Int)≤D0 rows by have:=c.w0;omega);omega
 refine⟨⟨h.1,h.2.1,by omega,by have:=h.2.2.2;omega⟩,by unfold B7d;rw[e1,e2];exact q,?_⟩;unfold C0E;rw[e1,e2];have f1:B5K (el ((el rows).getD (k / D0 rows).toNat default).1) (k%D0 rows-1)=B5K (el ((el rows).getD (k / D0 rows).toNat default).1) (k%D0 rows):=by
  rw[C67 h2,C66 (by show ¬wdC _=2;rw[q];decide)]
 unfold C56;rw[f1]
structure WK (rows:Option (List Row)) (r c w:Int):Prop where
 ik:inK rows (r*w+c)
 lo:Z0 (el rows) r*w=loK rows (r*w+c)
 ja:jK rows (r*w+c)≤r*w+c
 ij:inK rows (jK rows (r*w+c))
 hi:(J0 (el rows) r+1)*w=hiK rows (jK rows (r*w+c))
 jm:jK rows (r*w+c)≤mK rows (jK rows (r*w+c))
 mm:mK rows (jK rows (r*w+c))=mK rows (r*w+c)
 im:inK rows (mK rows (jK rows (r*w+c)))
 wb:C5D rows r c=(jK rows (r*w+c) / w,jK rows (r*w+c)%w)
 wf:C5B rows r c=(mK rows (r*w+c) / w,mK rows (r*w+c)%w)
 b0:0≤r*w
 b1:r*w≤11200
noncomputable def A9i:List LpE:=[(33,([true,false],orL (M0 Tryd.prog gl n0 12 B7x U4) (M0 Tryd.prog gl n0 14 B2T S1))),(33,([true,false],M0 Tryd.prog gl n0 14 B2T S1))]
theorem A7v{G:Nat→Option Obj}(hst:D2 Tryd.prog G gl H0 n0):Y6 Tryd.prog G gl A9i:=(.cons Tryd.func33 B7w B7t (fun E base=>@M9.or ⟨E,G⟩ _ _ _ _ _ _ _ (C2f hst E base) ((B5U hst) E base)) (.cons Tryd.func33 B71 B7z (B5U hst) .nil))
def ctK(rows:Option (List Row))(cols k:Int):List UInt8:=A3y ((el ((el rows).getD (k / cols).toNat default).1).getD (k%cols).toNat default)
def mtN(f:Int→List UInt8)(hi:Int):Nat→Int→List UInt8→Nat
 | 0,_,_=>0
 | n+1,k,t=>if hi≤k then 0 else if t.length≤(f k).length then(if(f k).take t.length=t then 1 else 2)else if t.take (f k).length=f k then mtN f hi n (k+1) (t.drop (f k).length)else 2
def mtS(f:Int→List UInt8)(hi k:Int)(t:List UInt8):Nat:=mtN f hi (hi-k).toNat k t
section
variable {f:Int→List UInt8} {hi k:Int} {t:List UInt8}
theorem B9F(h:hi≤k):mtS f hi k t=0:=by
 unfold mtS;rw[show(hi-k).toNat=0 by omega];rfl
theorem B51(h:k<hi):mtS f hi k t=if t.length≤(f k).length then(if(f k).take t.length=t then 1 else 2)else if t.take (f k).length=f k then mtS f hi (k+1) (t.drop (f k).length)else 2:=by
 unfold mtS;rw[show(hi-k).toNat=(hi-(k+1)).toNat+1 by omega,mtN,if_neg (by omega)]
theorem C6d(h:k<hi)(h1:(t.length:Int)≤(f k).length)(h2:(f k).take t.length=t):mtS f hi k t=1:=by rw[B51 h,if_pos (by omega),if_pos h2]
theorem B3P(h:k<hi)(h1:(t.length:Int)≤(f k).length)(h2:¬(f k).take t.length=t):mtS f hi k t=2:=by rw[B51 h,if_pos (by omega),if_neg h2]
theorem B3O(h:k<hi)(h1:¬(t.length:Int)≤(f k).length)(h2:¬t.take (f k).length=f k):mtS f hi k t=2:=by rw[B51 h,if_neg (by omega),if_neg h2]
theorem C3p(h:k<hi)(h1:¬(t.length:Int)≤(f k).length)(h2:t.take (f k).length=f k):mtS f hi k t=mtS f hi (k+1) (t.drop (f k).length):=by rw[B51 h,if_neg (by omega),if_pos h2]
end
theorem B9q{s:List UInt8}{k:IntKind}{n:Int}(hn:n=((el (some (bI s))).length:Int))(hb:s.length≤1000000000):evU .ustr [B2 rB (some (bI s)),.int k n]=.str s:=by
 refine(B3z (r:=rB) (x:=some (bI s)) rfl hn (by rw[B0,G6];exact hb) (fun n h=>C0R h)).trans ?_;rw[B0,A27]
theorem B5d{x:Option (List Cel)}{c:Int}(h0:0≤c)(h1:c<((el x).length:Int)):el (L2 x c.toNat (c+1).toNat)=[(el x).getD c.toNat default]:=by
 rw[A43,show(c+1).toNat-c.toNat=1 by omega,S5 (el x) h0 h1];rfl
theorem C3o{x:Option (List Cel)}{c:Int}(h0:0≤c)(h1:c<((el x).length:Int)):N6 ((el (L2 x c.toNat (c+1).toNat)).drop (0:Int).toNat)=A3y ((el x).getD c.toNat default):=by
 rw[T5,B5d h0 h1];simp[N6]
theorem C6Y{x:Option (List Cel)}{c:Int}(h0:0≤c)(h1:c<((el x).length:Int)):((el (L2 x c.toNat (c+1).toNat)).length:Int)=1:=by rw[B5d h0 h1];rfl
theorem C6X{x:Option (List Cel)}{c:Int}(h0:0≤c)(h1:c<((el x).length:Int))(h:noT ((el (L2 x c.toNat (c+1).toNat)).drop (0:Int).toNat)=none):A3y ((el x).getD c.toNat default)=[]:=by
 rw[← C3o h0 h1];exact A6W h
noncomputable def C4z:List (FuncId×FnC):=(61,R7 Tryd.prog [.s 12] A1C [.s 3])::(45,R7 Tryd.prog [.s 12,.s 3] A4K [.s 3,.s 3])::(64,R7 Tryd.prog [.s 3] A0U [.s 9])::L0
theorem C0v{G:Nat→Option Obj}(hst:D2 Tryd.prog G gl H0 n0):K2 Tryd.prog G gl C4z:=(.cons (A5J hst) (.cons (B6B hst) (.cons (A7f hst) .nil)))
def A6m:List U→Option (Nat×List U)
 | [.int .i64 k,.int .i64 first,.int .i64 last,.int .i64 cols,u_rows,.int .i64 pr,.int .i64 pc,.str t]=>(P3 rRw u_rows).bind fun rows=>if V5 rows=0∧cols=D0 rows∧0≤first∧first≤last∧last<((el rows).length:Int)∧first*cols≤k∧k≤(last+1)*cols∧1≤t.length∧t.length≤200 then C1M (mtS (ctK rows cols) ((last+1)*cols) k t) [B2 rRw rows] [B2 rRw rows,.int .i64 pr,.int .i64 pc] [B2 rRw rows]else none
 | _=>none
theorem N2(k:Int)(first:Int)(last:Int)(cols:Int)(rows:(Option (List ((Option (List (Int×Int×Int×Int×Int×Int×Int×Int×Int×Int×Int×Int)))×Bool))))(pr:Int)(pc:Int)(t:(List UInt8))(hc:V5 rows=0∧cols=D0 rows∧0≤first∧first≤last∧last<((el rows).length:Int)∧first*cols≤k∧k≤(last+1)*cols∧1≤t.length∧t.length≤200):A6m [.int .i64 k,.int .i64 first,.int .i64 last,.int .i64 cols,B2 rRw rows,.int .i64 pr,.int .i64 pc,.str t]=C1M (mtS (ctK rows cols) ((last+1)*cols) k t) [B2 rRw rows] [B2 rRw rows,.int .i64 pr,.int .i64 pc] [B2 rRw rows]:=by
 simp only[A6m,G5,E4];exact if_pos hc
def B9n:T8:=⟨[(0,yv 32),(2,.pointer (some ⟨31,0,none⟩)),(3,.pointer (some ⟨29,0,none⟩)),(4,.pointer (some ⟨30,0,none⟩)),(5,.pointer (some ⟨28,0,none⟩)),(7,h 0 3)],[(28,.cells 3 [.int .i64 (1)]),(29,.cells 3 [h 1 3]),(30,.cells 3 [h 2 3]),(31,.cells 3 [h 3 3]),(32,.lp 20 [true,false,true,true,true,true,false,true,false,true,false,true,true,true,true,true,false] [junk,junk,junk,.pointer (some ⟨4,0,none⟩),junk,junk,.pointer (some ⟨7,0,none⟩),.pointer (some ⟨8,0,none⟩),.pointer (some ⟨9,0,none⟩),junk,junk,.pointer (some ⟨24,0,none⟩),junk,junk,junk,.pointer (some ⟨26,0,none⟩),junk,junk,junk,junk,junk,junk,junk,junk,junk,junk,junk,junk,junk,junk,junk,junk,junk,junk,junk,junk,junk,junk,junk,junk,junk,junk,junk,junk,junk,junk,junk,junk,junk,junk,junk,junk,junk,junk,junk,junk,junk,junk,junk,junk,junk,junk,junk,junk,junk,junk,junk,junk,junk,junk,junk,junk,junk,junk,junk,junk,junk,junk,junk,junk,junk,junk,junk,junk,junk,junk,junk,junk,junk,junk,junk,junk,junk,junk,junk,junk,junk,junk,junk,junk,junk,junk,junk,junk,junk,junk] 0),(4,.cells 31 [dat 33 4 12]),(7,.cells 29 [.int .i64 (0),.int .i64 (0)]),(8,.cells 4 [.bool false]),(9,.cells 36 [.int .i64 (0)]),(24,.cells 29 [h 5 3,h 6 3]),(26,.cells 9 [h 7 9]),(33,.frz)],8,[⟨.exit 0,[(0,yv 32)],[(32,.lp 20 [true,false,true,true,true,true,false,true,false,true,false,true,true,true,true,true,false] [junk,junk,junk,.pointer (some ⟨4,0,none⟩),junk,junk,.pointer (some ⟨7,0,none⟩),.pointer (some ⟨8,0,none⟩),.pointer (some ⟨9,0,none⟩),junk,junk,.pointer (some ⟨24,0,none⟩),junk,junk,junk,.pointer (some ⟨26,0,none⟩),junk,junk,junk,junk,junk,junk,junk,junk,junk,junk,junk,junk,junk,junk,junk,junk,junk,junk,junk,junk,junk,junk,junk,junk,junk,junk,junk,junk,junk,junk,junk,junk,junk,junk,junk,junk,junk,junk,junk,junk,junk,junk,junk,junk,junk,junk,junk,junk,junk,junk,junk,junk,junk,junk,junk,junk,junk,junk,junk,junk,junk,junk,junk,junk,junk,junk,junk,junk,junk,junk,junk,junk,junk,junk,junk,junk,junk,junk,junk,junk,junk,junk,junk,junk,junk,junk,junk,junk,junk,junk] 0),(4,.cells 31 [dat 34 0 12]),(7,.cells 29 [.int .i64 (0),.int .i64 (0)]),(8,.cells 4 [.bool false]),(9,.cells 36 [.int .i64 (0)]),(24,.cells 29 [junk,junk]),(26,.cells 9 [junk]),(34,.frz)],1⟩,⟨.ret,[(0,yv 32)],[(32,.lp 20 [true,false,true,true,true,true,false,true,false,true,false,true,true,true,true,true,false] [junk,junk,junk,.pointer (some ⟨4,0,none⟩),junk,junk,.pointer (some ⟨7,0,none⟩),.pointer (some ⟨8,0,none⟩),.pointer (some ⟨9,0,none⟩),junk,junk,.pointer (some ⟨24,0,none⟩),junk,junk,junk,.pointer (some ⟨26,0,none⟩),junk,junk,junk,junk,junk,junk,junk,junk,junk,junk,junk,junk,junk,junk,junk,junk,junk,junk,junk,junk,junk,junk,junk,junk,junk,junk,junk,junk,junk,junk,junk,junk,junk,junk,junk,junk,junk,junk,junk,junk,junk,junk,junk,junk,junk,junk,junk,junk,junk,junk,junk,junk,junk,junk,junk,junk,junk,junk,junk,junk,junk,junk,junk,junk,junk,junk,junk,junk,junk,junk,junk,junk,junk,junk,junk,junk,junk,junk,junk,junk,junk,junk,junk,junk,junk,junk,junk,junk,junk,junk] 2),(4,.cells 31 [dat 35 0 12]),(7,.cells 29 [h 1 3,h 2 3]),(8,.cells 4 [.bool true]),(9,.cells 36 [.int .i64 (0)]),(24,.cells 29 [junk,junk]),(26,.cells 9 [junk]),(35,.frz)],3⟩,⟨.ret,[(0,yv 32)],[(32,.lp 20 [true,false,true,true,true,true,false,true,false,true,false,true,true,true,true,true,false] [junk,junk,junk,.pointer (some ⟨4,0,none⟩),junk,junk,.pointer (some ⟨7,0,none⟩),.pointer (some ⟨8,0,none⟩),.pointer (some ⟨9,0,none⟩),junk,junk,.pointer (some ⟨24,0,none⟩),junk,junk,junk,.pointer (some ⟨26,0,none⟩),junk,junk,junk,junk,junk,junk,junk,junk,junk,junk,junk,junk,junk,junk,junk,junk,junk,junk,junk,junk,junk,junk,junk,junk,junk,junk,junk,junk,junk,junk,junk,junk,junk,junk,junk,junk,junk,junk,junk,junk,junk,junk,junk,junk,junk,junk,junk,junk,junk,junk,junk,junk,junk,junk,junk,junk,junk,junk,junk,junk,junk,junk,junk,junk,junk,junk,junk,junk,junk,junk,junk,junk,junk,junk,junk,junk,junk,junk,junk,junk,junk,junk,junk,junk,junk,junk,junk,junk,junk,junk] 5),(4,.cells 31 [dat 36 0 12]),(7,.cells 29 [.int .i64 (0),.int .i64 (0)]),(8,.cells 4 [.bool false]),(9,.cells 36 [.int .i64 (0)]),(24,.cells 29 [junk,junk]),(26,.cells 9 [junk]),(36,.frz)],1⟩]⟩
noncomputable def B9o:Code:=(Tryd.f69.body).getD .skip
noncomputable def C4F:Code:=match G3 [true,false] B9o with|some (.loop x)=>x|_=>.skip
theorem C4J:Tryd.f69.body=some B9o:=rfl
theorem C4H:G3 [true,false] B9o=some (.loop C4F):=by kernel_rfl
def C4G:Tr:=.lt 3 (.bin .mul) [h 1 3,h 3 3]<|.lt 8 (.bin .geq) [h 0 3,h 8 3]<|.br 9 (.lt 3 (.bin .add) [h 2 3,jI 1]<|.lt 3 (.bin .mul) [h 10 3,h 3 3]<|.lt 8 (.bin .lss) [h 0 3,h 11 3]<|.br 12 (.lt 3 (.bin .quo) [h 0 3,h 3 3]<|.lt 3 (.bin .rem) [h 0 3,h 3 3]<|.lt 8 (.inbs 2) [h 13 3,h 4 12]<|.br 15 (.dt 22 (.get 2 0) [h 4 12,h 13 3]<|.lt 3 (.bin .add) [h 14 3,jI 1]<|.dt 22 (.subs 12) [h 16 22,h 14 3,h 17 3]<|.lt 3 (.len) [h 18 22]<|.lp U4 [h 18 22,h 19 3,jI 0] 0 0 (.lt 3 (.len) [h 7 9]<|.lt 8 (.bin .geq) [jI 0,h 20 3]<|.br 21 (.lt 3 (.len) [h 7 9]<|.lt 8 (.bin .geq) [jI 0,h 22 3]<|.br 23 (.lt 3 (.len) [h 7 9]<|.lt 9 (.sub) [.string ⟨⟨[]⟩⟩,jI 0,h 24 3]<|.lt 8 (.bin .eql) [h 25 9,h 7 9]<|.br 26 (.ret [jI 1,h 4 12,h 5 3,h 6 3]) (.ret [jI 2,h 4 12])) (.ret [jI 2,h 4 12])) (.lt 3 (.len) [h 7 9]<|.lt 8 (.bin .geq) [h 22 3,jI 0]<|.br 23 (.lt 9 (.sub) [h 7 9,jI 0,jI 0]<|.lt 8 (.bin .eql) [h 24 9,.string ⟨⟨[]⟩⟩]<|.lt 8 (.un .not) [h 25 8]<|.br 26 (.ret [jI 2,h 4 12]) (.lt 9 (.sub1) [h 7 9,jI 0]<|.lt 3 (.bin .add) [h 0 3,jI 1]<|.ret [jI (-1),h 28 3,h 1 3,h 2 3,h 3 3,h 4 12,h 5 3,h 6 3,h 27 9])) (.ret [jI 2,h 4 12]))) (.lp U4 [h 18 22,h 19 3,jI 0] 1 1 (.lt 3 (.len) [h 20 11]<|.lt 9 (.ustr) [h 20 11,h 21 3]<|.lt 3 (.len) [h 22 9]<|.lt 3 (.len) [h 7 9]<|.lt 8 (.bin .geq) [h 23 3,h 24 3]<|.br 25 (.lt 3 (.len) [h 22 9]<|.lt 3 (.len) [h 7 9]<|.lt 8 (.bin .geq) [h 26 3,h 27 3]<|.br 28 (.lt 3 (.len) [h 7 9]<|.lt 9 (.sub) [h 22 9,jI 0,h 29 3]<|.lt 8 (.bin .eql) [h 30 9,h 7 9]<|.br 31 (.ret [jI 1,h 4 12,h 5 3,h 6 3]) (.ret [jI 2,h 4 12])) (.ret [jI 2,h 4 12])) (.lt 3 (.len) [h 7 9]<|.lt 3 (.len) [h 22 9]<|.lt 8 (.bin .geq) [h 26 3,h 27 3]<|.br 28 (.lt 3 (.len) [h 22 9]<|.lt 9 (.sub) [h 7 9,jI 0,h 29 3]<|.lt 8 (.bin .eql) [h 30 9,h 22 9]<|.lt 8 (.un .not) [h 31 8]<|.br 32 (.ret [jI 2,h 4 12]) (.lt 3 (.len) [h 22 9]<|.lt 9 (.sub1) [h 7 9,h 33 3]<|.lt 3 (.bin .add) [h 0 3,jI 1]<|.ret [jI (-1),h 35 3,h 1 3,h 2 3,h 3 3,h 4 12,h 5 3,h 6 3,h 34 9])) (.ret [jI 2,h 4 12]))) (.no))) (.no)) (.ret [jI 0,h 4 12])) (.ret [jI 0,h 4 12])
def B9m:List U→Nat
 | [.int .i64 k,.int .i64 first,.int .i64 last,.int .i64 cols,u_rows,.int .i64 pr,.int .i64 pc,.str t]=>(match P3 rRw u_rows with|some rows=>((last+1)*cols-k).toNat|none=>0)
 | _=>0
theorem B12(k:Int)(first:Int)(last:Int)(cols:Int)(rows:(Option (List ((Option (List (Int×Int×Int×Int×Int×Int×Int×Int×Int×Int×Int×Int)))×Bool))))(pr:Int)(pc:Int)(t:(List UInt8)):B9m [.int .i64 k,.int .i64 first,.int .i64 last,.int .i64 cols,B2 rRw rows,.int .i64 pr,.int .i64 pc,.str t]=((last+1)*cols-k).toNat:=by
 simp only[B9m,G5]
theorem C4I{G:Nat→Option Obj}(hst:D2 Tryd.prog G gl H0 n0):∀ (E:Nat→U) (base:Nat),@M9 ⟨E,G⟩ Tryd.prog base gl Tryd.f69.ntmps C4F (M0 Tryd.prog gl n0 37 B9n A6m):=by
 refine V2 (C:=cx C4z A9i) (dep:=60) (f:=69) (n0:=n0) (nB:=37) (H0:=H0) B9m C4G (cxg (C0v hst) (A7v hst)) hst Tryd.func69 C4J C4H (by kernel_rfl) (by kernel_rfl) (by kernel_rfl) ?_;intro us d outs hs;have hs0:=hs;unfold A6m at hs;split at hs
 ·skip;rename_i k first last cols u_rows pr pc t
  have hq_rows:=B4.1 hs;clear hs;obtain⟨rows,hd_rows,hs⟩:=hq_rows;replace hd_rows:=K5 hd_rows;subst hd_rows;split at hs
  ·rename_i hc;clear hs hs0;have hc0:=X8 hc.1;have hl:=S6 hc.1;have he:2≤cols∧cols≤80:=by rw[hc.2.1];exact hc0
   have m1:=A2p (a:=first) (b:=cols) (A:=140) (B:=80) (by omega) (by omega) (by omega) (by omega);have m2:=A2p (a:=last+1) (b:=cols) (A:=140) (B:=80) (by omega) (by omega) (by omega) (by omega);have m3:(last+1)*cols≤((el rows).length:Int)*cols:=E5 (by omega) (by omega);have hk:first*cols≤k→k<(last+1)*cols→0≤k / cols∧k / cols<((el rows).length:Int)∧0≤k%cols∧k%cols<cols:=fun a b=>A3e (by omega) (by omega) (by omega)
   have hrl:0≤k / cols→k / cols<((el rows).length:Int)→((el ((el rows).getD (k / cols).toNat default).1).length:Int)=cols:=fun a b=>by rw[(hl.2.2 _ (R6 a b)).2,hc.2.1]
   have hct:(ctK rows cols k).length≤12:=A2E _;refine⟨rfl,?_⟩;unfold C4G;refine s0 (.cons 7 _ (.cons 6 _ (.cons 5 _ (.cons 4 _ (.cons 3 _ (.cons 2 _ (.cons 1 _ (.cons 0 _ (.nil))))))))) rfl (by simp[Ev.ok,Ev.len]) ?_;first|refine s1 (t7 (B9 (by omega) (by omega))) rfl rfl rfl ?_|refine s1 (A3a _ _ _) rfl rfl rfl ?_
   refine s1 (N5 _ _ _) rfl rfl rfl ?_;refine s5 rfl (fun g0=>?_) fun g0=>?_
   ·refine s7 [.int .i64 _,B2 rRw _] rfl ?_;refine C9 (d:=0) ?_;rw[N2 _ _ _ _ _ _ _ _ hc,B9F (by omega)];rfl
   first|refine s1 (C7 (B9 (by omega) (by omega))) rfl rfl rfl ?_|refine s1 (D9 _ _ _) rfl rfl rfl ?_
   first|refine s1 (t7 (B9 (by omega) (by omega))) rfl rfl rfl ?_|refine s1 (A3a _ _ _) rfl rfl rfl ?_
   refine s1 (H7 _ _ _) rfl rfl rfl ?_;refine s5 rfl (fun g1=>?_) fun g1=>?_
   ·refine s7 [.int .i64 _,B2 rRw _] rfl ?_;refine C9 (d:=0) ?_;rw[N2 _ _ _ _ _ _ _ _ hc,B9F (by omega)];rfl
   have hk:=hk g0 g1;have hrl:=hrl hk.1 hk.2.1;first|refine s1 (A1f (by omega) (by omega) (B9 (by omega) (by omega))) rfl rfl rfl ?_|refine s1 (A5p _ _ _ (by omega)) rfl rfl rfl ?_
   first|refine s1 (j9 (by omega) (by omega)) rfl rfl rfl ?_|refine s1 (A1_ _ _ _ (by omega)) rfl rfl rfl ?_
   refine s1 (F6 rfl) rfl rfl rfl ?_;refine s5 rfl (fun g2=>?_) fun g2=>?_
   ·refine s8 ?_;first|omega
   refine s2 (r:=rCl) (C6 rfl (by omega) (by omega) rfl) rfl rfl ?_;first|refine s1 (C7 (B9 (by omega) (by omega))) rfl rfl rfl ?_|refine s1 (D9 _ _ _) rfl rfl rfl ?_
   refine s2 (r:=rCl) (x8 rfl (by omega) (by omega) (by omega)) rfl rfl ?_;refine s1 (G8 _ _) rfl rfl rfl ?_;refine s6 (S0 _ _ 0 ⟨rfl,by decide,E3 _,by rw[C6Y (by omega) (by omega)];decide⟩) rfl (fun _=>rfl) (fun g3=>?_) (fun v3 g3=>?_)
   ·show Tr.sav _ _ _;have hz:ctK rows cols k=[]:=C6X (by omega) (by omega) ‹_›;refine s1 (L9 _) rfl rfl rfl ?_;refine s1 (N5 _ _ _) rfl rfl rfl ?_;refine s4 rfl (fun g4=>?_) fun g4=>?_
    ·refine s1 (L9 _) rfl rfl rfl ?_;refine s1 (N5 _ _ _) rfl rfl rfl ?_;refine s5 rfl (fun g5=>?_) fun g5=>?_
     ·refine s7 [.int .i64 _,B2 rRw _] rfl ?_;refine C9 (d:=2) ?_;first|(exfalso;omega)|(exact absurd rfl g6)|(rw[N2 _ _ _ _ _ _ _ _ hc,B3P g1 g4 g6];rfl)|(rw[N2 _ _ _ _ _ _ _ _ hc,B3O g1 g4 g6];rfl)
     refine s1 (L9 _) rfl rfl rfl ?_;refine s1 (A2c _ _ _ _ _ (by omega) (by omega) (by omega)) rfl rfl rfl ?_;refine s1 (A19 _ _) rfl rfl rfl ?_;refine s4 rfl (fun g6=>?_) fun g6=>?_
     ·refine s7 [.int .i64 _,B2 rRw _,.int .i64 _,.int .i64 _] rfl ?_;refine C9 (d:=1) ?_;first|(exfalso;omega)|(rw[N2 _ _ _ _ _ _ _ _ hc,C6d g1 g4 g6];rfl)
     refine s7 [.int .i64 _,B2 rRw _] rfl ?_;refine C9 (d:=2) ?_;first|(exfalso;omega)|(exact absurd rfl g6)|(rw[N2 _ _ _ _ _ _ _ _ hc,B3P g1 g4 g6];rfl)|(rw[N2 _ _ _ _ _ _ _ _ hc,B3O g1 g4 g6];rfl)
    refine s1 (L9 _) rfl rfl rfl ?_;refine s1 (N5 _ _ _) rfl rfl rfl ?_;refine s5 rfl (fun g5=>?_) fun g5=>?_
    ·refine s7 [.int .i64 _,B2 rRw _] rfl ?_;refine C9 (d:=2) ?_;first|(exfalso;omega)|(exact absurd rfl g6)|(rw[N2 _ _ _ _ _ _ _ _ hc,B3P g1 g4 g6];rfl)|(rw[N2 _ _ _ _ _ _ _ _ hc,B3O g1 g4 g6];rfl)
    refine s1 (A2c _ _ _ _ _ (by omega) (by omega) (by omega)) rfl rfl rfl ?_;refine s1 (A19 _ _) rfl rfl rfl ?_;refine s1 (t6 _) rfl rfl rfl ?_;refine s4 rfl (fun g6=>?_) fun g6=>?_
    ·refine s7 [.int .i64 _,B2 rRw _] rfl ?_;refine C9 (d:=2) ?_;first|(exfalso;omega)|(exact absurd rfl g6)|(rw[N2 _ _ _ _ _ _ _ _ hc,B3P g1 g4 g6];rfl)|(rw[N2 _ _ _ _ _ _ _ _ hc,B3O g1 g4 g6];rfl)
    refine s1 (B6W _ _ _ (by omega) (by omega)) rfl rfl rfl ?_;first|refine s1 (C7 (B9 (by omega) (by omega))) rfl rfl rfl ?_|refine s1 (D9 _ _ _) rfl rfl rfl ?_
    refine s7 [.int .i64 _,.int .i64 _,.int .i64 _,.int .i64 _,.int .i64 _,B2 rRw _,.int .i64 _,.int .i64 _,.str _] rfl ?_;refine D5 ?_ ?_
    ·rw[N2 _ _ _ _ _ _ _ _ hc,C3p g1 (by rw[hz];exact g4) (by rw[hz];rfl),hz];exact N2 _ _ _ _ _ _ _ _ ⟨hc.1,hc.2.1,hc.2.2.1,hc.2.2.2.1,hc.2.2.2.2.1,by omega,by omega,hc.2.2.2.2.2.2.2⟩
    ·rw[B12,B12];omega
   show Tr.sav _ _ (.cons 20 _ _);rw[C3o (c:=k%cols) (by omega) (by omega)];change Tr.sav _ _ (Ev.cons _ (B2 rB (some (bI (ctK rows cols k)))) _);refine s1 (G8 _ _) rfl rfl rfl ?_;refine s1 (B9q rfl (by omega)) rfl rfl rfl ?_;refine s1 (L9 _) rfl rfl rfl ?_;refine s1 (L9 _) rfl rfl rfl ?_;refine s1 (N5 _ _ _) rfl rfl rfl ?_;refine s4 rfl (fun g4=>?_) fun g4=>?_
   ·refine s1 (L9 _) rfl rfl rfl ?_;refine s1 (L9 _) rfl rfl rfl ?_;refine s1 (N5 _ _ _) rfl rfl rfl ?_;refine s5 rfl (fun g5=>?_) fun g5=>?_
    ·refine s7 [.int .i64 _,B2 rRw _] rfl ?_;refine C9 (d:=2) ?_;first|(exfalso;omega)|(exact absurd rfl g6)|(rw[N2 _ _ _ _ _ _ _ _ hc,B3P g1 g4 g6];rfl)|(rw[N2 _ _ _ _ _ _ _ _ hc,B3O g1 g4 g6];rfl)
    refine s1 (L9 _) rfl rfl rfl ?_;refine s1 (A2c _ _ _ _ _ (by omega) (by omega) (by omega)) rfl rfl rfl ?_;refine s1 (A19 _ _) rfl rfl rfl ?_;refine s4 rfl (fun g6=>?_) fun g6=>?_
    ·refine s7 [.int .i64 _,B2 rRw _,.int .i64 _,.int .i64 _] rfl ?_;refine C9 (d:=1) ?_;first|(exfalso;omega)|(rw[N2 _ _ _ _ _ _ _ _ hc,C6d g1 g4 g6];rfl)
    refine s7 [.int .i64 _,B2 rRw _] rfl ?_;refine C9 (d:=2) ?_;first|(exfalso;omega)|(exact absurd rfl g6)|(rw[N2 _ _ _ _ _ _ _ _ hc,B3P g1 g4 g6];rfl)|(rw[N2 _ _ _ _ _ _ _ _ hc,B3O g1 g4 g6];rfl)
   refine s1 (L9 _) rfl rfl rfl ?_;refine s1 (L9 _) rfl rfl rfl ?_;refine s1 (N5 _ _ _) rfl rfl rfl ?_;refine s5 rfl (fun g5=>?_) fun g5=>?_
   ·refine s7 [.int .i64 _,B2 rRw _] rfl ?_;refine C9 (d:=2) ?_;first|(exfalso;omega)|(exact absurd rfl g6)|(rw[N2 _ _ _ _ _ _ _ _ hc,B3P g1 g4 g6];rfl)|(rw[N2 _ _ _ _ _ _ _ _ hc,B3O g1 g4 g6];rfl)
   refine s1 (L9 _) rfl rfl rfl ?_;refine s1 (A2c _ _ _ _ _ (by omega) (by omega) (by omega)) rfl rfl rfl ?_;refine s1 (A19 _ _) rfl rfl rfl ?_;refine s1 (t6 _) rfl rfl rfl ?_;refine s4 rfl (fun g6=>?_) fun g6=>?_
   ·refine s7 [.int .i64 _,B2 rRw _] rfl ?_;refine C9 (d:=2) ?_;first|(exfalso;omega)|(exact absurd rfl g6)|(rw[N2 _ _ _ _ _ _ _ _ hc,B3P g1 g4 g6];rfl)|(rw[N2 _ _ _ _ _ _ _ _ hc,B3O g1 g4 g6];rfl)
   refine s1 (L9 _) rfl rfl rfl ?_;refine s1 (B6W _ _ _ (by omega) (by omega)) rfl rfl rfl ?_;first|refine s1 (C7 (B9 (by omega) (by omega))) rfl rfl rfl ?_|refine s1 (D9 _ _ _) rfl rfl rfl ?_
   refine s7 [.int .i64 _,.int .i64 _,.int .i64 _,.int .i64 _,.int .i64 _,B2 rRw _,.int .i64 _,.int .i64 _,.str _] rfl ?_;refine D5 ?_ ?_
   ·rw[N2 _ _ _ _ _ _ _ _ hc,C3p g1 g4 (W9.1 g6)];exact N2 _ _ _ _ _ _ _ _ ⟨hc.1,hc.2.1,hc.2.2.1,hc.2.2.2.1,hc.2.2.2.2.1,by omega,by omega,by rw[M8];omega,by rw[M8];omega⟩
   ·rw[B12,B12];omega
  ·cases hs
 ·cases hs
noncomputable def C1F:List LpE:=(69,([true,false],M0 Tryd.prog gl n0 37 B9n A6m))::A9i
theorem B4S{G:Nat→Option Obj}(hst:D2 Tryd.prog G gl H0 n0):Y6 Tryd.prog G gl C1F:=.cons Tryd.func69 C4J C4H (C4I hst) (A7v hst)
end Go.Proofs.YtdkdbjgkedahfaaDoor
namespace Go.Proofs.YtdkdbjgkedahfaaDoor
set_option linter.all false
open Go Go.Sx
set_option maxRecDepth 100000
set_option linter.unusedVariables false
set_option linter.unusedSimpArgs false
def fdN(rows:Option (List Row))(cols hi:Int)(t:List UInt8):Nat→Int→Option Int
 | 0,_=>none
 | n+1,k=>if hi≤k then none else if ¬((el ((el rows).getD (k / cols).toNat default).1).getD (k%cols).toNat default).2.2.2.1=2∧mtS (ctK rows cols) ((J0 (el rows) (k / cols)+1)*cols) k t=1 then some k else fdN rows cols hi t n (k+1)
def fdS(rows:Option (List Row))(cols:Int)(t:List UInt8)(k:Int):Option Int:=fdN rows cols (((el rows).length:Int)*cols) t (((el rows).length:Int)*cols-k).toNat k
section
variable {rows:Option (List Row)} {cols k:Int} {t:List UInt8}
theorem B9p(h:((el rows).length:Int)*cols≤k):fdS rows cols t k=none:=by
 unfold fdS;rw[show(((el rows).length:Int)*cols-k).toNat=0 by omega];rfl
theorem B6V(h:k<((el rows).length:Int)*cols):fdS rows cols t k=if ¬((el ((el rows).getD (k / cols).toNat default).1).getD (k%cols).toNat default).2.2.2.1=2∧mtS (ctK rows cols) ((J0 (el rows) (k / cols)+1)*cols) k t=1 then some k else fdS rows cols t (k+1):=by
 unfold fdS;rw[show(((el rows).length:Int)*cols-k).toNat=(((el rows).length:Int)*cols-(k+1)).toNat+1 by omega,fdN,if_neg (by omega)]
theorem C2C(h:k<((el rows).length:Int)*cols)(h1:¬((el ((el rows).getD (k / cols).toNat default).1).getD (k%cols).toNat default).2.2.2.1=2)(h2:mtS (ctK rows cols) ((J0 (el rows) (k / cols)+1)*cols) k t=1):fdS rows cols t k=some k:=by rw[B6V h,if_pos ⟨h1,h2⟩]
theorem C5p(h:k<((el rows).length:Int)*cols)(h1:((el ((el rows).getD (k / cols).toNat default).1).getD (k%cols).toNat default).2.2.2.1=2):fdS rows cols t k=fdS rows cols t (k+1):=by rw[B6V h,if_neg (fun q=>q.1 h1)]
theorem C5q(h:k<((el rows).length:Int)*cols)(h2:¬mtS (ctK rows cols) ((J0 (el rows) (k / cols)+1)*cols) k t=1):fdS rows cols t k=fdS rows cols t (k+1):=by rw[B6V h,if_neg (fun q=>h2 q.2)]
end
noncomputable def C4x:List (FuncId×FnC):=(61,R7 Tryd.prog [.s 12] A1C [.s 3])::(45,R7 Tryd.prog [.s 12,.s 3] A4K [.s 3,.s 3])::(64,R7 Tryd.prog [.s 3] A0U [.s 9])::L0
theorem C0t{G:Nat→Option Obj}(hst:D2 Tryd.prog G gl H0 n0):K2 Tryd.prog G gl C4x:=(.cons (A5J hst) (.cons (B6B hst) (.cons (A7f hst) .nil)))
def A9C:List U→Option (Nat×List U)
 | [.int .i64 k,.int .i64 last,.int .i64 cols,u_rows,.str t]=>(P3 rRw u_rows).bind fun rows=>if V5 rows=0∧cols=D0 rows∧last=((el rows).length:Int)-1∧0≤k∧k≤((el rows).length:Int)*cols∧1≤t.length∧t.length≤200 then A0Q (fdS rows cols t k) [] (fun j=>[.int .i64 (j / cols),.int .i64 (j%cols)])else none
 | _=>none
theorem s9(k:Int)(last:Int)(cols:Int)(rows:(Option (List ((Option (List (Int×Int×Int×Int×Int×Int×Int×Int×Int×Int×Int×Int)))×Bool))))(t:(List UInt8))(hc:V5 rows=0∧cols=D0 rows∧last=((el rows).length:Int)-1∧0≤k∧k≤((el rows).length:Int)*cols∧1≤t.length∧t.length≤200):A9C [.int .i64 k,.int .i64 last,.int .i64 cols,B2 rRw rows,.str t]=A0Q (fdS rows cols t k) [] (fun j=>[.int .i64 (j / cols),.int .i64 (j%cols)]):=by
 simp only[A9C,G5,E4];exact if_pos hc
def C4D:T8:=⟨[(0,yv 17),(2,.pointer (some ⟨15,0,none⟩)),(3,.pointer (some ⟨13,0,none⟩)),(4,.pointer (some ⟨14,0,none⟩)),(5,.pointer (some ⟨12,0,none⟩)),(7,h 0 3)],[(12,.cells 3 [.int .i64 (1)]),(13,.cells 3 [.int .i64 (0)]),(14,.cells 3 [h 1 3]),(15,.cells 3 [h 2 3]),(17,.lp 20 [true,false,true,true,true,true,false,true,false] [junk,junk,junk,.pointer (some ⟨4,0,none⟩),.pointer (some ⟨5,0,none⟩),junk,.pointer (some ⟨7,0,none⟩),.pointer (some ⟨8,0,none⟩),.pointer (some ⟨9,0,none⟩),junk,junk,junk,junk,junk,junk,junk,junk,junk,junk,junk,junk,junk,junk,junk,junk,junk,junk,junk,junk,junk,junk,junk,junk,junk,junk,junk,junk,junk,junk,junk,junk,junk,junk,junk,junk,junk,junk,junk,junk,junk,junk,junk,junk,junk,junk,junk,junk,junk,junk,junk,junk,junk,junk,junk,junk,junk,junk,junk,junk,junk,junk,junk,junk,junk,junk,junk,junk,junk,junk,junk,junk,junk,junk,junk,junk,junk,junk,junk,junk,junk,junk,junk,junk,junk,junk,junk,junk,junk,junk,junk,junk,junk,junk,junk,junk,junk] 0),(4,.cells 31 [dat 18 3 12]),(5,.cells 9 [h 4 9]),(7,.cells 29 [.int .i64 (0),.int .i64 (0)]),(8,.cells 4 [.bool false]),(9,.cells 36 [.int .i64 (0)]),(18,.frz)],5,[⟨.exit 0,[(0,yv 17)],[(17,.lp 20 [true,false,true,true,true,true,false,true,false] [junk,junk,junk,.pointer (some ⟨4,0,none⟩),.pointer (some ⟨5,0,none⟩),junk,.pointer (some ⟨7,0,none⟩),.pointer (some ⟨8,0,none⟩),.pointer (some ⟨9,0,none⟩),junk,junk,junk,junk,junk,junk,junk,junk,junk,junk,junk,junk,junk,junk,junk,junk,junk,junk,junk,junk,junk,junk,junk,junk,junk,junk,junk,junk,junk,junk,junk,junk,junk,junk,junk,junk,junk,junk,junk,junk,junk,junk,junk,junk,junk,junk,junk,junk,junk,junk,junk,junk,junk,junk,junk,junk,junk,junk,junk,junk,junk,junk,junk,junk,junk,junk,junk,junk,junk,junk,junk,junk,junk,junk,junk,junk,junk,junk,junk,junk,junk,junk,junk,junk,junk,junk,junk,junk,junk,junk,junk,junk,junk,junk,junk,junk,junk] 0),(4,.cells 31 [junk]),(5,.cells 9 [junk]),(7,.cells 29 [.int .i64 (0),.int .i64 (0)]),(8,.cells 4 [.bool false]),(9,.cells 36 [.int .i64 (0)])],0⟩,⟨.ret,[(0,yv 17)],[(17,.lp 20 [true,false,true,true,true,true,false,true,false] [junk,junk,junk,.pointer (some ⟨4,0,none⟩),.pointer (some ⟨5,0,none⟩),junk,.pointer (some ⟨7,0,none⟩),.pointer (some ⟨8,0,none⟩),.pointer (some ⟨9,0,none⟩),junk,junk,junk,junk,junk,junk,junk,junk,junk,junk,junk,junk,junk,junk,junk,junk,junk,junk,junk,junk,junk,junk,junk,junk,junk,junk,junk,junk,junk,junk,junk,junk,junk,junk,junk,junk,junk,junk,junk,junk,junk,junk,junk,junk,junk,junk,junk,junk,junk,junk,junk,junk,junk,junk,junk,junk,junk,junk,junk,junk,junk,junk,junk,junk,junk,junk,junk,junk,junk,junk,junk,junk,junk,junk,junk,junk,junk,junk,junk,junk,junk,junk,junk,junk,junk,junk,junk,junk,junk,junk,junk,junk,junk,junk,junk,junk,junk] 2),(4,.cells 31 [junk]),(5,.cells 9 [junk]),(7,.cells 29 [h 0 3,h 1 3]),(8,.cells 4 [.bool true]),(9,.cells 36 [.int .i64 (0)])],2⟩]⟩
noncomputable def B9k:Code:=(Tryd.f69.body).getD .skip
noncomputable def C3_:Code:=match G3 [true,false] B9k with|some (.loop x)=>x|_=>.skip
theorem C4C:Tryd.f69.body=some B9k:=rfl
theorem C4B:G3 [true,false] B9k=some (.loop C3_):=by kernel_rfl
def C4A:Tr:=.lt 3 (.bin .mul) [jI 0,h 2 3]<|.lt 8 (.bin .geq) [h 0 3,h 5 3]<|.br 6 (.lt 3 (.bin .add) [h 1 3,jI 1]<|.lt 3 (.bin .mul) [h 7 3,h 2 3]<|.lt 8 (.bin .lss) [h 0 3,h 8 3]<|.br 9 (.lt 3 (.bin .quo) [h 0 3,h 2 3]<|.lt 3 (.bin .rem) [h 0 3,h 2 3]<|.lt 8 (.inbs 2) [h 10 3,h 3 12]<|.br 12 (.dt 22 (.get 2 0) [h 3 12,h 10 3]<|.lt 8 (.inbs 12) [h 11 3,h 13 22]<|.br 14 (.lt 3 (.get 12 0) [h 13 22,h 11 3]<|.lt 3 (.get 12 1) [h 13 22,h 11 3]<|.lt 3 (.get 12 2) [h 13 22,h 11 3]<|.lt 3 (.get 12 3) [h 13 22,h 11 3]<|.lt 3 (.get 12 4) [h 13 22,h 11 3]<|.lt 3 (.get 12 5) [h 13 22,h 11 3]<|.lt 3 (.get 12 6) [h 13 22,h 11 3]<|.lt 3 (.get 12 7) [h 13 22,h 11 3]<|.lt 3 (.get 12 8) [h 13 22,h 11 3]<|.lt 3 (.get 12 9) [h 13 22,h 11 3]<|.lt 3 (.get 12 10) [h 13 22,h 11 3]<|.lt 3 (.get 12 11) [h 13 22,h 11 3]<|.lt 8 (.bin .eql) [h 18 3,jI 2]<|.br 27 (.lt 3 (.bin .add) [h 0 3,jI 1]<|.ret [jI (-1),h 28 3,h 1 3,h 2 3,h 3 12,h 4 9]) (.fn A4K [h 3 12,h 10 3] 2<|.lt 8 (.inbs 2) [jI 0,h 3 12]<|.br 30 (.dt 22 (.get 2 0) [h 3 12,jI 0]<|.lt 3 (.len) [h 31 22]<|.lt 3 (.bin .mul) [h 10 3,h 32 3]<|.lt 3 (.bin .add) [h 33 3,h 11 3]<|.lp A6m [h 34 3,h 10 3,h 29 3,h 32 3,h 3 12,h 10 3,h 11 3,h 4 9] 0 1 (.lt 3 (.bin .add) [h 0 3,jI 1]<|.ret [jI (-1),h 36 3,h 1 3,h 2 3,h 35 12,h 4 9]) (.lp A6m [h 34 3,h 10 3,h 29 3,h 32 3,h 3 12,h 10 3,h 11 3,h 4 9] 1 3 (.ret [jI 1,h 36 3,h 37 3]) (.lp A6m [h 34 3,h 10 3,h 29 3,h 32 3,h 3 12,h 10 3,h 11 3,h 4 9] 2 1 (.lt 3 (.bin .add) [h 0 3,jI 1]<|.ret [jI (-1),h 36 3,h 1 3,h 2 3,h 35 12,h 4 9]) (.no)))) (.no))) (.no)) (.no)) (.ret [jI 0])) (.ret [jI 0])
def B9j:List U→Nat
 | [.int .i64 k,.int .i64 last,.int .i64 cols,u_rows,.str t]=>(match P3 rRw u_rows with|some rows=>(((el rows).length:Int)*cols-k).toNat|none=>0)
 | _=>0
theorem A7G(k:Int)(last:Int)(cols:Int)(rows:(Option (List ((Option (List (Int×Int×Int×Int×Int×Int×Int×Int×Int×Int×Int×Int)))×Bool))))(t:(List UInt8)):B9j [.int .i64 k,.int .i64 last,.int .i64 cols,B2 rRw rows,.str t]=(((el rows).length:Int)*cols-k).toNat:=by
 simp only[B9j,G5]
theorem C60{G:Nat→Option Obj}(hst:D2 Tryd.prog G gl H0 n0):∀ (E:Nat→U) (base:Nat),@M9 ⟨E,G⟩ Tryd.prog base gl Tryd.f69.ntmps C3_ (M0 Tryd.prog gl n0 19 C4D A9C):=by
 refine V2 (C:=cx C4x C1F) (dep:=60) (f:=69) (n0:=n0) (nB:=19) (H0:=H0) B9j C4A (cxg (C0t hst) (B4S hst)) hst Tryd.func69 C4C C4B (by kernel_rfl) (by kernel_rfl) (by kernel_rfl) ?_;intro us d outs hs;have hs0:=hs;unfold A9C at hs;split at hs
 ·skip;rename_i k last cols u_rows t;have hq_rows:=B4.1 hs;clear hs;obtain⟨rows,hd_rows,hs⟩:=hq_rows;replace hd_rows:=K5 hd_rows;subst hd_rows;split at hs
  ·rename_i hc;clear hs hs0;have hc0:=X8 hc.1;have hl:=S6 hc.1;have he:2≤cols∧cols≤80:=by rw[hc.2.1];exact hc0
   have m1:=A2p (a:=((el rows).length:Int)) (b:=cols) (A:=140) (B:=80) (by omega) (by omega) (by omega) (by omega);have m0:last+1=((el rows).length:Int):=by omega
   have m0b:(last+1)*cols=((el rows).length:Int)*cols:=by rw[m0]
   have m0c:0*cols=0:=Int.zero_mul _;have hk:k<((el rows).length:Int)*cols→0≤k / cols∧k / cols<((el rows).length:Int)∧0≤k%cols∧k%cols<cols:=fun b=>A3e (by omega) (by omega) (by omega)
   have hrl:0≤k / cols→k / cols<((el rows).length:Int)→((el ((el rows).getD (k / cols).toNat default).1).length:Int)=cols:=fun a b=>by rw[(hl.2.2 _ (R6 a b)).2,hc.2.1]
   have hdm:=Z1 k cols;have hw0:((el ((el rows).getD (0:Int).toNat default).1).length:Int)=cols:=by rw[← (A9T rows).2,hc.2.1]
   have hmw:k / cols*((el ((el rows).getD (0:Int).toNat default).1).length:Int)=k / cols*cols:=by rw[hw0]
   have hml:(J0 (el rows) (k / cols)+1)*((el ((el rows).getD (0:Int).toNat default).1).length:Int)=(J0 (el rows) (k / cols)+1)*cols:=by rw[hw0]
   refine⟨rfl,?_⟩;unfold C4A;refine s0 (.cons 4 _ (.cons 3 _ (.cons 2 _ (.cons 1 _ (.cons 0 _ (.nil)))))) rfl (by simp[Ev.ok,Ev.len]) ?_;first|refine s1 (t7 (B9 (by omega) (by omega))) rfl rfl rfl ?_|refine s1 (A3a _ _ _) rfl rfl rfl ?_
   refine s1 (N5 _ _ _) rfl rfl rfl ?_;refine s5 rfl (fun g0=>?_) fun g0=>?_
   ·refine s7 [.int .i64 _] rfl ?_;refine C9 (d:=0) ?_;rw[s9 _ _ _ _ _ hc,B9p (by omega)];rfl
   first|refine s1 (C7 (B9 (by omega) (by omega))) rfl rfl rfl ?_|refine s1 (D9 _ _ _) rfl rfl rfl ?_
   first|refine s1 (t7 (B9 (by omega) (by omega))) rfl rfl rfl ?_|refine s1 (A3a _ _ _) rfl rfl rfl ?_
   refine s1 (H7 _ _ _) rfl rfl rfl ?_;refine s5 rfl (fun g1=>?_) fun g1=>?_
   ·refine s7 [.int .i64 _] rfl ?_;refine C9 (d:=0) ?_;rw[s9 _ _ _ _ _ hc,B9p (by omega)];rfl
   rw[m0b]at g1;have hk:=hk g1;have hrl:=hrl hk.1 hk.2.1;have lb:=A4v (l:=el rows) hk.1 hk.2.1;have m2:(k / cols+1)*cols≤(J0 (el rows) (k / cols)+1)*cols:=E5 (by omega) (by omega);have m3:(k / cols+1)*cols=k / cols*cols+cols:=by rw[W8,W7]
   first|refine s1 (A1f (by omega) (by omega) (B9 (by omega) (by omega))) rfl rfl rfl ?_|refine s1 (A5p _ _ _ (by omega)) rfl rfl rfl ?_
   first|refine s1 (j9 (by omega) (by omega)) rfl rfl rfl ?_|refine s1 (A1_ _ _ _ (by omega)) rfl rfl rfl ?_
   refine s1 (F6 rfl) rfl rfl rfl ?_;refine s5 rfl (fun g2=>?_) fun g2=>?_
   ·refine s8 ?_;first|omega
   refine s2 (r:=rCl) (C6 rfl (by omega) (by omega) rfl) rfl rfl ?_;refine s1 (F6 rfl) rfl rfl rfl ?_;refine s5 rfl (fun g3=>?_) fun g3=>?_
   ·refine s8 ?_;first|omega
   refine s1 (u:=.int .i64 _) (C6 rfl (by omega) (by omega) rfl) rfl rfl rfl ?_;refine s1 (u:=.int .i64 _) (C6 rfl (by omega) (by omega) rfl) rfl rfl rfl ?_;refine s1 (u:=.int .i64 _) (C6 rfl (by omega) (by omega) rfl) rfl rfl rfl ?_;refine s1 (u:=.int .i64 _) (C6 rfl (by omega) (by omega) rfl) rfl rfl rfl ?_;refine s1 (u:=.int .i64 _) (C6 rfl (by omega) (by omega) rfl) rfl rfl rfl ?_;refine s1 (u:=.int .i64 _) (C6 rfl (by omega) (by omega) rfl) rfl rfl rfl ?_;refine s1 (u:=.int .i64 _) (C6 rfl (by omega) (by omega) rfl) rfl rfl rfl ?_;refine s1 (u:=.int .i64 _) (C6 rfl (by omega) (by omega) rfl) rfl rfl rfl ?_;refine s1 (u:=.int .i64 _) (C6 rfl (by omega) (by omega) rfl) rfl rfl rfl ?_;refine s1 (u:=.int .i64 _) (C6 rfl (by omega) (by omega) rfl) rfl rfl rfl ?_;refine s1 (u:=.int .i64 _) (C6 rfl (by omega) (by omega) rfl) rfl rfl rfl ?_;refine s1 (u:=.int .i64 _) (C6 rfl (by omega) (by omega) rfl) rfl rfl rfl ?_;refine s1 (I4 _ _ _) rfl rfl rfl ?_;refine s4 rfl (fun g4=>?_) fun g4=>?_
   ·first|refine s1 (C7 (B9 (by omega) (by omega))) rfl rfl rfl ?_|refine s1 (D9 _ _ _) rfl rfl rfl ?_
    refine s7 [.int .i64 _,.int .i64 _,.int .i64 _,.int .i64 _,B2 rRw _,.str _] rfl ?_;refine D5 ?_ ?_
    ·rw[s9 _ _ _ _ _ hc];first|(rw[C5p g1 ‹_›];exact s9 _ _ _ _ _ ⟨hc.1,hc.2.1,hc.2.2.1,by omega,by omega,hc.2.2.2.2.2⟩)|(rw[C5q g1 (by omega)];exact s9 _ _ _ _ _ ⟨hc.1,hc.2.1,hc.2.2.1,by omega,by omega,hc.2.2.2.2.2⟩)
    ·rw[A7G,A7G];omega
   refine s32 (B1n _ _ ⟨by omega,by omega,by omega⟩) rfl rfl ?_;refine s1 (F6 rfl) rfl rfl rfl ?_;refine s5 rfl (fun g5=>?_) fun g5=>?_
   ·refine s8 ?_;first|omega
   refine s2 (r:=rCl) (C6 rfl (by omega) (by omega) rfl) rfl rfl ?_;refine s1 (G8 _ _) rfl rfl rfl ?_;first|refine s1 (t7 (B9 (by omega) (by omega))) rfl rfl rfl ?_|refine s1 (A3a _ _ _) rfl rfl rfl ?_
   first|refine s1 (C7 (B9 (by omega) (by omega))) rfl rfl rfl ?_|refine s1 (D9 _ _ _) rfl rfl rfl ?_
   refine s63 (N2 _ _ _ _ _ _ _ _ ⟨hc.1,by omega,by omega,by omega,by omega,by omega,by omega,hc.2.2.2.2.2.1,hc.2.2.2.2.2.2⟩) rfl rfl rfl (fun g6=>?_) (fun g6=>?_) (fun g6=>?_)
   ·show Tr.sav _ _ (.cons 35 _ _);rw[hw0,hdm]at g6;first|refine s1 (C7 (B9 (by omega) (by omega))) rfl rfl rfl ?_|refine s1 (D9 _ _ _) rfl rfl rfl ?_
    refine s7 [.int .i64 _,.int .i64 _,.int .i64 _,.int .i64 _,B2 rRw _,.str _] rfl ?_;refine D5 ?_ ?_
    ·rw[s9 _ _ _ _ _ hc];first|(rw[C5p g1 ‹_›];exact s9 _ _ _ _ _ ⟨hc.1,hc.2.1,hc.2.2.1,by omega,by omega,hc.2.2.2.2.2⟩)|(rw[C5q g1 (by omega)];exact s9 _ _ _ _ _ ⟨hc.1,hc.2.1,hc.2.2.1,by omega,by omega,hc.2.2.2.2.2⟩)
    ·rw[A7G,A7G];omega
   ·show Tr.sav _ _ (.cons 37 _ (.cons 36 _ (.cons 35 _ _)));rw[hw0,hdm]at g6;refine s7 [.int .i64 _,.int .i64 _,.int .i64 _] rfl ?_;refine C9 (d:=1) ?_;rw[s9 _ _ _ _ _ hc,C2C g1 ‹_› ‹_›];rfl
   ·show Tr.sav _ _ (.cons 35 _ _);rw[hw0,hdm]at g6;first|refine s1 (C7 (B9 (by omega) (by omega))) rfl rfl rfl ?_|refine s1 (D9 _ _ _) rfl rfl rfl ?_
    refine s7 [.int .i64 _,.int .i64 _,.int .i64 _,.int .i64 _,B2 rRw _,.str _] rfl ?_;refine D5 ?_ ?_
    ·rw[s9 _ _ _ _ _ hc];first|(rw[C5p g1 ‹_›];exact s9 _ _ _ _ _ ⟨hc.1,hc.2.1,hc.2.2.1,by omega,by omega,hc.2.2.2.2.2⟩)|(rw[C5q g1 (by omega)];exact s9 _ _ _ _ _ ⟨hc.1,hc.2.1,hc.2.2.1,by omega,by omega,hc.2.2.2.2.2⟩)
    ·rw[A7G,A7G];omega
  ·cases hs
 ·cases hs
noncomputable def C47:List LpE:=(69,([true,false],orL (M0 Tryd.prog gl n0 19 C4D A9C) (M0 Tryd.prog gl n0 37 B9n A6m)))::C1F
theorem C1E{G:Nat→Option Obj}(hst:D2 Tryd.prog G gl H0 n0):Y6 Tryd.prog G gl C47:=.cons Tryd.func69 C4C C4B (fun E base=>@M9.or ⟨E,G⟩ _ _ _ _ _ _ _ (C60 hst E base) ((C4I hst) E base)) (B4S hst)
end Go.Proofs.YtdkdbjgkedahfaaDoor
